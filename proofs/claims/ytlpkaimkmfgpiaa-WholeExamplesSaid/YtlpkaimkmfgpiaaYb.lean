/- YtlpkaimkmfgpiaaYb: a part of the proof (AbsO6, AbsO7, AbsL, AbsL2, AbsR, AbsR2, AbsR3, AbsC, AbsF, AbsG, AbsK, AbsI). No condition. -/
import Derived.Test.YtlpkaimkmfgpiaaYa
set_option linter.unusedVariables false
set_option linter.unusedSimpArgs false
namespace Go.Abs
open Go.RowKit Go.Lib

section
variable {P : Program} {T : Tab} {V0 : View} {w0 w w' : World} {σ : AS} {a : Act} {ρ : Nat → Value} {β : Nat → Nat}

theorem keys_ge : ∀ (ts : List (Ty × Option TypeId)) (d k : Nat), k ∈ keysOf d ts → d ≤ k
  | [], d, k, h => by simp [keysOf] at h
  | (t, some e) :: r, d, k, h => by
    simp only [keysOf, List.mem_cons] at h
    rcases h with rfl | h
    · exact Nat.le_refl _
    · have := keys_ge r (d + 1) k h; omega
  | (t, none) :: r, d, k, h => by
    simp only [keysOf] at h
    have := keys_ge r (d + 1) k h; omega

theorem ResOk.cons {V : View} {w : World} {B : Nat} {ρ : Nat → Value} {d : Nat} {p : Ty × Option TypeId} {q : Ty × Option TypeId} {ts : List (Ty × Option TypeId)} {x : DenL ((p :: q :: ts).map (·.1))} {vs : List Value}
    (h : ResOk V w B ρ d (p :: q :: ts) x vs) : ∃ v r, vs = v :: r ∧ ResOne V w B ρ d p x.1 v ∧ ResOk V w B ρ (d + 1) (q :: ts) x.2 r := h

def RowsSpec (d : Nat) (ts : List (Ty × Option TypeId)) (y : DenL (ts.map (·.1))) (l l' : List (Nat × Row)) : Prop :=
  (∀ k row, look l k = some row → look l' k = some row) ∧
  (∀ k row, look l' k = some row → look l k = some row ∨ (look l k = none ∧ k ∈ keysOf d ts ∧ ∀ V w B ρ vs, ResOk V w B ρ d ts y vs → RowRel V w B (ρ k) row)) ∧
  (∀ k ∈ keysOf d ts, look l k = none ∧ (look l' k).isSome = true)

theorem newRows_spec : ∀ (ts : List (Ty × Option TypeId)) (d : Nat) (y : DenL (ts.map (·.1))) (l l' : List (Nat × Row)), newRows d ts y l = some l' → RowsSpec d ts y l l'
  | [], d, y, l, l', h => by
    simp only [newRows, Option.some.injEq] at h
    subst h
    exact ⟨fun _ _ h => h, fun _ _ h => .inl h, fun k hk => by simp [keysOf] at hk⟩
  | [(t, none)], d, y, l, l', h => by
    simp only [newRows, Option.some.injEq] at h
    subst h
    exact ⟨fun _ _ h => h, fun _ _ h => .inl h, fun k hk => by simp [keysOf] at hk⟩
  | [(t, some e)], d, y, l, l', h => by
    simp only [newRows] at h
    split at h
    · rename_i row hrow
      split at h
      · rename_i hl
        simp only [Option.some.injEq] at h
        subst h
        refine ⟨fun k r hk => ?_, fun k r hk => ?_, fun k hk => ?_⟩
        · rw [look_put, if_neg (fun e => by rw [← e, hl] at hk; cases hk)]; exact hk
        · rw [look_put] at hk
          by_cases hd : d = k
          · subst hd
            rw [if_pos rfl] at hk
            obtain rfl : row = r := by simpa using hk
            refine .inr ⟨hl, by simp [keysOf], fun V w B ρ vs hres => ?_⟩
            obtain ⟨v, _, _, row2, h2, h3⟩ := hres
            have h2' : ownRow t e y = some row2 := h2
            rw [hrow] at h2'
            obtain rfl : row = row2 := by simpa using h2'
            exact h3
          · rw [if_neg hd] at hk; exact .inl hk
        · simp only [keysOf, List.mem_singleton] at hk
          subst hk
          exact ⟨hl, by rw [look_put, if_pos rfl]; rfl⟩
      · cases h
    · cases h
  | (t, none) :: u :: ts, d, y, l, l', h => by
    simp only [newRows] at h
    obtain ⟨h1, h2, h3⟩ := newRows_spec (u :: ts) (d + 1) y.2 l l' h
    refine ⟨h1, fun k r hk => ?_, fun k hk => h3 k hk⟩
    rcases h2 k r hk with h4 | ⟨h4, h5, h6⟩
    · exact .inl h4
    · exact .inr ⟨h4, h5, fun V w B ρ vs hres => by
        obtain ⟨v, rr, _, _, h7⟩ := hres.cons
        exact h6 V w B ρ rr h7⟩
  | (t, some e) :: u :: ts, d, y, l, l', h => by
    simp only [newRows] at h
    split at h
    · rename_i row hrow
      split at h
      · rename_i hl
        obtain ⟨h1, h2, h3⟩ := newRows_spec (u :: ts) (d + 1) y.2 (put l d row) l' h
        refine ⟨fun k r hk => h1 k r ?_, fun k r hk => ?_, fun k hk => ?_⟩
        · rw [look_put, if_neg (fun e => by rw [← e, hl] at hk; cases hk)]; exact hk
        · rcases h2 k r hk with h4 | ⟨h4, h5, h6⟩
          · rw [look_put] at h4
            by_cases hd : d = k
            · subst hd
              rw [if_pos rfl] at h4
              obtain rfl : row = r := by simpa using h4
              refine .inr ⟨hl, by simp [keysOf], fun V w B ρ vs hres => ?_⟩
              obtain ⟨v, rr, _, ⟨_, row2, h7, h8⟩, _⟩ := hres.cons
              have h7' : ownRow t e y.1 = some row2 := h7
              rw [hrow] at h7'
              obtain rfl : row = row2 := by simpa using h7'
              exact h8
            · rw [if_neg hd] at h4; exact .inl h4
          · rw [look_put] at h4
            by_cases hd : d = k
            · rw [if_pos hd] at h4; cases h4
            · rw [if_neg hd] at h4
              exact .inr ⟨h4, by simp only [keysOf, List.mem_cons]; exact .inr h5, fun V w B ρ vs hres => by
                obtain ⟨v, rr, _, _, h7⟩ := hres.cons
                exact h6 V w B ρ rr h7⟩
        · simp only [keysOf, List.mem_cons] at hk
          rcases hk with rfl | hk
          · exact ⟨hl, isSome_of (h1 _ row (by rw [look_put, if_pos rfl]))⟩
          · obtain ⟨h4, h5⟩ := h3 k hk
            rw [look_put] at h4
            by_cases hd : d = k
            · rw [if_pos hd] at h4; cases h4
            · rw [if_neg hd] at h4; exact ⟨h4, h5⟩
      · cases h
    · cases h

theorem resOne_rv {V V' : View} {w : World} {B : Nat} {ρ ρ' : Nat → Value} {rows : List (Nat × Row)} {t : Ty} {x : t.den} {v : Value} (hV : ∀ a v, V a v → V' a v) (h : VRel V t x v) :
    (∀ u, t ≠ .st u) → RvRel V' rows ρ' (.cv ⟨t, x⟩) v := fun hn => by
  cases t with
  | st u => exact absurd rfl (hn u)
  | _ => exact LRel.mono hV _ _ h

theorem toRVs_rel {V V' : View} {w : World} {B : Nat} {ρ ρ' : Nat → Value} {rows : List (Nat × Row)} (hV : ∀ a v, V a v → V' a v) : ∀ (ts : List (Ty × Option TypeId)) (d : Nat) (y : DenL (ts.map (·.1))) (vs : List Value),
    ResOk V w B ρ d ts y vs → (∀ k ∈ keysOf d ts, (look rows k).isSome = true ∧ ρ' k = ρ k) → All2 (RvRel V' rows ρ') (toRVs d ts y) vs
  | [], d, y, vs, h, hk => by have : vs = [] := h; subst this; trivial
  | [(t, some e)], d, y, vs, h, hk => by
    obtain ⟨v, rfl, h1, _⟩ := h
    obtain ⟨h2, h3⟩ := hk d (by simp [keysOf])
    cases t <;> exact ⟨⟨by rw [h3]; exact h1, h2⟩, trivial⟩
  | [(.st t, none)], d, y, vs, h, hk => by
    obtain ⟨v, rfl, cs, h1, h2⟩ := h
    exact ⟨⟨cs, h1, rel_flat (Rel.mono hV _ _ _ h2)⟩, trivial⟩
  | [(.int k', none)], d, y, vs, h, hk => by obtain ⟨v, rfl, h1⟩ := h; exact ⟨LRel.mono hV _ _ h1, trivial⟩
  | [(.bool, none)], d, y, vs, h, hk => by obtain ⟨v, rfl, h1⟩ := h; exact ⟨LRel.mono hV _ _ h1, trivial⟩
  | [(.str, none)], d, y, vs, h, hk => by obtain ⟨v, rfl, h1⟩ := h; exact ⟨LRel.mono hV _ _ h1, trivial⟩
  | [(.slice t, none)], d, y, vs, h, hk => by obtain ⟨v, rfl, h1⟩ := h; exact ⟨LRel.mono hV _ _ h1, trivial⟩
  | [(.unit, none)], d, y, vs, h, hk => by obtain ⟨v, rfl, h1⟩ := h; exact ⟨LRel.mono hV _ _ h1, trivial⟩
  | [(.pair _ _, none)], d, y, vs, h, hk => by obtain ⟨v, rfl, h1⟩ := h; exact ⟨LRel.mono hV _ _ h1, trivial⟩
  | (t, some e) :: u :: ts, d, y, vs, h, hk => by
    obtain ⟨v, r, rfl, ⟨h1, _⟩, h4⟩ := h.cons
    obtain ⟨h2, h3⟩ := hk d (by simp [keysOf])
    have ih := toRVs_rel hV (u :: ts) (d + 1) y.2 r h4 (fun k hk' => hk k (by simp [keysOf, hk']))
    cases t <;> exact ⟨⟨by rw [h3]; exact h1, h2⟩, ih⟩
  | (.st t, none) :: u :: ts, d, y, vs, h, hk => by
    obtain ⟨v, r, rfl, ⟨cs, h1, h2⟩, h4⟩ := h.cons
    exact ⟨⟨cs, h1, rel_flat (Rel.mono hV _ _ _ h2)⟩, toRVs_rel hV (u :: ts) (d + 1) y.2 r h4 (fun k hk' => hk k (by simpa [keysOf] using hk'))⟩
  | (.int k', none) :: u :: ts, d, y, vs, h, hk => by
    obtain ⟨v, r, rfl, h1, h4⟩ := h.cons
    exact ⟨LRel.mono hV _ _ h1, toRVs_rel hV (u :: ts) (d + 1) y.2 r h4 (fun k hk' => hk k (by simpa [keysOf] using hk'))⟩
  | (.bool, none) :: u :: ts, d, y, vs, h, hk => by
    obtain ⟨v, r, rfl, h1, h4⟩ := h.cons
    exact ⟨LRel.mono hV _ _ h1, toRVs_rel hV (u :: ts) (d + 1) y.2 r h4 (fun k hk' => hk k (by simpa [keysOf] using hk'))⟩
  | (.str, none) :: u :: ts, d, y, vs, h, hk => by
    obtain ⟨v, r, rfl, h1, h4⟩ := h.cons
    exact ⟨LRel.mono hV _ _ h1, toRVs_rel hV (u :: ts) (d + 1) y.2 r h4 (fun k hk' => hk k (by simpa [keysOf] using hk'))⟩
  | (.slice t, none) :: u :: ts, d, y, vs, h, hk => by
    obtain ⟨v, r, rfl, h1, h4⟩ := h.cons
    exact ⟨LRel.mono hV _ _ h1, toRVs_rel hV (u :: ts) (d + 1) y.2 r h4 (fun k hk' => hk k (by simpa [keysOf] using hk'))⟩
  | (.unit, none) :: u :: ts, d, y, vs, h, hk => by
    obtain ⟨v, r, rfl, h1, h4⟩ := h.cons
    exact ⟨LRel.mono hV _ _ h1, toRVs_rel hV (u :: ts) (d + 1) y.2 r h4 (fun k hk' => hk k (by simpa [keysOf] using hk'))⟩
  | (.pair _ _, none) :: u :: ts, d, y, vs, h, hk => by
    obtain ⟨v, r, rfl, h1, h4⟩ := h.cons
    exact ⟨LRel.mono hV _ _ h1, toRVs_rel hV (u :: ts) (d + 1) y.2 r h4 (fun k hk' => hk k (by simpa [keysOf] using hk'))⟩

theorem resAV_rel {V : View} {rows : List (Nat × Row)} {boxes : List (Nat × List CV)} {ρ : Nat → Value} {β : Nat → Nat} {l : List RV} {vs : List Value} (h : All2 (RvRel V rows ρ) l vs) : AvRel V rows boxes ρ β (resAV l) (resV vs) := by
  match l, vs, h with
  | [], [], _ => exact ⟨[], rfl, trivial⟩
  | [x], [v], h => exact h.1
  | x :: y :: l, v :: u :: vs, h => exact ⟨v :: u :: vs, rfl, h⟩

variable {Φ : (f : FuncId) → DenL (T.sig f).args → Option (DenL ((T.sig f).res.map (·.1)))}

theorem do_call (hV0 : ∀ ad v, V0 ad v → w0.cell? ad = some v) (hT : TabOk P T.rows) (hΦ : FnOk P T Φ) (h : St V0 w0 σ a w ρ β) {o : Oper} {cl : Call} {f : FuncId} (ho : o.op = .call cl) (hf : fnOf cl = some f)
    {c : Cls} {σ' : AS}
    (he : (match getArgs (T.sig f).args (cl.args.toList.map (σ.frzs cl.args.toList).av) with
      | some x => (Φ f x).bind fun y =>
        match newRows (rkey o.dst) (T.sig f).res y (σ.frzs cl.args.toList).rows with
        | some rows => some ((bif cl.args.toList.any (fun x => isOwn (σ.av x)) then Cls.X else .M [] (wrKeys (keysOf (rkey o.dst) (T.sig f).res))),
            ({ (σ.frzs cl.args.toList) with rows := rows }.putd o.dst (resAV (toRVs (rkey o.dst) (T.sig f).res y))))
        | none => none
      | none => none) = some (c, σ')) : ExecTo P o a w (To V0 w0 σ') := by
  have h1 := h.frzs cl.args.toList
  generalize hσ1 : σ.frzs cl.args.toList = σ1 at he h1
  split at he
  · rename_i x hx
    cases hy : Φ f x with
    | none => simp [hy] at he
    | some y =>
      simp only [hy, Option.bind_some] at he
      split at he
      · rename_i rows hrows
        simp only [Option.some.injEq, Prod.mk.injEq] at he
        obtain ⟨_, rfl⟩ := he
        have hargs := getArgs_rel h1.av _ _ x hx
        have hargs' : ArgsOk (St.V V0 w0 σ1 w ρ β) (T.sig f).args x (cl.args.map a.eval).toList := by rw [Array.toList_map]; exact hargs
        obtain ⟨hcalls, fn, hfn, hbody, hname⟩ := hΦ f x y hy (St.V V0 w0 σ1 w ρ β) w (cl.args.map a.eval) (rkey o.dst) (fun ad v hv => view_cell hV0 h1.below hv) hargs'
        have hfn' : cl.callee = .value (.func f) := by
          unfold fnOf at hf
          split at hf
          · rename_i g hg; simp only [Option.some.injEq] at hf; subst hf; exact hg
          · cases hf
        have hrun : (execOp a.eval o).run P w = .ok (.enter f (cl.args.map a.eval)) w := by
          have hb : fn.body.isNone = false := by cases hfb : fn.body <;> simp_all
          have hn1 : ¬ fn.name = "runtime.NumGoroutine" := by simpa using hname
          have hb1 : ¬ fn.body = none := by intro e; rw [e] at hb; cases hb
          simp [execOp, ho, resolve, hfn', Act.eval, Deferred.ofValue, invoke, callFunc, hfn, hn1, hb1]
        intro next Q hn
        unfold Oper.wp
        rw [hrun, Oper.upon_enter]
        refine Calls.mono hcalls ?_
        rintro e w' ⟨vs, ρc, rfl, hbel, hdis, hres⟩
        obtain ⟨s1, s2, s3⟩ := newRows_spec _ _ _ _ _ hrows
        -- the names of the rows behind the call
        let ρ' : Nat → Value := fun k => if k ∈ keysOf (rkey o.dst) (T.sig f).res then ρc k else ρ k
        have hold : ∀ k row, look σ1.rows k = some row → look rows k = some row ∧ ρ' k = ρ k := fun k row hk =>
          ⟨s1 k row hk, if_neg (fun hm => by rw [(s3 k hm).1] at hk; cases hk)⟩
        have hnewk : ∀ k, look σ1.rows k = none → (look rows k).isSome = true → k ∈ keysOf (rkey o.dst) (T.sig f).res ∧ ρ' k = ρc k := fun k h2 h3 => by
          obtain ⟨row, h4⟩ := Option.isSome_iff_exists.1 h3
          rcases s2 k row h4 with h5 | ⟨_, h5, _⟩
          · rw [h2] at h5; cases h5
          · exact ⟨h5, if_pos h5⟩
        have hVc : ∀ ad v, view (St.V V0 w0 σ1 w ρ β) w.heap.size (OwnHid (keysOf (rkey o.dst) (T.sig f).res) ρc) w' ad v → view V0 w0.heap.size (Hid rows σ1.boxes ρ' β) w' ad v := fun ad v hv => by
          rcases hv with ⟨_, hv⟩ | ⟨h2, h3, h4⟩
          · refine view_mono (fun k hB hk hn' => ⟨?_, hbel.block k hk⟩) hv
            rintro (⟨r, h5, h6⟩ | hb)
            · by_cases hr : look σ1.rows r = none
              · obtain ⟨h7, h8⟩ := hnewk r hr h5
                rw [h8] at h6
                obtain ⟨row, h9⟩ := Option.isSome_iff_exists.1 h5
                rcases s2 r row h9 with h10 | ⟨_, _, h10⟩
                · rw [hr] at h10; cases h10
                · have := ((h10 _ _ _ _ _ hres).block h6).1; omega
              · cases hr2 : look σ1.rows r with
                | none => exact absurd hr2 hr
                | some row =>
                  rw [(hold r row hr2).2] at h6
                  exact hn' (.inl ⟨r, isSome_of hr2, h6⟩)
            · exact hn' (.inr hb)
          · refine .inr ⟨Nat.le_trans h1.below.size h2, ?_, h4⟩
            rintro (⟨r, h5, h6⟩ | ⟨b, h5, h6⟩)
            · by_cases hr : look σ1.rows r = none
              · obtain ⟨h7, h8⟩ := hnewk r hr h5
                rw [h8] at h6
                exact h3 ⟨r, h7, h6⟩
              · cases hr2 : look σ1.rows r with
                | none => exact absurd hr2 hr
                | some row =>
                  rw [(hold r row hr2).2] at h6
                  have := (h1.hidB (.inl ⟨r, isSome_of hr2, h6⟩)).2
                  omega
            · have := (h1.hidB (.inr ⟨b, h5, h6⟩)).2
              omega
        obtain ⟨hst, hVm⟩ := h1.call (rows' := rows) (ρ' := ρ') hbel hold (fun k row hk => by
            rcases s2 k row hk with h5 | ⟨h5, h6, h7⟩
            · exact .inl h5
            · refine .inr ⟨h5, ?_⟩
              rw [show ρ' k = ρc k from if_pos h6]
              exact (h7 _ _ _ _ _ hres).mono hVc (fun _ _ => rfl))
          (fun k k' g hne e1 e2 i1 i2 hg => by
            obtain ⟨m1, r1⟩ := hnewk k e1 i1
            obtain ⟨m2, r2⟩ := hnewk k' e2 i2
            rw [r1] at hg; rw [r2]
            exact hdis k k' g m1 m2 hne hg)
        refine hn _ _ ⟨ρ', β, hst.slot ?_⟩
        exact resAV_rel (toRVs_rel hVc _ _ _ _ hres (fun k hk => ⟨(s3 k hk).2, if_pos hk⟩))
      · cases he
  · cases he
end
end Go.Abs
set_option linter.unusedVariables false
set_option linter.unusedSimpArgs false
namespace Go.Abs
open Go.RowKit Go.Lib

section
variable {P : Program} {T : Tab} {V0 : View} {w0 w w' : World} {σ : AS} {a : Act} {ρ : Nat → Value} {β : Nat → Nat}
variable {Φ : (f : FuncId) → DenL (T.sig f).args → Option (DenL ((T.sig f).res.map (·.1)))}

theorem doOp_sound (hV0 : ∀ ad v, V0 ad v → w0.cell? ad = some v) (hT : TabOk P T.rows) (hΦ : FnOk P T Φ) (h : St V0 w0 σ a w ρ β) {o : Oper}
    {c : Cls} {σ' : AS} (he : doOp T Φ σ o (fun c s => some (c, s)) = some (c, σ')) : ExecTo P o a w (To V0 w0 σ') := by
  have he0 := he
  unfold doOp at he
  dsimp only at he
  split at he <;> rename_i ho
  · exact do_assign hV0 hT h ho he0
  · exact do_store hV0 hT h ho he0
  · exact do_alloc hT h ho he0
  · exact do_box hT h ho he0
  · exact do_build hV0 hT h ho he0
  · exact do_buildSlice hT h ho he0
  · exact do_makeSlice hT h ho he0
  · exact do_append hV0 hT h ho he0
  · exact do_slice hV0 hT h ho he0
  · split at he
    · rename_i f hf
      exact do_call hV0 hT hΦ h ho hf he
    · exact exec_pure' hV0 hT h he
  · exact exec_pure' hV0 hT h he

section nat
variable {R : Type}

theorem addRow_nat (σ : AS) (d : Option Tmp) (row : Row) (c : Cls) (k : Cls → AS → Option R) : addRow σ d row c k = (addRow σ d row c (fun c s => some (c, s))).bind fun p => k p.1 p.2 := by
  unfold addRow
  repeat' split
  all_goals rfl

theorem addBox_nat (σ : AS) (d : Option Tmp) (cs : List CV) (c : Cls) (k : Cls → AS → Option R) : addBox σ d cs c k = (addBox σ d cs c (fun c s => some (c, s))).bind fun p => k p.1 p.2 := by
  unfold addBox
  repeat' split
  all_goals rfl

theorem pureS_nat (T : List TRow) (σ : AS) (o : Oper) (F : Cls → AV → Cls × AS) (k : Cls → AS → Option R) :
    pureOp T σ o (fun c v => k (F c v).1 (F c v).2) = (pureOp T σ o (fun c v => some (F c v))).bind fun p => k p.1 p.2 := by
  rw [pure_nat, pure_nat T σ o (fun c v => some (F c v))]
  cases pureOp T σ o (fun c v => some (c, v)) <;> rfl

theorem bif_nat {α β : Type} (b : Bool) (x x' : Option β) (y y' : Option α) (k : α → Option β) (h1 : b = true → x = y.bind k) (h2 : b = false → x' = y'.bind k) : (bif b then x else x') = (bif b then y else y').bind k := by
  cases b
  · exact h2 rfl
  · exact h1 rfl

theorem doOp_nat (σ : AS) (o : Oper) (k : Cls → AS → Option R) : doOp T Φ σ o k = (doOp T Φ σ o (fun c s => some (c, s))).bind fun p => k p.1 p.2 := by
  unfold doOp
  dsimp only
  split
  case h_1 =>
    split
    · exact bif_nat _ _ _ _ _ _ (fun _ => rfl) (fun _ => rfl)
    · split
      · exact addRow_nat _ _ _ _ _
      · rfl
    · exact pureS_nat T.rows σ o (fun c v => (c, σ.putd o.dst v)) k
  case h_2 =>
    repeat' split
    all_goals first
      | rfl
      | (refine bif_nat _ _ _ _ _ _ (fun _ => ?_) (fun _ => rfl)
         repeat' split
         all_goals first
           | rfl
           | exact bif_nat _ _ _ _ _ _ (fun _ => rfl) (fun _ => rfl)
           | (apply bind_nat2; intro y; repeat' split
              all_goals first
                | rfl
                | exact bif_nat _ _ _ _ _ _ (fun _ => rfl) (fun _ => rfl)))
  case h_3 => split <;> first | exact addBox_nat _ _ _ _ _ | rfl
  case h_4 =>
    repeat' split
    all_goals first
      | rfl
      | exact bif_nat _ _ _ _ _ _ (fun _ => addBox_nat _ _ _ _ _) (fun _ => rfl)
  case h_5 => exact pureS_nat T.rows _ o (fun c v => (_, _)) k
  case h_6 =>
    repeat' split
    all_goals first
      | rfl
      | exact bif_nat _ _ _ _ _ _ (fun _ => addRow_nat _ _ _ _ _) (fun _ => rfl)
  case h_7 =>
    repeat' split
    all_goals first
      | rfl
      | exact bif_nat _ _ _ _ _ _ (fun _ => addRow_nat _ _ _ _ _) (fun _ => rfl)
  case h_8 =>
    split
    · refine bif_nat _ _ _ _ _ _ (fun _ => ?_) (fun _ => rfl)
      repeat' split
      all_goals first
        | rfl
        | exact bif_nat _ _ _ _ _ _ (fun _ => addRow_nat _ _ _ _ _) (fun _ => rfl)
    · rfl
  case h_9 =>
    repeat' split
    all_goals first
      | rfl
      | exact bif_nat _ _ _ _ _ _ (fun _ => addRow_nat _ _ _ _ _) (fun _ => rfl)
      | exact pureS_nat T.rows _ o (fun c v => (_, _)) k
  case h_10 =>
    repeat' split
    all_goals first
      | rfl
      | exact pureS_nat T.rows _ o (fun c v => (_, _)) k
      | (apply bind_nat2; intro y; repeat' split
         all_goals rfl)
  case h_11 => exact pureS_nat T.rows _ o (fun c v => (_, _)) k
where
  bind_nat2 {α β γ : Type} (o : Option α) (f : α → Option β) (g : α → Option γ) (k : β → Option γ) (h : ∀ x, g x = (f x).bind k) : o.bind g = (o.bind f).bind k := by
    cases o with
    | none => rfl
    | some x => exact h x
end nat
end
end Go.Abs
set_option linter.unusedVariables false
set_option linter.unusedSimpArgs false
namespace Go.Abs
open Go.RowKit Go.Lib

/-! ## What an operation looks at -/
section
variable {P : Program} {T : Tab} {σ σ2 : AS}
variable {Φ : (f : FuncId) → DenL (T.sig f).args → Option (DenL ((T.sig f).res.map (·.1)))}

/-- A key of the tables: a row's or a box's. -/
def SameAt (σ σ2 : AS) (k : Nat) : Prop := (∀ r, k = 4 * r → look σ2.rows r = look σ.rows r) ∧ (∀ b, k = 2 * b + 1 → look σ2.boxes b = look σ.boxes b) ∧
  (∀ r, k = 4 * r + 2 → (look σ2.rows r).map (fun row => row.xs.length) = (look σ.rows r).map (fun row => row.xs.length))

def rdOf : Cls → List Nat
  | .M r _ => r
  | _ => []
def wrOf : Cls → List Nat
  | .M _ w => w
  | _ => []

theorem optInt_local {d : Int} {x : Option Operand} (h : ∀ y, x = some y → σ2.av y = σ.av y) : optInt σ2 d x = optInt σ d x := by
  cases x with
  | none => rfl
  | some y => simp only [optInt, h y rfl]

theorem partsOf_local {T : List TRow} {flds : List (Nat × Nat)} : ∀ (parts : List (Nat × Operand)) (cs : List CV), (∀ p ∈ parts, σ2.av p.2 = σ.av p.2) → partsOf σ2 T flds parts cs = partsOf σ T flds parts cs
  | [], cs, h => rfl
  | (i, x) :: r, cs, h => by
    have hx := h (i, x) (by simp)
    simp only at hx
    have ih := fun cs => partsOf_local (T := T) (flds := flds) r cs (fun p hp => h p (by simp [hp]))
    simp only [partsOf, hx, ih]

theorem elems_local {t : Ty} : ∀ (parts : List (Nat × Operand)) (xs : List t.den), (∀ p ∈ parts, σ2.av p.2 = σ.av p.2) → elems σ2 t parts xs = elems σ t parts xs
  | [], cs, h => rfl
  | (i, x) :: r, cs, h => by
    have hx := h (i, x) (by simp)
    simp only at hx
    have ih := fun cs => elems_local (t := t) r cs (fun p hp => h p (by simp [hp]))
    simp only [elems, hx, ih]

theorem binV_cls {op : BinOp} {x y : AV} {c : Cls} {v : AV} (h : binV op x y (fun c v => some (c, v)) = some (c, v)) : c = .S := by
  unfold binV cvk at h
  repeat' split at h
  all_goals first
    | (cases h; done)
    | (simp only [Option.some.injEq, Prod.mk.injEq] at h; exact h.1.symm)
    | (cases hb : (_ == (0 : Int)) <;> rw [hb] at h <;> simp at h; exact h.1.symm)
    | (cases hb : Nat.ble _ _ <;> rw [hb] at h <;> simp at h; exact h.1.symm)

theorem pure_local {T : List TRow} {o : Oper} {c : Cls} {v : AV} (he : pureOp T σ o (fun c v => some (c, v)) = some (c, v)) (hav : ∀ x ∈ o.op.operands, σ2.av x = σ.av x)
    (hk : ∀ k ∈ rdOf c, SameAt σ σ2 k) : pureOp T σ2 o (fun c v => some (c, v)) = some (c, v) ∧ wrOf c = [] ∧ (∀ r w, c = .M r w → w = []) ∧ c ≠ .X := by
  obtain ⟨dst, op, type, pos, after, guard⟩ := o
  have fin : ∀ {c : Cls}, c = .S → wrOf c = [] ∧ (∀ r w, c = .M r w → w = []) ∧ c ≠ .X := fun e => by subst e; exact ⟨rfl, fun r w e => (by cases e), fun e => (by cases e)⟩
  have finM : ∀ {c : Cls} {r}, c = .M r [] → wrOf c = [] ∧ (∀ r w, c = .M r w → w = []) ∧ c ≠ .X := fun e => by subst e; exact ⟨rfl, fun r w e => (by cases e; rfl), fun e => (by cases e)⟩
  cases op
  case load t x =>
    have hx := hav x (by simp [Op.operands])
    simp only [pureOp, hx] at he ⊢
    split at he
    · cases he
    · rename_i r hr
      split at he
      · rename_i b off hb
        split at he
        · rename_i cs hcs
          split at he
          · rename_i z hz
            simp only [Option.some.injEq, Prod.mk.injEq] at he
            obtain ⟨rfl, rfl⟩ := he
            have := (hk (2 * b + 1) (by simp [rdOf])).2.1 b rfl
            exact ⟨by simp [this, hcs, hz], finM rfl⟩
          · cases he
        · cases he
      · rename_i q sz i off hq
        split at he
        · rename_i row hrow
          cases hz : row.xs[i]? with
          | none => simp [hz] at he
          | some z =>
            simp only [hz, Option.bind_some] at he
            split at he
            · rename_i z' hz'
              simp only [Option.some.injEq, Prod.mk.injEq] at he
              obtain ⟨rfl, rfl⟩ := he
              have := (hk (4 * q) (by simp [rdOf])).1 q rfl
              exact ⟨by simp [this, hrow, hz, hz'], finM rfl⟩
            · cases he
        · cases he
      · split at he
        · simp only [Option.some.injEq, Prod.mk.injEq] at he
          obtain ⟨rfl, rfl⟩ := he
          exact ⟨rfl, fin rfl⟩
        · cases he
      · cases he
  case indexAddr t x i =>
    have hx := hav x (by simp [Op.operands])
    have hi := hav i (by simp [Op.operands])
    simp only [pureOp, hx, hi] at he ⊢
    split at he
    · rename_i r hr
      split at he
      · rename_i u hty
        split at he
        · rename_i kk n hn
          split at he
          · rename_i u' xs hxx
            refine ⟨he, fin ?_⟩
            cases hb : Nat.beq u.size u'.size with
            | false => simp [hb] at he
            | true =>
              simp only [hb, cond_true] at he
              cases hz : idx xs n with
              | none => simp [hz] at he
              | some z => simp [hz] at he; exact he.1.symm
          · rename_i q hq
            split at he
            · rename_i row hrow
              cases hb : Nat.beq u.size row.t.size with
              | false => simp [hb] at he
              | true =>
                simp only [hb, cond_true] at he
                cases hz : idx row.xs n with
                | none => simp [hz] at he
                | some z =>
                  simp only [hz, Option.bind_some, Option.some.injEq, Prod.mk.injEq] at he
                  obtain ⟨rfl, rfl⟩ := he
                  have := (hk (4 * q) (by simp [rdOf])).1 q rfl
                  exact ⟨by simp [this, hrow, hb, hz], finM rfl⟩
            · cases he
          · cases he
        · cases he
      · cases he
    · cases he
  case convert s d x =>
    have hx := hav x (by simp [Op.operands])
    simp only [pureOp, hx, cvk] at he ⊢
    split at he
    · split at he
      · simp only [Option.some.injEq, Prod.mk.injEq] at he; obtain ⟨rfl, rfl⟩ := he; exact ⟨rfl, fin rfl⟩
      · simp only [Option.some.injEq, Prod.mk.injEq] at he; obtain ⟨rfl, rfl⟩ := he; exact ⟨rfl, fin rfl⟩
      · simp only [Option.some.injEq, Prod.mk.injEq] at he; obtain ⟨rfl, rfl⟩ := he; exact ⟨rfl, fin rfl⟩
      · rename_i r h1 h2 h3
        split at he
        · rename_i e xs hrow
          simp only [Option.some.injEq, Prod.mk.injEq] at he
          obtain ⟨rfl, rfl⟩ := he
          have := (hk (4 * r) (by simp [rdOf])).1 r rfl
          exact ⟨by simp [this, hrow], finM rfl⟩
        · cases he
      · rename_i u h1 h2 h3
        refine ⟨he, fin ?_⟩
        cases hb : Nat.ble u.size 140737488355328 with
        | false => simp [hb] at he
        | true => simp [hb] at he; exact he.1.symm
      · cases he
    · cases he
  case binOp op xt x y yt =>
    have hx := hav x (by simp [Op.operands])
    have hy := hav y (by simp [Op.operands])
    simp only [pureOp, hx, hy] at he ⊢
    refine ⟨he, fin ?_⟩
    split at he
    · split at he
      · unfold binB cvk at he
        repeat' split at he
        all_goals first
          | (cases he; done)
          | (simp only [Option.some.injEq, Prod.mk.injEq] at he; exact he.1.symm)
      · exact binV_cls he
      · exact binV_cls he
      · cases he
    · cases he
  case slice t x lo hi mx =>
    have hx := hav x (by simp [Op.operands])
    have hlo : ∀ d, optInt σ2 d lo = optInt σ d lo := fun d => optInt_local (fun y e => hav y (by subst e; simp [Op.operands]))
    have hhi : ∀ d, optInt σ2 d hi = optInt σ d hi := fun d => optInt_local (fun y e => hav y (by subst e; simp [Op.operands]))
    have hmx : ∀ d, optInt σ2 d mx = optInt σ d mx := fun d => optInt_local (fun y e => hav y (by subst e; simp [Op.operands]))
    cases mx with
    | none =>
      simp only [pureOp, hx, hlo, hhi, cvk] at he ⊢
      refine ⟨he, fin ?_⟩
      split at he
      · split at he
        · rename_i ss hty hs
          split at he
          · rename_i l h' hl hh
            cases hb : inCut ss.size l h' <;> simp [hb] at he
            exact he.1.symm
          · cases he
        · rename_i u u' xs hty hs
          split at he
          · rename_i l h' hl hh
            cases hb : (Nat.beq u.size u'.size && inCut (List.length xs) l h') <;> simp only [hb, cond_true, cond_false, Option.some.injEq, Prod.mk.injEq, reduceCtorEq] at he
            exact he.1.symm
          · cases he
        · cases he
      · cases he
    | some m =>
      simp only [pureOp, hx, hlo, hhi, hmx, cvk] at he ⊢
      split at he
      · split at he
        · rename_i u u' xs hty hs
          split at he
          · rename_i hx'
            have e1 := hhi 0
            have e2 := hmx 0
            simp only [e1, e2]
            refine ⟨he, fin ?_⟩
            split at he
            · rename_i l h' mm hl hh hm
              cases hb : (Nat.beq u.size u'.size && inCut (List.length xs) l h' && decide (h' ≤ mm) && decide (mm ≤ List.length xs)) <;> simp only [hb, cond_true, cond_false, Option.some.injEq, Prod.mk.injEq, reduceCtorEq] at he
              exact he.1.symm
            · cases he
          · cases he
        · cases he
      · cases he
  case build t parts =>
    have hp : ∀ fl cs, partsOf σ2 T fl parts.toList cs = partsOf σ T fl parts.toList cs := fun fl cs => partsOf_local _ _ (fun p hp => hav p.2 (by
      simp only [Op.operands, List.mem_toArray, List.mem_map]; exact ⟨p, hp, rfl⟩))
    simp only [pureOp, hp] at he ⊢
    refine ⟨he, fin ?_⟩
    repeat' split at he
    all_goals first
      | (cases he; done)
      | (simp only [Option.some.injEq, Prod.mk.injEq] at he; exact he.1.symm)
  case call cl =>
    obtain ⟨callee, args, ats⟩ := cl
    have hargs : ∀ x ∈ args.toList, σ2.av x = σ.av x := fun x hx => hav x (by simp [Op.operands, Call.operands]; right; simpa using hx)
    cases callee with
    | value f => cases he
    | invoke r m => cases he
    | builtin b =>
      cases b
      case max =>
        simp only [pureOp] at he ⊢
        split at he
        · rename_i x y hxy
          have h1 := hargs x (by rw [hxy]; simp)
          have h2 := hargs y (by rw [hxy]; simp)
          simp only [h1, h2, cvk] at he ⊢
          refine ⟨he, fin ?_⟩
          split at he
          · simp only [Option.some.injEq, Prod.mk.injEq] at he; exact he.1.symm
          · cases he
        · cases he
      case min =>
        simp only [pureOp] at he ⊢
        split at he
        · rename_i x y hxy
          have h1 := hargs x (by rw [hxy]; simp)
          have h2 := hargs y (by rw [hxy]; simp)
          simp only [h1, h2, cvk] at he ⊢
          refine ⟨he, fin ?_⟩
          split at he
          · simp only [Option.some.injEq, Prod.mk.injEq] at he; exact he.1.symm
          · cases he
        · cases he
      case len =>
        simp only [pureOp] at he ⊢
        split at he
        · rename_i x t hxy ht
          have h1 := hargs x (by rw [hxy]; simp)
          simp only [h1] at he ⊢
          split at he
          · rename_i r hr
            unfold lenV cvk at he ⊢
            split at he
            · simp only [Option.some.injEq, Prod.mk.injEq] at he; obtain ⟨rfl, rfl⟩ := he; rename_i e1 e2; exact ⟨by simp [e1, e2], fin rfl⟩
            · simp only [Option.some.injEq, Prod.mk.injEq] at he; obtain ⟨rfl, rfl⟩ := he; rename_i e1 e2; exact ⟨by simp [e1, e2], fin rfl⟩
            · rename_i u q e1 e2
              split at he
              · rename_i row hrow
                simp only [Option.some.injEq, Prod.mk.injEq] at he
                obtain ⟨rfl, rfl⟩ := he
                have := (hk (4 * q + 2) (by simp [rdOf])).2.2 q rfl
                rw [hrow] at this
                obtain ⟨row2, hrow2, hlen⟩ := Option.map_eq_some_iff.1 this
                exact ⟨by simp [e1, e2, hrow2, hlen], finM rfl⟩
              · cases he
            · simp only [Option.some.injEq, Prod.mk.injEq] at he; obtain ⟨rfl, rfl⟩ := he; rename_i e1 e2; exact ⟨by simp [e1, e2], fin rfl⟩
            · cases he
          · cases he
        · cases he
      all_goals (cases he; done)
  case move x =>
    have hx := hav x (by simp [Op.operands])
    simp only [pureOp, hx] at he ⊢
    refine ⟨he, fin ?_⟩
    repeat' split at he
    all_goals first
      | (cases he; done)
      | (simp only [Option.some.injEq, Prod.mk.injEq] at he; exact he.1.symm)
  case assign x =>
    have hx := hav x (by simp [Op.operands])
    simp only [pureOp, hx] at he ⊢
    refine ⟨he, fin ?_⟩
    repeat' split at he
    all_goals first
      | (cases he; done)
      | (simp only [Option.some.injEq, Prod.mk.injEq] at he; exact he.1.symm)
  case pick x y z =>
    have hx := hav x (by simp [Op.operands])
    have hy := hav y (by simp [Op.operands])
    have hz := hav z (by simp [Op.operands])
    simp only [pureOp, hx, hy, hz] at he ⊢
    refine ⟨he, fin ?_⟩
    split at he
    · rename_i t ht
      have : ∀ b : Bool, (bif b then some (Cls.S, σ.av y) else some (Cls.S, σ.av z)) = some (c, v) → c = .S := fun b hb => by
        cases b <;> simp at hb <;> exact hb.1.symm
      exact this t he
    · cases he
  case unOp op xt x =>
    have hx := hav x (by simp [Op.operands])
    simp only [pureOp, hx, cvk] at he ⊢
    refine ⟨he, fin ?_⟩
    repeat' split at he
    all_goals first
      | (cases he; done)
      | (simp only [Option.some.injEq, Prod.mk.injEq] at he; exact he.1.symm)
  case fieldAddr s x f =>
    have hx := hav x (by simp [Op.operands])
    simp only [pureOp, hx] at he ⊢
    refine ⟨he, fin ?_⟩
    repeat' split at he
    all_goals first
      | (cases he; done)
      | (simp only [Option.some.injEq, Prod.mk.injEq] at he; exact he.1.symm)
  case index t x i =>
    have hx := hav x (by simp [Op.operands])
    have hi := hav i (by simp [Op.operands])
    simp only [pureOp, hx, hi, cvk] at he ⊢
    refine ⟨he, fin ?_⟩
    split at he
    · split at he
      · rename_i n s e1 e2 e3
        cases hz : sidx s n with
        | none => simp [hz] at he
        | some z => simp [hz] at he; exact he.1.symm
      · cases he
    · cases he
  case extract x i =>
    have hx := hav x (by simp [Op.operands])
    simp only [pureOp, hx] at he ⊢
    refine ⟨he, fin ?_⟩
    repeat' split at he
    all_goals first
      | (cases he; done)
      | (simp only [Option.some.injEq, Prod.mk.injEq] at he; exact he.1.symm)
  all_goals (cases he; done)
end
end Go.Abs
set_option linter.unusedVariables false
set_option linter.unusedSimpArgs false
namespace Go.Abs
open Go.RowKit Go.Lib

inductive TU where
  | row (k : Nat) (r : Row)
  | box (b : Nat) (cs : List CV)

def TU.key : TU → Nat
  | .row k _ => 4 * k
  | .box b _ => 2 * b + 1

/-- A changed row keeps its length, or the length's key is told. -/
def TU.fits (σ : AS) (c : Cls) : TU → Prop
  | .row k r => 4 * k + 2 ∈ wrOf c ∨ (look σ.rows k).map (fun row => row.xs.length) = some r.xs.length
  | .box _ _ => True

def AS.one (σ : AS) : TU → AS
  | .row k r => { σ with rows := put σ.rows k r }
  | .box b cs => { σ with boxes := put σ.boxes b cs }

def AS.app (σ : AS) : List TU → AS
  | [] => σ
  | u :: us => (σ.one u).app us

section
variable {P : Program} {T : Tab} {σ σ2 : AS}
variable {Φ : (f : FuncId) → DenL (T.sig f).args → Option (DenL ((T.sig f).res.map (·.1)))}

theorem one_tmps (u : TU) : (σ.one u).tmps = σ.tmps := by cases u <;> rfl
theorem app_tmps : ∀ (us : List TU) (σ : AS), (σ.app us).tmps = σ.tmps
  | [], σ => rfl
  | u :: us, σ => by rw [AS.app, app_tmps us, one_tmps]

theorem frz_id {x : Operand} (h : isOwn (σ.av x) = false) : σ.frz x = σ := by
  unfold AS.frz
  split
  · rename_i r hr; rw [hr] at h; cases h
  · rfl

theorem frzs_id : ∀ (xs : List Operand), xs.any (fun x => isOwn (σ.av x)) = false → σ.frzs xs = σ
  | [], h => rfl
  | x :: xs, h => by
    simp only [List.any_cons, Bool.or_eq_false_iff] at h
    rw [AS.frzs, frz_id h.1]
    exact frzs_id xs h.2

theorem any_own {xs : List Operand} (h : ∀ x ∈ xs, σ2.av x = σ.av x) : xs.any (fun x => isOwn (σ2.av x)) = xs.any (fun x => isOwn (σ.av x)) := by
  induction xs with
  | nil => rfl
  | cons x xs ih =>
    simp only [List.any_cons]
    rw [h x (by simp), ih (fun y hy => h y (by simp [hy]))]

def Local (T : Tab) (Φ : (f : FuncId) → DenL (T.sig f).args → Option (DenL ((T.sig f).res.map (·.1)))) (σ : AS) (o : Oper) (c : Cls) (σ' : AS) : Prop :=
  ∃ v us, σ' = (σ.app us).putd o.dst v ∧ (∀ u ∈ us, u.key ∈ wrOf c ∧ u.fits σ c) ∧ ∀ σ2 : AS, (∀ x ∈ o.op.operands, σ2.av x = σ.av x) → (∀ k, k ∈ rdOf c ∨ k ∈ wrOf c → SameAt σ σ2 k) →
    doOp T Φ σ2 o (fun c s => some (c, s)) = some (c, (σ2.app us).putd o.dst v)

theorem local_pure {o : Oper} {F : Cls → Cls} {c : Cls} {σ' : AS} (hF : ∀ c, F c = .X ∨ F c = c) (he : pureOp T.rows σ o (fun c' v => some (F c', σ.putd o.dst v)) = some (c, σ')) (hc : c ≠ .X)
    (hd : ∀ σ2 : AS, (∀ x ∈ o.op.operands, σ2.av x = σ.av x) → doOp T Φ σ2 o (fun c s => some (c, s)) = pureOp T.rows σ2 o (fun c' v => some (F c', σ2.putd o.dst v))) : Local T Φ σ o c σ' := by
  rw [pure_nat] at he
  cases hp : pureOp T.rows σ o (fun c v => some (c, v)) with
  | none => rw [hp] at he; cases he
  | some p =>
    obtain ⟨c1, z⟩ := p
    rw [hp] at he
    simp only [Option.bind_some, Option.some.injEq, Prod.mk.injEq] at he
    obtain ⟨h1, rfl⟩ := he
    rcases hF c1 with h2 | h2
    · rw [h2] at h1; exact absurd h1.symm hc
    · rw [h2] at h1
      subst h1
      refine ⟨z, [], rfl, (fun u hu => by cases hu), fun σ2 hav hk => ?_⟩
      obtain ⟨h3, _⟩ := pure_local (σ2 := σ2) hp hav (fun k hk' => hk k (.inl hk'))
      rw [hd σ2 hav, pure_nat, h3]
      simp only [Option.bind_some, h2]
      rfl

theorem sameRow {k : Nat} (h : SameAt σ σ2 (4 * k)) : look σ2.rows k = look σ.rows k := h.1 k rfl
theorem sameBox {k : Nat} (h : SameAt σ σ2 (2 * k + 1)) : look σ2.boxes k = look σ.boxes k := h.2.1 k rfl

theorem local_addRow {o : Oper} {row : Row} {cl c : Cls} {σ' : AS} (he : addRow σ o.dst row cl (fun c s => some (c, s)) = some (c, σ')) (hcl : cl = .M [] [4 * o.dst.getD 0, 4 * o.dst.getD 0 + 2])
    (hd : ∀ σ2 : AS, (∀ x ∈ o.op.operands, σ2.av x = σ.av x) → doOp T Φ σ2 o (fun c s => some (c, s)) = addRow σ2 o.dst row cl (fun c s => some (c, s))) : Local T Φ σ o c σ' := by
  subst hcl
  have hc : c = .M [] [4 * o.dst.getD 0, 4 * o.dst.getD 0 + 2] := by
    unfold addRow at he
    split at he
    · split at he
      · simp only [Option.some.injEq, Prod.mk.injEq] at he; exact he.1.symm
      · cases he
    · cases he
  subst hc
  obtain ⟨d, hdst, hlk, rfl⟩ := addRow_some he
  refine ⟨.rv (.own d), [.row d row], by rw [hdst]; rfl, fun u hu => ?_, fun σ2 hav hk => ?_⟩
  · simp at hu; subst hu; simp [wrOf, TU.key, TU.fits, hdst]
  · rw [hd σ2 hav]
    have := sameRow (hk (4 * d) (.inr (by simp [wrOf, hdst])))
    simp only [addRow, hdst, this, hlk]
    rfl

theorem local_addBox {o : Oper} {cs : List CV} {cl c : Cls} {σ' : AS} (he : addBox σ o.dst cs cl (fun c s => some (c, s)) = some (c, σ')) (hcl : cl = .M [] [2 * o.dst.getD 0 + 1])
    (hd : ∀ σ2 : AS, (∀ x ∈ o.op.operands, σ2.av x = σ.av x) → doOp T Φ σ2 o (fun c s => some (c, s)) = addBox σ2 o.dst cs cl (fun c s => some (c, s))) : Local T Φ σ o c σ' := by
  subst hcl
  have hc : c = .M [] [2 * o.dst.getD 0 + 1] := by
    unfold addBox at he
    split at he
    · split at he
      · simp only [Option.some.injEq, Prod.mk.injEq] at he; exact he.1.symm
      · cases he
    · cases he
  subst hc
  obtain ⟨d, hdst, hlk, rfl⟩ := addBox_some he
  refine ⟨.box d 0, [.box d cs], by rw [hdst]; rfl, fun u hu => ?_, fun σ2 hav hk => ?_⟩
  · simp at hu; subst hu; simp [wrOf, TU.key, TU.fits, hdst]
  · rw [hd σ2 hav]
    have := sameBox (hk (2 * d + 1) (.inr (by simp [wrOf, hdst])))
    simp only [addBox, hdst, this, hlk]
    rfl

theorem addRow_cls {d : Option Tmp} {row : Row} {cl c : Cls} {σ' : AS} (he : addRow σ d row cl (fun c s => some (c, s)) = some (c, σ')) : c = cl := by
  unfold addRow at he
  split at he
  · split at he
    · simp only [Option.some.injEq, Prod.mk.injEq] at he; exact he.1.symm
    · cases he
  · cases he

theorem addBox_cls {d : Option Tmp} {cs : List CV} {cl c : Cls} {σ' : AS} (he : addBox σ d cs cl (fun c s => some (c, s)) = some (c, σ')) : c = cl := by
  unfold addBox at he
  split at he
  · split at he
    · simp only [Option.some.injEq, Prod.mk.injEq] at he; exact he.1.symm
    · cases he
  · cases he

def putAll (l : List (Nat × Row)) : List (Nat × Row) → List (Nat × Row)
  | [] => l
  | (k, r) :: us => putAll (put l k r) us

theorem newRows_eff : ∀ (ts : List (Ty × Option TypeId)) (d : Nat) (y : DenL (ts.map (·.1))) (l l' : List (Nat × Row)), newRows d ts y l = some l' →
    ∃ us : List (Nat × Row), l' = putAll l us ∧ (∀ u ∈ us, u.1 ∈ keysOf d ts) ∧ ∀ l2, (∀ k ∈ keysOf d ts, look l2 k = look l k) → newRows d ts y l2 = some (putAll l2 us)
  | [], d, y, l, l', h => by
    simp only [newRows, Option.some.injEq] at h
    exact ⟨[], h.symm, fun u hu => (by cases hu), fun l2 _ => rfl⟩
  | [(t, none)], d, y, l, l', h => by
    simp only [newRows, Option.some.injEq] at h
    exact ⟨[], h.symm, fun u hu => (by cases hu), fun l2 _ => rfl⟩
  | [(t, some e)], d, y, l, l', h => by
    simp only [newRows] at h
    split at h
    · rename_i row hrow
      split at h
      · rename_i hl
        simp only [Option.some.injEq] at h
        refine ⟨[(d, row)], h.symm, fun u hu => ?_, fun l2 h2 => ?_⟩
        · simp at hu; subst hu; simp [keysOf]
        · have := h2 d (by simp [keysOf])
          rw [hl] at this
          simp only [newRows, hrow, this]; rfl
      · cases h
    · cases h
  | (t, none) :: u :: ts, d, y, l, l', h => by
    simp only [newRows] at h
    obtain ⟨us, h1, h2, h3⟩ := newRows_eff (u :: ts) (d + 1) y.2 l l' h
    exact ⟨us, h1, h2, fun l2 hl2 => by simp only [newRows]; exact h3 l2 hl2⟩
  | (t, some e) :: u :: ts, d, y, l, l', h => by
    simp only [newRows] at h
    split at h
    · rename_i row hrow
      split at h
      · rename_i hl
        obtain ⟨us, h1, h2, h3⟩ := newRows_eff (u :: ts) (d + 1) y.2 (put l d row) l' h
        refine ⟨(d, row) :: us, h1, fun v hv => ?_, fun l2 hl2 => ?_⟩
        · simp only [keysOf, List.mem_cons]
          rcases List.mem_cons.1 hv with rfl | hv
          · exact .inl rfl
          · exact .inr (h2 v hv)
        · have := hl2 d (by simp [keysOf])
          rw [hl] at this
          simp only [newRows, hrow, this]
          exact h3 _ (fun k hk => by rw [look_put, look_put, hl2 k (by simp only [keysOf, List.mem_cons]; exact .inr hk)])
      · cases h
    · cases h

theorem app_rows : ∀ (us : List (Nat × Row)) (σ : AS), σ.app (us.map fun p => .row p.1 p.2) = { σ with rows := putAll σ.rows us }
  | [], σ => rfl
  | (k, r) :: us, σ => by
    simp only [List.map_cons, AS.app, AS.one, app_rows us]
    rfl

theorem do_local {o : Oper} {c : Cls} {σ' : AS} (he : doOp T Φ σ o (fun c s => some (c, s)) = some (c, σ')) (hc : c ≠ .X) : Local T Φ σ o c σ' := by
  have idF : ∀ c : Cls, id c = .X ∨ id c = c := fun c => .inr rfl
  obtain ⟨dst, op, type, pos, after, guard⟩ := o
  cases op
  case assign x =>
    simp only [doOp] at he
    split at he
    · rename_i r d hr
      cases hb : Nat.beq r d <;> simp only [hb, cond_true, cond_false, Option.some.injEq, Prod.mk.injEq] at he <;> exact absurd he.1.symm hc
    · split at he
      · exact absurd (addRow_cls he) hc
      · cases he
    · rename_i n1 n2
      refine local_pure idF he hc (fun σ2 hav => ?_)
      have hx := hav x (by simp [Op.operands])
      simp only [doOp, hx]
  case alloc t =>
    simp only [doOp] at he
    split at he
    · rename_i r hr
      exact local_addBox (o := ⟨dst, .alloc t, type, pos, after, guard⟩) he rfl (fun σ2 hav => by simp only [doOp, hr])
    · cases he
  case box t v =>
    simp only [doOp] at he
    split at he
    · rename_i r hr
      cases ho : isOwn (σ.av v) with
      | true =>
        simp only [ho, cond_true] at he
        split at he
        · rename_i vs hvs
          cases hb : Nat.beq vs.length r.ty.size <;> simp only [hb, cond_true, cond_false, reduceCtorEq] at he
          exact absurd (addBox_cls he) hc
        · cases he
      | false =>
        rw [frz_id ho] at he
        simp only [ho, cond_false] at he
        split at he
        · rename_i vs hvs
          cases hb : Nat.beq vs.length r.ty.size <;> simp only [hb, cond_true, cond_false, reduceCtorEq] at he
          refine local_addBox (o := ⟨dst, .box t v, type, pos, after, guard⟩) he rfl (fun σ2 hav => ?_)
          have hx := hav v (by simp [Op.operands])
          simp only [doOp, hr]
          rw [frz_id (by rw [hx]; exact ho), hx]
          simp only [hvs, hb, cond_true, ho, cond_false]
        · cases he
    · cases he
  case store t x v =>
    simp only [doOp] at he
    split at he
    · rename_i r hr
      cases ho : isOwn (σ.av v) with
      | true =>
        simp only [ho, cond_true] at he
        split at he
        · rename_i vs hvs
          cases hb : Nat.beq vs.length r.ty.size <;> simp only [hb, cond_true, cond_false, reduceCtorEq] at he
          split at he
          · rename_i b off hbx
            split at he
            · rename_i cs hcs
              cases hle : Nat.ble (off + vs.length) cs.length <;> simp only [hle, cond_true, cond_false, reduceCtorEq, Option.some.injEq, Prod.mk.injEq] at he
              exact absurd he.1.symm hc
            · cases he
          · rename_i q sz i off hq
            split at he
            · rename_i row hrow
              cases hz : row.xs[i]? with
              | none => simp [hz] at he
              | some z =>
                simp only [hz, Option.bind_some] at he
                split at he
                · cases hle : Nat.ble (off + vs.length) row.t.size <;> simp only [hle, cond_true, cond_false, reduceCtorEq, Option.some.injEq, Prod.mk.injEq] at he
                  exact absurd he.1.symm hc
                · cases he
            · cases he
          · cases he
        · cases he
      | false =>
        rw [frz_id ho] at he
        simp only [ho, cond_false] at he
        have hd : ∀ σ2 : AS, (∀ y ∈ (Op.store t x v).operands, σ2.av y = σ.av y) → σ2.frz v = σ2 ∧ σ2.av v = σ.av v ∧ σ2.av x = σ.av x := fun σ2 hav => by
          have h1 := hav v (by simp [Op.operands])
          exact ⟨frz_id (by rw [h1]; exact ho), h1, hav x (by simp [Op.operands])⟩
        split at he
        · rename_i vs hvs
          cases hb : Nat.beq vs.length r.ty.size <;> simp only [hb, cond_true, cond_false, reduceCtorEq] at he
          split at he
          · rename_i b off hbx
            split at he
            · rename_i cs hcs
              cases hle : Nat.ble (off + vs.length) cs.length <;> simp only [hle, cond_true, cond_false, reduceCtorEq, Option.some.injEq, Prod.mk.injEq] at he
              obtain ⟨rfl, rfl⟩ := he
              refine ⟨.nil, [.box b (splice cs off vs)], rfl, fun u hu => ?_, fun σ2 hav hk => ?_⟩
              · simp at hu; subst hu; simp [wrOf, TU.key, TU.fits]
              · obtain ⟨h1, h2, h3⟩ := hd σ2 hav
                have := sameBox (hk (2 * b + 1) (.inr (by simp [wrOf])))
                simp only [doOp, hr, h1, h2, h3, hvs, hb, cond_true, hbx, this, hcs, hle, ho, cond_false]
                rfl
            · cases he
          · rename_i q sz i off hq
            split at he
            · rename_i row hrow
              cases hz : row.xs[i]? with
              | none => simp [hz] at he
              | some z =>
                simp only [hz, Option.bind_some] at he
                split at he
                · rename_i z' hz'
                  cases hle : Nat.ble (off + vs.length) row.t.size <;> simp only [hle, cond_true, cond_false, reduceCtorEq, Option.some.injEq, Prod.mk.injEq] at he
                  obtain ⟨rfl, rfl⟩ := he
                  refine ⟨.nil, [.row q ⟨row.e, row.t, row.xs.set i z'⟩], rfl, fun u hu => ?_, fun σ2 hav hk => ?_⟩
                  · simp at hu; subst hu; exact ⟨by simp [wrOf, TU.key], .inr (by simp [hrow])⟩
                  · obtain ⟨h1, h2, h3⟩ := hd σ2 hav
                    have := sameRow (hk (4 * q) (.inr (by simp [wrOf])))
                    simp only [doOp, hr, h1, h2, h3, hvs, hb, cond_true, hq, this, hrow, hz, Option.bind_some, hz', hle, ho, cond_false]
                    rfl
                · cases he
            · cases he
          · cases he
        · cases he
    · cases he
  case build t parts =>
    simp only [doOp] at he
    cases ho : (parts.toList.map (·.2)).any (fun x => isOwn (σ.av x)) with
    | true =>
      simp only [ho, cond_true] at he
      rw [pure_nat] at he
      cases hp : pureOp T.rows (σ.frzs (parts.toList.map (·.2))) ⟨dst, .build t parts, type, pos, after, guard⟩ (fun c v => some (c, v)) with
      | none => rw [hp] at he; cases he
      | some p => rw [hp] at he; simp only [Option.bind_some, Option.some.injEq, Prod.mk.injEq] at he; exact absurd he.1.symm hc
    | false =>
      simp only [ho, cond_false] at he
      rw [frzs_id _ ho] at he
      refine local_pure (F := fun c => c) (fun c => .inr rfl) he hc (fun σ2 hav => ?_)
      have hany := any_own (σ2 := σ2) (σ := σ) (xs := parts.toList.map (·.2)) (fun x hx => hav x (by simpa [Op.operands] using hx))
      rw [ho] at hany
      simp only [doOp, hany, cond_false, frzs_id _ hany]
  case buildSlice t len parts =>
    simp only [doOp] at he
    split at he
    · rename_i u e bytes hel
      cases ho : (parts.toList.map (·.2)).any (fun x => isOwn (σ.av x)) with
      | true =>
        simp only [ho, cond_true] at he
        split at he
        · rename_i ys hys
          cases hb : (Nat.ble (len * u.size) 16777216 && Nat.ble len 16777216) <;> simp only [hb, cond_true, cond_false, reduceCtorEq] at he
          exact absurd (addRow_cls he) hc
        · cases he
      | false =>
        simp only [ho, cond_false] at he
        rw [frzs_id _ ho] at he
        split at he
        · rename_i ys hys
          cases hb : (Nat.ble (len * u.size) 16777216 && Nat.ble len 16777216) <;> simp only [hb, cond_true, cond_false, reduceCtorEq] at he
          refine local_addRow (o := ⟨dst, .buildSlice t len parts, type, pos, after, guard⟩) he rfl (fun σ2 hav => ?_)
          have hav' : ∀ x ∈ parts.toList.map (·.2), σ2.av x = σ.av x := fun x hx => hav x (by simpa [Op.operands] using hx)
          have hany := any_own (σ2 := σ2) (σ := σ) hav'
          rw [ho] at hany
          have hel2 : elems σ2 u parts.toList (List.replicate len u.zero) = some ys := by
            rw [elems_local _ _ (fun p hp => hav' p.2 (List.mem_map.2 ⟨p, hp, rfl⟩))]; exact hys
          simp only [doOp, hel, hany, cond_false, frzs_id _ hany, hel2, hb, cond_true]
        · cases he
    · cases he
  case makeSlice t l cc =>
    simp only [doOp] at he
    split at he
    · rename_i u e bytes hel
      split at he
      · rename_i k n k' m hl hcc
        cases hb : okMake bytes n m <;> simp only [hb, cond_true, cond_false, reduceCtorEq] at he
        refine local_addRow (o := ⟨dst, .makeSlice t l cc, type, pos, after, guard⟩) he rfl (fun σ2 hav => ?_)
        have h1 := hav l (by simp [Op.operands])
        have h2 := hav cc (by simp [Op.operands])
        simp only [doOp, hel, h1, h2, hl, hcc, hb, cond_true]
      · cases he
    · cases he
  case slice t x lo hi mx =>
    simp only [doOp] at he
    split at he
    · rename_i q hq
      have hX : c = .X := by
        split at he
        · rename_i h' row hrow
          split at he
          · rename_i u e bytes k n hel hn
            cases hb : (Nat.beq u.size row.t.size && inCut row.xs.length 0 n) <;> simp only [hb, cond_true, cond_false, reduceCtorEq] at he
            exact addRow_cls he
          · cases he
        · rw [pure_nat] at he
          obtain ⟨p, hp, h2⟩ := Option.bind_eq_some_iff.1 he
          simp only [Option.some.injEq, Prod.mk.injEq] at h2
          exact h2.1.symm
      exact absurd hX hc
    · rename_i n1
      refine local_pure idF he hc (fun σ2 hav => ?_)
      have hx := hav x (by simp [Op.operands])
      simp only [doOp, hx]
  case call cl =>
    obtain ⟨callee, args, ats⟩ := cl
    have hargs : ∀ σ2 : AS, (∀ x ∈ (Op.call ⟨callee, args, ats⟩).operands, σ2.av x = σ.av x) → ∀ x ∈ args.toList, σ2.av x = σ.av x := fun σ2 hav x hx => hav x (by simp [Op.operands, Call.operands]; right; simpa using hx)
    have gen : ∀ f, fnOf ⟨callee, args, ats⟩ = some f → (∀ σ : AS, doOp T Φ σ ⟨dst, .call ⟨callee, args, ats⟩, type, pos, after, guard⟩ (fun c s => some (c, s)) =
        (match getArgs (T.sig f).args (args.toList.map (σ.frzs args.toList).av) with
        | some x => (Φ f x).bind fun y =>
          match newRows (rkey dst) (T.sig f).res y (σ.frzs args.toList).rows with
          | some rows => some ((bif args.toList.any (fun x => isOwn (σ.av x)) then Cls.X else .M [] (wrKeys (keysOf (rkey dst) (T.sig f).res))),
              ({ (σ.frzs args.toList) with rows := rows }.putd dst (resAV (toRVs (rkey dst) (T.sig f).res y))))
          | none => none
        | none => none)) → Local T Φ σ ⟨dst, .call ⟨callee, args, ats⟩, type, pos, after, guard⟩ c σ' := by
      intro f hf hdef
      rw [hdef] at he
      cases ho : args.toList.any (fun x => isOwn (σ.av x)) with
      | true =>
        simp only [ho, cond_true] at he
        split at he
        · rename_i x hx
          obtain ⟨y, hy, h2⟩ := Option.bind_eq_some_iff.1 he
          split at h2
          · simp only [Option.some.injEq, Prod.mk.injEq] at h2
            exact absurd h2.1.symm hc
          · cases h2
        · cases he
      | false =>
        simp only [ho, cond_false] at he
        rw [frzs_id _ ho] at he
        split at he
        · rename_i x hx
          obtain ⟨y, hy, h2⟩ := Option.bind_eq_some_iff.1 he
          split at h2
          · rename_i rows hrows
            simp only [Option.some.injEq, Prod.mk.injEq] at h2
            obtain ⟨rfl, rfl⟩ := h2
            obtain ⟨us, h3, h4, h5⟩ := newRows_eff _ _ _ _ _ hrows
            refine ⟨resAV (toRVs (rkey dst) (T.sig f).res y), us.map fun p => .row p.1 p.2, ?_, ?_, fun σ2 hav hk => ?_⟩
            · rw [app_rows, h3]
            · intro u hu
              obtain ⟨p, hp, rfl⟩ := List.mem_map.1 hu
              simp only [wrOf, TU.key, TU.fits, wrKeys, List.mem_append, List.mem_map]
              exact ⟨.inl ⟨p.1, h4 p hp, rfl⟩, .inl (.inr ⟨p.1, h4 p hp, rfl⟩)⟩
            · have hany := any_own (σ2 := σ2) (σ := σ) (hargs σ2 hav)
              rw [ho] at hany
              have hmap : args.toList.map σ2.av = args.toList.map σ.av := List.map_congr_left (hargs σ2 hav)
              have hn := h5 σ2.rows (fun k hk' => sameRow (hk (4 * k) (.inr (by simp only [wrOf, wrKeys, List.mem_append, List.mem_map]; exact .inl ⟨k, hk', rfl⟩))))
              rw [hdef, frzs_id _ hany, hmap, hx, hany]
              simp only [hy, Option.bind_some, hn, cond_false, app_rows]
          · cases h2
        · cases he
    cases callee with
    | value f =>
      cases f with
      | func f => exact gen f rfl (fun σ => rfl)
      | tmp t => exact local_pure idF he hc (fun σ2 hav => rfl)
      | const v => exact local_pure idF he hc (fun σ2 hav => rfl)
      | global g => exact local_pure idF he hc (fun σ2 hav => rfl)
    | invoke r m => exact local_pure idF he hc (fun σ2 hav => rfl)
    | builtin b =>
      cases b
      case append =>
        refine absurd ?_ hc
        simp only [doOp] at he
        split at he
        · rename_i s x t tx h1 h2
          cases htt : Nat.beq t tx <;> simp only [htt, cond_true, cond_false, reduceCtorEq] at he
          split at he
          · rename_i u e bytes hel
            split at he
            · rename_i r hr
              split at he
              · rename_i row hrow
                split at he
                · rename_i ys hys
                  cases hb : (Nat.beq row.e e && Nat.beq row.t.size u.size && okApp bytes u.size row.xs.length ys.length) <;> simp only [hb, cond_true, cond_false, reduceCtorEq] at he
                  exact addRow_cls he
                · cases he
              · cases he
            · split at he
              · rename_i ys hys
                cases hb : okApp bytes u.size 0 ys.length <;> simp only [hb, cond_true, cond_false, reduceCtorEq] at he
                exact addRow_cls he
              · cases he
            · cases he
          · cases he
        · cases he
      all_goals exact local_pure idF he hc (fun σ2 hav => rfl)
  all_goals
    refine local_pure idF he hc (fun σ2 hav => rfl)
end
end Go.Abs
set_option linter.unusedVariables false
set_option linter.unusedSimpArgs false
namespace Go.Abs
open Go.RowKit Go.Lib

section
variable {P : Program} {T : Tab} {V0 : View} {w0 w w' : World} {σ σ1 σ2 : AS} {a : Act} {ρ : Nat → Value} {β : Nat → Nat}
variable {Φ : (f : FuncId) → DenL (T.sig f).args → Option (DenL ((T.sig f).res.map (·.1)))} {ops : Array Oper}

theorem nth_setN_ne (l : Slots) (t d : Nat) (v : AV) (h : t ≠ d) : nth (setN l d v) t = nth l t := by
  unfold setN
  cases Nat.blt d l.n with
  | true => simp only [cond_true, nth, look_putD, if_neg (Ne.symm h)]
  | false => rfl

theorem putD_comm {α : Type} (l : List (Nat × α)) {i j : Nat} (u v : α) (h : i ≠ j) : putD (putD l i u) j v = putD (putD l j v) i u := by
  have blt_t : ∀ {a b : Nat}, a < b → Nat.blt a b = true := fun h => (blt_iff _ _).2 h
  have blt_f : ∀ {a b : Nat}, ¬ a < b → Nat.blt a b = false := fun h => by
    cases hb : Nat.blt _ _
    · rfl
    · exact absurd ((blt_iff _ _).1 hb) h
  induction l with
  | nil =>
    rcases Nat.lt_or_gt_of_ne h with h1 | h1
    · simp [putD, blt_t h1, blt_f (show ¬ j < i by omega), beq_ne (Ne.symm h)]
    · simp [putD, blt_t h1, blt_f (show ¬ i < j by omega), beq_ne h]
  | cons p r ih =>
    obtain ⟨k, x⟩ := p
    rcases Nat.lt_trichotomy k i with h1 | h1 | h1 <;> rcases Nat.lt_trichotomy k j with h2 | h2 | h2 <;> rcases Nat.lt_or_gt_of_ne h with h3 | h3 <;>
      first
      | omega
      | (try subst h1
         try subst h2
         simp (disch := omega) [putD, blt_t, blt_f, beq_ne, beq_refl, ih])

theorem setN_comm (l : Slots) (i j : Nat) (u v : AV) (h : i ≠ j) : setN (setN l i u) j v = setN (setN l j v) i u := by
  unfold setN
  cases hi : Nat.blt i l.n <;> cases hj : Nat.blt j l.n <;> simp [hi, hj]
  exact putD_comm _ _ _ h

theorem setD_id {α : Type} : ∀ {l : List (Nat × α)} {t : Nat} {x : α}, look l t = some x → setD l t x = l
  | [], _, _, h => by cases h
  | (k, u) :: r, t, x, h => by
    simp only [look] at h
    simp only [setD]
    cases hb : Nat.beq k t with
    | true => rw [hb] at h; have e : u = x := by simpa using h
              subst e; rfl
    | false => rw [hb] at h; simp only [cond_false]; rw [setD_id h]

theorem setb_id {t : Nat} {b : Bool} (h : nth σ.tmps t = .rv (.cv ⟨.bool, b⟩)) : σ.setb t b = σ := by
  unfold AS.setb
  have : look σ.tmps.l t = some (.rv (.cv ⟨.bool, b⟩)) := by
    unfold nth at h
    split at h
    · rename_i x hx; rw [hx, h]
    · cases h
  rw [setD_id this]

theorem evOp_none {R : Type} {o : Oper} (hg : o.guard = none) (k : Cls → AS → Option R) : evOp T Φ ops σ o k = doOp T Φ σ o k := by
  unfold evOp; rw [hg]

theorem evOp_bool {R : Type} {o : Oper} {j t : Nat} {want b : Bool} (hg : o.guard = some (j, want)) (ht : (ops[j]?).bind (·.dst) = some t) (hb : nth σ.tmps t = .rv (.cv ⟨.bool, b⟩)) (k : Cls → AS → Option R) :
    evOp T Φ ops σ o k = if b = want then doOp T Φ σ o k else k .S (σ.putd o.dst (.lit undef)) := by
  unfold evOp
  simp only [hg, ht, hb]
  cases b <;> cases want <;> simp [setb_id hb]

theorem evOp_tup {R : Type} {o : Oper} {j t : Nat} {want : Bool} {vs : Array Value} (hg : o.guard = some (j, want)) (ht : (ops[j]?).bind (·.dst) = some t) (hb : nth σ.tmps t = .lit (.tuple vs)) (k : Cls → AS → Option R) :
    evOp T Φ ops σ o k = k .S (σ.putd o.dst (.lit undef)) := by
  unfold evOp
  simp only [hg, ht, hb]

theorem evOp_other {R : Type} {o : Oper} {j : Nat} {want : Bool} (hg : o.guard = some (j, want)) (h : ∀ t, (ops[j]?).bind (·.dst) = some t → (∀ b, nth σ.tmps t ≠ .rv (.cv ⟨.bool, b⟩)) ∧ ∀ vs, nth σ.tmps t ≠ .lit (.tuple vs)) (k : Cls → AS → Option R) :
    evOp T Φ ops σ o k = none := by
  unfold evOp
  rw [hg]
  simp only
  split
  · rename_i t ht
    obtain ⟨h1, h2⟩ := h t ht
    split
    · rename_i b hb; exact absurd hb (h1 b)
    · rename_i vs hb; exact absurd hb (h2 vs)
    · rfl
  · rfl

/-- The ways an operation goes: done, or not wanted. -/
def Way (T : Tab) (Φ : (f : FuncId) → DenL (T.sig f).args → Option (DenL ((T.sig f).res.map (·.1)))) (ops : Array Oper) (o : Oper) (σ : AS) (run : Bool) : Prop :=
  match o.guard with
  | none => run = true
  | some (j, want) => ∃ t, (ops[j]?).bind (·.dst) = some t ∧ ((∃ b, nth σ.tmps t = .rv (.cv ⟨.bool, b⟩) ∧ run = (b == want)) ∨ (∃ vs, nth σ.tmps t = .lit (.tuple vs) ∧ run = false))

theorem way_eq {R : Type} {o : Oper} {run : Bool} (h : Way T Φ ops o σ run) (k : Cls → AS → Option R) : evOp T Φ ops σ o k = if run then doOp T Φ σ o k else k .S (σ.putd o.dst (.lit undef)) := by
  unfold Way at h
  split at h
  · rename_i hg; subst h; rw [evOp_none hg]; rfl
  · rename_i j want hg
    obtain ⟨t, ht, ⟨b, hb, rfl⟩ | ⟨vs, hb, rfl⟩⟩ := h
    · rw [evOp_bool hg ht hb]; cases b <;> cases want <;> rfl
    · rw [evOp_tup hg ht hb]; rfl

theorem way_of {R : Type} {o : Oper} {k : Cls → AS → Option R} {r : R} (h : evOp T Φ ops σ o k = some r) : ∃ run, Way T Φ ops o σ run := by
  cases hg : o.guard with
  | none => exact ⟨true, by unfold Way; rw [hg]⟩
  | some p =>
    obtain ⟨j, want⟩ := p
    by_cases hx : ∃ t, (ops[j]?).bind (·.dst) = some t ∧ ((∃ b, nth σ.tmps t = .rv (.cv ⟨.bool, b⟩)) ∨ ∃ vs, nth σ.tmps t = .lit (.tuple vs))
    · obtain ⟨t, ht, ⟨b, hb⟩ | ⟨vs, hb⟩⟩ := hx
      · exact ⟨b == want, by unfold Way; rw [hg]; exact ⟨t, ht, .inl ⟨b, hb, rfl⟩⟩⟩
      · exact ⟨false, by unfold Way; rw [hg]; exact ⟨t, ht, .inr ⟨vs, hb, rfl⟩⟩⟩
    · rw [evOp_other hg (fun t ht => ⟨fun b hb => hx ⟨t, ht, .inl ⟨b, hb⟩⟩, fun vs hb => hx ⟨t, ht, .inr ⟨vs, hb⟩⟩⟩)] at h
      cases h

def Tr (T : Tab) (Φ : (f : FuncId) → DenL (T.sig f).args → Option (DenL ((T.sig f).res.map (·.1)))) (ops : Array Oper) (o : Oper) (σ : AS) (c : Cls) (σ' : AS) : Prop :=
  ∃ run, Way T Φ ops o σ run ∧ (if run then doOp T Φ σ o (fun c s => some (c, s)) = some (c, σ') else c = .S ∧ σ' = σ.putd o.dst (.lit undef))

theorem evOp_tr {R : Type} {o : Oper} {k : Cls → AS → Option R} {r : R} (h : evOp T Φ ops σ o k = some r) : ∃ c σ', Tr T Φ ops o σ c σ' ∧ k c σ' = some r := by
  obtain ⟨run, hw⟩ := way_of h
  rw [way_eq hw] at h
  cases run with
  | true =>
    simp only [if_true] at h
    rw [doOp_nat] at h
    obtain ⟨p, hp, h2⟩ := Option.bind_eq_some_iff.1 h
    exact ⟨p.1, p.2, ⟨true, hw, by simpa using hp⟩, h2⟩
  | false => exact ⟨.S, _, ⟨false, hw, rfl, rfl⟩, h⟩

theorem tr_local {o : Oper} {c : Cls} {σ' : AS} (h : Tr T Φ ops o σ c σ') (hc : c ≠ .X) : ∃ v us, σ' = (σ.app us).putd o.dst v ∧ (∀ u ∈ us, u.key ∈ wrOf c ∧ u.fits σ c) ∧
    ∀ σ2 : AS, (∀ t ∈ o.looksAt ops, nth σ2.tmps t = nth σ.tmps t) → (∀ k, k ∈ rdOf c ∨ k ∈ wrOf c → SameAt σ σ2 k) → Tr T Φ ops o σ2 c ((σ2.app us).putd o.dst v) := by
  obtain ⟨run, hw, h⟩ := h
  have hway : ∀ σ2 : AS, (∀ t ∈ o.looksAt ops, nth σ2.tmps t = nth σ.tmps t) → Way T Φ ops o σ2 run := fun σ2 hs => by
    unfold Way at hw ⊢
    cases hg : o.guard with
    | none => simp only [hg] at hw; exact hw
    | some p =>
      obtain ⟨j, want⟩ := p
      simp only [hg] at hw
      obtain ⟨t, ht, hor⟩ := hw
      have := hs t (by simp [Oper.looksAt, hg, ht])
      exact ⟨t, ht, by rw [this]; exact hor⟩
  cases run with
  | true =>
    simp only [if_true] at h
    obtain ⟨v, us, h1, h2, h3⟩ := do_local h hc
    refine ⟨v, us, h1, h2, fun σ2 hs hk => ?_⟩
    have hop : ∀ x ∈ o.op.operands, σ2.av x = σ.av x := by
      intro x hx
      cases x with
      | tmp t => exact hs t (by simp only [Oper.looksAt, List.mem_append, List.mem_filterMap]; exact .inl ⟨.tmp t, by simpa using hx, rfl⟩)
      | const v => rfl
      | global g => rfl
      | func f => rfl
    exact ⟨true, hway σ2 hs, by simpa using h3 σ2 hop hk⟩
  | false =>
    obtain ⟨rfl, rfl⟩ := h
    exact ⟨.lit undef, [], rfl, (fun u hu => by cases hu), fun σ2 hs hk => ⟨false, hway σ2 hs, rfl, rfl⟩⟩

theorem app_putd : ∀ (us : List TU) (σ : AS) (d : Option Tmp) (v : AV), (σ.putd d v).app us = (σ.app us).putd d v
  | [], σ, d, v => rfl
  | u :: us, σ, d, v => by
    have : (σ.putd d v).one u = (σ.one u).putd d v := by cases u <;> cases d <;> rfl
    rw [AS.app, this, app_putd us]; rfl

theorem one_same {u : TU} {k : Nat} (h : u.key ≠ k) (hl : ∀ q r, u = .row q r → k = 4 * q + 2 → (look σ.rows q).map (fun row => row.xs.length) = some r.xs.length) : SameAt σ (σ.one u) k := by
  cases u with
  | row q r =>
    refine ⟨fun r' e => ?_, fun b e => rfl, fun r' e => ?_⟩
    · simp only [AS.one, look_put]
      rw [if_neg]
      intro e'; apply h; simp [TU.key, e, e']
    · simp only [AS.one, look_put]
      split
      · rename_i e'
        subst e'
        exact (hl q r rfl e).symm
      · rfl
  | box q cs =>
    refine ⟨fun r' e => rfl, fun b e => ?_, fun r' e => rfl⟩
    simp only [AS.one, look_put]
    rw [if_neg]
    intro e'; apply h; simp [TU.key, e, e']

theorem SameAt.trans {σ σ1 σ2 : AS} {k : Nat} (h1 : SameAt σ σ1 k) (h2 : SameAt σ1 σ2 k) : SameAt σ σ2 k :=
  ⟨fun r e => (h2.1 r e).trans (h1.1 r e), fun b e => (h2.2.1 b e).trans (h1.2.1 b e), fun r e => (h2.2.2 r e).trans (h1.2.2 r e)⟩
theorem SameAt.symm {σ σ1 : AS} {k : Nat} (h1 : SameAt σ σ1 k) : SameAt σ1 σ k := ⟨fun r e => (h1.1 r e).symm, fun b e => (h1.2.1 b e).symm, fun r e => (h1.2.2 r e).symm⟩

theorem app_same : ∀ (us : List TU) (σ : AS) (k : Nat), (∀ u ∈ us, u.key ≠ k) → (∀ u ∈ us, ∀ q r, u = TU.row q r → k = 4 * q + 2 → (look σ.rows q).map (fun row => row.xs.length) = some r.xs.length) → SameAt σ (σ.app us) k
  | [], σ, k, h, hl => ⟨fun _ _ => rfl, fun _ _ => rfl, fun _ _ => rfl⟩
  | u :: us, σ, k, h, hl => by
    have h1 := one_same (σ := σ) (h u (by simp)) (hl u (by simp))
    exact h1.trans (app_same us (σ.one u) k (fun v hv => h v (by simp [hv])) (fun v hv q r e ek => (h1.2.2 q ek).trans (hl v (by simp [hv]) q r e ek)))

theorem one_comm {u v : TU} (h : u.key ≠ v.key) : (σ.one u).one v = (σ.one v).one u := by
  cases u with
  | row q r =>
    cases v with
    | row q' r' => simp only [AS.one]; rw [put_comm _ _ _ (fun e => h (by simp [TU.key, e]))]
    | box q' cs => rfl
  | box q cs =>
    cases v with
    | row q' r' => rfl
    | box q' cs' => simp only [AS.one]; rw [put_comm _ _ _ (fun e => h (by simp [TU.key, e]))]

theorem app_one : ∀ (us : List TU) (σ : AS) (u : TU), (∀ v ∈ us, u.key ≠ v.key) → (σ.one u).app us = (σ.app us).one u
  | [], σ, u, h => rfl
  | v :: us, σ, u, h => by
    rw [AS.app, one_comm (h v (by simp)), app_one us (σ.one v) u (fun x hx => h x (by simp [hx]))]; rfl

theorem app_comm : ∀ (us vs : List TU) (σ : AS), (∀ u ∈ us, ∀ v ∈ vs, u.key ≠ v.key) → (σ.app us).app vs = (σ.app vs).app us
  | [], vs, σ, h => rfl
  | u :: us, vs, σ, h => by
    rw [AS.app, app_comm us vs (σ.one u) (fun x hx v hv => h x (by simp [hx]) v hv), app_one vs σ u (fun v hv => h u (by simp) v hv)]; rfl

theorem putd_comm {σ : AS} {d d' : Option Tmp} {u v : AV} (h : ∀ x, d = some x → d' ≠ some x) : (σ.putd d u).putd d' v = (σ.putd d' v).putd d u := by
  cases d with
  | none => cases d' <;> rfl
  | some x =>
    cases d' with
    | none => rfl
    | some y =>
      simp only [AS.putd]
      rw [setN_comm _ _ _ _ _ (fun e => h x rfl (by rw [e]))]

theorem meets_false {a b : List Nat} (h : meets a b = false) : ∀ x ∈ a, ∀ y ∈ b, x ≠ y := by
  intro x hx y hy e
  have : meets a b = true := by
    unfold meets
    rw [List.any_eq_true]
    exact ⟨x, hx, by rw [List.any_eq_true]; exact ⟨y, hy, (beq_iff _ _).2 e⟩⟩
  rw [this] at h; cases h

theorem noConf_spec {c1 c2 : Cls} (h : noConf c1 c2 = true) : c1 ≠ .X ∧ c2 ≠ .X ∧ (∀ x ∈ wrOf c1, ∀ y, y ∈ rdOf c2 ∨ y ∈ wrOf c2 → x ≠ y) ∧ (∀ x ∈ wrOf c2, ∀ y, y ∈ rdOf c1 ∨ y ∈ wrOf c1 → x ≠ y) := by
  cases c1 with
  | X => simp [noConf] at h
  | S =>
    cases c2 with
    | X => simp [noConf] at h
    | S => exact ⟨by simp, by simp, by simp [wrOf], by simp [wrOf]⟩
    | M r w => exact ⟨by simp, by simp, by simp [wrOf], by simp [wrOf, rdOf]⟩
  | M r w =>
    cases c2 with
    | X => simp [noConf] at h
    | S => exact ⟨by simp, by simp, by simp [wrOf, rdOf], by simp [wrOf]⟩
    | M r' w' =>
      simp only [noConf, Bool.not_eq_true', Bool.or_eq_false_iff] at h
      obtain ⟨⟨h1, h2⟩, h3⟩ := h
      refine ⟨by simp, by simp, fun x hx y hy => ?_, fun x hx y hy => ?_⟩
      · rcases hy with hy | hy
        · exact meets_false h1 x hx y hy
        · exact meets_false h2 x hx y hy
      · rcases hy with hy | hy
        · exact fun e => meets_false h3 y hy x hx e.symm
        · exact fun e => meets_false h2 y hy x hx e.symm

theorem nth_putd {σ : AS} {d : Option Tmp} {v : AV} {t : Nat} (h : d ≠ some t) : nth (σ.putd d v).tmps t = nth σ.tmps t := by
  cases d with
  | none => rfl
  | some d => exact nth_setN_ne _ _ _ _ (fun e => h (by rw [e]))

/-- Two operations that do not touch each other's things change places. -/
theorem tr_comm {o1 o2 : Oper} {c1 c2 : Cls} (h1 : Tr T Φ ops o1 σ c1 σ1) (h2 : Tr T Φ ops o2 σ1 c2 σ2) (ha : o1.apart ops o2 = true) (hn : noConf c1 c2 = true) :
    ∃ σ1', Tr T Φ ops o2 σ c2 σ1' ∧ Tr T Φ ops o1 σ1' c1 σ2 := by
  obtain ⟨n1, n2, n3, n4⟩ := noConf_spec hn
  obtain ⟨v1, us1, rfl, k1, l1⟩ := tr_local h1 n1
  obtain ⟨v2, us2, rfl, k2, l2⟩ := tr_local h2 n2
  obtain ⟨p1, p2, p3⟩ := Oper.apart_spec ha
  have e2 := l2 σ (fun t ht => by
      rw [nth_putd (fun e => p1 t e ht), app_tmps]) (fun k hk => by
      have s1 := app_same us1 σ k (fun u hu => n3 _ (k1 u hu).1 k hk) (fun u hu q r e ek => by
        have h := (k1 u hu).2
        subst e
        rcases h with h | h
        · exact absurd ek.symm (n3 _ h k hk)
        · exact h)
      have s2 : SameAt (σ.app us1) ((σ.app us1).putd o1.dst v1) k := ⟨fun _ _ => by rw [putd_rows], fun _ _ => by rw [putd_boxes], fun _ _ => by rw [putd_rows]⟩
      exact (s1.trans s2).symm)
  refine ⟨_, e2, ?_⟩
  have e1 := l1 ((σ.app us2).putd o2.dst v2) (fun t ht => by
      rw [nth_putd (fun e => p3 t e ht), app_tmps]) (fun k hk => by
      have s1 := app_same us2 σ k (fun u hu => n4 _ (k2 u hu).1 k hk) (fun u hu q r e ek => by
        obtain ⟨hw, h⟩ := k2 u hu
        subst e
        rcases h with h | h
        · exact absurd ek.symm (n4 _ h k hk)
        · rw [putd_rows] at h
          have h4 := app_same us1 σ (4 * q) (fun v hv ev => n3 _ (k1 v hv).1 (4 * q) (.inr hw) ev) (fun v hv q' r' e' ek' => by omega)
          rw [h4.1 q rfl] at h
          exact h)
      have s2 : SameAt (σ.app us2) ((σ.app us2).putd o2.dst v2) k := ⟨fun _ _ => by rw [putd_rows], fun _ _ => by rw [putd_boxes], fun _ _ => by rw [putd_rows]⟩
      exact s1.trans s2)
  rw [app_putd, app_comm us2 us1 σ (fun u hu v hv => n4 _ (k2 u hu).1 _ (.inr (k1 v hv).1))] at e1
  rw [app_putd, putd_comm (fun x e => p2 x e)]
  exact e1
end
end Go.Abs
set_option linter.unusedVariables false
set_option linter.unusedSimpArgs false
namespace Go.Abs
open Go.RowKit Go.Lib

section
variable {P : Program} {T : Tab} {V0 : View} {w0 w w' : World} {σ σ1 σ2 σe : AS} {a : Act} {ρ : Nat → Value} {β : Nat → Nat}
variable {Φ : (f : FuncId) → DenL (T.sig f).args → Option (DenL ((T.sig f).res.map (·.1)))} {ops : Array Oper} {Q : Exit → Act → World → Prop}

theorem getD_some {l : Array Value} {t : Nat} {v : Value} (h : l.toList.getD t undef = v) (hv : v ≠ undef) : l[t]? = some v := by
  simp only [List.getD_eq_getElem?_getD, Array.getElem?_toList] at h
  cases hl : l[t]? with
  | none => rw [hl] at h; exact absurd h.symm hv
  | some u => rw [hl] at h; simpa using h

theorem way_wanted (h : St V0 w0 σ a w ρ β) {o : Oper} {run : Bool} (hw : Way T Φ ops o σ run) : Region.wanted o (yielded ops a.tmps) = run := by
  unfold Way at hw
  unfold Region.wanted
  cases hg : o.guard with
  | none => simp only [hg] at hw ⊢; exact hw.symm
  | some p =>
    obtain ⟨j, want⟩ := p
    simp only [hg] at hw ⊢
    obtain ⟨t, ht, ⟨b, hb, rfl⟩ | ⟨vs, hb, rfl⟩⟩ := hw
    · have hr := nth_rel (fun v => by trivial) h.slots t
      rw [hb] at hr
      have h1 : a.tmps.toList.getD t undef = .bool b := lrel_bool (V := St.V V0 w0 σ w ρ β) hr
      have h2 := getD_some h1 (by intro e; cases e)
      unfold yielded
      rw [ht]
      simp [h2]
    · have hr := nth_rel (fun v => by trivial) h.slots t
      rw [hb] at hr
      have h1 : a.tmps.toList.getD t undef = .tuple vs := hr
      unfold yielded
      rw [ht]
      simp only [Option.bind_some]
      cases hl : a.tmps[t]? with
      | none => rfl
      | some u =>
        have : u = .tuple vs := by
          simp only [List.getD_eq_getElem?_getD, Array.getElem?_toList, hl] at h1
          simpa using h1
        subst this
        rfl

theorem tr_sound (hV0 : ∀ ad v, V0 ad v → w0.cell? ad = some v) (hT : TabOk P T.rows) (hΦ : FnOk P T Φ) (h : St V0 w0 σ a w ρ β) {i : Nat} {o : Oper} (ho : ops[i]? = some o) {c : Cls} {σ' : AS} (ht : Tr T Φ ops o σ c σ')
    {K : Act → World → Prop} (hK : ∀ a' w', To V0 w0 σ' a' w' → K a' w') : wpOp P ops Q i K a w := by
  obtain ⟨run, hw, ht⟩ := ht
  unfold wpOp
  rw [ho]
  simp only [way_wanted h hw]
  cases run with
  | true =>
    simp only [if_true] at ht ⊢
    exact .inl (doOp_sound hV0 hT hΦ h ht K Q hK)
  | false =>
    obtain ⟨rfl, rfl⟩ := ht
    exact hK _ _ ⟨ρ, β, h.slot rfl⟩

def RunE (T : Tab) (Φ : (f : FuncId) → DenL (T.sig f).args → Option (DenL ((T.sig f).res.map (·.1)))) (ops : Array Oper) : List (Nat × Oper × Cls) → AS → AS → Prop
  | [], σ, σe => σe = σ
  | (_, o, c) :: r, σ, σe => ∃ σ1, Tr T Φ ops o σ c σ1 ∧ RunE T Φ ops r σ1 σe

/-- The operations with their numbers and classes. -/
def ents : Nat → List Oper → List Cls → List (Nat × Oper × Cls)
  | i, o :: l, c :: cs => (i, o, c) :: ents (i + 1) l cs
  | _, _, _ => []

theorem evOps_run {R : Type} : ∀ (l : List Oper) (i : Nat) (σ : AS) (cs : List Cls) (k : List Cls → AS → Option R) (r : R), evOps T Φ ops l σ cs k = some r →
    ∃ (t : List Cls) (σe : AS), t.length = l.length ∧ RunE T Φ ops (ents i l t) σ σe ∧ k (t.reverse ++ cs) σe = some r
  | [], i, σ, cs, k, r, h => ⟨[], σ, rfl, rfl, h⟩
  | o :: l, i, σ, cs, k, r, h => by
    obtain ⟨c, σ1, h1, h2⟩ := evOp_tr h
    obtain ⟨t, σe, h3, h4, h5⟩ := evOps_run l (i + 1) σ1 (c :: cs) k r h2
    exact ⟨c :: t, σe, by simp [h3], ⟨σ1, h1, h4⟩, by simpa using h5⟩

theorem ents_mem : ∀ (l : List Oper) (i : Nat) (t : List Cls) (x : Nat × Oper × Cls), x ∈ ents i l t → i ≤ x.1 ∧ l[x.1 - i]? = some x.2.1 ∧ t[x.1 - i]? = some x.2.2
  | [], i, t, x, h => by simp [ents] at h
  | o :: l, i, [], x, h => by simp [ents] at h
  | o :: l, i, c :: t, x, h => by
    simp only [ents, List.mem_cons] at h
    rcases h with rfl | h
    · exact ⟨Nat.le_refl _, by simp, by simp⟩
    · obtain ⟨h1, h2, h3⟩ := ents_mem l (i + 1) t x h
      have : x.1 - i = (x.1 - (i + 1)) + 1 := by omega
      exact ⟨by omega, by rw [this]; simpa using h2, by rw [this]; simpa using h3⟩

theorem ents_get : ∀ (l : List Oper) (i : Nat) (t : List Cls), t.length = l.length → ∀ p o, l[p]? = some o → ∃ c, (i + p, o, c) ∈ ents i l t
  | [], i, t, ht, p, o, h => by simp at h
  | o' :: l, i, [], ht, p, o, h => by simp at ht
  | o' :: l, i, c :: t, ht, 0, o, h => by
    simp at h; subst h
    exact ⟨c, by simp [ents]⟩
  | o' :: l, i, c :: t, ht, p + 1, o, h => by
    obtain ⟨c', h1⟩ := ents_get l (i + 1) t (by simpa using ht) p o (by simpa using h)
    refine ⟨c', ?_⟩
    simp only [ents, List.mem_cons]
    right
    have : i + (p + 1) = i + 1 + p := by omega
    rw [this]; exact h1

theorem ents_len : ∀ (l : List Oper) (i : Nat) (t : List Cls), (ents i l t).length ≤ l.length
  | [], i, t => by simp [ents]
  | o :: l, i, [] => by simp [ents]
  | o :: l, i, c :: t => by simp [ents, ents_len l (i + 1) t]

theorem ents_sorted : ∀ (l : List Oper) (i : Nat) (t : List Cls), (ents i l t).Pairwise fun x y => x.1 < y.1
  | [], i, t => by simp [ents]
  | o :: l, i, [] => by simp [ents]
  | o :: l, i, c :: t => by
    simp only [ents, List.pairwise_cons]
    exact ⟨fun y hy => by have := (ents_mem l (i + 1) t y hy).1; show i < y.1; omega, ents_sorted l (i + 1) t⟩

/-! ### In the order of the text -/
theorem run_text (hV0 : ∀ ad v, V0 ad v → w0.cell? ad = some v) (hT : TabOk P T.rows) (hΦ : FnOk P T Φ) : ∀ (l pre : List Oper) (t : List Cls) (σ : AS) (a : Act) (w : World) (ρ : Nat → Value) (β : Nat → Nat), ops.toList = pre ++ l → t.length = l.length →
    St V0 w0 σ a w ρ β → RunE T Φ ops (ents pre.length l t) σ σe → (∀ a' w', To V0 w0 σe a' w' → Q .normal a' w') → wpOps P ops Q (List.range' pre.length l.length) a w
  | [], pre, t, σ, a, w, ρ, β, hop, ht, h, hr, hQ => by
    have : σe = σ := by cases t <;> exact hr
    subst this
    exact hQ _ _ ⟨ρ, β, h⟩
  | o :: l, pre, [], σ, a, w, ρ, β, hop, ht, h, hr, hQ => by simp at ht
  | o :: l, pre, c :: t, σ, a, w, ρ, β, hop, ht, h, hr, hQ => by
    obtain ⟨σ1, h1, h2⟩ := hr
    rw [List.length_cons, List.range'_succ, wpOps_cons]
    have ho : ops[pre.length]? = some o := by
      rw [← Array.getElem?_toList, hop]; simp
    refine tr_sound hV0 hT hΦ h ho h1 (fun a' w' ⟨ρ', β', h'⟩ => ?_)
    have := run_text hV0 hT hΦ l (pre ++ [o]) t σ1 a' w' ρ' β' (by rw [hop]; simp) (by simpa using ht) h' (by simpa using h2) hQ
    simpa using this

/-! ### In any order -/
theorem run_front : ∀ (L1 L2 : List (Nat × Oper × Cls)) (x : Nat × Oper × Cls) (σ : AS), RunE T Φ ops (L1 ++ x :: L2) σ σe → (∀ y ∈ L1, y.2.1.apart ops x.2.1 = true ∧ noConf y.2.2 x.2.2 = true) →
    ∃ σ1, Tr T Φ ops x.2.1 σ x.2.2 σ1 ∧ RunE T Φ ops (L1 ++ L2) σ1 σe
  | [], L2, x, σ, h, _ => h
  | y :: L1, L2, x, σ, h, hy => by
    obtain ⟨σ1, h1, h2⟩ := h
    obtain ⟨σ2, h3, h4⟩ := run_front L1 L2 x σ1 h2 (fun z hz => hy z (by simp [hz]))
    obtain ⟨p1, p2⟩ := hy y (by simp)
    obtain ⟨σ1', h5, h6⟩ := tr_comm h1 h3 p1 p2
    exact ⟨σ1', h5, σ2, h6, h4⟩

theorem run_any (hV0 : ∀ ad v, V0 ad v → w0.cell? ad = some v) (hT : TabOk P T.rows) (hΦ : FnOk P T Φ) {A : Nat → Nat} (hQ : ∀ a' w', To V0 w0 σe a' w' → Q .normal a' w')
    (hdep : ∀ j o, ops[j]? = some o → ∀ e ∈ o.after, Region.binds .any e = true → e.on < j)
    (hanc : ∀ j o i, ops[j]? = some o → (A j).testBit i = true → ∃ e ∈ o.after, Region.binds .any e = true ∧ (i = e.on ∨ (A e.on).testBit i = true)) :
    ∀ (fuel : Nat) (L : List (Nat × Oper × Cls)) (listed : Array Bool) (σ : AS) (a : Act) (w : World) (ρ : Nat → Value) (β : Nat → Nat),
      (∀ x ∈ L, ops[x.1]? = some x.2.1) → (∀ i, i < ops.size → (listed.getD i true = false ↔ ∃ x ∈ L, x.1 = i)) → listed.size = ops.size →
      (∀ m om, listed.getD m false = true → ops[m]? = some om → ∀ e ∈ om.after, Region.binds .any e = true → listed.getD e.on false = true) →
      L.Pairwise (fun x y => x.1 < y.1) → L.Pairwise (fun x y => (A y.1).testBit x.1 = true ∨ (x.2.1.apart ops y.2.1 = true ∧ noConf x.2.2 y.2.2 = true)) →
      RunE T Φ ops L σ σe → St V0 w0 σ a w ρ β → L.length ≤ fuel → wpAny P .any ops Q fuel listed a w := by
  intro fuel
  induction fuel with
  | zero =>
    intro L listed σ a w ρ β hL hlist hsz hcl hsort hpair hrun h hf
    have hL0 : L = [] := List.eq_nil_of_length_eq_zero (by omega)
    subst hL0
    have hr : σe = σ := hrun
    subst hr
    refine ⟨?_, hQ _ _ ⟨ρ, β, h⟩⟩
    apply List.eq_nil_iff_forall_not_mem.2
    intro i hi
    obtain ⟨h1, o, ho, _⟩ := mem_ready.1 hi
    obtain ⟨x, hx, _⟩ := (hlist i (Array.getElem?_eq_some_iff.1 ho).1).1 h1
    cases hx
  | succ fuel ih =>
    intro L listed σ a w ρ β hL hlist hsz hcl hsort hpair hrun h hf
    have getDd : ∀ i, i < ops.size → listed.getD i true = listed.getD i false := fun i hi => by
      simp [Array.getD, hsz, hi]
    refine ⟨fun hemp => ?_, fun i hi => ?_⟩
    · cases L with
      | nil =>
        have hr : σe = σ := hrun
        subst hr
        exact hQ _ _ ⟨ρ, β, h⟩
      | cons x L =>
        exfalso
        have hox := hL x (by simp)
        have hlt := (Array.getElem?_eq_some_iff.1 hox).1
        have : x.1 ∈ Region.ready .any ops listed := by
          refine mem_ready.2 ⟨(hlist x.1 hlt).2 ⟨x, by simp, rfl⟩, x.2.1, hox, fun e he hb => ?_⟩
          have h1 := hdep x.1 x.2.1 hox e he hb
          have h2 : ¬ listed.getD e.on true = false := fun hf' => by
            obtain ⟨y, hy, hye⟩ := (hlist e.on (by omega)).1 hf'
            rcases List.mem_cons.1 hy with rfl | hy
            · omega
            · have := (List.pairwise_cons.1 hsort).1 y hy; omega
          rw [← getDd e.on (by omega)]
          cases hb' : listed.getD e.on true
          · exact absurd hb' h2
          · rfl
        rw [hemp] at this; cases this
    · obtain ⟨h1, o, ho, hall⟩ := mem_ready.1 hi
      have hlt := (Array.getElem?_eq_some_iff.1 ho).1
      obtain ⟨x, hx, rfl⟩ := (hlist i hlt).1 h1
      obtain ⟨L1, L2, rfl⟩ := List.append_of_mem hx
      have hox := hL x hx
      rw [ho] at hox
      have hoe : o = x.2.1 := by simpa using hox
      -- what stands before x is done
      have hclos : ∀ j, j ≤ x.1 → ∀ oj, ops[j]? = some oj → (∀ e ∈ oj.after, Region.binds .any e = true → listed.getD e.on false = true) → ∀ i, (A j).testBit i = true → listed.getD i false = true := by
        intro j
        induction j using Nat.strongRecOn with
        | _ j ihj =>
          intro hj oj hoj hdeps i hi'
          obtain ⟨e, he, hb, h2⟩ := hanc j oj i hoj hi'
          have hd := hdeps e he hb
          rcases h2 with rfl | h2
          · exact hd
          · have hlt2 := hdep j oj hoj e he hb
            have hlt3 : e.on < ops.size := by have := (Array.getElem?_eq_some_iff.1 hoj).1; omega
            exact ihj e.on hlt2 (by omega) ops[e.on] (Array.getElem?_eq_getElem hlt3) (hcl e.on _ hd (Array.getElem?_eq_getElem hlt3)) i h2
      have hfree : ∀ y ∈ L1, y.2.1.apart ops x.2.1 = true ∧ noConf y.2.2 x.2.2 = true := fun y hy => by
        have h2 := (List.pairwise_append.1 hpair).2.2 y hy x (by simp)
        rcases h2 with h2 | h2
        · exfalso
          have h3 := hclos x.1 (Nat.le_refl _) o ho hall y.1 h2
          have hylt := (Array.getElem?_eq_some_iff.1 (hL y (by simp [hy]))).1
          have h4 := (hlist y.1 hylt).2 ⟨y, by simp [hy], rfl⟩
          rw [getDd y.1 hylt, h3] at h4
          cases h4
        · exact h2
      obtain ⟨σ1, ht, hrun'⟩ := run_front L1 L2 x σ hrun hfree
      rw [← hoe] at ht
      refine tr_sound hV0 hT hΦ h ho ht (fun a' w' ⟨ρ', β', h'⟩ => ?_)
      have hne : ∀ y, y ∈ L1 ++ L2 → y.1 ≠ x.1 := fun y hy => by
        rcases List.mem_append.1 hy with hy | hy
        · have := (List.pairwise_append.1 hsort).2.2 y hy x (by simp); omega
        · have := (List.pairwise_cons.1 (List.pairwise_append.1 hsort).2.1).1 y hy; omega
      have hsub : (L1 ++ L2).Sublist (L1 ++ x :: L2) := (List.Sublist.refl L1).append (List.sublist_cons_self x L2)
      refine ih (L1 ++ L2) _ σ1 a' w' ρ' β' (fun y hy => hL y (hsub.subset hy)) (fun i hi' => ?_) (by simpa using hsz) (fun m om hm hom e he hb => ?_) (hsort.sublist hsub) (hpair.sublist hsub) hrun' h' (by simp at hf ⊢; omega)
      · by_cases hix : x.1 = i
        · subst hix
          constructor
          · intro hf'
            have h5 : listed.getD x.1 false = false := by rw [← getDd x.1 hlt]; exact h1
            have h6 : x.1 < listed.size := by omega
            simp [Array.getD, h6] at hf'
          · rintro ⟨y, hy, hye⟩; exact absurd hye (hne y hy)
        · rw [getD_set_ne true hix, hlist i hi']
          constructor
          · rintro ⟨y, hy, hye⟩
            refine ⟨y, ?_, hye⟩
            rcases List.mem_append.1 hy with hy | hy
            · exact List.mem_append.2 (.inl hy)
            · rcases List.mem_cons.1 hy with rfl | hy
              · exact absurd hye hix
              · exact List.mem_append.2 (.inr hy)
          · rintro ⟨y, hy, hye⟩; exact ⟨y, hsub.subset hy, hye⟩
      · by_cases hmx : x.1 = m
        · subst hmx
          rw [ho] at hom
          obtain rfl : o = om := by simpa using hom
          exact getD_set_true (hall e he hb)
        · rw [getD_set_ne false hmx] at hm
          exact getD_set_true (hcl m om hm hom e he hb)
end
end Go.Abs
set_option linter.unusedVariables false
set_option linter.unusedSimpArgs false
namespace Go.Abs
open Go.RowKit Go.Lib

section
variable {P : Program} {T : Tab} {V0 : View} {w0 w w' : World} {σ σ1 σ2 σe : AS} {a : Act} {ρ : Nat → Value} {β : Nat → Nat}
variable {Φ : (f : FuncId) → DenL (T.sig f).args → Option (DenL ((T.sig f).res.map (·.1)))} {ops : Array Oper} {Q : Exit → Act → World → Prop}

theorem okDeps_spec : ∀ (l : List Oper) (i : Nat), okDeps i l = true → ∀ p o, l[p]? = some o → ∀ e ∈ o.after, Region.binds .any e = true → e.on < i + p
  | [], i, h, p, o, hp, e, he, hb => by simp at hp
  | o' :: l, i, h, 0, o, hp, e, he, hb => by
    simp at hp; subst hp
    simp only [okDeps, Bool.and_eq_true, List.all_eq_true] at h
    have := h.1 e (by simpa using he)
    rw [hb] at this
    have : Nat.blt e.on i = true := by simpa using this
    have := Nat.le_of_ble_eq_true this
    omega
  | o' :: l, i, h, p + 1, o, hp, e, he, hb => by
    simp only [okDeps, Bool.and_eq_true] at h
    have := okDeps_spec l (i + 1) h.2 p o (by simpa using hp) e he hb
    omega

theorem ancs_prefix : ∀ (l : List Oper) (acc : List Nat), ∃ r, ancs l acc = acc ++ r ∧ r.length = l.length
  | [], acc => ⟨[], by simp [ancs]⟩
  | o :: l, acc => by
    obtain ⟨r, h1, h2⟩ := ancs_prefix l (acc ++ [ancOf acc o])
    exact ⟨ancOf acc o :: r, by simp [ancs, h1], by simp [h2]⟩

theorem ancOf_bit {acc : List Nat} {o : Oper} {i : Nat} (h : (ancOf acc o).testBit i = true) : ∃ e ∈ o.after, Region.binds .any e = true ∧ (i = e.on ∨ ((acc[e.on]?).getD 0).testBit i = true) := by
  unfold ancOf at h
  have key : ∀ l : List Edge, (l.foldr (fun e s => bif Region.binds .any e then (s ||| 2 ^ e.on) ||| (acc[e.on]?).getD 0 else s) 0).testBit i = true →
      ∃ e ∈ l, Region.binds .any e = true ∧ (i = e.on ∨ ((acc[e.on]?).getD 0).testBit i = true) := by
    intro l
    induction l with
    | nil => intro h; simp at h
    | cons e l ih =>
      intro h
      simp only [List.foldr_cons] at h
      cases hb : Region.binds .any e with
      | false =>
        rw [hb] at h
        obtain ⟨e', h1, h2⟩ := ih h
        exact ⟨e', by simp [h1], h2⟩
      | true =>
        rw [hb] at h
        simp only [cond_true, Nat.testBit_or, Bool.or_eq_true] at h
        rcases h with (h | h) | h
        · obtain ⟨e', h1, h2⟩ := ih h
          exact ⟨e', by simp [h1], h2⟩
        · refine ⟨e, by simp, hb, .inl ?_⟩
          rw [Nat.testBit_two_pow] at h
          simpa using (of_decide_eq_true h).symm
        · exact ⟨e, by simp, hb, .inr h⟩
  obtain ⟨e, h1, h2⟩ := key _ h
  exact ⟨e, by simpa using h1, h2⟩

theorem ancs_get : ∀ (l : List Oper) (acc : List Nat) (p : Nat) (o : Oper), l[p]? = some o → (ancs l acc)[acc.length + p]? = some (ancOf ((ancs l acc).take (acc.length + p)) o)
  | [], acc, p, o, h => by simp at h
  | o' :: l, acc, 0, o, h => by
    simp at h; subst h
    obtain ⟨r, h1, h2⟩ := ancs_prefix l (acc ++ [ancOf acc o'])
    simp [ancs, h1]
  | o' :: l, acc, p + 1, o, h => by
    have := ancs_get l (acc ++ [ancOf acc o']) p o (by simpa using h)
    simp only [ancs]
    have e : acc.length + (p + 1) = (acc ++ [ancOf acc o']).length + p := by simp; omega
    rw [e]; exact this

theorem okRest_spec : ∀ (r : List (Oper × Cls)) (ms : List Nat) (i : Nat) (a : Oper × Cls), okRest ops i a r ms = true → ∀ (p : Nat) (b : Oper × Cls) (m : Nat), r[p]? = some b → ms[p]? = some m → okPair ops i a m b = true
  | [], ms, i, a, h, p, b, m, hb, hm => by simp at hb
  | b' :: r, m' :: ms, i, a, h, 0, b, m, hb, hm => by
    simp at hb hm; subst hb hm
    simp only [okRest, Bool.and_eq_true] at h; exact h.1
  | b' :: r, m' :: ms, i, a, h, p + 1, b, m, hb, hm => by
    simp only [okRest, Bool.and_eq_true] at h
    exact okRest_spec r ms i a h.2 p b m (by simpa using hb) (by simpa using hm)
  | b' :: r, [], i, a, h, p, b, m, hb, hm => by simp at hm

theorem okDraw_spec : ∀ (l : List (Oper × Cls)) (ms : List Nat) (i : Nat), okDraw ops i l ms = true → ∀ (p q : Nat) (a b : Oper × Cls) (m : Nat), p < q → l[p]? = some a → l[q]? = some b → ms[q]? = some m → okPair ops (i + p) a m b = true
  | [], ms, i, h, p, q, a, b, m, hpq, ha, hb, hm => by simp at ha
  | x :: l, [], i, h, p, q, a, b, m, hpq, ha, hb, hm => by simp at hm
  | x :: l, m' :: ms, i, h, 0, q, a, b, m, hpq, ha, hb, hm => by
    simp at ha; subst ha
    simp only [okDraw, Bool.and_eq_true] at h
    cases q with
    | zero => omega
    | succ q => exact okRest_spec l ms i x h.1 q b m (by simpa using hb) (by simpa using hm)
  | x :: l, m' :: ms, i, h, p + 1, q, a, b, m, hpq, ha, hb, hm => by
    simp only [okDraw, Bool.and_eq_true] at h
    cases q with
    | zero => omega
    | succ q =>
      have := okDraw_spec l ms (i + 1) h.2 p q a b m (by omega) (by simpa using ha) (by simpa using hb) (by simpa using hm)
      have e : i + (p + 1) = i + 1 + p := by omega
      rw [e]; exact this

theorem ents_pairs (R : (Nat × Oper × Cls) → (Nat × Oper × Cls) → Prop) : ∀ (l : List Oper) (i : Nat) (t : List Cls),
    (∀ p q o1 c1 o2 c2, p < q → l[p]? = some o1 → t[p]? = some c1 → l[q]? = some o2 → t[q]? = some c2 → R (i + p, o1, c1) (i + q, o2, c2)) → (ents i l t).Pairwise R
  | [], i, t, h => by simp [ents]
  | o :: l, i, [], h => by simp [ents]
  | o :: l, i, c :: t, h => by
    simp only [ents, List.pairwise_cons]
    refine ⟨fun y hy => ?_, ents_pairs R l (i + 1) t (fun p q o1 c1 o2 c2 hpq h1 h2 h3 h4 => ?_)⟩
    · obtain ⟨h1, h2, h3⟩ := ents_mem l (i + 1) t y hy
      have := h 0 (y.1 - i) o c y.2.1 y.2.2 (by omega) (by simp) (by simp) (by
        have e : y.1 - i = (y.1 - (i + 1)) + 1 := by omega
        rw [e]; simpa using h2) (by
        have e : y.1 - i = (y.1 - (i + 1)) + 1 := by omega
        rw [e]; simpa using h3)
      have e : i + (y.1 - i) = y.1 := by omega
      rw [e] at this
      exact this
    · have := h (p + 1) (q + 1) o1 c1 o2 c2 (by omega) (by simpa using h1) (by simpa using h2) (by simpa using h3) (by simpa using h4)
      have e1 : i + (p + 1) = i + 1 + p := by omega
      have e2 : i + (q + 1) = i + 1 + q := by omega
      rw [e1, e2] at this
      exact this

theorem prep_sound : ∀ (l : List Oper) (σ : AS), St V0 w0 σ a w ρ β → St V0 w0 (AS.prep T σ l) a w ρ β
  | [], σ, h => h
  | o :: l, σ, h => by
    simp only [AS.prep]
    refine prep_sound l _ ?_
    split
    · exact h.loseBox _
    · exact h.loseBox _
    · exact h.loseRow _
    · exact h.loseRow _
    · exact h.loseRow _
    · exact h.loseRow _
    · split
      · generalize keysOf _ _ = ks
        induction ks generalizing σ with
        | nil => exact h
        | cons k ks ih => exact ih _ (h.loseRow k)
      · exact h
    · exact h

/-- A region, in whatever order its operations are done. -/
theorem region_sound {R : Type} (hV0 : ∀ ad v, V0 ad v → w0.cell? ad = some v) (hT : TabOk P T.rows) (hΦ : FnOk P T Φ) (hm : P.follows .mixedOrders = true) (h : St V0 w0 σ a w ρ β) {id : Nat} {draw : Bool} {k : AS → Option R} {r : R}
    (he : evRegion T Φ ops draw σ k = some r) (hQ : ∀ σ' a' w', k σ' = some r → To V0 w0 σ' a' w' → Q .normal a' w') : (Code.region id ops draw).wp P Q a w := by
  unfold evRegion at he
  obtain ⟨t, σe, h1, h2, h3⟩ := evOps_run (ops := ops) ops.toList 0 _ [] _ r he
  have hp := prep_sound (T := T) ops.toList σ h
  cases draw with
  | false =>
    simp only [cond_false] at h3
    have := run_text hV0 hT hΦ ops.toList [] t _ a w ρ β rfl h1 hp h2 (fun a' w' => hQ σe a' w' h3)
    refine wp_region ?_
    rw [List.range_eq_range']
    simpa using this
  | true =>
    simp only [cond_true, List.append_nil, List.reverse_reverse] at h3
    cases hok : (okDeps 0 ops.toList && okDraw ops 0 (ops.toList.zip t) (ancs ops.toList [])) with
    | false => simp [hok] at h3
    | true =>
      simp only [hok, cond_true] at h3
      rw [Bool.and_eq_true] at hok
      obtain ⟨hd, hok⟩ := hok
      have hw : St V0 w0 (AS.prep T σ ops.toList) a { w with drawn := w.drawn + 1 } ρ β := hp.grow ⟨rfl, rfl, rfl, Nat.le_refl _, fun _ _ => rfl⟩
      refine wp_region_any hm ?_
      have hget : ∀ j o, ops[j]? = some o → (ancs ops.toList [])[j]? = some (ancOf ((ancs ops.toList []).take j) o) := fun j o ho => by
        have := ancs_get ops.toList [] j o (by rw [Array.getElem?_toList]; exact ho)
        simpa using this
      refine run_any hV0 hT hΦ (A := fun j => ((ancs ops.toList [])[j]?).getD 0) (fun a' w' => hQ σe a' w' h3) (fun j o ho e he' hb => by
          have := okDeps_spec ops.toList 0 hd j o (by rw [Array.getElem?_toList]; exact ho) e he' hb
          omega) (fun j o i ho hi => ?_) ops.size (ents 0 ops.toList t) _ _ a _ ρ β (fun x hx => ?_) (fun i hi => ?_) (by simp) (fun m om hmm => ?_) (ents_sorted _ _ _) (ents_pairs _ _ _ _ fun p q o1 c1 o2 c2 hpq e1 e2 e3 e4 => ?_) h2 hw ?_
      · simp only [hget j o ho, Option.getD_some] at hi
        obtain ⟨e, h4, h5, h6⟩ := ancOf_bit hi
        refine ⟨e, h4, h5, h6.imp (fun h7 => h7) fun h7 => ?_⟩
        cases hh : ((ancs ops.toList []).take j)[e.on]? with
        | none => rw [hh] at h7; simp at h7
        | some v =>
          rw [hh] at h7
          rw [List.getElem?_take] at hh
          split at hh
          · simp only [hh]; exact h7
          · cases hh
      · obtain ⟨_, h4, _⟩ := ents_mem _ _ _ x hx
        rw [← Array.getElem?_toList]; simpa using h4
      · constructor
        · intro _
          obtain ⟨c, hc⟩ := ents_get ops.toList 0 t h1 i ops[i] (by simp [hi])
          exact ⟨_, hc, by simp⟩
        · intro _; simp [hi]
      · exfalso
        by_cases hlt : m < ops.size
        · simp [hlt] at hmm
        · simp [hlt] at hmm
      · have hz1 : (ops.toList.zip t)[p]? = some (o1, c1) := by rw [List.getElem?_zip_eq_some]; exact ⟨e1, e2⟩
        have hz2 : (ops.toList.zip t)[q]? = some (o2, c2) := by rw [List.getElem?_zip_eq_some]; exact ⟨e3, e4⟩
        have hg := hget q o2 (by rw [← Array.getElem?_toList]; exact e3)
        have := okDraw_spec (ops.toList.zip t) _ 0 hok p q _ _ _ hpq hz1 hz2 hg
        simp only [okPair, Bool.or_eq_true, Bool.and_eq_true, Nat.zero_add] at this ⊢
        rw [hg]
        exact this
      · have := ents_len ops.toList 0 t
        simpa using this
end
end Go.Abs
set_option linter.unusedVariables false
set_option linter.unusedSimpArgs false
namespace Go.Abs
open Go.RowKit Go.Lib

section
variable {P : Program} {T : Tab} {V0 : View} {w0 w w' : World} {σ σ1 σ2 σe : AS} {a : Act} {ρ : Nat → Value} {β : Nat → Nat}
variable {Φ : (f : FuncId) → DenL (T.sig f).args → Option (DenL ((T.sig f).res.map (·.1)))}

/-! ## Forgetting -/

theorem St.share (h : St V0 w0 σ a w ρ β) : ∀ (hs : List (Nat × Bool)), St V0 w0 (σ.share hs) a w ρ β := by
  intro hs
  induction hs generalizing σ with
  | nil => exact h
  | cons p hs ih =>
    obtain ⟨j, b⟩ := p
    cases b
    · exact ih h
    · exact ih (h.frz _)

theorem RvRel.keep {V V' : View} {rows rows' : List (Nat × Row)} (hV : ∀ a v, V a v → V' a v) : ∀ (x : RV) (v : Value), (∀ r, x.isOwn r = true → look rows' r = look rows r) → RvRel V rows ρ x v → RvRel V' rows' ρ x v
  | .cv c, v, _, h => LRel.mono hV c v h
  | .agg cs, v, _, ⟨vs, e, h⟩ => ⟨vs, e, h.mono (LRel.mono hV)⟩
  | .own r, v, hr, ⟨e, h⟩ => ⟨e, by rw [hr r (beq_refl r)]; exact h⟩

theorem AvRel.keep {V V' : View} {rows rows' : List (Nat × Row)} {boxes boxes' : List (Nat × List CV)} (hV : ∀ a v, V a v → V' a v) (x : AV) (v : Value)
    (hr : ∀ r, x.knowsRow r = true → look rows' r = look rows r) (hb : ∀ b, x.knowsBox b = true → look boxes' b = look boxes b) (h : AvRel V rows boxes ρ β x v) : AvRel V' rows' boxes' ρ β x v := by
  cases x with
  | rv x => exact RvRel.keep hV x v hr h
  | lit u => exact h
  | box b off => exact ⟨h.1, by rw [hb b (beq_refl b)]; exact h.2⟩
  | oel r sz i off =>
    obtain ⟨row, g, h1, h2⟩ := h
    exact ⟨row, g, by rw [hr r (beq_refl r)]; exact h1, h2⟩
  | vel cs => obtain ⟨ad, vs, h1, h2, h3⟩ := h; exact ⟨ad, vs, h1, h2.mono (LRel.mono hV), fun j u hj => hV _ _ (h3 j u hj)⟩
  | tup l =>
    obtain ⟨vs, h1, h2⟩ := h
    refine ⟨vs, h1, ?_⟩
    have hl : ∀ y ∈ l, ∀ r, y.isOwn r = true → look rows' r = look rows r := fun y hy r hyr => hr r (by
      show l.any (RV.isOwn r) = true
      rw [List.any_eq_true]; exact ⟨y, hy, hyr⟩)
    clear h1 hr hb
    induction l generalizing vs with
    | nil => cases vs with
      | nil => trivial
      | cons _ _ => exact h2.elim
    | cons y ys ih =>
      cases vs with
      | nil => exact h2.elim
      | cons u us => exact ⟨RvRel.keep hV y u (hl y (by simp)) h2.1, ih us h2.2 (fun z hz => hl z (by simp [hz]))⟩
  | nil => trivial

theorem St.forget (h : St V0 w0 σ a w ρ β) (hs : List (Nat × Bool)) : St V0 w0 (σ.forget hs) a w ρ β := by
  have h1 := h.share hs
  unfold AS.forget
  generalize σ.share hs = σ1 at h1
  dsimp only
  have hrow : ∀ r, look (σ1.rows.filter fun p => (keepL σ1.tmps.l hs).any fun q => q.2.knowsRow p.1) r = if ((keepL σ1.tmps.l hs).any fun q => q.2.knowsRow r) then look σ1.rows r else none := fun r =>
    look_filter σ1.rows (fun k => (keepL σ1.tmps.l hs).any fun q => q.2.knowsRow k) r
  have hbox : ∀ r, look (σ1.boxes.filter fun p => (keepL σ1.tmps.l hs).any fun q => q.2.knowsBox p.1) r = if ((keepL σ1.tmps.l hs).any fun q => q.2.knowsBox r) then look σ1.boxes r else none := fun r =>
    look_filter σ1.boxes (fun k => (keepL σ1.tmps.l hs).any fun q => q.2.knowsBox k) r
  have hr : ∀ r row, look (σ1.rows.filter fun p => (keepL σ1.tmps.l hs).any fun q => q.2.knowsRow p.1) r = some row → look σ1.rows r = some row := fun r row hr => by
    rw [hrow] at hr; split at hr
    · exact hr
    · cases hr
  have hb : ∀ r row, look (σ1.boxes.filter fun p => (keepL σ1.tmps.l hs).any fun q => q.2.knowsBox p.1) r = some row → look σ1.boxes r = some row := fun r row hr => by
    rw [hbox] at hr; split at hr
    · exact hr
    · cases hr
  have hV := h1.lessV (σ' := ⟨⟨σ1.tmps.n, keepL σ1.tmps.l hs⟩, σ1.rows.filter fun p => (keepL σ1.tmps.l hs).any fun q => q.2.knowsRow p.1, σ1.boxes.filter fun p => (keepL σ1.tmps.l hs).any fun q => q.2.knowsBox p.1⟩) hr hb
  refine h1.less hr hb ⟨h1.slots.1, fun i x hx => ?_⟩
  have hx' : look (keepL σ1.tmps.l hs) i = some x := hx
  have hm := look_mem hx'
  unfold keepL at hx'
  rw [look_filter σ1.tmps.l (fun k => hs.any fun p => Nat.beq p.1 k) i] at hx'
  have hv : look σ1.tmps.l i = some x := by
    split at hx'
    · exact hx'
    · cases hx'
  refine AvRel.keep hV x _ (fun r hk => ?_) (fun b hk => ?_) (h1.slots.2 i x hv)
  · show look (σ1.rows.filter fun p => (keepL σ1.tmps.l hs).any fun q => q.2.knowsRow p.1) r = _
    rw [hrow, if_pos (by rw [List.any_eq_true]; exact ⟨(i, x), hm, hk⟩)]
  · show look (σ1.boxes.filter fun p => (keepL σ1.tmps.l hs).any fun q => q.2.knowsBox p.1) b = _
    rw [hbox, if_pos (by rw [List.any_eq_true]; exact ⟨(i, x), hm, hk⟩)]

/-! ## Code -/

/-- What a piece of code leads to. -/
def Post {R : Type} (V0 : View) (w0 : World) (k : Ex → AS → Option R) (r : R) : Exit → Act → World → Prop
  | .normal, a, w => ∃ σ', k .normal σ' = some r ∧ To V0 w0 σ' a w
  | .exit id, a, w => ∃ σ', k (.exit id) σ' = some r ∧ To V0 w0 σ' a w
  | .ret, a, w => ∃ σ', k .ret σ' = some r ∧ To V0 w0 σ' a w
  | _, _, _ => False

theorem exists_least {p : Nat → Prop} (h : ∃ m, p m) : ∃ m, p m ∧ ∀ k, p k → m ≤ k := by
  obtain ⟨m, hm⟩ := h
  induction m using Nat.strongRecOn with
  | _ m ih =>
    by_cases hk : ∃ k, k < m ∧ p k
    · obtain ⟨k, h1, h2⟩ := hk; exact ih k h1 h2
    · exact ⟨m, hm, fun k hk' => Nat.le_of_not_lt fun hlt => hk ⟨k, hlt, hk'⟩⟩

open Classical in
noncomputable def least (p : Nat → Prop) : Nat := if h : ∃ m, p m then (exists_least h).choose else 0

theorem least_spec {p : Nat → Prop} (h : ∃ m, p m) : p (least p) ∧ ∀ k, p k → least p ≤ k := by
  unfold least
  rw [dif_pos h]
  exact (exists_least h).choose_spec

theorem loop_rule {c : Code} {Q : Exit → Act → World → Prop} (J : Nat → Act → World → Prop) {m : Nat} (h0 : J m a w)
    (round : ∀ m a w, J m a w → c.wp P (Exit.then (fun a' w' => ∃ m', m' < m ∧ J m' a' w') Q) a w) : (Code.loop c).wp P Q a w := by
  refine wp_loop (fun a w => ∃ m, J m a w) (fun a w => least fun m => J m a w) ⟨m, h0⟩ (fun a w hI => ?_)
  obtain ⟨h1, h2⟩ := least_spec hI
  refine wp_mono (round _ a w h1) (fun e a' w' he => ?_)
  cases e with
  | normal =>
    obtain ⟨m', h3, h4⟩ := he
    exact ⟨⟨m', h4⟩, Nat.lt_of_le_of_lt ((least_spec ⟨m', h4⟩).2 m' h4) h3⟩
  | _ => exact he

theorem code_sound {R : Type} (hV0 : ∀ ad v, V0 ad v → w0.cell? ad = some v) (hT : TabOk P T.rows) (hΦ : FnOk P T Φ) (hm : P.follows .mixedOrders = true) {n : Nat} {r : R} :
    ∀ (c : Code) (hs : List (List (Nat × Bool))) (σ : AS) (k : Ex → AS → Option R) (a : Act) (w : World) (ρ : Nat → Value) (β : Nat → Nat), evCode T Φ n c hs σ k = some r → St V0 w0 σ a w ρ β → c.wp P (Post V0 w0 k r) a w := by
  intro c
  induction c with
  | skip => intro hs σ k a w ρ β he h; exact wp_skip ⟨σ, he, ρ, β, h⟩
  | region id ops draw =>
    intro hs σ k a w ρ β he h
    exact region_sound hV0 hT hΦ hm h he (fun σ' a' w' h1 h2 => ⟨σ', h1, h2⟩)
  | seq x y ihx ihy =>
    intro hs σ k a w ρ β he h
    simp only [evCode] at he
    refine wp_seq (wp_mono (ihx _ _ _ a w ρ β he h) (fun e a' w' hp => ?_))
    cases e with
    | normal =>
      obtain ⟨σ', h1, ρ', β', h2⟩ := hp
      exact ihy _ _ _ a' w' ρ' β' h1 h2
    | exit id => exact hp
    | ret => exact hp
    | _ => exact hp.elim
  | cond x y z ihy ihz =>
    intro hs σ k a w ρ β he h
    simp only [evCode] at he
    split at he
    · rename_i t
      split at he
      · rename_i b hb
        have hx : a.eval (.tmp t) = .bool b := av_bool h hb
        have main : ∀ b : Bool, nth σ.tmps t = .rv (.cv ⟨.bool, b⟩) → (bif b then evCode T Φ n y hs (σ.setb t true) k else evCode T Φ n z (hs.drop (loops y)) (σ.setb t false) k) = some r →
            (if b then y else z).wp P (Post V0 w0 k r) a w := fun b hb he => by
          cases b
          · rw [setb_id hb] at he; exact ihz _ _ _ a w ρ β he h
          · rw [setb_id hb] at he; exact ihy _ _ _ a w ρ β he h
        exact wp_cond hx (main b hb he)
      · cases he
    · rename_i b
      refine wp_cond (t := b) rfl ?_
      cases b
      · exact ihz _ _ _ a w ρ β he h
      · exact ihy _ _ _ a w ρ β he h
    · cases he
  | block id c ih =>
    intro hs σ k a w ρ β he h
    simp only [evCode] at he
    refine wp_block (wp_mono (ih _ _ _ a w ρ β he h) (fun e a' w' hp => ?_))
    cases e with
    | normal => exact hp
    | exit i =>
      obtain ⟨σ', h1, h2⟩ := hp
      simp only [Exit.inBlock]
      cases hb : Nat.beq i id with
      | true =>
        have := (beq_iff _ _).1 hb; subst this
        simp only [hb, cond_true] at h1
        rw [if_pos rfl]
        exact ⟨σ', h1, h2⟩
      | false =>
        have := beq_ff.1 hb
        simp only [hb, cond_false] at h1
        rw [if_neg this]
        exact ⟨σ', h1, h2⟩
    | ret => exact hp
    | _ => exact hp.elim
  | loop c ih =>
    intro hs σ k a w ρ β he h
    simp only [evCode] at he
    split at he
    · rename_i hd hs'
      refine loop_rule (fun m a w => ∃ σ, loopN hd (fun σ k' => evCode T Φ n c hs' σ k') k m σ = some r ∧ To V0 w0 σ a w) ⟨_, he, ρ, β, h.forget hd⟩ (fun m a w hJ => ?_)
      obtain ⟨σ, h1, ρ, β, h2⟩ := hJ
      cases m with
      | zero => cases h1
      | succ m =>
        simp only [loopN] at h1
        refine wp_mono (ih _ _ _ a w ρ β h1 h2) (fun e a' w' hp => ?_)
        cases e with
        | normal =>
          obtain ⟨σ', h3, ρ', β', h4⟩ := hp
          exact ⟨m, Nat.lt_succ_self m, _, h3, ρ', β', h4.forget hd⟩
        | exit i => exact hp
        | ret => exact hp
        | _ => exact hp.elim
    · cases he
  | exit i => intro hs σ k a w ρ β he h; exact wp_exit ⟨σ, he, ρ, β, h⟩
  | ret => intro hs σ k a w ρ β he h; exact wp_ret ⟨σ, he, ρ, β, h⟩
  | _ => intros; rename_i he _; cases he
end
end Go.Abs
set_option linter.unusedVariables false
set_option linter.unusedSimpArgs false
namespace Go.Abs
open Go.RowKit Go.Lib

section
variable {P : Program} {T : Tab} {V0 : View} {w0 w w' : World} {σ σ1 σ2 σe : AS} {a : Act} {ρ : Nat → Value} {β : Nat → Nat}
variable {Φ : (f : FuncId) → DenL (T.sig f).args → Option (DenL ((T.sig f).res.map (·.1)))}

theorem argAV_rel {V V' : View} {rows : List (Nat × Row)} {boxes : List (Nat × List CV)} (hV : ∀ a v, V a v → V' a v) {t : Ty} {x : t.den} {v : Value} (h : VRel V t x v) : AvRel V' rows boxes ρ β (argAV t x) v := by
  cases t with
  | st t => obtain ⟨cs, h1, h2⟩ := h; exact ⟨cs, h1, rel_flat (Rel.mono hV _ _ _ h2)⟩
  | _ => exact LRel.mono hV _ _ h

theorem argAVs_rel {V V' : View} {rows : List (Nat × Row)} {boxes : List (Nat × List CV)} (hV : ∀ a v, V a v → V' a v) : ∀ (ts : List Ty) (x : DenL ts) (vs : List Value), ArgsOk V ts x vs → All2 (AvRel V' rows boxes ρ β) (argAVs ts x) vs ∧ vs.length = ts.length
  | [], x, vs, h => by have : vs = [] := h; subst this; exact ⟨trivial, rfl⟩
  | [t], x, vs, h => by obtain ⟨v, rfl, h1⟩ := h; exact ⟨⟨argAV_rel hV h1, trivial⟩, rfl⟩
  | t :: u :: ts, x, vs, h => by
    obtain ⟨v, r, rfl, h1, h2⟩ := h
    obtain ⟨h3, h4⟩ := argAVs_rel (V := V) hV (u :: ts) x.2 r h2
    exact ⟨⟨argAV_rel hV h1, h3⟩, by simp [h4]⟩

theorem enumD_rel {R : AV → Value → Prop} {g : Nat → Value} : ∀ {l : List AV} {vs : List Value} {acc : List (Nat × AV)} {i : Nat}, All2 R l vs → (∀ j x, look acc j = some x → R x (g j)) →
    (∀ k v, vs[k]? = some v → g (i + k) = v) → ∀ j x, look (enumD i l acc) j = some x → R x (g j)
  | [], [], acc, i, _, ha, _, j, x, h => ha j x h
  | y :: l, v :: vs, acc, i, h, ha, hg, j, x, hx => by
    refine enumD_rel (i := i + 1) (acc := (i, y) :: acc) h.2 (fun j z hz => ?_) (fun k u hu => ?_) j x hx
    · simp only [look] at hz
      cases hb : Nat.beq i j with
      | true =>
        have := (beq_iff _ _).1 hb; subst this
        rw [hb] at hz
        obtain rfl : y = z := by simpa using hz
        have := hg 0 v rfl
        rw [Nat.add_zero] at this
        rw [this]; exact h.1
      | false => rw [hb] at hz; exact ha j z hz
    · rw [Nat.add_assoc, Nat.add_comm 1 k]; exact hg (k + 1) u (by simpa using hu)
  | [], _ :: _, _, _, h, _, _, _, _, _ => h.elim
  | _ :: _, [], _, _, h, _, _, _, _, _ => h.elim

theorem All2.len {R : AV → Value → Prop} : ∀ {xs : List AV} {ys : List Value}, All2 R xs ys → xs.length = ys.length
  | [], [], _ => rfl
  | _ :: _, _ :: _, h => by simp [All2.len h.2]
  | [], _ :: _, h => h.elim
  | _ :: _, [], h => h.elim

theorem of_rel {R : AV → Value → Prop} {l : List AV} {vs : List Value} (h : All2 R l vs) (m : Nat) : SRel R (Slots.of l m) (vs ++ List.replicate m undef) := by
  refine ⟨by simp [Slots.of, All2.len h], fun j x hx => ?_⟩
  refine enumD_rel (g := fun j => (vs ++ List.replicate m undef).getD j undef) h (fun j x hx => by cases hx) (fun k v hv => ?_) j x hx
  have hk := (List.getElem?_eq_some_iff.1 hv).1
  simp [List.getD, List.getElem?_append_left hk, hv]

theorem St.start (hV0 : ∀ ad v, V0 ad v → w0.cell? ad = some v) {ts : List Ty} {x : DenL ts} {args : Array Value} (hargs : ArgsOk V0 ts x args.toList) (n : Nat) :
    St V0 w0 ⟨Slots.of (argAVs ts x) (n - ts.length), [], []⟩ { tmps := args ++ Array.replicate (n - args.size) undef, defers := [] } w0 (fun _ => undef) (fun _ => 0) := by
  have hV : ∀ ad v, V0 ad v → view V0 w0.heap.size (Hid [] [] (fun _ => undef) (fun _ => 0)) w0 ad v := fun ad v hv => .inl ⟨World.block_lt_of_cell? w0 ad (hV0 ad v hv), hv⟩
  obtain ⟨h1, h2⟩ := argAVs_rel (ρ := fun _ => undef) (β := fun _ => 0) (rows := []) (boxes := []) hV ts x args.toList hargs
  refine ⟨Below.refl _ _, rfl, ?_, (fun r row h => by cases h), (fun b cs h => by cases h), (fun r r' g hne h => by cases h), (fun r b g h => by cases h), (fun b b' hne h => by cases h)⟩
  have : (args ++ Array.replicate (n - args.size) undef).toList = args.toList ++ List.replicate (n - ts.length) undef := by
    rw [Array.toList_append, Array.toList_replicate, ← h2]; simp
  show SRel _ _ (args ++ Array.replicate (n - args.size) undef).toList
  rw [this]
  exact of_rel h1 _

/-! ### Results -/

def resSem (tmps : Array Value) : ResultVar → Sem Value
  | .tmp t => pure (tmps.getD t undef)
  | .cell x t => do loadVar t (← asAddr (tmps.getD x undef))

theorem resVar_run (hT : TabOk P T.rows) (h : St V0 w0 σ a w ρ β) {rv : ResultVar} {av : AV} (he : resVar T.rows σ rv = some av) :
    ∃ v, (resSem a.tmps rv).run P w = .ok v w ∧ AvRel (St.V V0 w0 σ w ρ β) σ.rows σ.boxes ρ β av v := by
  cases rv with
  | tmp t =>
    simp only [resVar, Option.some.injEq] at he
    subst he
    refine ⟨a.tmps.getD t undef, rfl, ?_⟩
    have := nth_rel (fun v => by trivial) h.slots t
    simpa using this
  | cell x t =>
    simp only [resVar] at he
    split at he
    · rename_i b off r hb hr
      obtain ⟨rfl, hr'⟩ := hT t r hr
      split at he
      · rename_i cs hcs
        have hx := nth_rel (fun v => by trivial) h.slots x
        rw [hb] at hx
        obtain ⟨hx, _⟩ := hx
        obtain ⟨cur, e, hg, hrel⟩ := (h.boxes b cs hcs).2
        have hc : ∀ j u, (cur.toList.drop off)[j]? = some u → w.cell? ((⟨β b, off, none⟩ : Addr).add j) = some u := by
          intro j u hj
          rw [addr1, cell_of_row w _ _ cur e (0, 0) hg]
          simpa using drop_get hj
        obtain ⟨v', h1, h2⟩ := load_run (P := P) hr' hc (hrel.drop off) he (rows := σ.rows) (boxes := σ.boxes) (ρ := ρ) (β := β)
        refine ⟨v', ?_, h2⟩
        have hx' : a.tmps.getD x undef = .pointer (some ⟨β b, off, none⟩) := by simpa using hx
        simp only [resSem, hx', asAddr, Sem.run_bind, Sem.run_pure, Result.andThen_ok, h1]
      · cases he
    · cases he

theorem results_run {fn : Func} {vs : List Value} (h : (fn.results.toList.mapM (resSem a.tmps)).run P w = .ok vs w) :
    (results fn a.tmps).run P w = .ok (resV vs) w := by
  have e : results fn a.tmps = (do
      let vs ← fn.results.mapM (resSem a.tmps)
      pure (if h : vs.size = 1 then vs[0] else .tuple vs)) := by
    unfold results
    have : (fun rv => (match rv with | ResultVar.tmp t => pure (a.tmps.getD t undef) | .cell x t => do loadVar t (← asAddr (a.tmps.getD x undef)) : Sem Value)) = resSem a.tmps := by
      funext rv; cases rv <;> rfl
    rw [← this]; rfl
  rw [e, Array.mapM_eq_mapM_toList]
  simp only [Sem.run_bind, Sem.run_map, h, Result.andThen_ok, Sem.run_pure]
  match vs with
  | [] => rfl
  | [v] => rfl
  | v :: u :: r => simp [resV]
end
end Go.Abs
set_option linter.unusedVariables false
set_option linter.unusedSimpArgs false
namespace Go.Abs
open Go.RowKit Go.Lib

section
variable {P : Program} {T : Tab} {V0 : View} {w0 w w' : World} {σ σ1 σ2 σe : AS} {a : Act} {ρ : Nat → Value} {β : Nat → Nat}
variable {Φ : (f : FuncId) → DenL (T.sig f).args → Option (DenL ((T.sig f).res.map (·.1)))}

def rowAt (T : List TRow) (σ : AS) (rv : ResultVar) : Option Nat :=
  match resVar T σ rv with
  | some (.rv (.own r)) => some r
  | _ => none

theorem ownKeys_mem {T : List TRow} : ∀ (l : List ResultVar) (p r : Nat), (l[p]?).bind (rowAt T σ) = some r → r ∈ ownKeys T σ l
  | [], p, r, h => by simp at h
  | v :: l, 0, r, h => by
    simp only [List.getElem?_cons_zero, Option.bind_some, rowAt] at h
    simp only [ownKeys]
    split at h
    · rename_i r' hr
      simp only [Option.some.injEq] at h
      subst h
      rw [hr]; simp
    · cases h
  | v :: l, p + 1, r, h => by
    have := ownKeys_mem l p r (by simpa using h)
    simp only [ownKeys]
    split
    · simp [this]
    · exact this

theorem noDup_uniq {T : List TRow} : ∀ (l : List ResultVar), noDup (ownKeys T σ l) = true → ∀ (p q r : Nat), (l[p]?).bind (rowAt T σ) = some r → (l[q]?).bind (rowAt T σ) = some r → p = q
  | [], h, p, q, r, hp, hq => by simp at hp
  | v :: l, h, p, q, r, hp, hq => by
    have htail : noDup (ownKeys T σ l) = true ∧ ∀ r', rowAt T σ v = some r' → r' ∉ ownKeys T σ l := by
      simp only [ownKeys] at h
      split at h
      · rename_i r' hr
        simp only [noDup, Bool.and_eq_true, Bool.not_eq_true', List.any_eq_false] at h
        refine ⟨h.2, fun r2 h2 hm => ?_⟩
        simp only [rowAt, hr, Option.some.injEq] at h2
        subst h2
        exact h.1 r' hm (beq_refl r')
      · rename_i hn
        refine ⟨h, fun r2 h2 => ?_⟩
        simp only [rowAt] at h2
        cases h2
    cases p with
    | zero =>
      cases q with
      | zero => rfl
      | succ q => exact absurd (ownKeys_mem l q r (by simpa using hq)) (htail.2 r (by simpa using hp))
    | succ p =>
      cases q with
      | zero => exact absurd (ownKeys_mem l p r (by simpa using hp)) (htail.2 r (by simpa using hq))
      | succ q => rw [noDup_uniq l htail.1 p q r (by simpa using hp) (by simpa using hq)]

theorem keysOf_iff : ∀ (ts : List (Ty × Option TypeId)) (d k : Nat), k ∈ keysOf d ts ↔ ∃ p t e, ts[p]? = some (t, some e) ∧ k = d + p
  | [], d, k => by simp [keysOf]
  | (t, some e) :: r, d, k => by
    simp only [keysOf, List.mem_cons, keysOf_iff r (d + 1) k]
    constructor
    · rintro (rfl | ⟨p, t', e', h1, h2⟩)
      · exact ⟨0, t, e, by simp, by simp⟩
      · exact ⟨p + 1, t', e', by simpa using h1, by omega⟩
    · rintro ⟨p, t', e', h1, h2⟩
      cases p with
      | zero => exact .inl (by omega)
      | succ p => exact .inr ⟨p, t', e', by simpa using h1, by omega⟩
  | (t, none) :: r, d, k => by
    simp only [keysOf, keysOf_iff r (d + 1) k]
    constructor
    · rintro ⟨p, t', e', h1, h2⟩
      exact ⟨p + 1, t', e', by simpa using h1, by omega⟩
    · rintro ⟨p, t', e', h1, h2⟩
      cases p with
      | zero => simp at h1
      | succ p => exact ⟨p, t', e', by simpa using h1, by omega⟩

def nameOf (T : List TRow) (σ : AS) (ρ : Nat → Value) (R0 : List ResultVar) (d k : Nat) : Value :=
  match (R0[k - d]?).bind (rowAt T σ) with
  | some r => ρ r
  | none => undef

theorem rowAt_some {T : List TRow} {rv : ResultVar} {r : Nat} (h : rowAt T σ rv = some r) : resVar T σ rv = some (.rv (.own r)) := by
  unfold rowAt at h
  split at h
  · rename_i r' hr; simp only [Option.some.injEq] at h; subst h; exact hr
  · cases h

theorem nameOf_block {T : List TRow} {R0 : List ResultVar} {d k g : Nat} (h : (nameOf T σ ρ R0 d k).ownBlock = some g) : ∃ r, (R0[k - d]?).bind (rowAt T σ) = some r ∧ (ρ r).ownBlock = some g := by
  unfold nameOf at h
  split at h
  · rename_i r hr; exact ⟨r, hr, h⟩
  · simp [undef, Value.ownBlock] at h

/-- One result. -/
theorem resOne_rel (hT : TabOk P T.rows) (h : St V0 w0 σ a w ρ β) {R0 : List ResultVar} {ts : List (Ty × Option TypeId)} {d : Nat}
    (hu : ∀ (p q r : Nat), (R0[p]?).bind (rowAt T.rows σ) = some r → (R0[q]?).bind (rowAt T.rows σ) = some r → (d + q) ∈ keysOf d ts → p = q)
    {V : View} (hVd : V = view V0 w0.heap.size (OwnHid (keysOf d ts) (nameOf T.rows σ ρ R0 d)) w) (hV : ∀ ad v, St.V V0 w0 σ w ρ β ad v → V ad v)
    {p : Nat} {rv : ResultVar} {tp : Ty × Option TypeId} (hp : R0[p]? = some rv) (htp : ts[p]? = some tp) {x : tp.1.den} (he : (resVar T.rows σ rv).bind (resOne σ tp) = some x) :
    ∃ v, (resSem a.tmps rv).run P w = .ok v w ∧ ResOne V w w0.heap.size (nameOf T.rows σ ρ R0 d) (d + p) tp x v := by
  obtain ⟨av, hav, he⟩ := Option.bind_eq_some_iff.1 he
  obtain ⟨v, hrun, hrel⟩ := resVar_run hT h hav
  refine ⟨v, hrun, ?_⟩
  obtain ⟨t, e⟩ := tp
  have hrow : ∀ r, av = .rv (.own r) → rowAt T.rows σ rv = some r := fun r hr => by simp [rowAt, hav, hr]
  cases e with
  | none =>
    show VRel V t x v
    have hcase : (∃ r, av = .rv (.own r)) ∨ resOne σ (t, none) av = typed t av := by
      cases av with
      | rv x => cases x <;> first | exact .inl ⟨_, rfl⟩ | exact .inr rfl
      | _ => exact .inr rfl
    rcases hcase with ⟨r, rfl⟩ | hcase
    · simp only [resOne] at he
      obtain ⟨rfl, hlk⟩ := hrel
      split at he
      · rename_i row hrow'
        have hc := unleaf1 he
        obtain ⟨yss, ⟨e1, e2⟩, hall⟩ := h.rows r row hrow'
        have hr0 := hrow r rfl
        have hlr : LRel V ⟨.slice row.t, row.xs⟩ (ρ r) := by
          rcases e2 with ⟨e2, e3⟩ | ⟨g, cap, cur, e2, hB, hg, hn, hm, hcs, htake⟩
          · have hx : row.xs = [] := List.eq_nil_of_length_eq_zero e3
            rw [e2, hx]
            exact ⟨none, 0, [], rfl, Nat.le_refl _, trivial, fun _ => rfl, fun j u hj => by simp at hj⟩
          · rw [e2]
            refine ⟨some ⟨g, 0, none⟩, cap, yss, rfl, hn, hall.mono (Rel.mono hV _), (fun e => by cases e), fun j u hj => ⟨_, rfl, ?_⟩⟩
            rw [addr0, hVd]
            refine .inr ⟨hB, ?_, ?_⟩
            · rintro ⟨k, hk, hb⟩
              obtain ⟨q, t', e', h1, rfl⟩ := (keysOf_iff ts d k).1 hk
              obtain ⟨r', h2, h3⟩ := nameOf_block hb
              have hq : d + q - d = q := by omega
              rw [hq] at h2
              by_cases hrr : r = r'
              · subst hrr
                have := hu p q r (by rw [hp]; exact hr0) h2 hk
                subst this
                rw [htp] at h1; cases h1
              · have hlk' : (look σ.rows r').isSome = true := by
                  obtain ⟨rv', h4, h5⟩ := Option.bind_eq_some_iff.1 h2
                  obtain ⟨_, _, h6⟩ := resVar_run hT h (rowAt_some h5)
                  exact h6.2
                exact h.rr r r' g hrr hlk hlk' (by rw [e2]; rfl) h3
            · rw [cell_of_row w g j cur row.e (0, 0) hg]
              rw [← htake] at hj
              simpa using take_get hj
        rw [hc] at hlr
        cases t with
        | st u => cases hc
        | _ => exact hlr
      · cases he
    · rw [hcase] at he
      exact (typed_rel he hrel).mono hV
  | some e =>
    have hcase : (∃ r, av = .rv (.own r)) ∨ resOne σ (t, some e) av = none := by
      cases av with
      | rv x => cases x <;> first | exact .inl ⟨_, rfl⟩ | exact .inr rfl
      | _ => exact .inr rfl
    rcases hcase with ⟨r, rfl⟩ | hcase
    · simp only [resOne] at he
      obtain ⟨rfl, hlk⟩ := hrel
      split at he
      · rename_i row hrow'
        cases hb : Nat.beq row.e e with
        | false => simp [hb] at he
        | true =>
          simp only [hb, cond_true] at he
          have hbe := (beq_iff _ _).1 hb
          have hc := unleaf1 he
          have hn : nameOf T.rows σ ρ R0 d (d + p) = ρ r := by
            unfold nameOf
            have : d + p - d = p := by omega
            rw [this, hp]
            simp [hrow r rfl]
          refine ⟨hn.symm, row, ?_, ?_⟩
          · obtain ⟨re, rt, rxs⟩ := row
            simp only at hbe hc
            subst hbe
            cases hc
            rfl
          · rw [hn]
            exact (h.rows r row hrow').mono hV (fun _ _ => rfl)
      · cases he
    · rw [hcase] at he; cases he

theorem getRes_rel (hT : TabOk P T.rows) (h : St V0 w0 σ a w ρ β) {R0 : List ResultVar} {ts : List (Ty × Option TypeId)} {d : Nat}
    (hu : ∀ (p q r : Nat), (R0[p]?).bind (rowAt T.rows σ) = some r → (R0[q]?).bind (rowAt T.rows σ) = some r → (d + q) ∈ keysOf d ts → p = q)
    {V : View} (hVd : V = view V0 w0.heap.size (OwnHid (keysOf d ts) (nameOf T.rows σ ρ R0 d)) w) (hV : ∀ ad v, St.V V0 w0 σ w ρ β ad v → V ad v) :
    ∀ (rvs : List ResultVar) (ts' : List (Ty × Option TypeId)) (n : Nat) (y : DenL (ts'.map (·.1))), R0.drop n = rvs → ts.drop n = ts' → getRes T.rows σ rvs ts' = some y →
      ∃ vs, (rvs.mapM (resSem a.tmps)).run P w = .ok vs w ∧ ResOk V w w0.heap.size (nameOf T.rows σ ρ R0 d) (d + n) ts' y vs
  | [], [], n, y, h1, h2, hg => ⟨[], rfl, rfl⟩
  | [rv], [tp], n, y, h1, h2, hg => by
    have e1 : R0[n]? = some rv := by have := congrArg (·[0]?) h1; simpa using this
    have e2 : ts[n]? = some tp := by have := congrArg (·[0]?) h2; simpa using this
    obtain ⟨v, h3, h4⟩ := resOne_rel hT h hu hVd hV e1 e2 hg
    exact ⟨[v], by simp [List.mapM_cons, h3], v, rfl, h4⟩
  | rv :: rvs, tp :: tq :: tps, n, y, h1, h2, hg => by
    have e1 : R0[n]? = some rv := by have := congrArg (·[0]?) h1; simpa using this
    have e2 : ts[n]? = some tp := by have := congrArg (·[0]?) h2; simpa using this
    simp only [getRes] at hg
    split at hg
    · rename_i x y' hx hy
      simp only [Option.some.injEq] at hg
      subst hg
      obtain ⟨v, h3, h4⟩ := resOne_rel hT h hu hVd hV e1 e2 hx
      obtain ⟨vs, h5, h6⟩ := getRes_rel hT h hu hVd hV rvs (tq :: tps) (n + 1) y' (by rw [← List.tail_drop, h1]; rfl) (by rw [← List.tail_drop, h2]; rfl) hy
      refine ⟨v :: vs, ?_, v, vs, rfl, h4, h6⟩
      rw [List.mapM_cons]
      simp [h3, h5]
    · cases hg
  | [], _ :: _, n, y, h1, h2, hg => by simp [getRes] at hg
  | rv :: rvs, [], n, y, h1, h2, hg => by simp [getRes] at hg
  | rv :: rv2 :: rvs, [tp], n, y, h1, h2, hg => by simp [getRes] at hg

theorem body_sound (hV0 : ∀ ad v, V0 ad v → w0.cell? ad = some v) (hT : TabOk P T.rows) (hΦ : FnOk P T Φ) (hm : P.follows .mixedOrders = true) {f : FuncId} {fn : Func} {c : Code} (hf : P.funcs[f]? = some fn) (hb : fn.body = some c)
    {n : Nat} {x : DenL (T.sig f).args} {y : DenL ((T.sig f).res.map (·.1))} (he : evBody T fn c Φ n f x = some y) {args : Array Value} (hargs : ArgsOk V0 (T.sig f).args x args.toList) (d : Nat) :
    Calls P f args w0 (Left V0 w0 (T.sig f).res y d) := by
  refine calls_of_wp hf hb ?_
  unfold evBody at he
  refine wp_mono (code_sound hV0 hT hΦ hm c _ _ _ _ w0 _ _ he (St.start hV0 hargs fn.ntmps)) (fun e a' w' hp => ?_)
  have fin : ∀ σ', (bif noDup (ownKeys T.rows σ' fn.results.toList) || !(anyOwn (T.sig f).res) then getRes T.rows σ' fn.results.toList (T.sig f).res else none) = some y → To V0 w0 σ' a' w' →
      a'.defers = [] ∧ ∃ v, (results fn a'.tmps).run P w' = .ok v w' ∧ Left V0 w0 (T.sig f).res y d (.returned v) w' := by
    rintro σ' hg ⟨ρ', β', h⟩
    cases hc : (noDup (ownKeys T.rows σ' fn.results.toList) || !(anyOwn (T.sig f).res)) with
    | false => simp [hc] at hg
    | true =>
      simp only [hc, cond_true] at hg
      have huniq : ∀ (p q r : Nat), (fn.results.toList[p]?).bind (rowAt T.rows σ') = some r → (fn.results.toList[q]?).bind (rowAt T.rows σ') = some r → (d + q) ∈ keysOf d (T.sig f).res → p = q := by
        intro p q r h1 h2 h3
        rw [Bool.or_eq_true] at hc
        rcases hc with hc | hc
        · exact noDup_uniq _ hc p q r h1 h2
        · exfalso
          obtain ⟨p', t, e, h4, _⟩ := (keysOf_iff _ _ _).1 h3
          have : anyOwn (T.sig f).res = true := by
            unfold anyOwn; rw [List.any_eq_true]; exact ⟨(t, some e), List.mem_of_getElem? h4, rfl⟩
          rw [this] at hc; cases hc
      have hlk : ∀ k g, (nameOf T.rows σ' ρ' fn.results.toList d k).ownBlock = some g → ∃ r, (fn.results.toList[k - d]?).bind (rowAt T.rows σ') = some r ∧ (ρ' r).ownBlock = some g ∧ (look σ'.rows r).isSome = true := fun k g hk => by
        obtain ⟨r, h1, h2⟩ := nameOf_block hk
        obtain ⟨rv, h3, h4⟩ := Option.bind_eq_some_iff.1 h1
        obtain ⟨_, _, h5⟩ := resVar_run hT h (rowAt_some h4)
        exact ⟨r, h1, h2, h5.2⟩
      have hV : ∀ ad v, St.V V0 w0 σ' w' ρ' β' ad v → view V0 w0.heap.size (OwnHid (keysOf d (T.sig f).res) (nameOf T.rows σ' ρ' fn.results.toList d)) w' ad v := fun ad v hv =>
        view_mono (fun k _ _ hn => ⟨fun ⟨j, _, hj⟩ => by
          obtain ⟨r, _, h2, h3⟩ := hlk j k hj
          exact hn (.inl ⟨r, h3, h2⟩), rfl⟩) hv
      obtain ⟨vs, h1, h2⟩ := getRes_rel hT h huniq rfl hV fn.results.toList (T.sig f).res 0 y rfl rfl hg
      refine ⟨h.defers, _, results_run h1, vs, nameOf T.rows σ' ρ' fn.results.toList d, rfl, h.below, fun k k' g hk hk' hne hg1 hg2 => ?_, h2⟩
      obtain ⟨r, i1, i2, i3⟩ := hlk k g hg1
      obtain ⟨r', j1, j2, j3⟩ := hlk k' g hg2
      by_cases hrr : r = r'
      · subst hrr
        have hge := keys_ge _ _ _ hk
        have hge' := keys_ge _ _ _ hk'
        have := huniq (k - d) (k' - d) r i1 j1 (by rw [show d + (k' - d) = k' by omega]; exact hk')
        omega
      · exact h.rr r r' g hrr i3 j3 i2 j2
  cases e with
  | normal => obtain ⟨σ', h1, h2⟩ := hp; exact fin σ' h1 h2
  | ret => obtain ⟨σ', h1, h2⟩ := hp; exact fin σ' h1 h2
  | exit id => obtain ⟨σ', h1, h2⟩ := hp; cases h1
  | _ => exact hp.elim

/-- Every function that the evaluator evaluates does what the evaluator says. -/
theorem fn_sound {fns : FuncId → Option Func} (hT : TabOk P T.rows) (hm : P.follows .mixedOrders = true) (hF : ∀ f fn, fns f = some fn → P.funcs[f]? = some fn ∧ (fn.name == "runtime.NumGoroutine") = false) :
    ∀ n, FnOk P T (evFn T fns n)
  | 0 => fun f x y h => by cases h
  | n + 1 => fun f x y h V0 w0 args d hV0 hargs => by
    simp only [evFn] at h
    split at h
    · rename_i fn hfn
      obtain ⟨h1, h2⟩ := hF f fn hfn
      split at h
      · rename_i c hc
        exact ⟨body_sound hV0 hT (fn_sound hT hm hF n) hm h1 hc h hargs d, fn, h1, by rw [hc]; rfl, h2⟩
      · cases h
    · cases h
end
end Go.Abs
set_option linter.unusedVariables false
set_option linter.unusedSimpArgs false
namespace Go.Abs
open Go.RowKit Go.Lib

def isZ : CV → Bool
  | ⟨.int _, n⟩ => decide (n = (0 : Int))
  | ⟨.bool, b⟩ => !b
  | ⟨.str, s⟩ => match s with | ⟨⟨[]⟩⟩ => true | _ => false
  | ⟨.slice t, xs⟩ => match (xs : List t.den) with | [] => true | _ => false
  | _ => false

theorem litFlat_zero : ∀ {t : Ty} {l : List Value} {cs : List CV} {r : List Value}, litFlat t l = some (cs, r) → cs.all isZ = true → cs = zeroCV t
  | .unit, l, cs, r, h, hz => by simp only [litFlat, Option.some.injEq, Prod.mk.injEq] at h; exact h.1.symm
  | .pair a b, l, cs, r, h, hz => by
    simp only [litFlat] at h
    split at h
    · rename_i x l' h1
      split at h
      · rename_i y l'' h2
        simp only [Option.some.injEq, Prod.mk.injEq] at h
        obtain ⟨rfl, rfl⟩ := h
        rw [List.all_append, Bool.and_eq_true] at hz
        rw [litFlat_zero h1 hz.1, litFlat_zero h2 hz.2]
        rfl
      · cases h
    · cases h
  | .st t, l, cs, r, h, hz => litFlat_zero (t := t) h hz
  | .int k, .int k' n :: l, cs, r, h, hz => by
    simp only [litFlat] at h
    split at h
    · simp only [Option.some.injEq, Prod.mk.injEq] at h
      obtain ⟨rfl, rfl⟩ := h
      simp [isZ] at hz
      subst hz; rfl
    · cases h
  | .bool, .bool b :: l, cs, r, h, hz => by
    simp only [litFlat, Option.some.injEq, Prod.mk.injEq] at h
    obtain ⟨rfl, rfl⟩ := h
    simp [isZ] at hz
    subst hz; rfl
  | .str, .string s :: l, cs, r, h, hz => by
    simp only [litFlat, Option.some.injEq, Prod.mk.injEq] at h
    obtain ⟨rfl, rfl⟩ := h
    simp only [List.all_cons, List.all_nil, Bool.and_true, isZ] at hz
    split at hz
    · rfl
    · cases hz
  | .slice t, .slice none 0 0 :: l, cs, r, h, hz => by
    simp only [litFlat, Option.some.injEq, Prod.mk.injEq] at h
    obtain ⟨rfl, rfl⟩ := h
    rfl

def tyBeq : Ty → Ty → Bool
  | .int a, .int b => decide (a = b)
  | .bool, .bool => true
  | .str, .str => true
  | .slice a, .slice b => tyBeq a b
  | .unit, .unit => true
  | .pair a b, .pair c d => tyBeq a c && tyBeq b d
  | .st a, .st b => tyBeq a b
  | _, _ => false

theorem tyBeq_eq : ∀ {a b : Ty}, tyBeq a b = true → a = b
  | .int a, .int b, h => by simp [tyBeq] at h; rw [h]
  | .bool, .bool, _ => rfl
  | .str, .str, _ => rfl
  | .slice a, .slice b, h => by rw [tyBeq_eq (a := a) (b := b) h]
  | .unit, .unit, _ => rfl
  | .pair a b, .pair c d, h => by
    simp only [tyBeq, Bool.and_eq_true] at h
    rw [tyBeq_eq h.1, tyBeq_eq h.2]
  | .st a, .st b, h => by rw [tyBeq_eq (a := a) (b := b) h]

def fldsOf (P : Program) : List Field → Option (List (Nat × Nat))
  | [] => some []
  | f :: fs => match P.info? f.type with
    | some i => match fldsOf P fs with
      | some r => some ((f.offset, i.size) :: r)
      | none => none
    | none => none

theorem fldsOf_eq {P : Program} : ∀ {fs : List Field} {r : List (Nat × Nat)}, fldsOf P fs = some r → fs.mapM (fun f => (P.info? f.type).map fun i => (f.offset, i.size)) = some r
  | [], r, h => by simp [fldsOf] at h; subst h; rfl
  | f :: fs, r, h => by
    simp only [fldsOf] at h
    split at h
    · rename_i i hi
      split at h
      · rename_i r' hr
        simp only [Option.some.injEq] at h
        subst h
        rw [List.mapM_cons, fldsOf_eq hr]
        simp [hi]
      · cases h
    · cases h

theorem fldsOf_get {P : Program} : ∀ {fs : List Field} {r : List (Nat × Nat)}, fldsOf P fs = some r → ∀ (k off size : Nat), r[k]? = some (off, size) → ∃ (fd : Field) (j : TypeInfo), fs[k]? = some fd ∧ fd.offset = off ∧ P.info? fd.type = some j ∧ j.size = size
  | [], r, h, k, off, size, hk => by simp [fldsOf] at h; subst h; simp at hk
  | f :: fs, r, h, k, off, size, hk => by
    simp only [fldsOf] at h
    split at h
    · rename_i i hi
      split at h
      · rename_i r' hr
        simp only [Option.some.injEq] at h
        subst h
        cases k with
        | zero => simp at hk; exact ⟨f, i, by simp, hk.1, hi, hk.2⟩
        | succ k =>
          obtain ⟨fd, j, h1, h2⟩ := fldsOf_get hr k off size (by simpa using hk)
          exact ⟨fd, j, by simpa using h1, h2⟩
      · cases h
    · cases h

def pairsBeq : List (Nat × Nat) → List (Nat × Nat) → Bool
  | [], [] => true
  | (a, b) :: r, (c, d) :: s => Nat.beq a c && Nat.beq b d && pairsBeq r s
  | _, _ => false

theorem pairsBeq_eq : ∀ {a b : List (Nat × Nat)}, pairsBeq a b = true → a = b
  | [], [], _ => rfl
  | (a, b) :: r, (c, d) :: s, h => by
    simp only [pairsBeq, Bool.and_eq_true] at h
    rw [(beq_iff _ _).1 h.1.1, (beq_iff _ _).1 h.1.2, pairsBeq_eq h.2]
  | [], _ :: _, h => by simp [pairsBeq] at h
  | _ :: _, [], h => by simp [pairsBeq] at h

def descChk (P : Program) (T : List TRow) (r : TRow) : Ty → TypeDesc → Bool
  | .int k, .int k' => decide (k = k') && r.flds.isEmpty
  | .bool, .bool => r.flds.isEmpty
  | .str, .string => r.flds.isEmpty
  | .slice u, .slice e => Nat.beq e r.elem && r.flds.isEmpty && match findT T e with
    | some re => tyBeq re.ty u
    | none => false
  | .st u, .struct fs => match fldsOf P fs.toList with
    | some l => pairsBeq l r.flds && l.all fun p => Nat.blt 0 p.2 && Nat.ble (p.1 + p.2) u.size
    | none => false
  | _, _ => false

def zeroChk (t : Ty) (z : Value) : Bool :=
  (match litFlat t z.cells.toList with
   | some (cs, []) => cs.all isZ
   | _ => false) &&
  (match t, z with
   | .st _, .agg _ => true
   | .st _, _ => false
   | _, .agg _ => false
   | _, _ => true)

def rowChk (P : Program) (T : List TRow) (r : TRow) : Bool :=
  match P.info? r.id, P.underlying r.id with
  | some i, some d => Nat.beq i.size r.ty.size && Nat.beq i.bytes r.bytes && (match i.zero with | some z => zeroChk r.ty z | none => false) && descChk P T r r.ty d
  | _, _ => false

theorem findT_mem {T : List TRow} {t : TypeId} {r : TRow} (h : findT T t = some r) : r ∈ T ∧ r.id = t := by
  induction T with
  | nil => cases h
  | cons x xs ih =>
    simp only [findT] at h
    cases hb : Nat.beq x.id t with
    | true =>
      simp only [hb, cond_true, Option.some.injEq] at h
      subst h
      exact ⟨by simp, (beq_iff _ _).1 hb⟩
    | false =>
      simp only [hb, cond_false] at h
      exact ⟨by simp [(ih h).1], (ih h).2⟩

theorem rowChk_ok {P : Program} {T : List TRow} {r : TRow} (h : rowChk P T r = true) : TOk P T r := by
  unfold rowChk at h
  split at h
  · rename_i i d hi hd
    simp only [Bool.and_eq_true] at h
    obtain ⟨⟨⟨h1, h2⟩, h3⟩, h4⟩ := h
    have hflds : (∀ u, r.ty ≠ .st u) → r.flds = [] := by
      intro hn
      unfold descChk at h4
      split at h4
      · simp only [Bool.and_eq_true] at h4; simpa using h4.2
      · simpa using h4
      · simpa using h4
      · simp only [Bool.and_eq_true] at h4; simpa using h4.1.2
      · rename_i u fs ht; exact absurd ht (hn u)
      · cases h4
    refine ⟨?_, ?_, hflds⟩
    · split at h3
      · rename_i z hz
        simp only [zeroChk, Bool.and_eq_true] at h3
        obtain ⟨h5, h6⟩ := h3
        refine ⟨i, z, hi, (beq_iff _ _).1 h1, (beq_iff _ _).1 h2, hz, fun V => ?_, ?_⟩
        · split at h5
          · rename_i cs hl
            obtain ⟨l1, e1, h7⟩ := litFlat_rel (V := V) hl
            rw [e1, List.append_nil]
            refine rel_of_flat ?_
            have := litFlat_zero hl h5
            rw [this] at h7
            exact h7
          · cases h5
        · cases ht : r.ty with
          | st u =>
            rw [ht] at h6
            cases z with
            | agg cs => simp [wrap, Value.cells]
            | _ => cases h6
          | _ =>
            rw [ht] at h6
            cases z with
            | agg cs => cases h6
            | _ => rfl
      · cases h3
    · unfold descChk at h4
      split at h4
      · rename_i k k' ht
        rw [ht]
        simp only [Bool.and_eq_true, decide_eq_true_eq] at h4
        rw [h4.1]; exact hd
      · rename_i ht; rw [ht]; exact hd
      · rename_i ht; rw [ht]; exact hd
      · rename_i u e ht
        rw [ht]
        simp only [Bool.and_eq_true] at h4
        have he := (beq_iff _ _).1 h4.1.1
        subst he
        refine ⟨hd, ?_⟩
        have h5 := h4.2
        split at h5
        · rename_i re hre; exact ⟨re, hre, tyBeq_eq h5⟩
        · cases h5
      · rename_i u fs ht
        rw [ht]
        split at h4
        · rename_i l hl
          simp only [Bool.and_eq_true] at h4
          have hle := pairsBeq_eq h4.1
          subst hle
          refine ⟨fs, hd, fldsOf_eq hl, fun f off size hf => ?_⟩
          obtain ⟨fd, j, h5, h6, h7, h8⟩ := fldsOf_get hl f off size hf
          have h9 := List.all_eq_true.1 h4.2 (off, size) (List.mem_of_getElem? hf)
          simp only [Bool.and_eq_true] at h9
          have h10 : 0 + 1 ≤ size := Nat.le_of_ble_eq_true h9.1
          have h11 := Nat.le_of_ble_eq_true h9.2
          exact ⟨fd, j, by simpa using h5, h6, h7, h8, by omega, h11⟩
        · cases h4
      · cases h4
  · cases h

theorem tab_ok {P : Program} {T : List TRow} (h : T.all (rowChk P T) = true) : TabOk P T := fun t r hr => by
  obtain ⟨h1, h2⟩ := findT_mem hr
  exact ⟨h2, rowChk_ok (List.all_eq_true.1 h r h1)⟩
end Go.Abs
namespace Go.Abs
open Go.RowKit
def FnsOk (P : Program) : List (Nat × Func) → Prop
  | [] => True
  | p :: r => (P.funcs[p.1]? = some p.2 ∧ (p.2.name == "runtime.NumGoroutine") = false) ∧ FnsOk P r

theorem fnsOk_look {P : Program} : ∀ {l : List (Nat × Func)}, FnsOk P l → ∀ f fn, look l f = some fn → P.funcs[f]? = some fn ∧ (fn.name == "runtime.NumGoroutine") = false
  | [], h, f, fn, hl => by cases hl
  | (k, g) :: r, h, f, fn, hl => by
    simp only [look] at hl
    cases hb : Nat.beq k f with
    | true =>
      simp only [hb, cond_true, Option.some.injEq] at hl
      have := (beq_iff _ _).1 hb
      subst this hl
      exact h.1
    | false =>
      simp only [hb, cond_false] at hl
      exact fnsOk_look h.2 f fn hl

theorem res_bool {V : View} {w : World} {B d : Nat} {ρ : Nat → Value} {vs : List Value} {ts : List (Ty × Option TypeId)} (hres : ts = [(.bool, none)]) {y : DenL (ts.map (·.1))} (hy : HEq y true) (h : ResOk V w B ρ d ts y vs) : vs = [.bool true] := by
  subst hres
  have hy' : y = true := eq_of_heq hy
  subst hy'
  obtain ⟨v, rfl, h1⟩ := h
  rw [lrel_bool (V := V) h1]

/-- What the law's row asks of a walk, out of the evaluator. -/
theorem walk_of {P : Program} {T : Tab} {Φ : (f : FuncId) → DenL (T.sig f).args → Option (DenL ((T.sig f).res.map (·.1)))} (hΦ : FnOk P T Φ) {f : FuncId} (hres : (T.sig f).res = [(.bool, none)]) {x : DenL (T.sig f).args} {y : DenL ((T.sig f).res.map (·.1))}
    (he : Φ f x = some y) (hy : HEq y true) {V0 : View} {w : World} {args : Array Value} (hV0 : ∀ ad v, V0 ad v → w.cell? ad = some v) (hargs : ArgsOk V0 (T.sig f).args x args.toList) :
    Calls P f args w fun e w' => e = .returned (.bool true) ∧ Below w.heap.size w w' := by
  refine Calls.mono (hΦ f x y he V0 w args 0 hV0 hargs).1 ?_
  rintro e w' ⟨vs, ρ, rfl, hb, _, hr⟩
  refine ⟨?_, hb⟩
  rw [res_bool hres hy hr]
  rfl
end Go.Abs
set_option linter.unusedVariables false
set_option linter.unusedSimpArgs false
namespace Go.Abs

/-! ### Limits of chains of options -/
section
variable {α β : Type}

def Conv (u : Nat → Option α) (v : Option α) : Prop :=
  (∀ y, v = some y → ∃ n, ∀ m, n ≤ m → u m = some y) ∧ ∀ n y, u n = some y → v = some y

theorem Conv.const (v : Option α) : Conv (fun _ => v) v := ⟨fun y h => ⟨0, fun _ _ => h⟩, fun _ _ h => h⟩

theorem Conv.bind {u : Nat → Option α} {v : Option α} {g : Nat → α → Option β} {G : α → Option β} (h : Conv u v) (hg : ∀ y, Conv (fun n => g n y) (G y)) :
    Conv (fun n => (u n).bind (g n)) (v.bind G) := by
  constructor
  · intro z hz
    obtain ⟨y, hy, hz⟩ := Option.bind_eq_some_iff.1 hz
    obtain ⟨n1, h1⟩ := h.1 y hy
    obtain ⟨n2, h2⟩ := (hg y).1 z hz
    exact ⟨max n1 n2, fun m hm => by show (u m).bind (g m) = some z; rw [h1 m (by omega)]; exact h2 m (by omega)⟩
  · intro n z hz
    obtain ⟨y, hy, hz⟩ := Option.bind_eq_some_iff.1 hz
    rw [h.2 n y hy]
    exact (hg y).2 n z hz

theorem Conv.shift {u : Nat → Option α} {v : Option α} (h : Conv u v) : Conv (fun n => u (n + 1)) v :=
  ⟨fun y hy => let ⟨n, hn⟩ := h.1 y hy; ⟨n, fun m hm => hn (m + 1) (by omega)⟩, fun n y hy => h.2 (n + 1) y hy⟩

open Classical in
noncomputable def lim (u : Nat → Option α) : Option α := if h : ∃ y, ∃ n, ∀ m, n ≤ m → u m = some y then some h.choose else none

theorem Conv.lim_eq {u : Nat → Option α} {v : Option α} (h : Conv u v) : lim u = v := by
  unfold lim
  cases v with
  | none =>
    rw [dif_neg]
    rintro ⟨y, n, hn⟩
    have := h.2 n y (hn n (Nat.le_refl _))
    cases this
  | some y =>
    have hex : ∃ y, ∃ n, ∀ m, n ≤ m → u m = some y := ⟨y, h.1 y rfl⟩
    rw [dif_pos hex]
    obtain ⟨n, hn⟩ := hex.choose_spec
    exact (h.2 n _ (hn n (Nat.le_refl _))).symm

theorem up_le {u : Nat → Option α} (hm : ∀ n y, u n = some y → u (n + 1) = some y) {n m : Nat} (h : n ≤ m) {y : α} (hy : u n = some y) : u m = some y := by
  induction h with
  | refl => exact hy
  | step _ ih => exact hm _ _ ih

theorem conv_lim {u : Nat → Option α} (hm : ∀ n y, u n = some y → u (n + 1) = some y) : Conv u (lim u) := by
  have key : ∀ n y, u n = some y → lim u = some y := fun n y hy => by
    have hex : ∃ y, ∃ n, ∀ m, n ≤ m → u m = some y := ⟨y, n, fun m h => up_le hm h hy⟩
    unfold lim
    rw [dif_pos hex]
    obtain ⟨k, hk⟩ := hex.choose_spec
    have h1 := hk (max n k) (by omega)
    have h2 := up_le hm (show n ≤ max n k by omega) hy
    rw [h1] at h2
    exact h2
  refine ⟨fun y hy => ?_, key⟩
  unfold lim at hy
  split at hy
  · rename_i hex
    obtain ⟨k, hk⟩ := hex.choose_spec
    refine ⟨k, fun m hm' => ?_⟩
    rw [hk m hm']
    exact hy
  · cases hy

theorem lim_some {u : Nat → Option α} {y : α} (h : lim u = some y) : ∃ n, u n = some y := by
  unfold lim at h
  split at h
  · rename_i hex
    obtain ⟨k, hk⟩ := hex.choose_spec
    exact ⟨k, by rw [hk k (Nat.le_refl _)]; exact h⟩
  · cases h
end

abbrev PhiT (T : Tab) := (f : FuncId) → DenL (T.sig f).args → Option (DenL ((T.sig f).res.map (·.1)))

section
variable {R : Type} {T : Tab}

theorem conv_indep {α : Type} {F : PhiT T → Option α} (h : ∀ a b, F a = F b) (Φ : Nat → PhiT T) (Φ' : PhiT T) : Conv (fun n => F (Φ n)) (F Φ') := by
  have : (fun n => F (Φ n)) = fun _ => F Φ' := funext fun n => h _ _
  rw [this]
  exact Conv.const _

def pairk : Cls → AS → Option (Cls × AS) := fun c s => some (c, s)

theorem doOp_conv0 {Φ : Nat → PhiT T} {Φ' : PhiT T} (hΦ : ∀ f x, Conv (fun n => Φ n f x) (Φ' f x)) (σ : AS) (o : Oper) :
    Conv (fun n => doOp T (Φ n) σ o pairk) (doOp T Φ' σ o pairk) := by
  obtain ⟨dst, op, type, pos, after, guard⟩ := o
  cases op
  case call c =>
    obtain ⟨callee, args, ats⟩ := c
    cases callee with
    | builtin b => cases b <;> exact conv_indep (F := fun Φ => doOp T Φ σ _ pairk) (fun _ _ => rfl) Φ Φ'
    | invoke r m => exact conv_indep (F := fun Φ => doOp T Φ σ _ pairk) (fun _ _ => rfl) Φ Φ'
    | value v =>
      cases hf : fnOf ⟨.value v, args, ats⟩ with
      | none => exact conv_indep (F := fun Φ => doOp T Φ σ _ pairk) (fun _ _ => by simp only [doOp, hf]) Φ Φ'
      | some f =>
        simp only [doOp, hf]
        split
        · exact Conv.bind (hΦ _ _) fun y => Conv.const _
        · exact Conv.const _
  all_goals exact conv_indep (F := fun Φ => doOp T Φ σ _ pairk) (fun _ _ => rfl) Φ Φ'

theorem doOp_conv {Φ : Nat → PhiT T} {Φ' : PhiT T} (hΦ : ∀ f x, Conv (fun n => Φ n f x) (Φ' f x)) (σ : AS) (o : Oper) {k : Nat → Cls → AS → Option R} {K : Cls → AS → Option R}
    (hk : ∀ c s, Conv (fun n => k n c s) (K c s)) : Conv (fun n => doOp T (Φ n) σ o (k n)) (doOp T Φ' σ o K) := by
  have e : (fun n => doOp T (Φ n) σ o (k n)) = fun n => (doOp T (Φ n) σ o pairk).bind fun p => k n p.1 p.2 := funext fun n => doOp_nat _ _ _
  rw [e, doOp_nat]
  exact Conv.bind (doOp_conv0 hΦ σ o) fun p => hk _ _

theorem evOp_conv {Φ : Nat → PhiT T} {Φ' : PhiT T} (hΦ : ∀ f x, Conv (fun n => Φ n f x) (Φ' f x)) (ops : Array Oper) (σ : AS) (o : Oper) {k : Nat → Cls → AS → Option R} {K : Cls → AS → Option R}
    (hk : ∀ c s, Conv (fun n => k n c s) (K c s)) : Conv (fun n => evOp T (Φ n) ops σ o (k n)) (evOp T Φ' ops σ o K) := by
  cases hg : o.guard with
  | none => simp only [evOp, hg]; exact doOp_conv hΦ σ o hk
  | some p =>
    obtain ⟨j, want⟩ := p
    cases ht : (ops[j]?).bind (·.dst) with
    | none => simp only [evOp, hg, ht]; exact Conv.const _
    | some t =>
      simp only [evOp, hg, ht]
      split
      · rename_i b hb
        cases b <;> cases want <;> simp only [cond_true, cond_false] <;> first | exact hk _ _ | exact doOp_conv hΦ _ o hk
      · exact hk _ _
      · exact Conv.const _

theorem evOps_conv {Φ : Nat → PhiT T} {Φ' : PhiT T} (hΦ : ∀ f x, Conv (fun n => Φ n f x) (Φ' f x)) (ops : Array Oper) : ∀ (l : List Oper) (σ : AS) (cs : List Cls) {k : Nat → List Cls → AS → Option R} {K : List Cls → AS → Option R}
    (hk : ∀ c s, Conv (fun n => k n c s) (K c s)), Conv (fun n => evOps T (Φ n) ops l σ cs (k n)) (evOps T Φ' ops l σ cs K)
  | [], σ, cs, k, K, hk => hk _ _
  | o :: r, σ, cs, k, K, hk => by
    simp only [evOps]
    exact evOp_conv hΦ ops σ o fun c s => evOps_conv hΦ ops r s (c :: cs) hk

theorem evRegion_conv {Φ : Nat → PhiT T} {Φ' : PhiT T} (hΦ : ∀ f x, Conv (fun n => Φ n f x) (Φ' f x)) (ops : Array Oper) (draw : Bool) (σ : AS) {k : Nat → AS → Option R} {K : AS → Option R}
    (hk : ∀ s, Conv (fun n => k n s) (K s)) : Conv (fun n => evRegion T (Φ n) ops draw σ (k n)) (evRegion T Φ' ops draw σ K) := by
  unfold evRegion
  refine evOps_conv hΦ ops _ _ _ fun c s => ?_
  cases draw with
  | false => exact hk s
  | true =>
    cases (okDeps 0 ops.toList && okDraw ops 0 (ops.toList.zip c.reverse) (ancs ops.toList [])) with
    | true => simp only [cond_true]; exact hk s
    | false => simp only [cond_true, cond_false]; exact Conv.const _

/-- A loop without a bound. -/
noncomputable def loopI (h : List (Nat × Bool)) (body : AS → (Ex → AS → Option R) → Option R) (k : Ex → AS → Option R) (σ : AS) : Option R := lim fun m => loopN h body k m σ

noncomputable def evCodeI (T : Tab) (Φ : (f : FuncId) → DenL (T.sig f).args → Option (DenL ((T.sig f).res.map (·.1)))) : Code → List (List (Nat × Bool)) → AS → (Ex → AS → Option R) → Option R
  | .skip, _, σ, k => k .normal σ
  | .region _ ops draw, _, σ, k => evRegion T Φ ops draw σ (k .normal)
  | .seq a b, hs, σ, k => evCodeI T Φ a hs σ fun e σ' => match e with
    | .normal => evCodeI T Φ b (hs.drop (loops a)) σ' k
    | .exit i => k (.exit i) σ'
    | .ret => k .ret σ'
  | .cond c a b, hs, σ, k => match c with
    | .tmp t => match nth σ.tmps t with
      | .rv (.cv ⟨.bool, x⟩) => bif x then evCodeI T Φ a hs (σ.setb t true) k else evCodeI T Φ b (hs.drop (loops a)) (σ.setb t false) k
      | _ => none
    | .const (.bool x) => bif x then evCodeI T Φ a hs σ k else evCodeI T Φ b (hs.drop (loops a)) σ k
    | _ => none
  | .block id c, hs, σ, k => evCodeI T Φ c hs σ fun e σ' => match e with
    | .normal => k .normal σ'
    | .exit i => bif Nat.beq i id then k .normal σ' else k (.exit i) σ'
    | .ret => k .ret σ'
  | .loop c, hs, σ, k => match hs with
    | h :: hs' => loopI h (fun σ k' => evCodeI T Φ c hs' σ k') k (σ.forget h)
    | [] => none
  | .exit i, _, σ, k => k (.exit i) σ
  | .ret, _, σ, k => k .ret σ
  | _, _, _, _ => none

/-! ### Greater continuations, greater values -/

def Le {α : Type} (a b : Option α) : Prop := ∀ y, a = some y → b = some y
theorem Le.rfl' {α : Type} (a : Option α) : Le a a := fun _ h => h

theorem le_conv {α : Type} {a b : Option α} (h : Le a b) : Conv (fun n => bif Nat.ble n 0 then a else b) b := by
  refine ⟨fun y hy => ⟨1, fun m hm => ?_⟩, fun n y hy => ?_⟩
  · have : Nat.ble m 0 = false := by cases m with
      | zero => omega
      | succ m => rfl
    show (bif Nat.ble m 0 then a else b) = some y
    rw [this]; exact hy
  · have hy' : (bif Nat.ble n 0 then a else b) = some y := hy
    cases hb : Nat.ble n 0 with
    | true => rw [hb] at hy'; exact h y hy'
    | false => rw [hb] at hy'; exact hy'

theorem conv_le {α : Type} {u : Nat → Option α} {b : Option α} (h : Conv u b) : Le (u 0) b := fun y hy => h.2 0 y hy

theorem loopN_le {h : List (Nat × Bool)} {body body' : AS → (Ex → AS → Option R) → Option R} (hb : ∀ σ k k', (∀ e s, Le (k e s) (k' e s)) → Le (body σ k) (body' σ k'))
    {k k' : Ex → AS → Option R} (hk : ∀ e s, Le (k e s) (k' e s)) : ∀ m m' σ, m ≤ m' → Le (loopN h body k m σ) (loopN h body' k' m' σ)
  | 0, m', σ, _ => fun y hy => by cases hy
  | m + 1, 0, σ, hm => by omega
  | m + 1, m' + 1, σ, hm => by
    simp only [loopN]
    refine hb σ _ _ fun e s => ?_
    cases e with
    | normal => exact loopN_le hb hk m m' _ (by omega)
    | exit i => exact hk _ _
    | ret => exact hk _ _

theorem evCode_le {Φ Φ' : PhiT T} (hΦ : ∀ f x, Le (Φ f x) (Φ' f x)) {n n' : Nat} (hn : n ≤ n') : ∀ (c : Code) (hs : List (List (Nat × Bool))) (σ : AS) (k k' : Ex → AS → Option R) (hk : ∀ e s, Le (k e s) (k' e s)),
    Le (evCode T Φ n c hs σ k) (evCode T Φ' n' c hs σ k') := by
  intro c
  induction c with
  | skip => intro hs σ k k' hk; exact hk _ _
  | region id ops draw =>
    intro hs σ k k' hk
    have := evRegion_conv (Φ := fun n f x => bif Nat.ble n 0 then Φ f x else Φ' f x) (Φ' := Φ') (fun f x => le_conv (hΦ f x)) ops draw σ (k := fun n s => bif Nat.ble n 0 then k .normal s else k' .normal s) (K := k' .normal) (fun s => le_conv (hk _ _))
    exact conv_le this
  | seq a b iha ihb =>
    intro hs σ k k' hk
    simp only [evCode]
    refine iha _ _ _ _ fun e s => ?_
    cases e with
    | normal => exact ihb _ _ _ _ hk
    | exit i => exact hk _ _
    | ret => exact hk _ _
  | cond c a b iha ihb =>
    intro hs σ k k' hk
    simp only [evCode]
    split
    · split
      · rename_i x _
        cases x
        · exact ihb _ _ _ _ hk
        · exact iha _ _ _ _ hk
      · exact Le.rfl' _
    · rename_i x
      cases x
      · exact ihb _ _ _ _ hk
      · exact iha _ _ _ _ hk
    · exact Le.rfl' _
  | block id c ih =>
    intro hs σ k k' hk
    simp only [evCode]
    refine ih _ _ _ _ fun e s => ?_
    cases e with
    | normal => exact hk _ _
    | exit i => cases hb : Nat.beq i id <;> simp only [hb, cond_true, cond_false] <;> exact hk _ _
    | ret => exact hk _ _
  | loop c ih =>
    intro hs σ k k' hk
    simp only [evCode]
    cases hs with
    | nil => exact Le.rfl' _
    | cons h hs' => exact loopN_le (body := fun σ k' => evCode T Φ n c hs' σ k') (body' := fun σ k' => evCode T Φ' n' c hs' σ k') (fun σ k k' hk => ih hs' σ k k' hk) hk _ _ _ hn
  | exit i => intro hs σ k k' hk; exact hk _ _
  | ret => intro hs σ k k' hk; exact hk _ _
  | _ => intro hs σ k k' hk; exact Le.rfl' _

theorem loopN_up {h : List (Nat × Bool)} {body : AS → (Ex → AS → Option R) → Option R} (hb : ∀ σ k k', (∀ e s, Le (k e s) (k' e s)) → Le (body σ k) (body σ k'))
    (k : Ex → AS → Option R) (σ : AS) : ∀ n y, loopN h body k n σ = some y → loopN h body k (n + 1) σ = some y :=
  fun n y hy => loopN_le hb (fun e s => Le.rfl' _) n (n + 1) σ (by omega) y hy

/-- The code's value is the limit of the values with bounds. -/
theorem evCode_conv {Φ : Nat → PhiT T} {Φ' : PhiT T} (hΦ : ∀ f x, Conv (fun n => Φ n f x) (Φ' f x)) : ∀ (c : Code) (hs : List (List (Nat × Bool))) (σ : AS) {k : Nat → Ex → AS → Option R} {K : Ex → AS → Option R}
    (hk : ∀ e s, Conv (fun n => k n e s) (K e s)), Conv (fun n => evCode T (Φ n) n c hs σ (k n)) (evCodeI T Φ' c hs σ K) := by
  intro c
  induction c with
  | skip => intro hs σ k K hk; exact hk _ _
  | region id ops draw => intro hs σ k K hk; exact evRegion_conv hΦ ops draw σ fun s => hk _ _
  | seq a b iha ihb =>
    intro hs σ k K hk
    simp only [evCode, evCodeI]
    refine iha hs σ (k := fun n e σ' => match e with
      | .normal => evCode T (Φ n) n b (hs.drop (loops a)) σ' (k n)
      | .exit i => k n (.exit i) σ'
      | .ret => k n .ret σ') fun e s => ?_
    cases e with
    | normal => exact ihb _ _ hk
    | exit i => exact hk _ _
    | ret => exact hk _ _
  | cond c a b iha ihb =>
    intro hs σ k K hk
    simp only [evCode, evCodeI]
    cases c with
    | tmp t =>
      simp only
      generalize nth σ.tmps t = v
      cases v with
      | rv x =>
        cases x with
        | cv d =>
          obtain ⟨ty, x⟩ := d
          cases ty with
          | bool =>
            cases x
            · exact ihb _ _ hk
            · exact iha _ _ hk
          | _ => exact Conv.const _
        | _ => exact Conv.const _
      | _ => exact Conv.const _
    | const v =>
      cases v with
      | bool x =>
        cases x
        · exact ihb _ _ hk
        · exact iha _ _ hk
      | _ => exact Conv.const _
    | _ => exact Conv.const _
  | block id c ih =>
    intro hs σ k K hk
    simp only [evCode, evCodeI]
    refine ih hs σ (k := fun n e σ' => match e with
      | .normal => k n .normal σ'
      | .exit i => bif Nat.beq i id then k n .normal σ' else k n (.exit i) σ'
      | .ret => k n .ret σ') fun e s => ?_
    cases e with
    | normal => exact hk _ _
    | exit i => cases hb : Nat.beq i id <;> simp only [hb, cond_true, cond_false] <;> exact hk _ _
    | ret => exact hk _ _
  | loop c ih =>
    intro hs σ k K hk
    simp only [evCode, evCodeI]
    cases hs with
    | nil => exact Conv.const _
    | cons h hs' =>
      simp only
      -- the body without bounds grows with its continuation
      have hbI : ∀ σ (k k' : Ex → AS → Option R), (∀ e s, Le (k e s) (k' e s)) → Le (evCodeI T Φ' c hs' σ k) (evCodeI T Φ' c hs' σ k') := fun σ k k' hkk y hy => by
        obtain ⟨n, hn⟩ := (ih hs' σ (k := fun _ => k) (K := k) (fun e s => Conv.const _)).1 y hy
        have h1 := hn n (Nat.le_refl _)
        have h2 := evCode_le (T := T) (Φ := Φ n) (Φ' := Φ n) (fun f x => Le.rfl' _) (Nat.le_refl n) c hs' σ k k' hkk y h1
        exact (ih hs' σ (k := fun _ => k') (K := k') (fun e s => Conv.const _)).2 n y h2
      have hbn : ∀ n σ (k k' : Ex → AS → Option R), (∀ e s, Le (k e s) (k' e s)) → Le (evCode T (Φ n) n c hs' σ k) (evCode T (Φ n) n c hs' σ k') := fun n σ k k' hkk =>
        evCode_le (T := T) (fun f x => Le.rfl' _) (Nat.le_refl n) c hs' σ k k' hkk
      -- m rounds
      have hm : ∀ m σ, Conv (fun n => loopN h (fun σ k' => evCode T (Φ n) n c hs' σ k') (k n) m σ) (loopN h (fun σ k' => evCodeI T Φ' c hs' σ k') K m σ) := by
        intro m
        induction m with
        | zero => intro σ; exact Conv.const _
        | succ m ihm =>
          intro σ
          simp only [loopN]
          refine ih hs' σ (k := fun n e σ' => match e with
            | .normal => loopN h (fun σ k' => evCode T (Φ n) n c hs' σ k') (k n) m (σ'.forget h)
            | .exit i => k n (.exit i) σ'
            | .ret => k n .ret σ') fun e s => ?_
          cases e with
          | normal => exact ihm _
          | exit i => exact hk _ _
          | ret => exact hk _ _
      have hlim : ∀ σ, Conv (fun m => loopN h (fun σ k' => evCodeI T Φ' c hs' σ k') K m σ) (loopI h (fun σ k' => evCodeI T Φ' c hs' σ k') K σ) := fun σ => conv_lim (loopN_up hbI K σ)
      constructor
      · intro y hy
        obtain ⟨m, h1⟩ := (hlim _).1 y hy
        obtain ⟨n, h2⟩ := (hm m _).1 y (h1 m (Nat.le_refl _))
        refine ⟨max n m, fun i hi => ?_⟩
        exact loopN_le (hbn i) (fun e s => Le.rfl' _) m i _ (by omega) y (h2 i (by omega))
      · intro n y hy
        exact (hlim _).2 n y ((hm n _).2 n y hy)
  | exit i => intro hs σ k K hk; exact hk _ _
  | ret => intro hs σ k K hk; exact hk _ _
  | _ => intro hs σ k K hk; exact Conv.const _

theorem evCodeI_le {Φ : PhiT T} (c : Code) (hs : List (List (Nat × Bool))) (σ : AS) (k k' : Ex → AS → Option R) (hk : ∀ e s, Le (k e s) (k' e s)) : Le (evCodeI T Φ c hs σ k) (evCodeI T Φ c hs σ k') := fun y hy => by
  obtain ⟨n, hn⟩ := (evCode_conv (T := T) (Φ := fun _ => Φ) (Φ' := Φ) (fun f x => Conv.const _) c hs σ (k := fun _ => k) (K := k) (fun e s => Conv.const _)).1 y hy
  have h2 := evCode_le (T := T) (Φ := Φ) (Φ' := Φ) (fun f x => Le.rfl' _) (Nat.le_refl n) c hs σ k k' hk y (hn n (Nat.le_refl _))
  exact (evCode_conv (T := T) (Φ := fun _ => Φ) (Φ' := Φ) (fun f x => Conv.const _) c hs σ (k := fun _ => k') (K := k') (fun e s => Conv.const _)).2 n y h2

/-- One round of a loop. -/
theorem loopI_eq (T : Tab) (Φ : PhiT T) (h : List (Nat × Bool)) (c : Code) (hs : List (List (Nat × Bool))) (k : Ex → AS → Option R) (σ : AS) :
    loopI h (fun σ k' => evCodeI T Φ c hs σ k') k σ = evCodeI T Φ c hs σ fun e σ' => match e with
      | .normal => loopI h (fun σ k' => evCodeI T Φ c hs σ k') k (σ'.forget h)
      | .exit i => k (.exit i) σ'
      | .ret => k .ret σ' := by
  have hlim : ∀ σ, Conv (fun m => loopN h (fun σ k' => evCodeI T Φ c hs σ k') k m σ) (loopI h (fun σ k' => evCodeI T Φ c hs σ k') k σ) := fun σ => conv_lim (loopN_up (fun σ k k' hk => evCodeI_le c hs σ k k' hk) k σ)
  have h1 := (hlim σ).shift
  -- the body as a limit of bodies with bounds, the continuation as a limit too
  have h2 : Conv (fun m => loopN h (fun σ k' => evCodeI T Φ c hs σ k') k (m + 1) σ) (evCodeI T Φ c hs σ fun e σ' => match e with
      | .normal => loopI h (fun σ k' => evCodeI T Φ c hs σ k') k (σ'.forget h)
      | .exit i => k (.exit i) σ'
      | .ret => k .ret σ') := by
    simp only [loopN]
    constructor
    · intro y hy
      have h3 := evCode_conv (T := T) (Φ := fun _ => Φ) (Φ' := Φ) (fun f x => Conv.const _) c hs σ
        (k := fun m e σ' => match e with
          | .normal => loopN h (fun σ k' => evCodeI T Φ c hs σ k') k m (σ'.forget h)
          | .exit i => k (.exit i) σ'
          | .ret => k .ret σ')
        (K := fun e σ' => match e with
          | .normal => loopI h (fun σ k' => evCodeI T Φ c hs σ k') k (σ'.forget h)
          | .exit i => k (.exit i) σ'
          | .ret => k .ret σ') (fun e s => by
            cases e with
            | normal => exact hlim _
            | exit i => exact Conv.const _
            | ret => exact Conv.const _)
      obtain ⟨n, hn⟩ := h3.1 y hy
      have key : ∀ (k1 : Ex → AS → Option R) n y, evCode T Φ n c hs σ k1 = some y → evCodeI T Φ c hs σ k1 = some y := fun k1 n y h =>
        (evCode_conv (T := T) (Φ := fun _ => Φ) (Φ' := Φ) (fun f x => Conv.const _) c hs σ (k := fun _ => k1) (K := k1) (fun e s => Conv.const _)).2 n y h
      exact ⟨n, fun m hm => key _ m y (hn m hm)⟩
    · intro m y hy
      refine evCodeI_le c hs σ _ _ (fun e s => ?_) y hy
      cases e with
      | normal => exact fun y hy => (hlim _).2 m y hy
      | exit i => exact Le.rfl' _
      | ret => exact Le.rfl' _
  rw [← h2.lim_eq, h1.lim_eq]
end

/-! ### Functions without bounds -/

/-- What a function does behind its code. -/
def finK (T : Tab) (fn : Func) (f : FuncId) : Ex → AS → Option (DenL ((T.sig f).res.map (·.1))) := fun e σ => match e with
  | .exit _ => none
  | _ => bif noDup (ownKeys T.rows σ fn.results.toList) || !(anyOwn (T.sig f).res) then getRes T.rows σ fn.results.toList (T.sig f).res else none

noncomputable def evBodyI (T : Tab) (fn : Func) (c : Code) (Φ : PhiT T) (f : FuncId) (x : DenL (T.sig f).args) : Option (DenL ((T.sig f).res.map (·.1))) :=
  evCodeI T Φ c (T.hint f) ⟨Slots.of (argAVs (T.sig f).args x) (fn.ntmps - (T.sig f).args.length), [], []⟩ (finK T fn f)

noncomputable def evI (T : Tab) (fns : FuncId → Option Func) (f : FuncId) (x : DenL (T.sig f).args) : Option (DenL ((T.sig f).res.map (·.1))) := lim fun n => evFn T fns n f x

theorem evFn_up (T : Tab) (fns : FuncId → Option Func) : ∀ n f x y, evFn T fns n f x = some y → evFn T fns (n + 1) f x = some y
  | 0, f, x, y, h => by cases h
  | n + 1, f, x, y, h => by
    rw [evFn] at h ⊢
    revert h
    cases fns f with
    | none => exact id
    | some fn =>
      simp only
      cases fn.body with
      | none => exact id
      | some c =>
        simp only [evBody]
        exact evCode_le (T := T) (fun f x y hy => evFn_up T fns n f x y hy) (by omega) c _ _ _ _ (fun e s => Le.rfl' _) y

theorem evI_conv (T : Tab) (fns : FuncId → Option Func) (f : FuncId) (x : DenL (T.sig f).args) : Conv (fun n => evFn T fns n f x) (evI T fns f x) := conv_lim fun n y => evFn_up T fns n f x y

theorem evI_eq {T : Tab} {fns : FuncId → Option Func} {f : FuncId} {fn : Func} {c : Code} (hf : fns f = some fn) (hc : fn.body = some c) (x : DenL (T.sig f).args) :
    evI T fns f x = evBodyI T fn c (evI T fns) f x := by
  have h1 := (evI_conv T fns f x).shift
  have h2 : Conv (fun n => evFn T fns (n + 1) f x) (evBodyI T fn c (evI T fns) f x) := by
    have e : (fun n => evFn T fns (n + 1) f x) = fun n => evCode T (evFn T fns n) n c (T.hint f) ⟨Slots.of (argAVs (T.sig f).args x) (fn.ntmps - (T.sig f).args.length), [], []⟩ (finK T fn f) := by
      funext n
      rw [evFn, hf]
      simp only [hc]
      rfl
    rw [e]
    exact evCode_conv (T := T) (fun f x => evI_conv T fns f x) c _ _ (k := fun _ => finK T fn f) fun e s => Conv.const _
  rw [← h2.lim_eq, h1.lim_eq]

theorem fnI_sound {P : Program} {T : Tab} {fns : FuncId → Option Func} (hT : TabOk P T.rows) (hm : P.follows .mixedOrders = true) (hF : ∀ f fn, fns f = some fn → P.funcs[f]? = some fn ∧ (fn.name == "runtime.NumGoroutine") = false) :
    FnOk P T (evI T fns) := fun f x y h => by
  obtain ⟨n, hn⟩ := lim_some h
  exact fn_sound hT hm hF n f x y hn

/-- A text by its bytes. -/
def bs (l : List Nat) : ByteArray := ⟨(l.map UInt8.ofNat).toArray⟩

/-! ### Loops by their place in the text -/

inductive Fr where
  | seq (b : Code) (hs : List (List (Nat × Bool)))
  | blk (id : Nat)
  | lp (h : List (Nat × Bool)) (c : Code) (hs : List (List (Nat × Bool)))

section
variable {R : Type}
noncomputable def kOf (T : Tab) (Φ : PhiT T) : List Fr → (Ex → AS → Option R) → Ex → AS → Option R
  | [], k => k
  | .seq b hs :: fr, k => fun e σ' => match e with
    | .normal => evCodeI T Φ b hs σ' (kOf T Φ fr k)
    | .exit i => kOf T Φ fr k (.exit i) σ'
    | .ret => kOf T Φ fr k .ret σ'
  | .blk id :: fr, k => fun e σ' => match e with
    | .normal => kOf T Φ fr k .normal σ'
    | .exit i => bif Nat.beq i id then kOf T Φ fr k .normal σ' else kOf T Φ fr k (.exit i) σ'
    | .ret => kOf T Φ fr k .ret σ'
  | .lp h c hs :: fr, k => fun e σ' => match e with
    | .normal => loopI h (fun σ k' => evCodeI T Φ c hs σ k') (kOf T Φ fr k) (σ'.forget h)
    | .exit i => kOf T Φ fr k (.exit i) σ'
    | .ret => kOf T Φ fr k .ret σ'
end

structure Spot where
  h : List (Nat × Bool)
  c : Code
  hs : List (List (Nat × Bool))
  fr : List Fr

def spotAt : Code → List (List (Nat × Bool)) → List Fr → Nat → Option Spot
  | .seq a b, hs, fr, i => bif Nat.blt i (loops a) then spotAt a hs (.seq b (hs.drop (loops a)) :: fr) i else spotAt b (hs.drop (loops a)) fr (i - loops a)
  | .cond _ a b, hs, fr, i => bif Nat.blt i (loops a) then spotAt a hs fr i else spotAt b (hs.drop (loops a)) fr (i - loops a)
  | .block id c, hs, fr, i => spotAt c hs (.blk id :: fr) i
  | .loop c, h :: hs, fr, 0 => some ⟨h, c, hs, fr⟩
  | .loop c, h :: hs, fr, i + 1 => spotAt c hs (.lp h c hs :: fr) i
  | _, _, _, _ => none

/-- The loop number i of function f, from a state at its head on to the function's end. -/
noncomputable def LL (T : Tab) (fns : FuncId → Option Func) (f : FuncId) (i : Nat) (σ : AS) : Option (DenL ((T.sig f).res.map (·.1))) :=
  match fns f with
  | some fn => match fn.body with
    | some c => match spotAt c (T.hint f) [] i with
      | some s => loopI s.h (fun σ k' => evCodeI T (evI T fns) s.c s.hs σ k') (kOf T (evI T fns) s.fr (finK T fn f)) σ
      | none => none
    | none => none
  | none => none

noncomputable def LL1 (T : Tab) (fns : FuncId → Option Func) (f : FuncId) (i : Nat) (σ : AS) : Option (DenL ((T.sig f).res.map (·.1))) :=
  match fns f with
  | some fn => match fn.body with
    | some c => match spotAt c (T.hint f) [] i with
      | some s => evCodeI T (evI T fns) s.c s.hs σ fun e σ' => match e with
        | .normal => loopI s.h (fun σ k' => evCodeI T (evI T fns) s.c s.hs σ k') (kOf T (evI T fns) s.fr (finK T fn f)) (σ'.forget s.h)
        | .exit i => kOf T (evI T fns) s.fr (finK T fn f) (.exit i) σ'
        | .ret => kOf T (evI T fns) s.fr (finK T fn f) .ret σ'
      | none => none
    | none => none
  | none => none

theorem LL_eq (T : Tab) (fns : FuncId → Option Func) (f : FuncId) (i : Nat) (σ : AS) : LL T fns f i σ = LL1 T fns f i σ := by
  unfold LL LL1
  split
  · split
    · split
      · exact loopI_eq T (evI T fns) _ _ _ _ _
      · rfl
    · rfl
  · rfl

noncomputable def evI1 (T : Tab) (fns : FuncId → Option Func) (f : FuncId) (x : DenL (T.sig f).args) : Option (DenL ((T.sig f).res.map (·.1))) :=
  match fns f with
  | some fn => match fn.body with
    | some c => evBodyI T fn c (evI T fns) f x
    | none => none
  | none => none

theorem evI_eq1 (T : Tab) (fns : FuncId → Option Func) (f : FuncId) (x : DenL (T.sig f).args) : evI T fns f x = evI1 T fns f x := by
  unfold evI1
  split
  · rename_i fn hf
    split
    · rename_i c hc
      exact evI_eq hf hc x
    · rename_i hc
      refine Conv.lim_eq ?_
      refine ⟨fun y hy => (by cases hy), fun n y hy => ?_⟩
      cases n with
      | zero => cases hy
      | succ n => simp only [evFn, hf, hc] at hy; cases hy
  · rename_i hf
    refine Conv.lim_eq ?_
    refine ⟨fun y hy => (by cases hy), fun n y hy => ?_⟩
    cases n with
    | zero => cases hy
    | succ n => simp only [evFn, hf] at hy; cases hy
end Go.Abs
