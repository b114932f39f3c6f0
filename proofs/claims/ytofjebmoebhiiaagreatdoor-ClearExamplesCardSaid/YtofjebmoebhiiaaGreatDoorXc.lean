/- YtofjebmoebhiiaaGreatDoorXc: a part of the proof (AbsR, AbsC1, AbsC2 ..). No condition. -/
import Derived.Test.YtofjebmoebhiiaaGreatDoorXb
import Derived.OrdersIn
import Derived.RangeFuncNested
set_option linter.unusedVariables false
set_option linter.unusedSimpArgs false
namespace Go.Abs
open Go.RowKit Go.Lib
def AccDown (E : Env) : Prop := ∀ tr tr', TrExt tr tr' → E.acc tr' → E.acc tr
section
variable {P : Program} {T : Tab} {E : Env} {σ σ1 σ2 σe : AS} {a : Act} {w w' : World} {ν ν' : Nm → Value} {O : Nat → Prop} {Φ : PhiT T} {ops : Array Oper} {Q : Exit → Act → World → Prop} {rr : Option Nat}
theorem getD_some {l : Array Value} {t : Nat} {v : Value} (h : l.toList.getD t undef = v) (hv : v ≠ undef) : l[t]? = some v := by
  simp only [List.getD_eq_getElem?_getD, Array.getElem?_toList] at h
  cases hl : l[t]? with
  | none => rw [hl] at h; exact absurd h.symm hv
  | some u => rw [hl] at h; simpa using h
theorem way_wanted (h : St E σ a w ν O) {o : Oper} {run : Bool} (hw : Way ops o σ run) : Region.wanted o (yielded ops a.tmps) = run := by
  unfold Way at hw
  unfold Region.wanted
  cases hg : o.guard with
  | none => simp only [hg] at hw ⊢; exact hw.symm
  | some p =>
    obtain ⟨j, want⟩ := p
    simp only [hg] at hw ⊢
    obtain ⟨t, ht, ⟨b, hb, rfl⟩ | ⟨vs, hb, rfl⟩⟩ := hw
    · have hr := nth_rel (fun v => by trivial) h.slots t
      rw [hb] at hr
      have h1 : a.tmps.toList.getD t undef = .bool b := lrel_bool (V := view E σ ν O w) hr
      have h2 := getD_some h1 (by intro e; cases e)
      unfold yielded
      rw [ht]
      simp [h2]
    · have hr := nth_rel (fun v => by trivial) h.slots t
      rw [hb] at hr
      have h1 : a.tmps.toList.getD t undef = .tuple vs := hr
      unfold yielded
      rw [ht]
      simp only [Option.bind_some]
      cases hl : a.tmps[t]? with
      | none => rfl
      | some u =>
        have : u = .tuple vs := by
          simp only [List.getD_eq_getElem?_getD, Array.getElem?_toList, hl] at h1
          simpa using h1
        subst this
        rfl
theorem tr_sound (C : Ctx P T Φ E) (h : St E σ a w ν O) {i : Nat} {o : Oper} (ho : ops[i]? = some o) {c : Cls} {σ' : AS} (ht : Tr T Φ ops o σ c σ') (hacc : E.acc σ'.trace)
    {K : Act → World → Prop} (hK : ∀ a' w', To E σ' a' w' → K a' w') : wpOpIn (FW rr) 0 P ops Q i K a w := by
  obtain ⟨run, hw, ht⟩ := ht
  unfold wpOpIn
  rw [ho]
  simp only [way_wanted h hw]
  cases run with
  | true =>
    simp only [if_true] at ht ⊢
    obtain ⟨r, h1, rfl⟩ := doOp_val ht
    exact op_sound C h h1 hacc rr K Q hK
  | false =>
    obtain ⟨rfl, rfl⟩ := ht
    exact ⟨fun _ _ => trivial, hK _ _ ⟨ν, O, h.slot (x := .lit undef) rfl⟩⟩
def RunE (T : Tab) (Φ : PhiT T) (ops : Array Oper) : List (Nat × Oper × Cls) → AS → AS → Prop
  | [], σ, σe => σe = σ
  | (_, o, c) :: r, σ, σe => ∃ σ1, Tr T Φ ops o σ c σ1 ∧ RunE T Φ ops r σ1 σe
theorem run_fr : ∀ {L : List (Nat × Oper × Cls)} {σ : AS}, RunE T Φ ops L σ σe → Fr σ σe
  | [], σ, h => by have : σe = σ := h; subst this; exact Fr.refl _
  | (_, o, c) :: r, σ, ⟨σ1, h1, h2⟩ => (tr_fr h1).trans (run_fr h2)
def ents : Nat → List Oper → List Cls → List (Nat × Oper × Cls)
  | i, o :: l, c :: cs => (i, o, c) :: ents (i + 1) l cs
  | _, _, _ => []
theorem evOps_run {R : Type} : ∀ (l : List Oper) (i : Nat) (σ : AS) (cs : List Cls) (k : List Cls → AS → Option R) (r : R), evOps T Φ ops l σ cs k = some r →
    ∃ (t : List Cls) (σe : AS), t.length = l.length ∧ RunE T Φ ops (ents i l t) σ σe ∧ k (t.reverse ++ cs) σe = some r
  | [], i, σ, cs, k, r, h => ⟨[], σ, rfl, rfl, h⟩
  | o :: l, i, σ, cs, k, r, h => by
    obtain ⟨c, σ1, h1, h2⟩ := evOp_tr h
    obtain ⟨t, σe, h3, h4, h5⟩ := evOps_run l (i + 1) σ1 (c :: cs) k r h2
    exact ⟨c :: t, σe, by simp [h3], ⟨σ1, h1, h4⟩, by simpa using h5⟩
theorem ents_mem : ∀ (l : List Oper) (i : Nat) (t : List Cls) (x : Nat × Oper × Cls), x ∈ ents i l t → i ≤ x.1 ∧ l[x.1 - i]? = some x.2.1 ∧ t[x.1 - i]? = some x.2.2
  | [], i, t, x, h => by simp [ents] at h
  | o :: l, i, [], x, h => by simp [ents] at h
  | o :: l, i, c :: t, x, h => by
    simp only [ents, List.mem_cons] at h
    rcases h with rfl | h
    · exact ⟨Nat.le_refl _, by simp, by simp⟩
    · obtain ⟨h1, h2, h3⟩ := ents_mem l (i + 1) t x h
      have : x.1 - i = (x.1 - (i + 1)) + 1 := by omega
      exact ⟨by omega, by rw [this]; simpa using h2, by rw [this]; simpa using h3⟩
theorem ents_get : ∀ (l : List Oper) (i : Nat) (t : List Cls), t.length = l.length → ∀ p o, l[p]? = some o → ∃ c, (i + p, o, c) ∈ ents i l t
  | [], i, t, ht, p, o, h => by simp at h
  | o' :: l, i, [], ht, p, o, h => by simp at ht
  | o' :: l, i, c :: t, ht, 0, o, h => by
    simp at h; subst h
    exact ⟨c, by simp [ents]⟩
  | o' :: l, i, c :: t, ht, p + 1, o, h => by
    obtain ⟨c', h1⟩ := ents_get l (i + 1) t (by simpa using ht) p o (by simpa using h)
    refine ⟨c', ?_⟩
    simp only [ents, List.mem_cons]
    right
    have : i + (p + 1) = i + 1 + p := by omega
    rw [this]; exact h1
theorem ents_len : ∀ (l : List Oper) (i : Nat) (t : List Cls), (ents i l t).length ≤ l.length
  | [], i, t => by simp [ents]
  | o :: l, i, [] => by simp [ents]
  | o :: l, i, c :: t => by simp [ents, ents_len l (i + 1) t]
theorem ents_sorted : ∀ (l : List Oper) (i : Nat) (t : List Cls), (ents i l t).Pairwise fun x y => x.1 < y.1
  | [], i, t => by simp [ents]
  | o :: l, i, [] => by simp [ents]
  | o :: l, i, c :: t => by
    simp only [ents, List.pairwise_cons]
    exact ⟨fun y hy => by have := (ents_mem l (i + 1) t y hy).1; show i < y.1; omega, ents_sorted l (i + 1) t⟩
theorem run_text (C : Ctx P T Φ E) (hD : AccDown E) (hacc : E.acc σe.trace) : ∀ (l pre : List Oper) (t : List Cls) (σ : AS) (a : Act) (w : World) (ν : Nm → Value) (O : Nat → Prop), ops.toList = pre ++ l → t.length = l.length →
    St E σ a w ν O → RunE T Φ ops (ents pre.length l t) σ σe → (∀ a' w', To E σe a' w' → Q .normal a' w') → wpOpsIn (FW rr) 0 P ops Q (List.range' pre.length l.length) a w
  | [], pre, t, σ, a, w, ν, O, hop, ht, h, hr, hQ => by
    have : σe = σ := by cases t <;> exact hr
    subst this
    exact hQ _ _ ⟨ν, O, h⟩
  | o :: l, pre, [], σ, a, w, ν, O, hop, ht, h, hr, hQ => by simp at ht
  | o :: l, pre, c :: t, σ, a, w, ν, O, hop, ht, h, hr, hQ => by
    obtain ⟨σ1, h1, h2⟩ := hr
    rw [List.length_cons, List.range'_succ, wpOpsIn_cons]
    have ho : ops[pre.length]? = some o := by
      rw [← Array.getElem?_toList, hop]; simp
    refine tr_sound C h ho h1 (hD _ _ (run_fr h2).tr hacc) (fun a' w' ⟨ν', O', h'⟩ => ?_)
    have := run_text C hD hacc l (pre ++ [o]) t σ1 a' w' ν' O' (by rw [hop]; simp) (by simpa using ht) h' (by simpa using h2) hQ
    simpa using this
theorem run_front : ∀ (L1 L2 : List (Nat × Oper × Cls)) (x : Nat × Oper × Cls) (σ : AS), RunE T Φ ops (L1 ++ x :: L2) σ σe → (∀ y ∈ L1, y.2.1.apart ops x.2.1 = true ∧ noConf y.2.2 x.2.2 = true) →
    ∃ σ1, Tr T Φ ops x.2.1 σ x.2.2 σ1 ∧ RunE T Φ ops (L1 ++ L2) σ1 σe
  | [], L2, x, σ, h, _ => h
  | y :: L1, L2, x, σ, h, hy => by
    obtain ⟨σ1, h1, h2⟩ := h
    obtain ⟨σ2, h3, h4⟩ := run_front L1 L2 x σ1 h2 (fun z hz => hy z (by simp [hz]))
    obtain ⟨p1, p2⟩ := hy y (by simp)
    obtain ⟨σ1', h5, h6⟩ := tr_comm h1 h3 p1 p2
    exact ⟨σ1', h5, σ2, h6, h4⟩
theorem run_any (C : Ctx P T Φ E) (hD : AccDown E) (hacc : E.acc σe.trace) {A : Nat → Nat} (hQ : ∀ a' w', To E σe a' w' → Q .normal a' w')
    (hdep : ∀ j o, ops[j]? = some o → ∀ e ∈ o.after, Region.binds .any e = true → e.on < j)
    (hanc : ∀ j o i, ops[j]? = some o → (A j).testBit i = true → ∃ e ∈ o.after, Region.binds .any e = true ∧ (i = e.on ∨ (A e.on).testBit i = true)) :
    ∀ (fuel : Nat) (L : List (Nat × Oper × Cls)) (listed : Array Bool) (σ : AS) (a : Act) (w : World) (ν : Nm → Value) (O : Nat → Prop),
      (∀ x ∈ L, ops[x.1]? = some x.2.1) → (∀ i, i < ops.size → (listed.getD i true = false ↔ ∃ x ∈ L, x.1 = i)) → listed.size = ops.size →
      (∀ m om, listed.getD m false = true → ops[m]? = some om → ∀ e ∈ om.after, Region.binds .any e = true → listed.getD e.on false = true) →
      L.Pairwise (fun x y => x.1 < y.1) → L.Pairwise (fun x y => (A y.1).testBit x.1 = true ∨ (x.2.1.apart ops y.2.1 = true ∧ noConf x.2.2 y.2.2 = true)) →
      RunE T Φ ops L σ σe → St E σ a w ν O → L.length ≤ fuel → wpAnyIn (FW rr) 0 P .any ops Q fuel listed a w := by
  intro fuel
  induction fuel with
  | zero =>
    intro L listed σ a w ν O hL hlist hsz hcl hsort hpair hrun h hf
    have hL0 : L = [] := List.eq_nil_of_length_eq_zero (by omega)
    subst hL0
    have hr : σe = σ := hrun
    subst hr
    refine ⟨?_, hQ _ _ ⟨ν, O, h⟩⟩
    apply List.eq_nil_iff_forall_not_mem.2
    intro i hi
    obtain ⟨h1, o, ho, _⟩ := mem_ready.1 hi
    obtain ⟨x, hx, _⟩ := (hlist i (Array.getElem?_eq_some_iff.1 ho).1).1 h1
    cases hx
  | succ fuel ih =>
    intro L listed σ a w ν O hL hlist hsz hcl hsort hpair hrun h hf
    have getDd : ∀ i, i < ops.size → listed.getD i true = listed.getD i false := fun i hi => by
      simp [Array.getD, hsz, hi]
    refine ⟨fun hemp => ?_, fun i hi => ?_⟩
    · cases L with
      | nil =>
        have hr : σe = σ := hrun
        subst hr
        exact hQ _ _ ⟨ν, O, h⟩
      | cons x L =>
        exfalso
        have hox := hL x (by simp)
        have hlt := (Array.getElem?_eq_some_iff.1 hox).1
        have : x.1 ∈ Region.ready .any ops listed := by
          refine mem_ready.2 ⟨(hlist x.1 hlt).2 ⟨x, by simp, rfl⟩, x.2.1, hox, fun e he hb => ?_⟩
          have h1 := hdep x.1 x.2.1 hox e he hb
          have h2 : ¬ listed.getD e.on true = false := fun hf' => by
            obtain ⟨y, hy, hye⟩ := (hlist e.on (by omega)).1 hf'
            rcases List.mem_cons.1 hy with rfl | hy
            · omega
            · have := (List.pairwise_cons.1 hsort).1 y hy; omega
          rw [← getDd e.on (by omega)]
          cases hb' : listed.getD e.on true
          · exact absurd hb' h2
          · rfl
        rw [hemp] at this; cases this
    · obtain ⟨h1, o, ho, hall⟩ := mem_ready.1 hi
      have hlt := (Array.getElem?_eq_some_iff.1 ho).1
      obtain ⟨x, hx, rfl⟩ := (hlist i hlt).1 h1
      obtain ⟨L1, L2, rfl⟩ := List.append_of_mem hx
      have hox := hL x hx
      rw [ho] at hox
      have hoe : o = x.2.1 := by simpa using hox
      -- what stands before x is done
      have hclos : ∀ j, j ≤ x.1 → ∀ oj, ops[j]? = some oj → (∀ e ∈ oj.after, Region.binds .any e = true → listed.getD e.on false = true) → ∀ i, (A j).testBit i = true → listed.getD i false = true := by
        intro j
        induction j using Nat.strongRecOn with
        | _ j ihj =>
          intro hj oj hoj hdeps i hi'
          obtain ⟨e, he, hb, h2⟩ := hanc j oj i hoj hi'
          have hd := hdeps e he hb
          rcases h2 with rfl | h2
          · exact hd
          · have hlt2 := hdep j oj hoj e he hb
            have hlt3 : e.on < ops.size := by have := (Array.getElem?_eq_some_iff.1 hoj).1; omega
            exact ihj e.on hlt2 (by omega) ops[e.on] (Array.getElem?_eq_getElem hlt3) (hcl e.on _ hd (Array.getElem?_eq_getElem hlt3)) i h2
      have hfree : ∀ y ∈ L1, y.2.1.apart ops x.2.1 = true ∧ noConf y.2.2 x.2.2 = true := fun y hy => by
        have h2 := (List.pairwise_append.1 hpair).2.2 y hy x (by simp)
        rcases h2 with h2 | h2
        · exfalso
          have h3 := hclos x.1 (Nat.le_refl _) o ho hall y.1 h2
          have hylt := (Array.getElem?_eq_some_iff.1 (hL y (by simp [hy]))).1
          have h4 := (hlist y.1 hylt).2 ⟨y, by simp [hy], rfl⟩
          rw [getDd y.1 hylt, h3] at h4
          cases h4
        · exact h2
      obtain ⟨σ1, ht, hrun'⟩ := run_front L1 L2 x σ hrun hfree
      rw [← hoe] at ht
      refine tr_sound C h ho ht (hD _ _ (run_fr hrun').tr hacc) (fun a' w' ⟨ν', O', h'⟩ => ?_)
      have hne : ∀ y, y ∈ L1 ++ L2 → y.1 ≠ x.1 := fun y hy => by
        rcases List.mem_append.1 hy with hy | hy
        · have := (List.pairwise_append.1 hsort).2.2 y hy x (by simp); omega
        · have := (List.pairwise_cons.1 (List.pairwise_append.1 hsort).2.1).1 y hy; omega
      have hsub : (L1 ++ L2).Sublist (L1 ++ x :: L2) := (List.Sublist.refl L1).append (List.sublist_cons_self x L2)
      refine ih (L1 ++ L2) _ σ1 a' w' ν' O' (fun y hy => hL y (hsub.subset hy)) (fun i hi' => ?_) (by simpa using hsz) (fun m om hm hom e he hb => ?_) (hsort.sublist hsub) (hpair.sublist hsub) hrun' h' (by simp at hf ⊢; omega)
      · by_cases hix : x.1 = i
        · subst hix
          constructor
          · intro hf'
            have h5 : listed.getD x.1 false = false := by rw [← getDd x.1 hlt]; exact h1
            have h6 : x.1 < listed.size := by omega
            simp [Array.getD, h6] at hf'
          · rintro ⟨y, hy, hye⟩; exact absurd hye (hne y hy)
        · rw [getD_set_ne true hix, hlist i hi']
          constructor
          · rintro ⟨y, hy, hye⟩
            refine ⟨y, ?_, hye⟩
            rcases List.mem_append.1 hy with hy | hy
            · exact List.mem_append.2 (.inl hy)
            · rcases List.mem_cons.1 hy with rfl | hy
              · exact absurd hye hix
              · exact List.mem_append.2 (.inr hy)
          · rintro ⟨y, hy, hye⟩; exact ⟨y, hsub.subset hy, hye⟩
      · by_cases hmx : x.1 = m
        · subst hmx
          rw [ho] at hom
          obtain rfl : o = om := by simpa using hom
          exact getD_set_true (hall e he hb)
        · rw [getD_set_ne false hmx] at hm
          exact getD_set_true (hcl m om hm hom e he hb)
theorem okDeps_spec : ∀ (l : List Oper) (i : Nat), okDeps i l = true → ∀ p o, l[p]? = some o → ∀ e ∈ o.after, Region.binds .any e = true → e.on < i + p
  | [], i, h, p, o, hp, e, he, hb => by simp at hp
  | o' :: l, i, h, 0, o, hp, e, he, hb => by
    simp at hp; subst hp
    simp only [okDeps, Bool.and_eq_true, List.all_eq_true] at h
    have := h.1 e (by simpa using he)
    rw [hb] at this
    have : Nat.blt e.on i = true := by simpa using this
    have := Nat.le_of_ble_eq_true this
    omega
  | o' :: l, i, h, p + 1, o, hp, e, he, hb => by
    simp only [okDeps, Bool.and_eq_true] at h
    have := okDeps_spec l (i + 1) h.2 p o (by simpa using hp) e he hb
    omega
theorem ancs_prefix : ∀ (l : List Oper) (acc : List Nat), ∃ r, ancs l acc = acc ++ r ∧ r.length = l.length
  | [], acc => ⟨[], by simp [ancs]⟩
  | o :: l, acc => by
    obtain ⟨r, h1, h2⟩ := ancs_prefix l (acc ++ [ancOf acc o])
    exact ⟨ancOf acc o :: r, by simp [ancs, h1], by simp [h2]⟩
theorem ancOf_bit {acc : List Nat} {o : Oper} {i : Nat} (h : (ancOf acc o).testBit i = true) : ∃ e ∈ o.after, Region.binds .any e = true ∧ (i = e.on ∨ ((acc[e.on]?).getD 0).testBit i = true) := by
  unfold ancOf at h
  have key : ∀ l : List Edge, (l.foldr (fun e s => bif Region.binds .any e then (s ||| 2 ^ e.on) ||| (acc[e.on]?).getD 0 else s) 0).testBit i = true →
      ∃ e ∈ l, Region.binds .any e = true ∧ (i = e.on ∨ ((acc[e.on]?).getD 0).testBit i = true) := by
    intro l
    induction l with
    | nil => intro h; simp at h
    | cons e l ih =>
      intro h
      simp only [List.foldr_cons] at h
      cases hb : Region.binds .any e with
      | false =>
        rw [hb] at h
        obtain ⟨e', h1, h2⟩ := ih h
        exact ⟨e', by simp [h1], h2⟩
      | true =>
        rw [hb] at h
        simp only [cond_true, Nat.testBit_or, Bool.or_eq_true] at h
        rcases h with (h | h) | h
        · obtain ⟨e', h1, h2⟩ := ih h
          exact ⟨e', by simp [h1], h2⟩
        · refine ⟨e, by simp, hb, .inl ?_⟩
          rw [Nat.testBit_two_pow] at h
          simpa using (of_decide_eq_true h).symm
        · exact ⟨e, by simp, hb, .inr h⟩
  obtain ⟨e, h1, h2⟩ := key _ h
  exact ⟨e, by simpa using h1, h2⟩
theorem ancs_get : ∀ (l : List Oper) (acc : List Nat) (p : Nat) (o : Oper), l[p]? = some o → (ancs l acc)[acc.length + p]? = some (ancOf ((ancs l acc).take (acc.length + p)) o)
  | [], acc, p, o, h => by simp at h
  | o' :: l, acc, 0, o, h => by
    simp at h; subst h
    obtain ⟨r, h1, h2⟩ := ancs_prefix l (acc ++ [ancOf acc o'])
    simp [ancs, h1]
  | o' :: l, acc, p + 1, o, h => by
    have := ancs_get l (acc ++ [ancOf acc o']) p o (by simpa using h)
    simp only [ancs]
    have e : acc.length + (p + 1) = (acc ++ [ancOf acc o']).length + p := by simp; omega
    rw [e]; exact this
theorem okRest_spec : ∀ (r : List (Oper × Cls)) (ms : List Nat) (i : Nat) (a : Oper × Cls), okRest ops i a r ms = true → ∀ (p : Nat) (b : Oper × Cls) (m : Nat), r[p]? = some b → ms[p]? = some m → okPair ops i a m b = true
  | [], ms, i, a, h, p, b, m, hb, hm => by simp at hb
  | b' :: r, m' :: ms, i, a, h, 0, b, m, hb, hm => by
    simp at hb hm; subst hb hm
    simp only [okRest, Bool.and_eq_true] at h; exact h.1
  | b' :: r, m' :: ms, i, a, h, p + 1, b, m, hb, hm => by
    simp only [okRest, Bool.and_eq_true] at h
    exact okRest_spec r ms i a h.2 p b m (by simpa using hb) (by simpa using hm)
  | b' :: r, [], i, a, h, p, b, m, hb, hm => by simp at hm
theorem okDraw_spec : ∀ (l : List (Oper × Cls)) (ms : List Nat) (i : Nat), okDraw ops i l ms = true → ∀ (p q : Nat) (a b : Oper × Cls) (m : Nat), p < q → l[p]? = some a → l[q]? = some b → ms[q]? = some m → okPair ops (i + p) a m b = true
  | [], ms, i, h, p, q, a, b, m, hpq, ha, hb, hm => by simp at ha
  | x :: l, [], i, h, p, q, a, b, m, hpq, ha, hb, hm => by simp at hm
  | x :: l, m' :: ms, i, h, 0, q, a, b, m, hpq, ha, hb, hm => by
    simp at ha; subst ha
    simp only [okDraw, Bool.and_eq_true] at h
    cases q with
    | zero => omega
    | succ q => exact okRest_spec l ms i x h.1 q b m (by simpa using hb) (by simpa using hm)
  | x :: l, m' :: ms, i, h, p + 1, q, a, b, m, hpq, ha, hb, hm => by
    simp only [okDraw, Bool.and_eq_true] at h
    cases q with
    | zero => omega
    | succ q =>
      have := okDraw_spec l ms (i + 1) h.2 p q a b m (by omega) (by simpa using ha) (by simpa using hb) (by simpa using hm)
      have e : i + (p + 1) = i + 1 + p := by omega
      rw [e]; exact this
theorem ents_pairs (R : (Nat × Oper × Cls) → (Nat × Oper × Cls) → Prop) : ∀ (l : List Oper) (i : Nat) (t : List Cls),
    (∀ p q o1 c1 o2 c2, p < q → l[p]? = some o1 → t[p]? = some c1 → l[q]? = some o2 → t[q]? = some c2 → R (i + p, o1, c1) (i + q, o2, c2)) → (ents i l t).Pairwise R
  | [], i, t, h => by simp [ents]
  | o :: l, i, [], h => by simp [ents]
  | o :: l, i, c :: t, h => by
    simp only [ents, List.pairwise_cons]
    refine ⟨fun y hy => ?_, ents_pairs R l (i + 1) t (fun p q o1 c1 o2 c2 hpq h1 h2 h3 h4 => ?_)⟩
    · obtain ⟨h1, h2, h3⟩ := ents_mem l (i + 1) t y hy
      have := h 0 (y.1 - i) o c y.2.1 y.2.2 (by omega) (by simp) (by simp) (by
        have e : y.1 - i = (y.1 - (i + 1)) + 1 := by omega
        rw [e]; simpa using h2) (by
        have e : y.1 - i = (y.1 - (i + 1)) + 1 := by omega
        rw [e]; simpa using h3)
      have e : i + (y.1 - i) = y.1 := by omega
      rw [e] at this
      exact this
    · have := h (p + 1) (q + 1) o1 c1 o2 c2 (by omega) (by simpa using h1) (by simpa using h2) (by simpa using h3) (by simpa using h4)
      have e1 : i + (p + 1) = i + 1 + p := by omega
      have e2 : i + (q + 1) = i + 1 + q := by omega
      rw [e1, e2] at this
      exact this
theorem tidyR_sound (hE : EnvOk E) (h : St E σ a w ν O) (d : Nat) : St E (σ.tidyR d) a w ν O := by
  unfold AS.tidyR
  split
  · exact h
  · exact h.loseRow hE d
theorem tidyB_sound (hE : EnvOk E) (h : St E σ a w ν O) (d : Nat) : St E (σ.tidyB d) a w ν O := by
  unfold AS.tidyB
  split
  · exact h
  · exact h.loseBox hE d
theorem tidyRs_sound (hE : EnvOk E) : ∀ (ds : List Nat) (σ : AS), St E σ a w ν O → St E (σ.tidyRs ds) a w ν O
  | [], σ, h => h
  | d :: ds, σ, h => by
    simp only [AS.tidyRs]
    split
    · exact h
    · exact tidyRs_sound hE ds _ (tidyR_sound hE h d)
theorem tidyBs_sound (hE : EnvOk E) : ∀ (ds : List Nat) (σ : AS), St E σ a w ν O → St E (σ.tidyBs ds) a w ν O
  | [], σ, h => h
  | d :: ds, σ, h => by
    simp only [AS.tidyBs]
    split
    · exact h
    · exact tidyBs_sound hE ds _ (tidyB_sound hE h d)
theorem prep_sound (hE : EnvOk E) (l : List Oper) (σ : AS) (h : St E σ a w ν O) : St E (AS.prep σ l) a w ν O := tidyBs_sound hE _ _ (tidyRs_sound hE _ _ h)
theorem tidyR_fr (d : Nat) : Fr σ (σ.tidyR d) := by
  unfold AS.tidyR
  split
  · exact Fr.refl _
  · exact fr_loseRow d
theorem tidyB_fr (d : Nat) : Fr σ (σ.tidyB d) := by
  unfold AS.tidyB
  split
  · exact Fr.refl _
  · exact fr_loseBox d
theorem tidyRs_fr : ∀ (ds : List Nat) (σ : AS), Fr σ (σ.tidyRs ds)
  | [], σ => Fr.refl _
  | d :: ds, σ => by
    simp only [AS.tidyRs]
    split
    · exact Fr.refl _
    · exact (tidyR_fr d).trans (tidyRs_fr ds _)
theorem tidyBs_fr : ∀ (ds : List Nat) (σ : AS), Fr σ (σ.tidyBs ds)
  | [], σ => Fr.refl _
  | d :: ds, σ => by
    simp only [AS.tidyBs]
    split
    · exact Fr.refl _
    · exact (tidyB_fr d).trans (tidyBs_fr ds _)
theorem loseB_fr : ∀ (ds : List Nat) (σ : AS), Fr σ (σ.loseB ds)
  | [], σ => Fr.refl _
  | d :: ds, σ => (fr_loseBox d).trans (loseB_fr ds _)
theorem prep_fr (l : List Oper) (σ : AS) : Fr σ (AS.prep σ l) := (tidyRs_fr _ _).trans (tidyBs_fr _ _)
theorem region_end {R : Type} {draw : Bool} {k : AS → Option R} {r : R} (he : evRegion T Φ ops draw σ k = some r) : ∃ σ', k σ' = some r ∧ Fr σ σ' := by
  unfold evRegion at he
  obtain ⟨t, σe, h1, h2, h3⟩ := evOps_run (ops := ops) ops.toList 0 _ [] _ r he
  have hf := (prep_fr ops.toList σ).trans (run_fr h2)
  cases draw with
  | false => exact ⟨σe, by simpa using h3, hf⟩
  | true =>
    simp only [cond_true, List.append_nil, List.reverse_reverse] at h3
    cases hok : (okDeps 0 ops.toList && okDraw ops 0 (ops.toList.zip t) (ancs ops.toList [])) with
    | false => simp [hok] at h3
    | true => exact ⟨σe, by simpa [hok] using h3, hf⟩
theorem region_sound {R : Type} (C : Ctx P T Φ E) (hD : AccDown E) (hm : P.follows .mixedOrders = true) (h : St E σ a w ν O) {id : Nat} {draw : Bool} {k : AS → Option R} {r : R}
    (he : evRegion T Φ ops draw σ k = some r) (hk : ∀ σ', k σ' = some r → Fr σ σ' → E.acc σ'.trace) (hQ : ∀ σ' a' w', k σ' = some r → Fr σ σ' → To E σ' a' w' → Q .normal a' w') : (Code.region id ops draw).wpIn (FW rr) 0 P Q a w := by
  unfold evRegion at he
  obtain ⟨t, σe, h1, h2, h3⟩ := evOps_run (ops := ops) ops.toList 0 _ [] _ r he
  have hp := prep_sound C.env ops.toList σ h
  have hf := (prep_fr ops.toList σ).trans (run_fr h2)
  cases draw with
  | false =>
    simp only [cond_false] at h3
    have := run_text (rr := rr) C hD (hk σe (by simpa using h3) hf) ops.toList [] t _ a w ν O rfl h1 hp h2 (fun a' w' => hQ σe a' w' (by simpa using h3) hf)
    refine wpIn_region ?_
    rw [List.range_eq_range']
    simpa using this
  | true =>
    simp only [cond_true, List.append_nil, List.reverse_reverse] at h3
    cases hok : (okDeps 0 ops.toList && okDraw ops 0 (ops.toList.zip t) (ancs ops.toList [])) with
    | false => simp [hok] at h3
    | true =>
      simp only [hok, cond_true] at h3
      rw [Bool.and_eq_true] at hok
      obtain ⟨hd, hok⟩ := hok
      have hw : St E (AS.prep σ ops.toList) a { w with drawn := w.drawn + 1 } ν O := hp.grow C.env ⟨rfl, rfl, rfl, Nat.le_refl _, fun _ _ => rfl⟩
      refine wpIn_region_any hm ?_
      have hget : ∀ j o, ops[j]? = some o → (ancs ops.toList [])[j]? = some (ancOf ((ancs ops.toList []).take j) o) := fun j o ho => by
        have := ancs_get ops.toList [] j o (by rw [Array.getElem?_toList]; exact ho)
        simpa using this
      refine run_any C hD (hk σe h3 hf) (A := fun j => ((ancs ops.toList [])[j]?).getD 0) (fun a' w' => hQ σe a' w' h3 hf) (fun j o ho e he' hb => by
          have := okDeps_spec ops.toList 0 hd j o (by rw [Array.getElem?_toList]; exact ho) e he' hb
          omega) (fun j o i ho hi => ?_) ops.size (ents 0 ops.toList t) _ _ a _ ν O (fun x hx => ?_) (fun i hi => ?_) (by simp) (fun m om hmm => ?_) (ents_sorted _ _ _) (ents_pairs _ _ _ _ fun p q o1 c1 o2 c2 hpq e1 e2 e3 e4 => ?_) h2 hw ?_
      · simp only [hget j o ho, Option.getD_some] at hi
        obtain ⟨e, h4, h5, h6⟩ := ancOf_bit hi
        refine ⟨e, h4, h5, h6.imp (fun h7 => h7) fun h7 => ?_⟩
        cases hh : ((ancs ops.toList []).take j)[e.on]? with
        | none => rw [hh] at h7; simp at h7
        | some v =>
          rw [hh] at h7
          rw [List.getElem?_take] at hh
          split at hh
          · simp only [hh]; exact h7
          · cases hh
      · obtain ⟨_, h4, _⟩ := ents_mem _ _ _ x hx
        rw [← Array.getElem?_toList]; simpa using h4
      · constructor
        · intro _
          obtain ⟨c, hc⟩ := ents_get ops.toList 0 t h1 i ops[i] (by simp [hi])
          exact ⟨_, hc, by simp⟩
        · intro _; simp [hi]
      · exfalso
        by_cases hlt : m < ops.size
        · simp [hlt] at hmm
        · simp [hlt] at hmm
      · have hz1 : (ops.toList.zip t)[p]? = some (o1, c1) := by rw [List.getElem?_zip_eq_some]; exact ⟨e1, e2⟩
        have hz2 : (ops.toList.zip t)[q]? = some (o2, c2) := by rw [List.getElem?_zip_eq_some]; exact ⟨e3, e4⟩
        have hg := hget q o2 (by rw [← Array.getElem?_toList]; exact e3)
        have := okDraw_spec (ops.toList.zip t) _ 0 hok p q _ _ _ hpq hz1 hz2 hg
        simp only [okPair, Bool.or_eq_true, Bool.and_eq_true, Nat.zero_add] at this ⊢
        rw [hg]
        exact this
      · have := ents_len ops.toList 0 t
        simpa using this
end
end Go.Abs
namespace Go.Abs
open Go.RowKit Go.Lib
section
variable {P : Program} {T : Tab} {E : Env} {σ σ1 σ2 σe : AS} {a : Act} {w w' : World} {ν ν' : Nm → Value} {O : Nat → Prop} {Φ : PhiT T}
theorem share_fr : ∀ (h : List (Nat × Bool)) (σ : AS), Fr σ (σ.share h)
  | [], σ => Fr.refl _
  | (j, true) :: h, σ => (fr_frz _).trans (share_fr h _)
  | (j, false) :: h, σ => share_fr h σ
theorem forget_fr (h : List (Nat × Bool)) (σ : AS) : Fr σ (σ.forget h) := by
  refine (share_fr h σ).trans ?_
  unfold AS.forget
  exact ⟨rfl, rfl, rfl, TrExt.refl _, rfl⟩
structure FrX (σ0 σ : AS) : Prop where
  rngs : ∃ x, σ.rngs = [x]
  sites : σ.sites = σ0.sites
  s : σ.tmps.n = σ0.tmps.n
  tr : TrExt σ0.trace σ.trace
  ks : ∃ ls : List Nat, σ.tmps.s.map (·.1) = ls ++ σ0.tmps.s.map (·.1) ∧ ∀ i ∈ ls, inDepth 1 i = true
theorem FrX.fr {σ0 σ σ' : AS} (h : FrX σ0 σ) (g : Fr σ σ') : FrX σ0 σ' := ⟨by rw [g.rngs]; exact h.rngs, g.sites.trans h.sites, g.s.trans h.s, h.tr.trans g.tr, by rw [g.ks]; exact h.ks⟩
theorem filter_keys {l : List (Nat × AV)} {ls ms : List Nat} (h : l.map (·.1) = ls ++ ms) (h1 : ∀ i ∈ ls, inDepth 1 i = true) (h2 : ∀ i ∈ ms, inDepth 1 i = false) : (l.filter fun p => !(inDepth 1 p.1)).map (·.1) = ms := by
  have : (l.filter fun p => !(inDepth 1 p.1)).map (·.1) = (l.map (·.1)).filter fun i => !(inDepth 1 i) := by
    rw [List.filter_map]; rfl
  rw [this, h, List.filter_append, List.filter_eq_nil_iff.2 (fun i hi => by rw [h1 i hi]; simp), List.filter_eq_self.2 (fun i hi => by rw [h2 i hi]; rfl)]
  rfl
theorem unsave_ks {σ0 : AS} (h : FrX σ0 σ) (h0 : ∀ i ∈ σ0.tmps.s.map (·.1), inDepth 1 i = false) : (σ.unsave).tmps.s.map (·.1) = σ0.tmps.s.map (·.1) := by
  obtain ⟨x, hx⟩ := h.rngs
  obtain ⟨ls, h1, h2⟩ := h.ks
  unfold AS.unsave
  rw [hx]
  exact filter_keys h1 h2 h0
theorem loopN_end {R : Type} {r : R} {h : List (Nat × Bool)} {body : AS → (Ex → AS → Option R) → Option R} {k : Ex → AS → Option R} {I : AS → Prop} (hf : ∀ σ, I σ → I (σ.forget h))
    (hb : ∀ σ k', I σ → body σ k' = some r → ∃ e σ', k' e σ' = some r ∧ I σ') : ∀ (n : Nat) (σ : AS), I σ → loopN h body k n σ = some r → ∃ e σ', k e σ' = some r ∧ I σ'
  | 0, σ, hi, he => by cases he
  | n + 1, σ, hi, he => by
    simp only [loopN] at he
    obtain ⟨e, σ', h1, h2⟩ := hb σ _ hi he
    cases e with
    | normal => exact loopN_end hf hb n _ (hf _ h2) h1
    | exit i => exact ⟨_, _, h1, h2⟩
    | ret => exact ⟨_, _, h1, h2⟩
theorem setN_n (s : Slots) (i : Nat) (x : AV) : (setN s i x).n = s.n := by unfold setN; cases Nat.blt i s.n <;> rfl
theorem setN_s (s : Slots) (i : Nat) (x : AV) : (setN s i x).s = s.s := by unfold setN; cases Nat.blt i s.n <;> rfl
theorem setPs_n : ∀ {ps : List Tmp} {ts : List Ty} {s s' : Slots} {x : (prodT ts).den}, setPs s ps ts x = some s' → s'.n = s.n ∧ s'.s = s.s
  | [], [], s, s', x, h => by simp only [setPs, Option.some.injEq] at h; subst h; exact ⟨rfl, rfl⟩
  | p :: ps, t :: ts, s, s', x, h => by
    simp only [setPs] at h
    obtain ⟨h1, h2⟩ := setPs_n h
    exact ⟨h1.trans (setN_n _ _ _), h2.trans (setN_s _ _ _)⟩
  | [], _ :: _, _, _, _, h => by simp [setPs] at h
  | _ :: _, [], _, _, _, h => by simp [setPs] at h
theorem genCall_some {f : AV} {R : Type} {k : Rng → List Nat → Option R} {r : R} (h : genCall T Φ σ f k = some r) : ∃ g bs, k g bs = some r := by
  unfold genCall at h
  repeat' split at h
  all_goals first | (cases h; done) | skip
  simp only [Option.bind_eq_some_iff] at h
  obtain ⟨yh, _, h⟩ := h
  cases hb : (noDup (capKeys _) && (T.sig _).heaps.isEmpty && Nat.beq (T.real _) _) with
  | false => rw [hb] at h; cases h
  | true =>
    rw [hb, cond_true] at h
    split at h
    · exact ⟨_, _, h⟩
    · cases h
theorem code_end {R : Type} {n : Nat} {r : R} : ∀ (c : Code) (hs : List (List (Nat × Bool))) (σ : AS) (k : Ex → AS → Option R), evCode T Φ n c hs σ k = some r → ∃ e σ', k e σ' = some r ∧ Fr σ σ' := by
  intro c
  induction c with
  | skip => intro hs σ k he; exact ⟨_, σ, he, Fr.refl _⟩
  | region id ops draw => intro hs σ k he; obtain ⟨σ', h1, h2⟩ := region_end he; exact ⟨_, σ', h1, h2⟩
  | seq x y ihx ihy =>
    intro hs σ k he
    simp only [evCode] at he
    obtain ⟨e, σ', h1, h2⟩ := ihx _ _ _ he
    cases e with
    | normal => obtain ⟨e, σ'', h3, h4⟩ := ihy _ _ _ h1; exact ⟨e, σ'', h3, h2.trans h4⟩
    | exit i => exact ⟨_, _, h1, h2⟩
    | ret => exact ⟨_, _, h1, h2⟩
  | cond x y z ihy ihz =>
    intro hs σ k he
    simp only [evCode] at he
    have hset : ∀ t b, Fr σ (σ.setb t b) := fun t b => ⟨rfl, rfl, rfl, TrExt.refl _, rfl⟩
    split at he
    · split at he
      · rename_i t _ b hb
        have main : ∀ b : Bool, (bif b then evCode T Φ n y hs (σ.setb t true) k else evCode T Φ n z (hs.drop (loops y)) (σ.setb t false) k) = some r → ∃ e σ', k e σ' = some r ∧ Fr σ σ' := fun b he => by
          cases b
          · obtain ⟨e, σ', h1, h2⟩ := ihz _ _ _ he; exact ⟨e, σ', h1, (hset _ _).trans h2⟩
          · obtain ⟨e, σ', h1, h2⟩ := ihy _ _ _ he; exact ⟨e, σ', h1, (hset _ _).trans h2⟩
        exact main b he
      · cases he
    · rename_i b
      cases b
      · exact ihz _ _ _ he
      · exact ihy _ _ _ he
    · cases he
  | block id c ih =>
    intro hs σ k he
    simp only [evCode] at he
    obtain ⟨e, σ', h1, h2⟩ := ih _ _ _ he
    cases e with
    | normal => exact ⟨_, _, h1, h2⟩
    | exit i =>
      cases hb : Nat.beq i id with
      | true => simp only [hb, cond_true] at h1; exact ⟨_, _, h1, h2⟩
      | false => simp only [hb, cond_false] at h1; exact ⟨_, _, h1, h2⟩
    | ret => exact ⟨_, _, h1, h2⟩
  | loop c ih =>
    intro hs σ k he
    simp only [evCode] at he
    split at he
    · rename_i hd hs'
      exact loopN_end (I := Fr σ) (fun σ' h => h.trans (forget_fr hd σ')) (fun σ' k' hi hb => by
        obtain ⟨e, σ'', h1, h2⟩ := ih _ _ _ hb
        exact ⟨e, σ'', h1, hi.trans h2⟩) n _ (forget_fr hd σ) he
    · cases he
  | rangeFunc f ps x y ihx ihy =>
    intro hs σ k he
    simp only [evCode] at he
    split at he
    · rename_i hd hs' u hrn htr
      obtain ⟨g, bs, h1⟩ := genCall_some he
      cases hok : okSave ((σ.loseB bs).forget hd) with
      | false => rw [hok] at h1; cases h1
      | true =>
        rw [hok, cond_true] at h1
        have f1 : Fr σ ((σ.loseB bs).forget hd) := (loseB_fr bs σ).trans (forget_fr hd _)
        have hok' := hok
        simp only [okSave, Bool.and_eq_true, List.all_eq_true] at hok'
        have h0 : FrX σ ({ ((σ.loseB bs).forget hd) with rngs := [g] } : AS).save := ⟨⟨g, rfl⟩, f1.sites, f1.s, f1.tr, by
          refine ⟨((σ.loseB bs).forget hd).tmps.l.map fun p => p.1 + 10000, ?_, fun i hi => ?_⟩
          · show (List.map _ _ ++ _).map _ = _
            rw [List.map_append, List.map_map, ← f1.ks]
            rfl
          · obtain ⟨p, hp, rfl⟩ := List.mem_map.1 hi
            have := hok'.1 p hp
            rw [blt_iff] at this
            simp only [inDepth, Bool.and_eq_true, Nat.ble_eq, blt_iff]
            omega⟩
        obtain ⟨e, σ', h2, h3⟩ := loopN_end (r := r) (h := hd) (k := endRounds k) (body := roundB ps.toList (fun σ k' => evCode T Φ n x hs' σ k') (fun σ k' => evCode T Φ n y (hs'.drop (loops x)) σ k')) (I := FrX σ) (fun σ' h => h.fr (forget_fr hd σ')) (fun σ' k' hi hb => by
          unfold roundB at hb
          obtain ⟨x0, hx0⟩ := hi.rngs
          rw [hx0] at hb
          obtain ⟨ts, xs⟩ := x0
          cases xs with
          | nil => exact ⟨_, _, hb, hi⟩
          | cons x1 xs =>
            dsimp only at hb
            split at hb
            · rename_i s hs
              obtain ⟨e, σ1, h4, h5⟩ := ihx _ _ _ hb
              cases e with
              | normal =>
                dsimp only at h4
                obtain ⟨e, σ2, h6, h7⟩ := ihy _ _ _ h4
                cases e with
                | normal =>
                  refine ⟨_, _, h6, ?_⟩
                  have f2 := h5.trans h7
                  exact ⟨⟨_, f2.rngs⟩, f2.sites.trans hi.sites, (show σ2.tmps.n = _ from (f2.s.trans (setPs_n hs).1).trans hi.s), hi.tr.trans f2.tr, by
                    show ∃ ls : List Nat, σ2.tmps.s.map (·.1) = _ ∧ _
                    rw [f2.ks]
                    show ∃ ls : List Nat, s.s.map (·.1) = _ ∧ _
                    rw [(setPs_n hs).2]; exact hi.ks⟩
                | _ => cases h6
              | _ => cases h4
            · cases hb) n _ h0 h1
        unfold endRounds at h2
        split at h2
        · refine ⟨_, _, h2, ?_, h3.sites, h3.s, h3.tr, unsave_ks h3 (fun i hi => by
            rw [← f1.ks] at hi
            obtain ⟨p, hp, rfl⟩ := List.mem_map.1 hi
            have := hok'.2 p hp
            rw [Nat.ble_eq] at this
            simp only [inDepth, Bool.and_eq_false_iff]
            exact .inr (by cases hb : Nat.blt p.1 (10000 * (1 + 1)) with
              | false => rfl
              | true => rw [blt_iff] at hb; omega))⟩
          obtain ⟨x, hx⟩ := h3.rngs
          show σ'.rngs.tail = _
          rw [hx, hrn]; rfl
        · cases h2
    · cases he
  | exit i => intro hs σ k he; exact ⟨_, σ, he, Fr.refl _⟩
  | ret => intro hs σ k he; exact ⟨_, σ, he, Fr.refl _⟩
  | _ => intros; rename_i he; cases he
end
end Go.Abs
namespace Go.Abs
open Go.RowKit Go.Lib
def Post {R : Type} (E : Env) (σ : AS) (k : Ex → AS → Option R) (r : R) : Exit → Act → World → Prop
  | .normal, a, w => ∃ σ', k .normal σ' = some r ∧ Fr σ σ' ∧ To E σ' a w
  | .exit id, a, w => ∃ σ', k (.exit id) σ' = some r ∧ Fr σ σ' ∧ To E σ' a w
  | .ret, a, w => ∃ σ', k .ret σ' = some r ∧ Fr σ σ' ∧ To E σ' a w
  | _, _, _ => False
theorem exists_least {p : Nat → Prop} (h : ∃ m, p m) : ∃ m, p m ∧ ∀ k, p k → m ≤ k := by
  obtain ⟨m, hm⟩ := h
  induction m using Nat.strongRecOn with
  | _ m ih =>
    by_cases hk : ∃ k, k < m ∧ p k
    · obtain ⟨k, h1, h2⟩ := hk; exact ih k h1 h2
    · exact ⟨m, hm, fun k hk' => Nat.le_of_not_lt fun hlt => hk ⟨k, hlt, hk'⟩⟩
open Classical in
noncomputable def least (p : Nat → Prop) : Nat := if h : ∃ m, p m then (exists_least h).choose else 0
theorem least_spec {p : Nat → Prop} (h : ∃ m, p m) : p (least p) ∧ ∀ k, p k → least p ≤ k := by
  unfold least
  rw [dif_pos h]
  exact (exists_least h).choose_spec
section
variable {P : Program} {T : Tab} {E : Env} {σ σ1 σ2 σe : AS} {a : Act} {w w' : World} {ν ν' : Nm → Value} {O : Nat → Prop} {Φ : PhiT T} {F : Fence} {nn : Nat}
theorem loop_rule {c : Code} {Q : Exit → Act → World → Prop} (J : Nat → Act → World → Prop) {m : Nat} (h0 : J m a w)
    (round : ∀ m a w, J m a w → c.wpIn F nn P (Exit.then (fun a' w' => ∃ m', m' < m ∧ J m' a' w') Q) a w) : (Code.loop c).wpIn F nn P Q a w := by
  refine wpIn_loop (fun a w => ∃ m, J m a w) (fun a w => least fun m => J m a w) ⟨m, h0⟩ (fun a w hI => ?_)
  obtain ⟨h1, h2⟩ := least_spec hI
  refine wpIn_mono (round _ a w h1) (fun e a' w' he => ?_)
  cases e with
  | normal =>
    obtain ⟨m', h3, h4⟩ := he
    exact ⟨⟨m', h4⟩, Nat.lt_of_le_of_lt ((least_spec ⟨m', h4⟩).2 m' h4) h3⟩
  | _ => exact he
def Sound (P : Program) (T : Tab) (Φ : PhiT T) (n : Nat) (c : Code) : Prop := ∀ {R : Type} {r : R} (E : Env) (_ : Ctx P T Φ E) (_ : AccDown E) (rr : Option Nat) (hs : List (List (Nat × Bool))) (σ : AS) (k : Ex → AS → Option R) (a : Act) (w : World) (ν : Nm → Value) (O : Nat → Prop),
  evCode T Φ n c hs σ k = some r → St E σ a w ν O → (rr.isSome = true → σ.rngs ≠ []) → (∀ e σ', k e σ' = some r → Fr σ σ' → E.acc σ'.trace) → c.wpIn (FW rr) 0 P (Post E σ k r) a w
theorem Post.widen {R : Type} {r : R} {k : Ex → AS → Option R} (hf : Fr σ σ1) {e : Exit} {a : Act} {w : World} (h : Post E σ1 k r e a w) : Post E σ k r e a w := by
  cases e with
  | normal => obtain ⟨σ', h1, h2, h3⟩ := h; exact ⟨σ', h1, hf.trans h2, h3⟩
  | exit i => obtain ⟨σ', h1, h2, h3⟩ := h; exact ⟨σ', h1, hf.trans h2, h3⟩
  | ret => obtain ⟨σ', h1, h2, h3⟩ := h; exact ⟨σ', h1, hf.trans h2, h3⟩
  | _ => exact h
theorem code_sound {n : Nat} (hm : P.follows .mixedOrders = true) (hR : ∀ f ps x y, Sound P T Φ n x → Sound P T Φ n y → Sound P T Φ n (.rangeFunc f ps x y)) : ∀ (c : Code), Sound P T Φ n c := by
  intro c
  induction c with
  | skip => intro R r E C hD rr hs σ k a w ν O he h hrr hk; exact wpIn_skip ⟨σ, he, Fr.refl _, ν, O, h⟩
  | region id ops draw =>
    intro R r E C hD rr hs σ k a w ν O he h hrr hk
    exact region_sound C hD hm h he (fun σ' h1 h2 => hk _ _ h1 h2) (fun σ' a' w' h1 h2 h3 => ⟨σ', h1, h2, h3⟩)
  | seq x y ihx ihy =>
    intro R r E C hD rr hs σ k a w ν O he h hrr hk
    simp only [evCode] at he
    refine wpIn_seq (wpIn_mono (ihx E C hD rr _ _ _ a w ν O he h hrr (fun e σ' h1 h2 => ?_)) (fun e a' w' hp => ?_))
    · cases e with
      | normal =>
        obtain ⟨e', σ'', h3, h4⟩ := code_end _ _ _ _ h1
        exact hD _ _ h4.tr (hk _ _ h3 (h2.trans h4))
      | exit i => exact hk _ _ h1 h2
      | ret => exact hk _ _ h1 h2
    · cases e with
      | normal =>
        obtain ⟨σ', h1, h2, ν', O', h3⟩ := hp
        refine wpIn_mono (ihy E C hD rr _ _ _ a' w' ν' O' h1 h3 (fun h4 => by rw [h2.rngs]; exact hrr h4) (fun e σ'' h4 h5 => hk _ _ h4 (h2.trans h5))) (fun e a2 w2 hp => hp.widen h2)
      | exit id => exact hp
      | ret => exact hp
      | _ => exact hp.elim
  | cond x y z ihy ihz =>
    intro R r E C hD rr hs σ k a w ν O he h hrr hk
    simp only [evCode] at he
    split at he
    · rename_i t
      split at he
      · rename_i b hb
        have hx : a.eval (.tmp t) = .bool b := by
          have := h.av C.glob.1 (.tmp t)
          simp only [AS.av, Slots.av] at this
          rw [hb] at this
          exact av_bool this rfl
        have main : ∀ b : Bool, nth σ.tmps t = .rv (.cv ⟨.bool, b⟩) → (bif b then evCode T Φ n y hs (σ.setb t true) k else evCode T Φ n z (hs.drop (loops y)) (σ.setb t false) k) = some r →
            (if b then y else z).wpIn (FW rr) 0 P (Post E σ k r) a w := fun b hb he => by
          cases b
          · rw [setb_id hb] at he; exact ihz E C hD rr _ _ _ a w ν O he h hrr hk
          · rw [setb_id hb] at he; exact ihy E C hD rr _ _ _ a w ν O he h hrr hk
        exact wpIn_cond hx (main b hb he)
      · cases he
    · rename_i b
      refine wpIn_cond (t := b) rfl ?_
      cases b
      · exact ihz E C hD rr _ _ _ a w ν O he h hrr hk
      · exact ihy E C hD rr _ _ _ a w ν O he h hrr hk
    · cases he
  | block id c ih =>
    intro R r E C hD rr hs σ k a w ν O he h hrr hk
    simp only [evCode] at he
    refine wpIn_block (wpIn_mono (ih E C hD rr _ _ _ a w ν O he h hrr (fun e σ' h1 h2 => ?_)) (fun e a' w' hp => ?_))
    · cases e with
      | normal => exact hk _ _ h1 h2
      | exit i =>
        cases hb : Nat.beq i id with
        | true => simp only [hb, cond_true] at h1; exact hk _ _ h1 h2
        | false => simp only [hb, cond_false] at h1; exact hk _ _ h1 h2
      | ret => exact hk _ _ h1 h2
    · cases e with
      | normal => exact hp
      | exit i =>
        obtain ⟨σ', h1, h2⟩ := hp
        simp only [Exit.inBlock]
        cases hb : Nat.beq i id with
        | true =>
          have := (beq_iff _ _).1 hb; subst this
          simp only [hb, cond_true] at h1
          rw [if_pos rfl]
          exact ⟨σ', h1, h2⟩
        | false =>
          have := beq_ff.1 hb
          simp only [hb, cond_false] at h1
          rw [if_neg this]
          exact ⟨σ', h1, h2⟩
      | ret => exact hp
      | _ => exact hp.elim
  | loop c ih =>
    intro R r E C hD rr hs σ k a w ν O he h hrr hk
    simp only [evCode] at he
    split at he
    · rename_i hd hs'
      refine loop_rule (fun m a w => ∃ σ1, loopN hd (fun σ k' => evCode T Φ n c hs' σ k') k m σ1 = some r ∧ Fr σ σ1 ∧ To E σ1 a w) ⟨_, he, forget_fr hd σ, ν, O, h.forget C.env hd⟩ (fun m a w hJ => ?_)
      obtain ⟨σ1, h1, hf, ν, O, h2⟩ := hJ
      cases m with
      | zero => cases h1
      | succ m =>
        simp only [loopN] at h1
        refine wpIn_mono (ih E C hD rr _ _ _ a w ν O h1 h2 (fun h4 => by rw [hf.rngs]; exact hrr h4) (fun e σ' h3 h4 => ?_)) (fun e a' w' hp => ?_)
        · cases e with
          | normal =>
            obtain ⟨e2, σ3, h8, h9⟩ := loopN_end (I := Fr σ') (fun σ' h => h.trans (forget_fr hd σ')) (fun σ' k' hi hb => by
              obtain ⟨e, σ'', h1, h2⟩ := code_end _ _ _ _ hb
              exact ⟨e, σ'', h1, hi.trans h2⟩) m _ (forget_fr hd σ') h3
            exact hD _ _ h9.tr (hk _ _ h8 ((hf.trans h4).trans h9))
          | exit i => exact hk _ _ h3 (hf.trans h4)
          | ret => exact hk _ _ h3 (hf.trans h4)
        · cases e with
          | normal =>
            obtain ⟨σ', h3, h4, ν', O', h5⟩ := hp
            exact ⟨m, Nat.lt_succ_self m, _, h3, (hf.trans h4).trans (forget_fr hd _), ν', O', h5.forget C.env hd⟩
          | exit i => exact hp.widen hf
          | ret => exact hp.widen hf
          | _ => exact hp.elim
    · cases he
  | rangeFunc f ps x y ihx ihy => exact hR f ps x y ihx ihy
  | exit i => intro R r E C hD rr hs σ k a w ν O he h hrr hk; exact wpIn_exit ⟨σ, he, Fr.refl _, ν, O, h⟩
  | ret => intro R r E C hD rr hs σ k a w ν O he h hrr hk; exact wpIn_ret ⟨σ, he, Fr.refl _, ν, O, h⟩
  | _ => intros; intro R r E C hD rr hs σ k a w ν O he h hrr hk; cases he
end
end Go.Abs
namespace Go.Abs
open Go.RowKit Go.Lib
section
variable {P : Program} {T : Tab} {E : Env} {σ σ1 σ2 σe σ' : AS} {a a' : Act} {w w' : World} {ν ν' : Nm → Value} {O O' : Nat → Prop} {Φ : PhiT T}
theorem St.own_cells (h : St E σ a w ν O) {m : Nm} {k : Nat} (hm : Own σ ν m k) : ∃ cur e, w.heap[k]? = some (.cells cur e (0, 0)) := by
  obtain ⟨o, ho⟩ := Option.isSome_iff_exists.1 hm.1
  have hrel := h.objs m o ho
  have hblk := hm.2
  cases o with
  | row row =>
    obtain ⟨yss, ⟨_, h5⟩, _⟩ := hrel
    rcases h5 with ⟨h5, _⟩ | ⟨g, cap, cur, h5, _, h6, _⟩
    · rw [h5] at hblk; cases hblk
    · rw [h5] at hblk; simp only [blkOf, Option.some.injEq] at hblk; subst hblk; exact ⟨_, _, h6⟩
  | box x =>
    obtain ⟨g, h5, h6⟩ := hrel
    rw [h5] at hblk; simp only [blkOf, Option.some.injEq] at hblk; subst hblk
    cases x with
    | cells cs => obtain ⟨cur, e, h7, _⟩ := h6; exact ⟨_, _, h7⟩
    | own q => obtain ⟨e, h7, _⟩ := h6; exact ⟨_, _, h7⟩
    | nil => obtain ⟨u, e, h7⟩ := h6; exact ⟨_, _, h7⟩
  | hp k row =>
    match k, hrel with
    | 0, ⟨_, yss, ⟨_, h5⟩, _⟩ =>
      rcases h5 with ⟨h5, _⟩ | ⟨g, cap, cur, h5, _, h6, _⟩
      · rw [h5] at hblk; cases hblk
      · rw [h5] at hblk; simp only [blkOf, Option.some.injEq] at hblk; subst hblk; exact ⟨_, _, h6⟩
    | 1, ⟨g, cur, ys, x, h5, h6, _⟩ => rw [h5] at hblk; simp only [blkOf, Option.some.injEq] at hblk; subst hblk; exact ⟨_, _, h6⟩
theorem St.lent (hE : EnvOk E) (hJ : E.J = plainJ) (h : St E σ a w ν O) {C : Nat → Prop} (hg : Grow C w w') (hC : ∀ k, C k → O k ∧ (E.CB k ∨ E.base.heap.size ≤ k)) (hO : ∀ k, O k → O' k) (hO' : ∀ k, O' k → O k ∨ (w.heap.size ≤ k ∧ k < w'.heap.size)) :
    St E σ a w' ν O' := by
  have hV : ∀ key u, view E σ ν O w key u → view E σ ν O' w' key u := fun key u hu => view_mono hg (HSub.refl _ _) (fun k h1 h2 h3 h4 => ⟨h3, fun h5 => by
    rcases hO' k h5 with h6 | h6
    · exact h4 h6
    · omega, fun h5 => h4 (hC k h5).1⟩) hu
  have hblk : ∀ r o, w.heap[r]? = some o → ¬ O r → w'.heap[r]? = some o ∧ ¬ O' r := fun r o h1 h2 => by
    have hlt := (Array.getElem?_eq_some_iff.1 h1).1
    refine ⟨by rw [hg.block r hlt (fun hc => h2 (hC r hc).1)]; exact h1, fun h3 => ?_⟩
    rcases hO' r h3 with h4 | h4
    · exact h2 h4
    · omega
  have htr : σ.trace = ⟨.unit, ()⟩ := by have := h.out.1; rw [hJ] at this; exact this
  refine ⟨h.keep.trans hg (fun k hk hc => (h.out.2 k (hC k hc).1).2 hk), fun d hd => ?_, h.slots.mono (AvRel.mono hV (Sub.refl _ _)), fun m o ho => ?_, h.inj, fun m k hm => ?_, h.new, ⟨?_, fun k hk => ?_⟩, h.nn, h.ro, h.kept, fun r hr => ?_, h.baseG.trans hg (fun k hk hc => ?_), h.baseH, fun k hk => hO k (h.omin k hk), h.nd⟩
  · obtain ⟨r, h1, h2, h3, h4⟩ := h.marks d hd
    obtain ⟨h5, h6⟩ := hblk r _ h3 h4
    exact ⟨r, h1, h2, h5, h6⟩
  · exact (h.objs m o ho).mono hV (fun k hk => hg.block k (h.bnd m k ⟨isSome_of ho, hk⟩).2.1 (fun hc => (h.bnd m k ⟨isSome_of ho, hk⟩).2.2 (hC k hc).1)) (fun r _ hr => ⟨rfl, hr⟩)
  · obtain ⟨h1, h2, h3⟩ := h.bnd m k hm
    refine ⟨h1, Nat.lt_of_lt_of_le h2 hg.size, fun h4 => ?_⟩
    rcases hO' k h4 with h5 | h5
    · exact h3 h5
    · omega
  · rw [hJ]; exact htr
  · rcases hO' k hk with h5 | h5
    · exact ⟨Nat.lt_of_lt_of_le (h.out.2 k h5).1 hg.size, (h.out.2 k h5).2⟩
    · exact ⟨h5.2, fun h6 => by have := h.keep.size; omega⟩
  · obtain ⟨h1, h2⟩ := h.waits r hr
    exact hblk r _ h1 h2
  · rcases (hC k hc).2 with h1 | h1
    · exact h1
    · omega
def Env.rebase (E : Env) (σ : AS) (ν : Nm → Value) (O : Nat → Prop) (w : World) : Env := { E with base := w, CB := fun k => ∃ m, Own σ ν m k ∧ ¬ E.RoNm m, Om := O }
theorem EnvOk.rebase (hE : EnvOk E) : EnvOk (E.rebase σ ν O w) := ⟨hE.cell, hE.stay⟩
theorem St.rebase (h : St E σ a w ν O) : St (E.rebase σ ν O w) σ a w ν O :=
  ⟨h.keep, h.marks, h.slots, h.objs, h.inj, h.bnd, h.new, h.out, h.nn, h.ro, h.kept, h.waits, Grow.refl _ _, fun m k hm => by
    by_cases hr : E.RoNm m
    · exact .inl hr
    · exact .inr (.inl ⟨m, hm, hr⟩), fun k hk => hk, h.nd⟩
theorem St.unbase (h : St E σ a w ν O) (g : St (E.rebase σ ν O w) σ' a' w' ν' O') :
    St E σ' a' w' ν' O' ∧ Grow (fun k => ∃ m, Own σ ν m k ∧ ¬ E.RoNm m) w w' ∧ (∀ k, O k → O' k) ∧ ∀ m k, Own σ' ν' m k → E.RoNm m ∨ (∃ m', Own σ ν m' k ∧ ¬ E.RoNm m') ∨ w.heap.size ≤ k := by
  have hgr : Grow (fun k => ∃ m, Own σ ν m k ∧ ¬ E.RoNm m) w w' := g.baseG
  refine ⟨⟨g.keep, g.marks, g.slots, g.objs, g.inj, g.bnd, g.new, g.out, g.nn, g.ro, g.kept, g.waits, h.baseG.trans hgr (fun k hk ⟨m, hm, hr⟩ => ?_), fun m k hm => ?_, fun k hk => g.omin k (h.omin k hk), g.nd⟩, hgr, g.omin, g.baseH⟩
  · rcases h.baseH m k hm with h1 | h1 | h1
    · exact absurd h1 hr
    · exact h1
    · omega
  · rcases g.baseH m k hm with h1 | ⟨m', h1, h2⟩ | h1
    · exact .inl h1
    · rcases h.baseH m' k h1 with h3 | h3
      · exact absurd h3 h2
      · exact .inr h3
    · exact .inr (.inr (Nat.le_trans h.baseG.size h1))
end
end Go.Abs
namespace Go.Abs
open Go.RowKit Go.Lib
def genTrS : (s : Sig) → SigR s → CV
  | ⟨_, _, _, _, some ts⟩, y => ⟨.slice (prodT ts), y⟩
  | _, _ => ⟨.unit, ()⟩
def genTr (T : Tab) (v : Nat) (yh : OutT T v) : CV := genTrS (T.sig v) (fstH _ yh)
def startP (T : Tab) (v : Nat) (xh : InT T v) : AS := ⟨⟨0, [], []⟩, [], argBoxes (T.sig v).args (fstH _ xh) 0, startHs T v xh, traceOf (T.sig v), [], []⟩
def ArgRelG (V : View) (ν : Nm → Value) (Y : Value) (i : Nat) : (p : ArgT) → p.den → Value → Prop
  | .bx t, x, v => v = ν (.box i)
  | .yld, _, v => v = Y
  | p, x, v => ArgRel V p x v
def ArgsG (V : View) (ν : Nm → Value) (Y : Value) : Nat → (ps : List ArgT) → DenA ps → List Value → Prop
  | _, [], _, vs => vs = []
  | i, [p], x, vs => ∃ v, vs = [v] ∧ ArgRelG V ν Y i p x v
  | i, p :: q :: ps, x, vs => ∃ v r, vs = v :: r ∧ ArgRelG V ν Y i p x.1 v ∧ ArgsG V ν Y (i + 1) (q :: ps) x.2 r
def GenOk (P : Program) (T : Tab) (Φ : PhiT T) : Prop := ∀ v xh yh, Φ v xh = some yh → (T.sig v).gen.isSome = true → (∃ fn, P.funcs[T.real v]? = some fn ∧ fn.body.isSome = true ∧ (fn.name == "runtime.NumGoroutine") = false) ∧
  ∀ (E : Env) (ν : Nm → Value) (args : Array Value) (O : Nat → Prop), EnvOk E → EnvT T E → YieldOk P E → AccDown E → (∀ O w, ¬ E.J ⟨.unit, ()⟩ O w) → E.acc (genTr T v yh) → St E (startP T v xh) ⟨#[], []⟩ E.w0 ν O →
    ArgsG (view E (startP T v xh) ν O E.w0) ν E.Y 0 (T.sig v).args (fstH _ xh) args.toList → Calls P (T.real v) args E.w0 fun e w' => ∃ r O', e = .returned r ∧ E.J (genTr T v yh) O' w'
section
variable {P : Program} {T : Tab} {E : Env} {σ σ1 σ2 σe σ' : AS} {a a' : Act} {w w' : World} {ν ν' : Nm → Value} {O O' : Nat → Prop} {Φ : PhiT T} {V V' : View}
def capObjs (i : Nat) : List Nat → List (Nat × Nat)
  | [] => []
  | b :: r => (i, b) :: capObjs (i + 1) r
theorem capBoxes_spec {boxes : List (Nat × BX)} : ∀ {ps : List ArgT} {caps : List Cap} {x : DenA ps} (i : Nat), capBoxes boxes ps caps = some x →
    (∀ c ∈ caps, ∃ b, c = .box b) ∧ ps.length = caps.length ∧ ∀ (j : Nat) bx, look (argBoxes ps x i) j = some bx → ∃ b t y, i ≤ j ∧ (capKeys caps)[j - i]? = some b ∧ bx = .cells (flat t y) ∧ ArgT.bx t ∈ ps ∧ look boxes b = some (.cells (flat t y))
  | [], [], x, i, h => ⟨fun c hc => by simp at hc, rfl, fun j bx hj => by simp [argBoxes, look] at hj⟩
  | [.bx t], [.box b], x, i, h => by
    simp only [capBoxes] at h
    split at h
    · rename_i cs hb
      have := unflat1_eq h
      subst this
      refine ⟨fun c hc => ⟨b, by simpa using hc⟩, rfl, fun j bx hj => ?_⟩
      simp only [argBoxes, argBoxes.one, look] at hj
      cases hij : Nat.beq i j with
      | true =>
        have := (beq_iff _ _).1 hij; subst this
        rw [hij] at hj
        simp only [cond_true, Option.some.injEq] at hj
        exact ⟨b, t, x, Nat.le_refl _, by simp [capKeys], hj.symm, by simp, hb⟩
      | false => rw [hij] at hj; cases hj
    · cases h
  | .bx t :: q :: ps, .box b :: cs, x, i, h => by
    simp only [capBoxes] at h
    split at h
    · rename_i l hb
      split at h
      · rename_i x1 hx1
        split at h
        · rename_i y hy
          simp only [Option.some.injEq] at h
          subst h
          have := unflat1_eq hx1
          subst this
          obtain ⟨h1, h2, h3⟩ := capBoxes_spec (ps := q :: ps) (i + 1) hy
          refine ⟨fun c hc => ?_, by simp [h2], fun j bx hj => ?_⟩
          · rcases List.mem_cons.1 hc with e | hc
            · exact ⟨b, e⟩
            · exact h1 c hc
          · simp only [argBoxes, argBoxes.one, List.cons_append, List.nil_append, look] at hj
            cases hij : Nat.beq i j with
            | true =>
              have := (beq_iff _ _).1 hij; subst this
              rw [hij] at hj
              simp only [cond_true, Option.some.injEq] at hj
              exact ⟨b, t, x1, Nat.le_refl _, by simp [capKeys], hj.symm, by simp, hb⟩
            | false =>
              rw [hij] at hj
              simp only [cond_false] at hj
              obtain ⟨b', t', y', h4, h5, h6, h7, h8⟩ := h3 j bx hj
              refine ⟨b', t', y', by omega, ?_, h6, List.mem_cons_of_mem _ h7, h8⟩
              have e : j - i = (j - (i + 1)) + 1 := by omega
              rw [e]
              simpa [capKeys] using h5
        · cases h
      · cases h
    · cases h
  | [.v _], _, _, _, h => by simp [capBoxes] at h
  | [.fn _ _], _, _, _, h => by simp [capBoxes] at h
  | [.c _], _, _, _, h => by simp [capBoxes] at h
  | [.rp _], _, _, _, h => by simp [capBoxes] at h
  | [.yld], _, _, _, h => by simp [capBoxes] at h
  | [.bx _], [], _, _, h => by simp [capBoxes] at h
  | [.bx _], [.vel _], _, _, h => by simp [capBoxes] at h
  | [.bx _], .box _ :: _ :: _, _, _, h => by simp [capBoxes] at h
  | [.bx _], .vel _ :: _ :: _, _, _, h => by simp [capBoxes] at h
  | .v _ :: _ :: _, _, _, _, h => by simp [capBoxes] at h
  | .fn _ _ :: _ :: _, _, _, _, h => by simp [capBoxes] at h
  | .c _ :: _ :: _, _, _, _, h => by simp [capBoxes] at h
  | .rp _ :: _ :: _, _, _, _, h => by simp [capBoxes] at h
  | .yld :: _ :: _, _, _, _, h => by simp [capBoxes] at h
  | .bx _ :: _ :: _, [], _, _, h => by simp [capBoxes] at h
  | .bx _ :: _ :: _, .vel _ :: _, _, _, h => by simp [capBoxes] at h
  | [], _ :: _, _, _, h => by simp [capBoxes] at h
end
end Go.Abs
namespace Go.Abs
open Go.RowKit Go.Lib
section
variable {P : Program} {T : Tab} {E : Env} {σ σ1 σ2 σe σ' : AS} {a a' : Act} {w w' : World} {ν ν' : Nm → Value} {O O' : Nat → Prop} {Φ : PhiT T} {V V' : View}
theorem St.lendBox (hE : EnvOk E) (hJ : E.J = plainJ) (h : St E σ a w ν O) (d : Nat) : St E (σ.loseBox d) a w ν (fun k => O k ∨ Own σ ν (.box d) k) := by
  have hne : ∀ k, k ≠ d → look (σ.loseBox d).boxes k = look σ.boxes k := fun k hk => by rw [loseBox_look, if_neg (Ne.symm hk)]
  have hd : look (σ.loseBox d).boxes d = none := by rw [loseBox_look, if_pos rfl]
  have hob : ∀ m o, (σ.loseBox d).obj m = some o → σ.obj m = some o ∧ m ≠ .box d := fun m o ho => by
    cases m with
    | row r => exact ⟨ho, fun e => by cases e⟩
    | box b =>
      by_cases e : b = d
      · subst e; simp only [AS.obj, hd] at ho; cases ho
      · simp only [AS.obj, hne b e] at ho ⊢; exact ⟨ho, fun e' => e (by injection e')⟩
    | hp i n => exact ⟨ho, fun e => by cases e⟩
  have hown : ∀ m k, Own (σ.loseBox d) ν m k → Own σ ν m k ∧ m ≠ .box d := fun m k ⟨h1, h2⟩ => by
    obtain ⟨o, ho⟩ := Option.isSome_iff_exists.1 h1
    obtain ⟨h3, h4⟩ := hob m o ho
    exact ⟨⟨isSome_of h3, h2⟩, h4⟩
  have hV : ∀ key u, view E σ ν O w key u → view E (σ.loseBox d) ν (fun k => O k ∨ Own σ ν (.box d) k) w key u := fun key u hu => view_mono (σ := σ) (σ' := σ.loseBox d) (Grow.refl (fun _ => False) w) (HSub.of_eq rfl (fun _ _ => rfl)) (fun k h1 h2 h3 h4 => ⟨fun ⟨m, hm⟩ => h3 ⟨m, (hown m k hm).1⟩, fun h5 => by
    rcases h5 with h5 | h5
    · exact h4 h5
    · exact h3 ⟨_, h5⟩, fun h5 => h5⟩) hu
  have hcell : ∀ r ds, w.heap[r]? = some (.deferred ds) → ¬ Own σ ν (.box d) r := fun r ds h1 h2 => by
    obtain ⟨cur, e, h3⟩ := h.own_cells h2
    rw [h3] at h1; cases h1
  have htr : σ.trace = ⟨.unit, ()⟩ := by have := h.out.1; rw [hJ] at this; exact this
  refine ⟨h.keep, fun d' hd' => ?_, map_rel (fun x v hx => ?_) h.slots, fun m o ho => ?_, fun m m' k h1 h2 => h.inj m m' k (hown _ _ h1).1 (hown _ _ h2).1, fun m k hm => ?_, fun r k hk => h.new r k (hown _ _ hk).1, ⟨?_, fun k hk => ?_⟩, h.nn, h.ro, h.kept, fun r hr => ?_, h.baseG, fun m k hm => h.baseH m k (hown _ _ hm).1, fun k hk => .inl (h.omin k hk), h.nd⟩
  · obtain ⟨r, h1, h2, h3, h4⟩ := h.marks d' hd'
    exact ⟨r, h1, h2, h3, fun h5 => h5.elim h4 (hcell r _ h3)⟩
  · unfold AV.loseBox
    cases hk : x.knowsBox d with
    | true => trivial
    | false => exact AvRel.keep (σ := σ) (σ' := σ.loseBox d) hV (HSub.of_eq rfl (fun _ _ => rfl)) x v (fun _ _ row hrow => ⟨rfl, row, hrow, rfl⟩) (fun b hb hs => ⟨rfl, by rw [hne b (fun e => by rw [e, hk] at hb; cases hb)]; exact hs⟩) hx
  · exact (h.objs m o (hob m o ho).1).mono hV (fun k hk => rfl) (fun r _ hr => ⟨rfl, hr⟩)
  · obtain ⟨h1, h2⟩ := hown m k hm
    obtain ⟨h3, h4, h5⟩ := h.bnd m k h1
    exact ⟨h3, h4, fun h6 => h6.elim h5 (fun h7 => h2 (h.inj _ _ k h1 h7))⟩
  · show E.J σ.trace _ w; rw [hJ]; exact htr
  · rcases hk with h5 | h5
    · exact h.out.2 k h5
    · obtain ⟨h3, h4, _⟩ := h.bnd _ k h5
      refine ⟨h4, fun h6 => ?_⟩
      rcases h3 with h3 | h3 | h3
      · omega
      · exact h3
      · exact absurd h3 ro_box
  · obtain ⟨h1, h2⟩ := h.waits r hr
    exact ⟨h1, fun h5 => h5.elim h2 (hcell r _ h1)⟩
theorem St.lendBs (hE : EnvOk E) (hJ : E.J = plainJ) : ∀ (bs : List Nat) (σ : AS) (O : Nat → Prop), St E σ a w ν O → ∃ O', St E (σ.loseB bs) a w ν O' ∧ (∀ k, O k → O' k) ∧ (∀ b ∈ bs, ∀ k, Own σ ν (.box b) k → O' k) ∧ ∀ k, O' k → O k ∨ ∃ b ∈ bs, Own σ ν (.box b) k
  | [], σ, O, h => ⟨O, h, fun _ h => h, fun b hb => by simp at hb, fun _ h => .inl h⟩
  | d :: bs, σ, O, h => by
    obtain ⟨O', h1, h2, h3, h4⟩ := St.lendBs hE hJ bs _ _ (h.lendBox hE hJ d)
    have hown : ∀ b k, b ≠ d → Own σ ν (.box b) k → Own (σ.loseBox d) ν (.box b) k := fun b k hb ⟨e1, e2⟩ => ⟨by simp only [AS.obj, loseBox_look, if_neg (Ne.symm hb)]; exact e1, e2⟩
    have hown2 : ∀ b k, Own (σ.loseBox d) ν (.box b) k → Own σ ν (.box b) k := fun b k ⟨e1, e2⟩ => ⟨by
      simp only [AS.obj, loseBox_look, Option.isSome_map] at e1 ⊢
      split at e1
      · cases e1
      · exact e1, e2⟩
    refine ⟨O', h1, fun k hk => h2 k (.inl hk), fun b hb k hk => ?_, fun k hk => ?_⟩
    · by_cases e : b = d
      · subst e; exact h2 k (.inr hk)
      · exact h3 b ((List.mem_cons.1 hb).resolve_left e) k (hown b k e hk)
    · rcases h4 k hk with (h5 | h5) | ⟨b, hb, h5⟩
      · exact .inl h5
      · exact .inr ⟨d, by simp, h5⟩
      · exact .inr ⟨b, by simp [hb], hown2 b k h5⟩
end
end Go.Abs
namespace Go.Abs
open Go.RowKit Go.Lib
section
variable {P : Program} {T : Tab} {E : Env} {σ σ1 σ2 σe σ' : AS} {a a' : Act} {w w' : World} {ν ν' : Nm → Value} {O O' : Nat → Prop} {Φ : PhiT T} {V V' : View}
theorem look_append {α : Type} : ∀ {l m : List (Nat × α)} {i : Nat} {x : α}, look (l ++ m) i = some x → look l i = some x ∨ look m i = some x
  | [], m, i, x, h => .inr h
  | (k, u) :: l, m, i, x, h => by
    simp only [List.cons_append, look] at h ⊢
    cases hb : Nat.beq k i with
    | true => rw [hb] at h; exact .inl h
    | false => rw [hb] at h; exact look_append h
theorem look_shift {α : Type} (c : Nat) : ∀ {l : List (Nat × α)} {i : Nat} {x : α}, look (l.map fun p => (p.1 + c, p.2)) i = some x → ∃ t, i = t + c ∧ look l t = some x
  | [], i, x, h => by cases h
  | (k, u) :: l, i, x, h => by
    simp only [List.map_cons, look] at h
    cases hb : Nat.beq (k + c) i with
    | true =>
      have := (beq_iff _ _).1 hb
      subst this
      rw [hb] at h
      exact ⟨k, rfl, by simp only [look, beq_refl]; exact h⟩
    | false =>
      rw [hb] at h
      obtain ⟨t, h1, h2⟩ := look_shift c (l := l) h
      refine ⟨t, h1, ?_⟩
      simp only [look]
      rw [beq_ne (fun e => (beq_ff.1 hb) (by rw [e, h1]))]
      exact h2
theorem look_unshift {α : Type} (c : Nat) : ∀ {l : List (Nat × α)} {i : Nat} {x : α}, (∀ p ∈ l, c ≤ p.1) → look (l.map fun p => (p.1 - c, p.2)) i = some x → look l (i + c) = some x
  | [], i, x, _, h => by cases h
  | (k, u) :: l, i, x, hc, h => by
    have hk := hc (k, u) (by simp)
    simp only at hk
    simp only [List.map_cons, look] at h ⊢
    by_cases e : k = i + c
    · subst e
      have : i + c - c = i := by omega
      rw [this, beq_refl] at h
      rw [beq_refl]; exact h
    · rw [beq_ne (fun e' => e (by omega))] at h
      rw [beq_ne e]
      exact look_unshift c (fun p hp => hc p (by simp [hp])) h
def Env.keepE (E : Env) (a : Act) (mk : Nat) : Env := { E with XS := fun i => if i < 1000000000 then a.tmps.toList.getD (i - 10000) undef else E.XS i, M := fun r => E.M r ∨ r = mk ∨ (⟨.collected r, #[]⟩ : Deferred) ∈ a.defers }
theorem keepE_lt {a : Act} {mk i t : Nat} (h : i < 1000000000) (ht : i - 10000 = t) : (E.keepE a mk).XS i = a.tmps.toList.getD t undef := by
  subst ht; exact if_pos h
theorem keepE_ge {a : Act} {mk i : Nat} (h : 1000000000 ≤ i) : (E.keepE a mk).XS i = E.XS i := if_neg (Nat.not_lt.2 h)
theorem EnvOk.keepE (hE : EnvOk E) (a : Act) (mk : Nat) : EnvOk (E.keepE a mk) := ⟨hE.cell, hE.stay⟩
theorem EnvT.keepE (hG : EnvT T E) (a : Act) (mk : Nat) : EnvT T (E.keepE a mk) := by
  refine ⟨fun g => ?_, hG.2⟩
  rw [keepE_ge (by unfold gk; omega)]
  exact hG.1 g
theorem St.saved (h : St E σ a w ν O) (hok : okSave σ = true) {mk : Nat} (hmk : w.heap[mk]? = some (.deferred (some [])) ∧ ¬ O mk) (g : Rng) : St (E.keepE a mk) ({ σ with rngs := [g] } : AS).save ⟨a.tmps, []⟩ w ν O := by
  simp only [okSave, Bool.and_eq_true, List.all_eq_true] at hok
  have hcv : ∀ x v, AvRel (view E σ ν O w) σ ν E.Y x v → AvRel (view E σ ν O w) ({ σ with rngs := [g] } : AS).save ν E.Y x v := fun x v hx =>
    AvRel.mono (σ := σ) (σ' := ({ σ with rngs := [g] } : AS).save) (fun _ _ h => h) ⟨HSub.of_eq rfl (fun _ _ => rfl), fun r row hr => ⟨rfl, row, hr, rfl⟩, fun b hb => ⟨rfl, hb⟩⟩ x v hx
  refine ⟨h.keep, (fun d hd => by cases hd), ⟨h.slots.1, fun i x hx => hcv _ _ (h.slots.2.1 i x hx), fun i x hx => ?_⟩, fun m o ho => ?_, ?_, ?_, ?_, h.out, h.nn, h.ro, h.kept, fun r hr => ?_, h.baseG, ?_, h.omin, List.nodup_nil⟩
  · have hx' : look ((σ.tmps.l.map fun p => (p.1 + 10000 * 1, p.2)) ++ σ.tmps.s) i = some x := hx
    rcases look_append hx' with h1 | h1
    · obtain ⟨t, rfl, h2⟩ := look_shift (10000 * 1) h1
      have h3 := hok.1 _ (look_mem h2)
      rw [blt_iff] at h3
      have h4 : (E.keepE a mk).XS (t + 10000 * 1) = a.tmps.toList.getD t undef := keepE_lt (by simp only at h3; omega) (by omega)
      rw [h4]
      exact hcv _ _ (h.slots.2.1 t x h2)
    · have h3 := hok.2 _ (look_mem h1)
      rw [Nat.ble_eq] at h3
      have h4 : (E.keepE a mk).XS i = E.XS i := keepE_ge h3
      rw [h4]
      exact hcv _ _ (h.slots.2.2 i x h1)
  · have ho' : σ.obj m = some o := by cases m <;> exact ho
    exact (h.objs m o ho').mono (fun _ _ h => h) (fun _ _ => rfl) (fun r _ hr => ⟨rfl, hr⟩)
  · intro m m' k h1 h2
    exact h.inj m m' k (by cases m <;> exact h1) (by cases m' <;> exact h2)
  · intro m k hm
    exact h.bnd m k (by cases m <;> exact hm)
  · intro m k hk; exact h.new m k (by cases m <;> exact hk)
  · rcases hr with h1 | rfl | h1
    · exact h.waits r h1
    · exact hmk
    · obtain ⟨r', h2, h3, h4, h5⟩ := h.marks _ h1
      injection h2 with h2
      injection h2 with h2
      subst h2
      exact ⟨h4, h5⟩
  · intro m k hm
    exact h.baseH m k (by cases m <;> exact hm)
theorem St.unsaved {mk : Nat} (h : St (E.keepE a mk) σ ⟨a.tmps, []⟩ w ν O) (hks : ∀ i x, look σ.unsave.tmps.s i = some x → 1000000000 ≤ i) (hmk : E.w0.heap.size ≤ mk) (hdf : ∀ d ∈ a.defers, ∃ r, d = ⟨.collected r, #[]⟩ ∧ E.w0.heap.size ≤ r) (hnd : ([{ target := .collected mk, args := #[] }] ++ a.defers : List Deferred).Nodup) :
    St E ({ σ.unsave with rngs := σ.rngs.tail } : AS) ⟨a.tmps, [{ target := .collected mk, args := #[] }] ++ a.defers⟩ w ν O := by
  have hcv : ∀ x v, AvRel (view E σ ν O w) σ ν E.Y x v → AvRel (view E σ ν O w) ({ σ.unsave with rngs := σ.rngs.tail } : AS) ν E.Y x v := fun x v hx =>
    AvRel.mono (σ := σ) (σ' := ({ σ.unsave with rngs := σ.rngs.tail } : AS)) (fun _ _ h => h) ⟨HSub.of_eq rfl (fun _ _ => rfl), fun r row hr => ⟨rfl, row, hr, rfl⟩, fun b hb => ⟨rfl, hb⟩⟩ x v hx
  refine ⟨h.keep, fun d hd => ?_, ⟨h.slots.1, fun i x hx => hcv _ _ (h.slots.2.1 i x hx), fun i x hx => ?_⟩, fun m o ho => ?_, ?_, ?_, ?_, h.out, h.nn, h.ro, h.kept, fun r hr => h.waits r (.inl hr), h.baseG, ?_, h.omin, hnd⟩
  · rcases List.mem_append.1 hd with h1 | h1
    · simp only [List.mem_singleton] at h1
      subst h1
      obtain ⟨h2, h3⟩ := h.waits mk (.inr (.inl rfl))
      exact ⟨mk, rfl, hmk, h2, h3⟩
    · obtain ⟨r, rfl, h2⟩ := hdf d h1
      obtain ⟨h3, h4⟩ := h.waits r (.inr (.inr h1))
      exact ⟨r, rfl, h2, h3, h4⟩
  · have hx' : look σ.unsave.tmps.s i = some x := hx
    have h1 := hks i x hx'
    have h2 : look σ.tmps.s i = some x := by
      unfold AS.unsave at hx'
      rw [look_filter σ.tmps.s (fun k => !(inDepth σ.rngs.length k)) i] at hx'
      split at hx'
      · exact hx'
      · cases hx'
    have h3 := h.slots.2.2 i x h2
    have h4 : (E.keepE a mk).XS i = E.XS i := keepE_ge h1
    rw [h4] at h3
    exact hcv _ _ h3
  · have ho' : σ.obj m = some o := by cases m <;> exact ho
    exact (h.objs m o ho').mono (fun _ _ h => h) (fun _ _ => rfl) (fun r _ hr => ⟨rfl, hr⟩)
  · intro m m' k h1 h2
    exact h.inj m m' k (by cases m <;> exact h1) (by cases m' <;> exact h2)
  · intro m k hm
    exact h.bnd m k (by cases m <;> exact hm)
  · intro m k hk; exact h.new m k (by cases m <;> exact hk)
  · intro m k hm
    exact h.baseH m k (by cases m <;> exact hm)
theorem St.backed {E' : Env} {a0 : Act} {mk : Nat} (hXS : E'.XS = (E.keepE a0 mk).XS) (hn : a0.tmps.size = σ.tmps.n) (hr : ∃ g, σ.rngs = [g]) (h : St E' σ a w ν O) : St E' σ.back ⟨a0.tmps, []⟩ w ν O := by
  have hcv : ∀ x v, AvRel (view E' σ ν O w) σ ν E'.Y x v → AvRel (view E' σ ν O w) σ.back ν E'.Y x v := fun x v hx =>
    AvRel.mono (σ := σ) (σ' := σ.back) (fun _ _ h => h) ⟨HSub.of_eq rfl (fun _ _ => rfl), fun r row hr => ⟨rfl, row, hr, rfl⟩, fun b hb => ⟨rfl, hb⟩⟩ x v hx
  obtain ⟨g, hg⟩ := hr
  refine ⟨h.keep, (fun d hd => by cases hd), ⟨(show σ.tmps.n = a0.tmps.toList.length by simpa using hn.symm), fun i x hx => ?_, fun i x hx => hcv _ _ (h.slots.2.2 i x hx)⟩, fun m o ho => ?_, ?_, ?_, ?_, h.out, h.nn, h.ro, h.kept, h.waits, h.baseG, ?_, h.omin, List.nodup_nil⟩
  · have hx' : look ((σ.tmps.s.filter fun p => inDepth σ.rngs.length p.1).map fun p => (p.1 - 10000 * σ.rngs.length, p.2)) i = some x := hx
    rw [hg] at hx'
    have h1 := look_unshift (10000 * 1) (fun p hp => by
      have := (List.mem_filter.1 hp).2
      simp only [inDepth, Bool.and_eq_true, Nat.ble_eq] at this
      exact this.1) hx'
    rw [look_filter σ.tmps.s (fun k => inDepth [g].length k) (i + 10000 * 1)] at h1
    split at h1
    · rename_i hd
      have h2 := h.slots.2.2 _ x h1
      simp only [inDepth, Bool.and_eq_true, blt_iff, List.length_singleton] at hd
      have h4 : E'.XS (i + 10000 * 1) = a0.tmps.toList.getD i undef := by
        rw [hXS]
        exact keepE_lt (by omega) (by omega)
      rw [h4] at h2
      exact hcv _ _ h2
    · cases h1
  · have ho' : σ.obj m = some o := by cases m <;> exact ho
    exact (h.objs m o ho').mono (fun _ _ h => h) (fun _ _ => rfl) (fun r _ hr => ⟨rfl, hr⟩)
  · intro m m' k h1 h2
    exact h.inj m m' k (by cases m <;> exact h1) (by cases m' <;> exact h2)
  · intro m k hm
    exact h.bnd m k (by cases m <;> exact hm)
  · intro m k hk; exact h.new m k (by cases m <;> exact hk)
  · intro m k hm
    exact h.baseH m k (by cases m <;> exact hm)
end
end Go.Abs
namespace Go.Abs
open Go.RowKit Go.Lib
structure RgD (T : Tab) (Φ : PhiT T) (R : Type) where
  E : Env
  a : Act
  mb : Nat
  l : Nat
  rec0 : Loop
  ts : List Ty
  ys : List (prodT ts).den
  σ0 : AS
  hd : List (Nat × Bool)
  RB : AS → (Ex → AS → Option R) → Option R
  k : Ex → AS → Option R
  r : R
  w2 : World
  Xg : Nat → Prop
  Bx : Nat → Prop
section
variable {P : Program} {T : Tab} {Φ : PhiT T} {R : Type}
def RgD.len (D : RgD T Φ R) (k : Nat) : Prop := D.Bx k ∨ D.w2.heap.size ≤ k
structure JGat (D : RgD T Φ R) (xs rest : List (prodT D.ts).den) (Og : Nat → Prop) (w : World) (σ1 : AS) (ν1 : Nm → Value) (Oc : Nat → Prop) (m : Nat) : Prop where
  ys : D.ys = xs ++ rest
  rngs : σ1.rngs = [⟨D.ts, rest⟩]
  loop : loopN D.hd D.RB (endRounds D.k) m σ1 = some D.r
  fr : FrX D.σ0 σ1
  st : St (D.E.keepE D.a D.mb) σ1 ⟨D.a.tmps, []⟩ w ν1 Oc
  recd : w.heap[D.l]? = some (Go.Obj.loop D.rec0)
  ol : Og D.l
  cl : Oc D.l
  own : ∀ m k, Own σ1 ν1 m k → ¬ D.E.RoNm m → Og k
  cover : ∀ k, k < w.heap.size → (D.w2.heap.size ≤ k ∨ D.Xg k) → Og k ∨ (Oc k ∧ D.len k)
  size : D.w2.heap.size ≤ w.heap.size
  ogl : ∀ k, Og k → k < w.heap.size
def JG (D : RgD T Φ R) : CV → (Nat → Prop) → World → Prop := fun tr Og w => ∃ xs rest σ1 ν1 Oc m, tr = ⟨.slice (prodT D.ts), xs⟩ ∧ JGat D xs rest Og w σ1 ν1 Oc m
theorem JG.stay {D : RgD T Φ R} (hE : EnvOk D.E) (hJ : D.E.J = plainJ) (hlen : ∀ k, D.len k → D.E.CB k ∨ D.E.base.heap.size ≤ k) {tr : CV} {Og : Nat → Prop} {w w' : World} {C : Nat → Prop} (h : JG D tr Og w) (hg : Grow C w w')
    (hC : ∀ k, C k → ¬ Og k ∧ (k < D.w2.heap.size → D.Xg k)) : JG D tr Og w' := by
  obtain ⟨xs, rest, σ1, ν1, Oc, m, rfl, j⟩ := h
  have hCl : ∀ k, k < w.heap.size → C k → Oc k ∧ D.len k := fun k hk hc => by
    obtain ⟨h1, h2⟩ := hC k hc
    by_cases h3 : D.w2.heap.size ≤ k
    · exact (j.cover k hk (.inl h3)).resolve_left h1
    · exact (j.cover k hk (.inr (h2 (by omega)))).resolve_left h1
  have hg' : Grow (fun k => Oc k ∧ D.len k) w w' := hg.mono hCl
  refine ⟨xs, rest, σ1, ν1, fun k => Oc k ∨ (w.heap.size ≤ k ∧ k < w'.heap.size), m, rfl, j.ys, j.rngs, j.loop, j.fr, ?_, ?_, j.ol, .inl j.cl, j.own, fun k hk hx => ?_, Nat.le_trans j.size hg.size, fun k hk => Nat.lt_of_lt_of_le (j.ogl k hk) hg.size⟩
  · exact j.st.lent (hE.keepE D.a D.mb) hJ hg' (fun k hk => ⟨hk.1, hlen k hk.2⟩) (fun k hk => .inl hk) (fun k hk => hk)
  · rw [hg.block D.l (Array.getElem?_eq_some_iff.1 j.recd).1 (fun hc => (hC _ hc).1 j.ol)]
    exact j.recd
  · by_cases hlt : k < w.heap.size
    · exact (j.cover k hlt hx).imp id (fun h => ⟨.inl h.1, h.2⟩)
    · exact .inr ⟨.inr ⟨by omega, hk⟩, .inr (Nat.le_trans j.size (by omega))⟩
end
end Go.Abs
namespace Go.Abs
open Go.RowKit Go.Lib
section
variable {V : View} {σ : AS} {ν : Nm → Value} {Y : Value}
theorem argAV_rel {t : Ty} {x : t.den} {v : Value} (h : VRel V t x v) : AvRel V σ ν Y (argAV t x) v := by
  cases t with
  | st t => obtain ⟨cs, h1, h2⟩ := h; exact ⟨cs, h1, rel_flat h2⟩
  | _ => exact h
theorem setPs_rel {X : Nat → Value} : ∀ {ps : List Tmp} {ts : List Ty} {s s' : Slots} {x : (prodT ts).den} {vs ys : List Value}, setPs s ps ts x = some s' → SRel (AvRel V σ ν Y) s ys X → YRel V (prodT ts) x vs →
    vs.length = ps.length ∧ SRel (AvRel V σ ν Y) s' ((ps.zip vs).foldl (fun l p => l.set p.1 p.2) ys) X
  | [], [], s, s', x, vs, ys, h, hs, hy => by
    simp only [setPs, Option.some.injEq] at h
    subst h
    have : vs = [] := hy
    subst this
    exact ⟨rfl, hs⟩
  | p :: ps, t :: ts, s, s', x, vs, ys, h, hs, hy => by
    simp only [setPs] at h
    obtain ⟨v, r, rfl, h1, h2⟩ := hy
    obtain ⟨h3, h4⟩ := setPs_rel h (setN_rel hs (argAV_rel h1)) h2
    exact ⟨by simp [h3], by simpa using h4⟩
  | [], _ :: _, _, _, _, _, _, h, _, _ => by simp [setPs] at h
  | _ :: _, [], _, _, _, _, _, h, _, _ => by simp [setPs] at h
theorem zip_foldl (tmps : Array Value) (ps : Array Tmp) (vs : Array Value) : ((ps.zip vs).foldl (fun tmps (p : Tmp × Value) => tmps.setIfInBounds p.1 p.2) tmps).toList = (ps.toList.zip vs.toList).foldl (fun l p => l.set p.1 p.2) tmps.toList := by
  rw [← Array.foldl_toList, Array.toList_zip]
  generalize ps.toList.zip vs.toList = l
  induction l generalizing tmps with
  | nil => rfl
  | cons p l ih => simp only [List.foldl_cons]; rw [ih]; simp
end
end Go.Abs
namespace Go.Abs
open Go.RowKit Go.Lib
section
variable {P : Program} {T : Tab} {Φ : PhiT T} {R : Type} {E : Env} {σ σ' : AS} {a a' : Act} {w w' : World} {ν ν' : Nm → Value} {O O' : Nat → Prop}
theorem Ctx.keepE (C : Ctx P T Φ E) (hJ : E.J = plainJ) (a : Act) (mb : Nat) : Ctx P T Φ (E.keepE a mb) :=
  ⟨C.env.keepE a mb, C.glob.keepE a mb, C.tab, C.hps, C.eqs, C.sigs, C.fns, C.num, yieldOk_plain hJ, fun _ _ _ => hJ⟩
theorem Ctx.rebase (C : Ctx P T Φ E) (hJ : E.J = plainJ) : Ctx P T Φ (E.rebase σ ν O w) :=
  ⟨C.env.rebase, C.glob, C.tab, C.hps, C.eqs, C.sigs, C.fns, C.num, yieldOk_plain hJ, fun _ _ _ => hJ⟩
theorem trExt_unit {t : CV} (h : TrExt ⟨.unit, ()⟩ t) : t = ⟨.unit, ()⟩ := by
  rcases h with h | ⟨t', xs, ys, e, _⟩
  · exact h
  · injection e with e; cases e
theorem St.putLoop (hE : EnvOk E) (hJ : E.J = plainJ) (h : St E σ a w ν O) {l : Nat} {r : Loop} (hl : w.heap[l]? = some (.loop r)) (hO : O l) (hc : E.CB l ∨ E.base.heap.size ≤ l) (r' : Loop) : St E σ a (w.putObj l (.loop r')) ν O ∧ (w.putObj l (.loop r')).heap[l]? = some (.loop r') ∧ (w.putObj l (.loop r')).heap.size = w.heap.size := by
  have hlt := (Array.getElem?_eq_some_iff.1 hl).1
  have hsz : (w.putObj l (.loop r')).heap.size = w.heap.size := by simp [World.putObj]
  refine ⟨h.lent hE hJ (C := fun k => k = l) ⟨rfl, rfl, rfl, by rw [hsz]; exact Nat.le_refl _, fun k hk hn => ?_⟩ (fun k e => by subst e; exact ⟨hO, hc⟩) (fun k hk => hk) (fun k hk => .inl hk), ?_, hsz⟩
  · simp only [World.putObj]
    rw [Array.getElem?_setIfInBounds_ne (fun e => hn e.symm)]
  · simp only [World.putObj]
    rw [Array.getElem?_setIfInBounds_self_of_lt hlt]
end
end Go.Abs
namespace Go.Abs
open Go.RowKit Go.Lib
section
variable {P : Program} {T : Tab} {Φ : PhiT T} {R : Type}
theorem putObj_grow {w : World} {l : Nat} {o : Go.Obj} : Grow (fun k => k = l) w (w.putObj l o) :=
  ⟨rfl, rfl, rfl, by simp [World.putObj], fun k hk hn => by
    simp only [World.putObj]
    rw [Array.getElem?_setIfInBounds_ne (fun e => hn e.symm)]⟩
structure Sh (σ σ' : AS) : Prop where
  rows : ∀ r, (look σ'.rows r).isSome = true → (look σ.rows r).isSome = true
  boxes : ∀ r, (look σ'.boxes r).isSome = true → (look σ.boxes r).isSome = true
  heaps : σ'.heaps = σ.heaps
theorem Sh.refl (σ : AS) : Sh σ σ := ⟨fun _ h => h, fun _ h => h, rfl⟩
theorem Sh.trans {a b c : AS} (h : Sh a b) (g : Sh b c) : Sh a c := ⟨fun r hr => h.rows r (g.rows r hr), fun r hr => h.boxes r (g.boxes r hr), g.heaps.trans h.heaps⟩
theorem Sh.own {σ σ' : AS} {ν : Nm → Value} {m : Nm} {k : Nat} (h : Sh σ σ') (hm : Own σ' ν m k) : Own σ ν m k := by
  refine ⟨?_, hm.2⟩
  have h1 := hm.1
  cases m with
  | row r => simp only [AS.obj, Option.isSome_map] at h1 ⊢; exact h.rows r h1
  | box r => simp only [AS.obj, Option.isSome_map] at h1 ⊢; exact h.boxes r h1
  | hp i n => simp only [AS.obj, h.heaps] at h1 ⊢; exact h1
theorem sh_frz {σ : AS} (x : Operand) : Sh σ (σ.frz x) := by
  unfold AS.frz
  split
  · refine ⟨fun k hk => ?_, fun k hk => by rw [freeze_boxes] at hk; exact hk, by unfold AS.freeze; split <;> rfl⟩
    rw [freeze_look] at hk
    split at hk
    · cases hk
    · exact hk
  · exact Sh.refl _
theorem sh_share : ∀ (hs : List (Nat × Bool)) (σ : AS), Sh σ (σ.share hs)
  | [], σ => Sh.refl _
  | (j, true) :: h, σ => (sh_frz _).trans (sh_share h _)
  | (j, false) :: h, σ => sh_share h σ
theorem look_filterS {α : Type} : ∀ {l : List (Nat × α)} {p : Nat × α → Bool} {i : Nat}, (look (l.filter p) i).isSome = true → (look l i).isSome = true
  | [], p, i, h => by cases h
  | (k, u) :: l, p, i, h => by
    simp only [look]
    cases hb : Nat.beq k i with
    | true => rfl
    | false =>
      simp only [List.filter_cons] at h
      split at h
      · simp only [look, hb, cond_false] at h
        exact look_filterS h
      · exact look_filterS h
theorem sh_forget (hs : List (Nat × Bool)) (σ : AS) : Sh σ (σ.forget hs) := by
  refine (sh_share hs σ).trans ?_
  unfold AS.forget
  exact ⟨fun r hr => look_filterS hr, fun r hr => look_filterS hr, rfl⟩
theorem JG.round {D : RgD T Φ R} {n : Nat} {asg body : Code} {ps : Array Tmp} {fn : FuncId} {hs1 hs2 : List (List (Nat × Bool))} (hRB : D.RB = roundB ps.toList (fun σ k' => evCode T Φ n asg hs1 σ k') (fun σ k' => evCode T Φ n body hs2 σ k'))
    (hrec : D.rec0 = { state := .ready, pending := none, fn, tmps := D.a.tmps, params := ps, assign := asg, body, defers := D.mb }) (C : Ctx P T Φ D.E) (hD : AccDown D.E) (hJ : D.E.J = plainJ) (hacc : D.E.acc ⟨.unit, ()⟩) (hlen : ∀ k, D.len k → D.E.CB k ∨ D.E.base.heap.size ≤ k)
    (Sx : Sound P T Φ n asg) (Sy : Sound P T Φ n body) (hn : D.a.tmps.size = D.σ0.tmps.n) {xs rest : List (prodT D.ts).den} {x : (prodT D.ts).den} {Og Oc : Nat → Prop} {w : World} {σ1 : AS} {ν1 : Nm → Value} {m : Nat} (j : JGat D xs (x :: rest) Og w σ1 ν1 Oc m) (hlB : D.len D.l)
    {vs : List Value} (hv : ∀ V, YRel V (prodT D.ts) x vs) (rr : Option Nat) :
    ∃ tmps, (Instr.yield D.l vs.toArray).run P w = .ok (.round D.l fn tmps asg body) w ∧ RoundIn (FW rr) 0 P D.l fn tmps asg body w fun e w' => e = .returned (.bool true) ∧ ∃ O', JG D ⟨.slice (prodT D.ts), xs ++ [x]⟩ O' w' ∧ Grow Og w w' ∧ (∀ k, Og k → O' k) ∧ ∀ k, O' k → Og k ∨ (w.heap.size ≤ k ∧ k < w'.heap.size) := by
  have hl := j.loop
  cases m with
  | zero => cases hl
  | succ m =>
    simp only [loopN] at hl
    rw [hRB] at hl
    unfold roundB at hl
    rw [j.rngs] at hl
    dsimp only at hl
    split at hl
    · rename_i s hs
      have htr1 : σ1.trace = ⟨.unit, ()⟩ := by have := j.st.out.1; rw [show (D.E.keepE D.a D.mb).J = plainJ from hJ] at this; exact this
      obtain ⟨h1, h2⟩ := setPs_rel hs j.st.slots (hv _)
      have hsz : vs.toArray.size = D.rec0.params.size := by rw [hrec]; simpa using h1
      have hy := run_yield (P := P) j.recd hsz
      rw [hrec] at hy
      refine ⟨_, hy, ?_⟩
      -- the assignments
      have hst0 : St (D.E.keepE D.a D.mb) { σ1 with tmps := s, rngs := [⟨D.ts, rest⟩] } ⟨(ps.zip vs.toArray).foldl (fun tmps (t, a) => tmps.setIfInBounds t a) D.a.tmps, []⟩ w ν1 Oc := by
        refine j.st.reslot (σ' := { σ1 with tmps := s, rngs := [⟨D.ts, rest⟩] }) (a' := ⟨(ps.zip vs.toArray).foldl (fun tmps (t, a) => tmps.setIfInBounds t a) D.a.tmps, []⟩) ⟨rfl, rfl, rfl, rfl⟩ rfl ?_
        rw [show ((ps.zip vs.toArray).foldl (fun tmps (t, a) => tmps.setIfInBounds t a) D.a.tmps).toList = _ from zip_foldl D.a.tmps ps vs.toArray]
        exact h2
      have hk1 : ∀ e σ', (match e with
          | Ex.normal => evCode T Φ n body hs2 σ' fun e σ2 => match e with
            | .normal => loopN D.hd D.RB (endRounds D.k) m (σ2.back.forget D.hd)
            | _ => none
          | _ => none) = some D.r → Fr { σ1 with tmps := s, rngs := [⟨D.ts, rest⟩] } σ' → D.E.acc σ'.trace := fun e σ' _ hf => by
        have := hf.tr
        rw [show ({ σ1 with tmps := s, rngs := [⟨D.ts, rest⟩] } : AS).trace = σ1.trace from rfl, htr1] at this
        rw [trExt_unit this]; exact hacc
      have hDr : ∀ (σ : AS) (ν : Nm → Value) (O : Nat → Prop) (w : World), AccDown ((D.E.keepE D.a D.mb).rebase σ ν O w) := fun _ _ _ _ => hD
      have hCr : ∀ (σ : AS) (ν : Nm → Value) (O : Nat → Prop) (w : World), Ctx P T Φ ((D.E.keepE D.a D.mb).rebase σ ν O w) := fun _ _ _ _ => (C.keepE hJ D.a D.mb).rebase hJ
      have hnro : ∀ m, (D.E.keepE D.a D.mb).RoNm m ↔ D.E.RoNm m := fun m => Iff.rfl
      refine roundIn_of_wpIn trivial ?_
      refine wpIn_mono (Sx _ (hCr _ _ _ _) (hDr _ _ _ _) (some D.l) hs1 _ _ _ w _ _ hl hst0.rebase (fun _ => by simp) (fun e σ' h3 h4 => ?_)) (fun e a1 w1 hp => ?_)
      · have := h4.tr
        rw [show ({ σ1 with tmps := s, rngs := [⟨D.ts, rest⟩] } : AS).trace = σ1.trace from rfl, htr1] at this
        show D.E.acc σ'.trace
        rw [trExt_unit this]; exact hacc
      · cases e with
        | normal =>
          obtain ⟨σ2, h3, h4, ν2, O2, h5⟩ := hp
          dsimp only at h3
          obtain ⟨u1, u2, u3, u4⟩ := hst0.unbase h5
          have hnl : ∀ {σ : AS} {ν : Nm → Value} {O : Nat → Prop} {a : Act} {w : World} {r : Loop}, St (D.E.keepE D.a D.mb) σ a w ν O → w.heap[D.l]? = some (Go.Obj.loop r) → ¬ ∃ m, Own σ ν m D.l ∧ ¬ (D.E.keepE D.a D.mb).RoNm m := fun hst hr ⟨m, hm, _⟩ => by
            obtain ⟨cur, e, hc⟩ := hst.own_cells hm
            rw [hc] at hr; cases hr
          have hr1 : w1.heap[D.l]? = some (Go.Obj.loop D.rec0) := by
            rw [u2.block D.l (Array.getElem?_eq_some_iff.1 j.recd).1 (hnl hst0 j.recd)]; exact j.recd
          have hrdy : D.rec0.state = .ready := by rw [hrec]
          have hOl : O2 D.l := u3 _ j.cl
          obtain ⟨p1, p2, p3⟩ := St.putLoop (E := D.E.keepE D.a D.mb) (C.env.keepE D.a D.mb) hJ u1 hr1 hOl (hlen _ hlB) { D.rec0 with state := .busy }
          refine ⟨_, run_beginRound hr1 hrdy, ?_⟩
          refine wpIn_mono (Sy _ (hCr _ _ _ _) (hDr _ _ _ _) (some D.l) hs2 _ _ _ _ _ _ h3 p1.rebase (fun _ => by rw [h4.rngs]; simp) (fun e σ' h6 h7 => ?_)) (fun e a2 w2 hp2 => ?_)
          · have := (h4.trans h7).tr
            rw [show ({ σ1 with tmps := s, rngs := [⟨D.ts, rest⟩] } : AS).trace = σ1.trace from rfl, htr1] at this
            show D.E.acc σ'.trace
            rw [trExt_unit this]; exact hacc
          · cases e with
            | normal =>
              obtain ⟨σ3, h6, h7, ν3, O3, h8⟩ := hp2
              dsimp only at h6
              obtain ⟨v1, v2, v3, v4⟩ := p1.unbase h8
              have hr2 : w2.heap[D.l]? = some (Go.Obj.loop { D.rec0 with state := .busy }) := by
                rw [v2.block D.l (Array.getElem?_eq_some_iff.1 p2).1 (hnl p1 p2)]; exact p2
              obtain ⟨q1, q2, q3⟩ := St.putLoop (E := D.E.keepE D.a D.mb) (C.env.keepE D.a D.mb) hJ v1 hr2 (v3 _ hOl) (hlen _ hlB) { ({ D.rec0 with state := .busy } : Loop) with state := if (none : Option Code).isNone then .ready else .done, pending := none }
              refine ⟨_, _, run_endRound none hr2, rfl, ?_⟩
              have g1 : Grow Og w w1 := u2.mono (fun k _ ⟨m, hm, hr⟩ => j.own m k (by cases m <;> exact hm) hr)
              have g2 := g1.trans (putObj_grow (w := w1) (l := D.l) (o := .loop { D.rec0 with state := .busy })) (fun i _ e => by rw [e]; exact j.ol)
              have g3 : Grow Og w w2 := g2.trans v2 (fun i hi ⟨m, hm, hr⟩ => by
                rcases u4 m i hm with h9 | ⟨m', h9, h10⟩ | h9
                · exact absurd h9 hr
                · exact j.own m' i (by cases m' <;> exact h9) h10
                · omega)
              have g4 := g3.trans (putObj_grow (w := w2) (l := D.l) (o := .loop { ({ D.rec0 with state := .busy } : Loop) with state := if (none : Option Code).isNone then .ready else .done, pending := none })) (fun i _ e => by rw [e]; exact j.ol)
              have hfr : Fr { σ1 with tmps := s, rngs := [⟨D.ts, rest⟩] } σ3 := h4.trans h7
              have hbk : St (D.E.keepE D.a D.mb) σ3.back ⟨D.a.tmps, []⟩ _ ν3 O3 := St.backed (E := D.E) rfl (by rw [hn, ← j.fr.s]; exact (hfr.s.trans (setPs_n hs).1).symm) ⟨_, hfr.rngs⟩ q1
              have hfin := hbk.forget (C.env.keepE D.a D.mb) D.hd
              have hfx : FrX D.σ0 σ3.back := ⟨⟨_, hfr.rngs⟩, hfr.sites.trans j.fr.sites, (hfr.s.trans (setPs_n hs).1).trans j.fr.s, j.fr.tr.trans hfr.tr, by
                show ∃ ls : List Nat, σ3.tmps.s.map (·.1) = _ ∧ _
                rw [hfr.ks]
                show ∃ ls : List Nat, s.s.map (·.1) = _ ∧ _
                rw [(setPs_n hs).2]; exact j.fr.ks⟩
              have hrec' : ({ ({ D.rec0 with state := .busy } : Loop) with state := if (none : Option Code).isNone then .ready else .done, pending := none } : Loop) = D.rec0 := by rw [hrec]; rfl
              refine ⟨fun k => Og k ∨ (w.heap.size ≤ k ∧ k < _), ⟨xs ++ [x], rest, σ3.back.forget D.hd, ν3, O3, m, rfl, ?_⟩, g4, fun k hk => .inl hk, fun k hk => hk⟩
              refine ⟨by rw [j.ys]; simp, by rw [(forget_fr D.hd σ3.back).rngs]; exact hfr.rngs, by rw [hRB]; exact h6, hfx.fr (forget_fr _ _), hfin, by rw [← hrec']; exact q2, .inl j.ol, v3 _ hOl, fun m' k hm hr => ?_, fun k hk hx => ?_, Nat.le_trans j.size g4.size, fun k hk => ?_⟩
              · rcases (hfin.bnd m' k hm) with ⟨_, h10, _⟩
                by_cases hk : w.heap.size ≤ k
                · exact .inr ⟨hk, h10⟩
                · left
                  have o3 : Own σ3 ν3 m' k := by have := (sh_forget D.hd σ3.back).own hm; cases m' <;> exact this
                  rcases v4 m' k o3 with h11 | ⟨m2, h11, h12⟩ | h11
                  · exact absurd h11 hr
                  · rcases u4 m2 k h11 with h13 | ⟨m3, h13, h14⟩ | h13
                    · exact absurd h13 h12
                    · exact j.own m3 k (by cases m3 <;> exact h13) h14
                    · omega
                  · have := g2.size; omega
              · by_cases hlt : k < w.heap.size
                · exact (j.cover k hlt hx).imp .inl (fun h => ⟨v3 _ (u3 _ h.1), h.2⟩)
                · exact .inl (.inr ⟨by omega, hk⟩)
              · rcases hk with hk | hk
                · exact Nat.lt_of_lt_of_le (j.ogl k hk) g4.size
                · exact hk.2
            | _ => first | exact hp2.elim | (obtain ⟨σ3, h6, _⟩ := hp2; cases h6)
        | _ => first | exact hp.elim | (obtain ⟨σ2, h3, _⟩ := hp; cases h3)
    · cases hl
end
end Go.Abs
namespace Go.Abs
open Go.RowKit Go.Lib
section
variable {P : Program} {T : Tab} {Φ : PhiT T} {R : Type}
def RgD.genE (D : RgD T Φ R) (V0 : View) (h0 : List HRow) : Env where
  V0 := V0
  w0 := D.w2
  X := D.Xg
  J := JG D
  XS := D.E.XS
  Y := .func (.yield D.l) #[] #[]
  ro := fun _ => none
  h0 := h0
  n0 := fun _ _ => .nilFunc
  M := fun _ => False
  base := D.w2
  CB := D.Xg
  Om := fun _ => False
  acc := fun tr => TrExt tr ⟨.slice (prodT D.ts), D.ys⟩
  XH := fun _ _ => False
theorem genE_down (D : RgD T Φ R) (V0 : View) (h0 : List HRow) : AccDown (D.genE V0 h0) := fun tr tr' h1 h2 => h1.trans h2
theorem genE_yields {D : RgD T Φ R} {V0 : View} {h0 : List HRow} {n : Nat} {asg body : Code} {ps : Array Tmp} {fn : FuncId} {hs1 hs2 : List (List (Nat × Bool))} (hRB : D.RB = roundB ps.toList (fun σ k' => evCode T Φ n asg hs1 σ k') (fun σ k' => evCode T Φ n body hs2 σ k'))
    (hrec : D.rec0 = { state := .ready, pending := none, fn, tmps := D.a.tmps, params := ps, assign := asg, body, defers := D.mb }) (C : Ctx P T Φ D.E) (hD : AccDown D.E) (hJ : D.E.J = plainJ) (hacc : D.E.acc ⟨.unit, ()⟩) (hlen : ∀ k, D.len k → D.E.CB k ∨ D.E.base.heap.size ≤ k)
    (Sx : Sound P T Φ n asg) (Sy : Sound P T Φ n body) (hn : D.a.tmps.size = D.σ0.tmps.n) (hlB : D.len D.l) : YieldOk P (D.genE V0 h0) := by
  intro rr t xs x vs O w hJG hac hv
  refine ⟨⟨rfl, fun k hk => hk⟩, ?_⟩
  obtain ⟨xs', rest, σ1, ν1, Oc, m, e, j⟩ := hJG
  injection e with e1 e2
  injection e1 with e1
  subst e1
  simp only [heq_eq_eq] at e2
  subst e2
  have hrest : ∃ more, rest = x :: more := by
    have hac' : TrExt ⟨.slice (prodT D.ts), xs ++ [x]⟩ ⟨.slice (prodT D.ts), D.ys⟩ := hac
    have hys := j.ys
    rcases hac' with h1 | ⟨t', ys1, ys2, h1, h2⟩
    · injection h1 with _ h1
      try simp only [heq_eq_eq] at h1
      rw [h1] at hys
      exact ⟨[], (List.append_cancel_left hys).symm⟩
    · injection h1 with h3 h4
      injection h3 with h3
      subst h3
      simp only [heq_eq_eq] at h4
      subst h4
      injection h2 with _ h2
      try simp only [heq_eq_eq] at h2
      rw [h2, List.append_assoc] at hys
      exact ⟨ys2, (List.append_cancel_left hys).symm⟩
  obtain ⟨more, rfl⟩ := hrest
  obtain ⟨tmps, h1, h2⟩ := JG.round hRB hrec C hD hJ hacc hlen Sx Sy hn j hlB hv rr
  exact ⟨D.l, fn, tmps, asg, body, rfl, h1, h2⟩
end
end Go.Abs
namespace Go.Abs
open Go.RowKit Go.Lib
section
variable {P : Program} {T : Tab} {Φ : PhiT T} {R : Type} {E : Env} {σ σ' : AS} {a a' : Act} {w w' : World} {ν ν' : Nm → Value} {O O' : Nat → Prop}
theorem sh_loseB : ∀ (bs : List Nat) (σ : AS), Sh σ (σ.loseB bs) ∧ ∀ b ∈ bs, look (σ.loseB bs).boxes b = none
  | [], σ => ⟨Sh.refl _, fun b hb => by simp at hb⟩
  | d :: bs, σ => by
    obtain ⟨h1, h2⟩ := sh_loseB bs (σ.loseBox d)
    have h0 : Sh σ (σ.loseBox d) := ⟨fun r hr => hr, fun r hr => by
      rw [loseBox_look] at hr; split at hr
      · cases hr
      · exact hr, rfl⟩
    refine ⟨h0.trans h1, fun b hb => ?_⟩
    rcases List.mem_cons.1 hb with rfl | hb
    · cases hl : look (((σ.loseBox b).loseB bs).boxes) b with
      | none => exact hl
      | some x =>
        have := h1.boxes b (by rw [hl]; rfl)
        rw [loseBox_look, if_pos rfl] at this; cases this
    · exact h2 b hb
def entered (w : World) (r : Loop) : World := (w.alloc (.deferred (some []))).alloc (.loop r)
theorem entered_below (w : World) (r : Loop) : Below w.heap.size w (entered w r) ∧ (entered w r).heap.size = w.heap.size + 2 ∧ (entered w r).heap[w.heap.size]? = some (Go.Obj.deferred (some [])) ∧ (entered w r).heap[w.heap.size + 1]? = some (Go.Obj.loop r) := by
  have h1 := heap_alloc_new w (.deferred (some []))
  have h2 := heap_alloc_new (w.alloc (.deferred (some []))) (.loop r)
  have hs : (w.alloc (.deferred (some []))).heap.size = w.heap.size + 1 := by simp
  refine ⟨⟨rfl, rfl, rfl, by unfold entered; simp; omega, fun k hk => ?_⟩, by unfold entered; simp, ?_, ?_⟩
  · unfold entered
    rw [heap_alloc_old (w.alloc (.deferred (some []))) _ (r := k) (by rw [hs]; omega), heap_alloc_old w _ (r := k) hk]
  · unfold entered
    rw [heap_alloc_old (w.alloc (.deferred (some []))) _ (by rw [hs]; omega)]; exact h1
  · unfold entered
    rw [hs] at h2; exact h2
end
end Go.Abs
namespace Go.Abs
open Go.RowKit Go.Lib
section
variable {P : Program} {T : Tab} {Φ : PhiT T} {R : Type} {E : Env} {σ σ' : AS} {a a' : Act} {w w' : World} {ν ν' : Nm → Value} {O O' : Nat → Prop}
def BoxesOf (σ : AS) (ν : Nm → Value) (bs : List Nat) (k : Nat) : Prop := ∃ b ∈ bs, Own σ ν (.box b) k
theorem range_start (hE : EnvOk E) (hJ : E.J = plainJ) (h : St E σ a w ν O) (bs : List Nat) (hd : List (Nat × Bool)) (hok : okSave ((σ.loseB bs).forget hd) = true) (g : Rng) (r : Loop) :
    ∃ Oc, St (E.keepE a w.heap.size) ({ ((σ.loseB bs).forget hd) with rngs := [g] } : AS).save ⟨a.tmps, []⟩ (entered w r) ν Oc ∧ (∀ k, O k → Oc k) ∧ (∀ k, BoxesOf σ ν bs k → Oc k) ∧ Oc (w.heap.size + 1) ∧ ∀ k, Oc k → O k ∨ BoxesOf σ ν bs k ∨ k = w.heap.size + 1 := by
  obtain ⟨O1, s1, h1, h2, h3⟩ := h.lendBs hE hJ bs
  obtain ⟨e1, e2, e3, e4⟩ := entered_below w r
  have hO1 : ∀ k, O1 k → k < w.heap.size := fun k hk => (s1.out.2 k hk).1
  have s4 : St E ((σ.loseB bs).forget hd) a (entered w r) ν (fun k => O1 k ∨ k = w.heap.size + 1) :=
    (s1.forget hE hd).lent hE hJ (C := fun _ => False) (Grow.of_below e1) (fun k hk => hk.elim) (fun k hk => .inl hk) (fun k hk => hk.imp id (fun e => by subst e; omega))
  refine ⟨_, s4.saved hok ⟨e3, fun h5 => ?_⟩ g, fun k hk => .inl (h1 k hk), fun k ⟨b, hb, hk⟩ => .inl (h2 b hb k hk), .inr rfl, fun k hk => ?_⟩
  · rcases h5 with h5 | h5
    · have := hO1 _ h5; omega
    · omega
  · rcases hk with hk | hk
    · rcases h3 k hk with h4 | ⟨b, hb, h4⟩
      · exact .inl h4
      · exact .inr (.inl ⟨b, hb, h4⟩)
    · exact .inr (.inr hk)
end
end Go.Abs
namespace Go.Abs
open Go.RowKit Go.Lib
section
variable {P : Program} {T : Tab} {Φ : PhiT T} {R : Type} {E : Env} {σ σ' : AS} {a a' : Act} {w w' : World} {ν ν' : Nm → Value} {O O' : Nat → Prop}
def genV (E : Env) (σ : AS) (ν : Nm → Value) (O : Nat → Prop) (w : World) : View := fun key u => ∃ ad : Addr, key = .cell ad ∧ view E σ ν O w (.cell ad) u
def genX (E : Env) (σ : AS) (ν : Nm → Value) (O : Nat → Prop) (w : World) (k : Nat) : Prop := (∃ m, Own σ ν m k ∧ ¬ E.RoNm m) ∨ O k ∨ k = w.heap.size + 1
theorem genV_cell (hE : EnvOk E) (h : St E σ a w ν O) (r : Loop) {ad : Addr} {u : Value} (hv : view E σ ν O w (.cell ad) u) : (entered w r).cell? ad = some u ∧ ¬ genX E σ ν O w ad.block := by
  have h1 := view_cell hE h.keep hv
  have hlt := cell_lt h1
  obtain ⟨e1, _⟩ := entered_below w r
  refine ⟨by rw [World.cell?_of_block (e1.block _ hlt)]; exact h1, fun hx => ?_⟩
  rcases hv with ⟨h2, h3⟩ | ⟨h2, h3, h4, _⟩
  · have h5 := (hE.cell _ _ h3).2
    rcases hx with ⟨m, hm, hr⟩ | ho | hk
    · rcases (h.bnd m _ hm).1 with h6 | h6 | h6
      · omega
      · exact h5 h6
      · exact hr h6
    · exact h5 ((h.out.2 _ ho).2 h2)
    · omega
  · rcases hx with ⟨m, hm, hr⟩ | ho | hk
    · exact h3 ⟨m, hm⟩
    · exact h4 ho
    · omega
theorem genE_ok {D : RgD T Φ R} {r : Loop} (hE : EnvOk E) (h : St E σ a w ν O) (hDE : D.E = E) (hX : D.Xg = genX E σ ν O w) (hw : D.w2 = entered w r) (hJ : E.J = plainJ) (hlen : ∀ k, D.len k → E.CB k ∨ E.base.heap.size ≤ k) (h0 : List HRow) : EnvOk (D.genE (genV E σ ν O w) h0) := by
  refine ⟨fun ad u hv => ?_, fun tr O1 w1 w1' C hJG hg hC => ?_⟩
  · obtain ⟨ad', e, hv⟩ := hv
    injection e with e
    subst e
    obtain ⟨h1, h2⟩ := genV_cell hE h r hv
    exact ⟨by show D.w2.cell? ad = _; rw [hw]; exact h1, by show ¬ D.Xg ad.block; rw [hX]; exact h2⟩
  · exact JG.stay (by rw [hDE]; exact hE) (by rw [hDE]; exact hJ) (by rw [hDE]; exact hlen) hJG hg hC
end
end Go.Abs
namespace Go.Abs
open Go.RowKit Go.Lib
section
variable {P : Program} {T : Tab} {Φ : PhiT T} {R : Type} {E : Env} {σ σ' : AS} {a a' : Act} {w w' : World} {ν ν' : Nm → Value} {O O' : Nat → Prop}
def genO (E : Env) (σ : AS) (ν : Nm → Value) (O : Nat → Prop) (w : World) (bs : List Nat) (k : Nat) : Prop := genX E σ ν O w k ∧ ¬ BoxesOf σ ν bs k
theorem jg_start {D : RgD T Φ R} {r : Loop} {bs : List Nat} (hE : EnvOk E) (h : St E σ a w ν O) (hDE : D.E = E) (hDa : D.a = a) (hmb : D.mb = w.heap.size) (hDl : D.l = w.heap.size + 1) (hr : D.rec0 = r) (hw : D.w2 = entered w r) (hX : D.Xg = genX E σ ν O w)
    (hB : D.Bx = fun k => BoxesOf σ ν bs k ∨ k = w.heap.size + 1) (hσ : D.σ0 = σ) (hJ : E.J = plainJ) (hok : okSave ((σ.loseB bs).forget D.hd) = true) (hfx : FrX σ ({ ((σ.loseB bs).forget D.hd) with rngs := [⟨D.ts, D.ys⟩] } : AS).save)
    {m : Nat} (hl : loopN D.hd D.RB (endRounds D.k) m ({ ((σ.loseB bs).forget D.hd) with rngs := [⟨D.ts, D.ys⟩] } : AS).save = some D.r) : JG D ⟨.slice (prodT D.ts), []⟩ (genO E σ ν O w bs) (entered w r) := by
  obtain ⟨Oc, s1, o1, o2, o3, o4⟩ := range_start hE hJ h bs D.hd hok ⟨D.ts, D.ys⟩ r
  obtain ⟨e1, e2, e3, e4⟩ := entered_below w r
  have hboxlt : ∀ k, BoxesOf σ ν bs k → k < w.heap.size := fun k ⟨b, hb, ho⟩ => (h.bnd _ _ ho).2.1
  have hXlt : ∀ k, genX E σ ν O w k → k < w.heap.size + 2 := fun k hk => by
    rcases hk with ⟨m, hm, _⟩ | hk | hk
    · have := (h.bnd _ _ hm).2.1; omega
    · have := (h.out.2 _ hk).1; omega
    · omega
  have hl0 : genO E σ ν O w bs (w.heap.size + 1) := ⟨.inr (.inr rfl), fun hb => by have := hboxlt _ hb; omega⟩
  refine ⟨[], D.ys, _, ν, Oc, m, rfl, ⟨rfl, rfl, hl, by rw [hσ]; exact hfx, by rw [hDE, hDa, hmb]; exact s1, by rw [hDl, hr]; exact e4, by rw [hDl]; exact hl0, by rw [hDl]; exact o3, fun m' k hm hro => ?_, fun k hk hx => ?_, by rw [hw]; exact Nat.le_refl _, fun k hk => ?_⟩⟩
  · rw [hDE] at hro
    have hm2 : Own ((σ.loseB bs).forget D.hd) ν m' k := by cases m' <;> exact hm
    have hm3 := (sh_forget D.hd (σ.loseB bs)).own hm2
    have hm4 := (sh_loseB bs σ).1.own hm3
    refine ⟨.inl ⟨m', hm4, hro⟩, fun ⟨b, hb, ho⟩ => ?_⟩
    have := h.inj _ _ k hm4 ho
    subst this
    have h9 := (sh_loseB bs σ).2 b hb
    have h10 := hm3.1
    simp only [AS.obj, h9] at h10
    cases h10
  · rw [hw] at hx
    rcases hx with hx | hx
    · omega
    · rw [hX] at hx
      by_cases hb : BoxesOf σ ν bs k
      · exact .inr ⟨o2 k hb, .inl (by rw [hB]; exact .inl hb)⟩
      · exact .inl ⟨hx, hb⟩
  · have := hXlt k hk.1; omega
end
end Go.Abs
namespace Go.Abs
open Go.RowKit Go.Lib
section
variable {P : Program} {T : Tab} {Φ : PhiT T} {R : Type} {E : Env} {σ σ' : AS} {a a' : Act} {w w' : World} {ν ν' : Nm → Value} {O O' : Nat → Prop}
def genNu (ν : Nm → Value) (ks : List Nat) : Nm → Value
  | .box (j + 1) => match ks[j]? with
    | some b => ν (.box b)
    | none => .nilFunc
  | _ => .nilFunc
theorem noDup_get : ∀ {l : List Nat}, noDup l = true → ∀ (i j b : Nat), l[i]? = some b → l[j]? = some b → i = j
  | [], _, i, j, b, h1, h2 => by simp at h1
  | x :: l, h, i, j, b, h1, h2 => by
    simp only [noDup, Bool.and_eq_true, Bool.not_eq_true'] at h
    have hx : ∀ k, l[k]? ≠ some x := fun k hk => by
      have : l.any (Nat.beq x) = true := any_mem.2 (List.mem_of_getElem? hk)
      rw [h.1] at this; cases this
    cases i with
    | zero =>
      cases j with
      | zero => rfl
      | succ j =>
        simp at h1 h2
        subst h1
        exact absurd h2 (hx j)
    | succ i =>
      cases j with
      | zero =>
        simp at h1 h2
        subst h2
        exact absurd h1 (hx i)
      | succ j => rw [noDup_get h.2 i j b (by simpa using h1) (by simpa using h2)]
end
end Go.Abs
namespace Go.Abs
open Go.RowKit Go.Lib
section
variable {P : Program} {T : Tab} {Φ : PhiT T} {R : Type} {E : Env} {σ σ' : AS} {a a' : Act} {w w' : World} {ν ν' : Nm → Value} {O O' : Nat → Prop}
theorem gen_boxes {boxes : List (Nat × BX)} {args : List ArgT} {caps : List Cap} {x : DenA args} (h : genArgs boxes args caps = some x) : ∀ (j : Nat) bx, look (argBoxes args x 0) j = some bx → ∃ i b t y, j = i + 1 ∧ (capKeys caps)[i]? = some b ∧ bx = .cells (flat t y) ∧ ArgT.bx t ∈ args ∧ look boxes b = some (.cells (flat t y)) := by
  intro j bx hj
  unfold genArgs at h
  split at h
  · simp [argBoxes, argBoxes.one, look] at hj
  · split at h
    · rename_i q ps cs y hy
      simp only [Option.some.injEq] at h
      subst h
      simp only [argBoxes, argBoxes.one, List.nil_append] at hj
      obtain ⟨_, _, h3⟩ := capBoxes_spec 1 hy
      obtain ⟨b, t, z, h4, h5, h6, h7, h8⟩ := h3 j bx hj
      exact ⟨j - 1, b, t, z, by omega, h5, h6, List.mem_cons_of_mem _ h7, h8⟩
    · cases h
  · cases h
end
end Go.Abs
namespace Go.Abs
open Go.RowKit Go.Lib
section
variable {P : Program} {T : Tab} {Φ : PhiT T} {R : Type} {E : Env} {σ σ' : AS} {a a' : Act} {w w' : World} {ν ν' : Nm → Value} {O O' : Nat → Prop}
theorem start_empty {v : Nat} {xh : InT T v} (hh : (T.sig v).heaps.isEmpty = true) : startHs T v xh = emptyH T := by
  have h1 : (T.sig v).hin = [] := by
    have : (T.sig v).heaps = [] := by simpa using hh
    simp [Sig.hin, this]
  have key : ∀ (hs : List Nat) (x : HDen T hs), hs = [] → putH T (T.sig v).hout hs x (emptyH T) = emptyH T := fun hs x e => by subst e; rfl
  exact key _ _ h1
theorem gen_start {D : RgD T Φ R} {r : Loop} {bs : List Nat} (hE : EnvOk E) (h : St E σ a w ν O) (hDE : D.E = E) (hw : D.w2 = entered w r) (hX : D.Xg = genX E σ ν O w) (hJ : E.J = plainJ)
    {v : Nat} {xh : InT T v} (hh : (T.sig v).heaps.isEmpty = true) (hs : sigOk T (T.sig v) = true) (htr : traceOf (T.sig v) = ⟨.slice (prodT D.ts), ([] : List (prodT D.ts).den)⟩) {caps : List Cap} (hx : genArgs σ.boxes (T.sig v).args caps = some (fstH _ xh)) (hnd : noDup (capKeys caps) = true) (hbs : bs = capKeys caps)
    (hJG : JG D ⟨.slice (prodT D.ts), []⟩ (genO E σ ν O w bs) (entered w r)) :
    St (D.genE (genV E σ ν O w) (emptyH T)) (startP T v xh) ⟨#[], []⟩ (entered w r) (genNu ν bs) (genO E σ ν O w bs) := by
  obtain ⟨e1, e2, e3, e4⟩ := entered_below w r
  have hsh : (startP T v xh).heaps = emptyH T := start_empty hh
  have hobj : ∀ m o, (startP T v xh).obj m = some o → ∃ i b t y, m = .box (i + 1) ∧ bs[i]? = some b ∧ o = .box (.cells (flat t y)) ∧ ArgT.bx t ∈ (T.sig v).args ∧ look σ.boxes b = some (.cells (flat t y)) := fun m o ho => by
    cases m with
    | row q => simp [AS.obj, startP, look] at ho
    | box j =>
      simp only [AS.obj, Option.map_eq_some_iff] at ho
      obtain ⟨bx, h1, rfl⟩ := ho
      obtain ⟨i, b, t, y, rfl, h3, rfl, h5, h6⟩ := gen_boxes hx j bx h1
      exact ⟨i, b, t, y, rfl, by rw [hbs]; exact h3, rfl, h5, h6⟩
    | hp i n =>
      simp only [AS.obj, hsh] at ho
      cases n with
      | zero => cases ho
      | succ n =>
        simp only [hobj] at ho
        split at ho
        · rename_i hr hhr
          rw [emptyH_get i hr hhr] at ho
          simp [hslot] at ho
        · cases ho
  have hown : ∀ m k, Own (startP T v xh) (genNu ν bs) m k → ∃ i b, m = .box (i + 1) ∧ bs[i]? = some b ∧ b ∈ bs ∧ Own σ ν (.box b) k := fun m k ⟨h1, h2⟩ => by
    obtain ⟨o, ho⟩ := Option.isSome_iff_exists.1 h1
    obtain ⟨i, b, t, y, rfl, h3, rfl, h5, h6⟩ := hobj m o ho
    refine ⟨i, b, rfl, h3, List.mem_of_getElem? h3, by simp [AS.obj, h6], ?_⟩
    have : genNu ν bs (.box (i + 1)) = ν (.box b) := by simp only [genNu, h3]
    rw [← this]; exact h2
  have hin : (T.sig v).hin = [] := by
    have : (T.sig v).heaps = [] := by simpa using hh
    simp [Sig.hin, this]
  have href : ∀ t, ArgT.bx t ∈ (T.sig v).args → refsIn [] t = true := fun t ht => by
    simp only [sigOk, Bool.and_eq_true] at hs
    have := List.all_eq_true.1 hs.1.1 _ ht
    rw [hin] at this; exact this
  have hO : ∀ k, genO E σ ν O w bs k → k < (entered w r).heap.size := fun k hk => by
    rw [e2]
    rcases hk.1 with ⟨m, hm, _⟩ | hk | hk
    · have := (h.bnd _ _ hm).2.1; omega
    · have := (h.out.2 _ hk).1; omega
    · omega
  refine ⟨?_, (fun d hd => by cases hd), ⟨rfl, (fun i x e => by cases e), (fun i x e => by cases e)⟩, fun m o ho => ?_, fun m m' k h1 h2 => ?_, fun m k hm => ?_, fun q k hk => ?_, ⟨?_, fun k hk => ⟨hO k hk, fun _ => by show D.Xg k; rw [hX]; exact hk.1⟩⟩, ?_, (fun i hr e => by cases e), ?_, (fun _ hf => hf.elim), ?_, fun m k hm => ?_, (fun _ hf => hf.elim), List.nodup_nil⟩
  · show Grow _ D.w2 (entered w r); rw [hw]; exact Grow.refl _ _
  · obtain ⟨i, b, t, y, rfl, h3, rfl, h5, h6⟩ := hobj m o ho
    obtain ⟨g, g1, cur, e, g2, g3⟩ := h.box h6
    have hlt := (Array.getElem?_eq_some_iff.1 g2).1
    refine ⟨g, by simp only [genNu, h3]; exact g1, cur, e, by rw [e1.block g hlt]; exact g2, ?_⟩
    refine rel_flat (Rel.tr (hs := []) (fun ad u hv => ?_) (fun i hi => by simp at hi) _ _ _ (href t h5) (rel_of_flat g3))
    exact .inl ⟨by show ad.block < D.w2.heap.size; rw [hw, e2]; have := cell_lt (view_cell hE h.keep hv); omega, ad, rfl, hv⟩
  · obtain ⟨i, b, rfl, h3, _, h4⟩ := hown m k h1
    obtain ⟨i', b', rfl, h3', _, h4'⟩ := hown m' k h2
    have := h.inj _ _ k h4 h4'
    injection this with this
    subst this
    rw [noDup_get (by rw [hbs]; exact hnd) i i' b h3 h3']
  · obtain ⟨i, b, rfl, h3, hb, h4⟩ := hown m k hm
    have hlt := (h.bnd _ k h4).2.1
    refine ⟨.inr (.inl (by show D.Xg k; rw [hX]; exact .inl ⟨_, h4, ro_box⟩)), by rw [e2]; omega, fun hg => hg.2 ⟨b, hb, h4⟩⟩
  · obtain ⟨i, b, e, _⟩ := hown _ k hk; subst e; exact .inr trivial
  · show JG D (traceOf (T.sig v)) _ _
    rw [htr]; exact hJG
  · intro i hr n e h1 h2
    have e' : (startP T v xh).heaps[i]? = some hr := e
    rw [hsh] at e'
    rw [emptyH_get i hr e'] at h2; simp at h2; omega
  · rw [hsh]
    exact ⟨rfl, fun i hr e => ⟨hr, e, SameH.refl _, Nat.le_refl _⟩, fun i n h1 h2 => rfl⟩
  · show Grow _ D.w2 (entered w r); rw [hw]; exact Grow.refl _ _
  · obtain ⟨i, b, rfl, h3, hb, h4⟩ := hown m k hm
    exact .inr (.inl (by show D.Xg k; rw [hX]; exact .inl ⟨_, h4, ro_box⟩))
end
end Go.Abs
namespace Go.Abs
open Go.RowKit Go.Lib
section
variable {P : Program} {T : Tab} {Φ : PhiT T} {E : Env} {σ σ' : AS} {a a' : Act} {w w' : World} {ν ν' : Nm → Value} {O O' : Nat → Prop}
theorem gen_match {R : Type} {r : R} (k : Rng → List Nat → Option R) (bs : List Nat) : ∀ (s : Sig) (y : SigR s), (match s, y with
    | ⟨_, _, _, _, some ts⟩, y => k ⟨ts, y⟩ bs
    | _, _ => none) = some r → ∃ ts ys, s.gen.isSome = true ∧ genTrS s y = ⟨.slice (prodT ts), ys⟩ ∧ traceOf s = ⟨.slice (prodT ts), ([] : List (prodT ts).den)⟩ ∧ k ⟨ts, ys⟩ bs = some r
  | ⟨_, _, _, _, some ts⟩, y, h => ⟨ts, y, rfl, rfl, rfl, h⟩
  | ⟨_, _, none, _, none⟩, y, h => by cases h
  | ⟨_, _, some _, _, none⟩, y, h => by cases h
theorem genCall_spec {f : AV} {R : Type} {k : Rng → List Nat → Option R} {r : R} (h : genCall T Φ σ f k = some r) : ∃ g caps v xh yh ts ys, f = .fn g caps ∧ genArgs σ.boxes (T.sig v).args caps = some (fstH _ xh) ∧ Φ v xh = some yh ∧
    noDup (capKeys caps) = true ∧ (T.sig v).heaps.isEmpty = true ∧ T.real v = g ∧ (T.sig v).gen.isSome = true ∧ genTr T v yh = ⟨.slice (prodT ts), ys⟩ ∧ traceOf (T.sig v) = ⟨.slice (prodT ts), ([] : List (prodT ts).den)⟩ ∧ k ⟨ts, ys⟩ (capKeys caps) = some r := by
  unfold genCall at h
  split at h
  · rename_i g caps
    split at h
    · rename_i v _ _
      split at h
      · rename_i x hx
        split at h
        · rename_i xh hxh
          simp only [Option.bind_eq_some_iff] at h
          obtain ⟨yh, hy, h⟩ := h
          cases hb : (noDup (capKeys caps) && (T.sig v).heaps.isEmpty && Nat.beq (T.real v) g) with
          | false => rw [hb] at h; cases h
          | true =>
            rw [hb, cond_true] at h
            simp only [Bool.and_eq_true, beq_iff] at hb
            obtain ⟨ts, ys, h1, h2, h3, h4⟩ := gen_match k (capKeys caps) _ _ h
            refine ⟨g, caps, v, xh, yh, ts, ys, rfl, ?_, hy, hb.1.1, hb.1.2, hb.2, h1, h2, h3, h4⟩
            cases hg : getH T σ.heaps (T.sig v).hin with
            | none =>
              have hin : (T.sig v).hin = [] := by
                have : (T.sig v).heaps = [] := by simpa using hb.1.2
                simp [Sig.hin, this]
              exfalso
              have : ∀ hs, hs = [] → getH T σ.heaps hs ≠ none := fun hs e => by subst e; simp [getH]
              exact this _ hin hg
            | some hh => rw [hg] at hxh; rw [(withH_eq hxh).1]; exact hx
        · cases h
      · cases h
    · cases h
  · cases h
theorem capBoxes_args {V V' : View} {boxes : List (Nat × BX)} {νg : Nm → Value} {Y : Value} : ∀ {ps : List ArgT} {caps : List Cap} {x : DenA ps} (i : Nat) {vs : List Value}, capBoxes boxes ps caps = some x → All2 (CapRel V σ ν) caps vs →
    (∀ (j b : Nat), (capKeys caps)[j]? = some b → νg (.box (i + j)) = ν (.box b)) → ArgsG V' νg Y i ps x vs
  | [], [], x, i, vs, h, ha, hn => by
    cases vs with
    | nil => rfl
    | cons _ _ => exact ha.elim
  | [.bx t], [.box b], x, i, vs, h, ha, hn => by
    match vs, ha with
    | [v], ha =>
      obtain ⟨⟨_, g, h1, h2⟩, _⟩ := ha
      exact ⟨v, rfl, by show v = νg (.box i); rw [show νg (.box i) = ν (.box b) from hn 0 b rfl, h1, h2]⟩
  | .bx t :: q :: ps, .box b :: cs, x, i, vs, h, ha, hn => by
    match vs, ha with
    | v :: vs, ha =>
      obtain ⟨⟨_, g, h1, h2⟩, ha⟩ := ha
      simp only [capBoxes] at h
      split at h
      · split at h
        · split at h
          · rename_i y hy
            simp only [Option.some.injEq] at h
            subst h
            refine ⟨v, vs, rfl, by show v = νg (.box i); rw [show νg (.box i) = ν (.box b) from hn 0 b rfl, h1, h2], capBoxes_args (i + 1) hy ha (fun j c hj => ?_)⟩
            have := hn (j + 1) c (by simpa [capKeys] using hj)
            rw [← this]; congr 2; omega
          · cases h
        · cases h
      · cases h
  | [.v _], [], _, _, _, h, _, _ => by simp [capBoxes] at h
  | [.v _], _ :: _, _, _, _, h, _, _ => by simp [capBoxes] at h
  | [.fn _ _], [], _, _, _, h, _, _ => by simp [capBoxes] at h
  | [.fn _ _], _ :: _, _, _, _, h, _, _ => by simp [capBoxes] at h
  | [.c _], [], _, _, _, h, _, _ => by simp [capBoxes] at h
  | [.c _], _ :: _, _, _, _, h, _, _ => by simp [capBoxes] at h
  | [.rp _], [], _, _, _, h, _, _ => by simp [capBoxes] at h
  | [.rp _], _ :: _, _, _, _, h, _, _ => by simp [capBoxes] at h
  | [.yld], [], _, _, _, h, _, _ => by simp [capBoxes] at h
  | [.yld], _ :: _, _, _, _, h, _, _ => by simp [capBoxes] at h
  | [.bx _], [], _, _, _, h, _, _ => by simp [capBoxes] at h
  | [.bx _], [.vel _], _, _, _, h, _, _ => by simp [capBoxes] at h
  | [.bx _], .box _ :: _ :: _, _, _, _, h, _, _ => by simp [capBoxes] at h
  | [.bx _], .vel _ :: _ :: _, _, _, _, h, _, _ => by simp [capBoxes] at h
  | .v _ :: _ :: _, _, _, _, _, h, _, _ => by simp [capBoxes] at h
  | .fn _ _ :: _ :: _, _, _, _, _, h, _, _ => by simp [capBoxes] at h
  | .c _ :: _ :: _, _, _, _, _, h, _, _ => by simp [capBoxes] at h
  | .rp _ :: _ :: _, _, _, _, _, h, _, _ => by simp [capBoxes] at h
  | .yld :: _ :: _, _, _, _, _, h, _, _ => by simp [capBoxes] at h
  | .bx _ :: _ :: _, [], _, _, _, h, _, _ => by simp [capBoxes] at h
  | .bx _ :: _ :: _, .vel _ :: _, _, _, _, h, _, _ => by simp [capBoxes] at h
  | [], _ :: _, _, _, _, h, _, _ => by simp [capBoxes] at h
theorem gen_args {V V' : View} {boxes : List (Nat × BX)} {Y : Value} {args : List ArgT} {caps : List Cap} {x : DenA args} {vs : List Value} (h : genArgs boxes args caps = some x) (ha : All2 (CapRel V σ ν) caps vs) : ArgsG V' (genNu ν (capKeys caps)) Y 0 args x (Y :: vs) := by
  unfold genArgs at h
  split at h
  · cases vs with
    | nil => exact ⟨Y, rfl, rfl⟩
    | cons _ _ => exact ha.elim
  · split at h
    · rename_i q ps cs y hy
      simp only [Option.some.injEq] at h
      subst h
      refine ⟨Y, vs, rfl, rfl, capBoxes_args 1 hy ha (fun j b hj => ?_)⟩
      rw [show (0 + 1 + j) = j + 1 by omega]
      simp only [genNu, hj]
    · cases h
  · cases h
theorem range_sound {n : Nat} (hG : GenOk P T Φ) {f : Operand} {ps : Array Tmp} {x y : Code} (Sx : Sound P T Φ n x) (Sy : Sound P T Φ n y) : Sound P T Φ n (.rangeFunc f ps x y) := by
  intro R r E C hD rr hs σ k a w ν O he h hrr hk
  have hacc0 : E.acc σ.trace := by
    obtain ⟨e, σ', h1, h2⟩ := code_end _ _ _ _ he
    exact hD _ _ h2.tr (hk _ _ h1 h2)
  simp only [evCode] at he
  split at he
  · rename_i hd hs' u hrn htr
    have hrr0 : rr = none := by
      cases rr with
      | none => rfl
      | some l => exact absurd hrn (hrr rfl)
    subst hrr0
    have hE := C.env
    have hJ : E.J = plainJ := C.jj O w (by have := h.out.1; rw [htr] at this; exact this)
    have hacc : E.acc ⟨.unit, ()⟩ := by rw [htr] at hacc0; exact hacc0
    obtain ⟨g, caps, v, xh, yh, ts, ys, e1, e2, e3, e4, e5, e6, e7, e8, e9, e10⟩ := genCall_spec he
    cases hok : okSave ((σ.loseB (capKeys caps)).forget hd) with
    | false => rw [hok] at e10; cases e10
    | true =>
      rw [hok, cond_true] at e10
      have f1 : Fr σ ((σ.loseB (capKeys caps)).forget hd) := (loseB_fr _ σ).trans (forget_fr hd _)
      have hok' := hok
      simp only [okSave, Bool.and_eq_true, List.all_eq_true] at hok'
      have hfx : FrX σ ({ ((σ.loseB (capKeys caps)).forget hd) with rngs := [⟨ts, ys⟩] } : AS).save := ⟨⟨_, rfl⟩, f1.sites, f1.s, f1.tr, by
        refine ⟨((σ.loseB (capKeys caps)).forget hd).tmps.l.map fun p => p.1 + 10000, ?_, fun i hi => ?_⟩
        · show (List.map _ _ ++ _).map _ = _
          rw [List.map_append, List.map_map, ← f1.ks]
          rfl
        · obtain ⟨p, hp, rfl⟩ := List.mem_map.1 hi
          have := hok'.1 p hp
          rw [blt_iff] at this
          simp only [inDepth, Bool.and_eq_true, Nat.ble_eq, blt_iff]
          omega⟩
      refine wpIn_rangeFunc (fun fn hfn => ?_)
      rw [show (FW none).round = none from rfl]
      let rec0 : Loop := { state := .ready, pending := none, fn, tmps := a.tmps, params := ps, assign := x, body := y, defers := w.heap.size }
      let D : RgD T Φ R := { E := E, a := a, mb := w.heap.size, l := w.heap.size + 1, rec0 := rec0, ts := ts, ys := ys, σ0 := σ, hd := hd, RB := roundB ps.toList (fun σ k' => evCode T Φ n x hs' σ k') (fun σ k' => evCode T Φ n y (hs'.drop (loops x)) σ k'), k := k, r := r, w2 := entered w rec0, Xg := genX E σ ν O w, Bx := fun k => BoxesOf σ ν (capKeys caps) k ∨ k = w.heap.size + 1 }
      obtain ⟨n1, n2, n3, n4⟩ := entered_below w rec0
      have hlen : ∀ k, D.len k → D.E.CB k ∨ D.E.base.heap.size ≤ k := fun k hk => by
        have hb := h.baseG.size
        rcases hk with (⟨b, hb1, ho⟩ | hk) | hk
        · rcases h.baseH _ _ ho with h1 | h1
          · exact absurd h1 ro_box
          · exact h1
        · exact .inr (by show E.base.heap.size ≤ k; omega)
        · refine .inr ?_
          have hk' : (entered w rec0).heap.size ≤ k := hk
          show E.base.heap.size ≤ k; omega
      have hJG0 : JG D ⟨.slice (prodT D.ts), []⟩ (genO E σ ν O w (capKeys caps)) (entered w rec0) := jg_start (D := D) (bs := capKeys caps) hE h rfl rfl rfl rfl rfl rfl rfl rfl rfl hJ hok hfx e10
      have hEg : EnvOk (D.genE (genV E σ ν O w) (emptyH T)) := genE_ok hE h rfl rfl rfl hJ hlen _
      have hTg : EnvT T (D.genE (genV E σ ν O w) (emptyH T)) := ⟨C.glob.1, fun i x hx => by
        obtain ⟨g, cs, h1, h2, h3⟩ := C.glob.2 i x hx
        refine ⟨g, cs, h1, h2, h3.of fun key u ⟨ad, e, hlt, hv⟩ => ⟨ad, e, ?_, ad, rfl, .inl ⟨hlt, hv⟩⟩⟩
        show ad.block < (entered w rec0).heap.size
        have := h.keep.size; omega⟩
      have hYg : YieldOk P (D.genE (genV E σ ν O w) (emptyH T)) := genE_yields (D := D) rfl rfl C hD hJ hacc hlen Sx Sy (by have := h.slots.1; simpa using this.symm) (.inl (.inr rfl))
      have hstg := gen_start (D := D) (xh := xh) hE h rfl rfl rfl hJ e5 (C.sigs v) e9 e2 e4 rfl hJG0
      obtain ⟨⟨fd, hfd, hbody, hname⟩, hgen⟩ := hG v xh yh e3 e7
      have hf : AvRel (view E σ ν O w) σ ν E.Y (σ.av f) (a.eval f) := h.av C.glob.1 f
      rw [e1] at hf
      obtain ⟨vs, hf1, hf2⟩ := hf
      have hcall := hgen (D.genE (genV E σ ν O w) (emptyH T)) (genNu ν (capKeys caps)) (#[.func (.yield (w.heap.size + 1)) #[] #[]] ++ vs.toArray) _ hEg hTg hYg (genE_down D _ _) (fun O2 w2 hj => by
        obtain ⟨_, _, _, _, _, _, e, _⟩ := hj
        injection e with e; cases e) (by rw [e8]; exact .inl rfl) hstg (by
          have : (#[.func (.yield (w.heap.size + 1)) #[] #[]] ++ vs.toArray : Array Value).toList = .func (.yield (w.heap.size + 1)) #[] #[] :: vs := by simp
          rw [this]
          exact gen_args e2 hf2)
      rw [e6] at hfd hcall
      have hcall2 : Calls P g (#[.func (.yield (w.heap.size + 1)) #[] #[]] ++ vs.toArray) (entered w rec0) (fun e w' => ∃ r O', e = .returned r ∧ JG D (genTr T v yh) O' w') := hcall
      clear hcall hgen hstg hYg hTg hEg
      have hb : fd.body.isNone = false := by cases hfb : fd.body <;> simp_all
      have hn1 : ¬ fd.name = "runtime.NumGoroutine" := by simpa using hname
      have hb1 : ¬ fd.body = none := by intro e; rw [e] at hb; cases hb
      refine ⟨w.heap.size + 1, [{ target := .collected w.heap.size, args := #[] }], entered w rec0, { target := .fn (.func g) vs.toArray, args := #[.func (.yield (w.heap.size + 1)) #[] #[]] }, entered w rec0, g,
        #[.func (.yield (w.heap.size + 1)) #[] #[]] ++ vs.toArray, entered w rec0, run_enterLoop_outer _ _ _ _ _, ?_, fun _ _ => trivial, ?_, fun e => (by cases e), ?_⟩
      · simp only [resolve, hf1]
        simp [go_sem]
      · simp [invoke, callFunc, hfd, hn1, hb1, go_sem]
      · refine callsIn_FW (Calls.mono (R := fun e w' => ∃ r O', e = .returned r ∧ JG D (genTr T v yh) O' w') hcall2 ?_)
        rintro e w3 ⟨rv, Og, rfl, xs, rest, σ1, ν1, Oc, m, e11, j⟩
        rw [e8] at e11
        injection e11 with _ e11
        try simp only [heq_eq_eq] at e11
        subst e11
        have hrest : rest = [] := by
          have := j.ys
          exact (List.append_cancel_left (as := ys) (by rw [List.append_nil]; exact this)).symm
        subst hrest
        have hl := j.loop
        cases m with
        | zero => cases hl
        | succ m =>
          simp only [loopN] at hl
          have hRB : D.RB = roundB ps.toList (fun σ k' => evCode T Φ n x hs' σ k') (fun σ k' => evCode T Φ n y (hs'.drop (loops x)) σ k') := rfl
          rw [hRB] at hl
          unfold roundB at hl
          rw [j.rngs] at hl
          dsimp only at hl
          have hl' : k .normal { σ1.unsave with rngs := σ1.rngs.tail } = some r := hl
          have hrun := run_endLoop (P := P) j.recd (by show rec0.state ≠ _; simp [rec0])
          obtain ⟨q1, q2, q3⟩ := St.putLoop (E := E.keepE a w.heap.size) (hE.keepE _ _) hJ j.st j.recd j.cl (hlen _ (.inl (.inr rfl))) { rec0 with state := .exhausted }
          have hks := unsave_ks j.fr (fun i hi => by
            have hi : i ∈ σ.tmps.s.map (·.1) := hi
            rw [← f1.ks] at hi
            obtain ⟨p, hp, rfl⟩ := List.mem_map.1 hi
            have := hok'.2 p hp
            rw [Nat.ble_eq] at this
            simp only [inDepth, Bool.and_eq_false_iff]
            exact .inr (by cases hb : Nat.blt p.1 (10000 * (1 + 1)) with
              | false => rfl
              | true => rw [blt_iff] at hb; omega))
          have hfin := q1.unsaved (fun i x hx => by
            have h1 := look_mem hx
            have h2 : i ∈ σ1.unsave.tmps.s.map (·.1) := List.mem_map_of_mem (f := (·.1)) h1
            rw [hks] at h2
            have h2 : i ∈ σ.tmps.s.map (·.1) := h2
            rw [← f1.ks] at h2
            obtain ⟨p, hp, rfl⟩ := List.mem_map.1 h2
            have := hok'.2 p hp
            rwa [Nat.ble_eq] at this) h.keep.size (fun d hd => by
              obtain ⟨r', g1, g2, _⟩ := h.marks d hd
              exact ⟨r', g1, g2⟩) (List.nodup_cons.2 ⟨fun hm => by
              obtain ⟨r', g1, _, g2, _⟩ := h.marks _ hm
              injection g1 with g1
              injection g1 with g1
              have := (Array.getElem?_eq_some_iff.1 g2).1
              omega, h.nd⟩)
          refine ⟨none, _, hrun, ⟨_, hl', ⟨?_, j.fr.sites, j.fr.s, j.fr.tr, hks⟩, ν1, Oc, hfin⟩⟩
          show σ1.rngs.tail = _
          rw [j.rngs, hrn]; rfl
  · cases he
end
end Go.Abs
namespace Go.Abs
open Go.RowKit Go.Lib
section
variable {P : Program} {T : Tab} {Φ : PhiT T} {E : Env} {σ σ' : AS} {a a' : Act} {w w' : World} {ν ν' : Nm → Value} {O O' : Nat → Prop} {V V' : View} {Y : Value}
theorem ArgRel.g : ∀ {p : ArgT} {x : p.den} {v : Value} (i : Nat), ArgRel V p x v → ArgRelG V ν Y i p x v
  | .v _, _, _, _, h => h
  | .fn _ _, _, _, _, h => h
  | .c _, _, _, _, h => h
  | .rp _, _, _, _, h => h
  | .bx _, _, _, _, h => h.elim
  | .yld, _, _, _, h => h.elim
theorem ArgsRel.g : ∀ {ps : List ArgT} {x : DenA ps} {vs : List Value} (i : Nat), ArgsRel V ps x vs → ArgsG V ν Y i ps x vs ∧ argBoxes ps x i = []
  | [], x, vs, i, h => ⟨h, rfl⟩
  | [p], x, vs, i, h => by
    obtain ⟨v, rfl, h1⟩ := h
    refine ⟨⟨v, rfl, h1.g i⟩, ?_⟩
    cases p <;> first | rfl | exact h1.elim
  | p :: q :: ps, x, vs, i, h => by
    obtain ⟨v, r, rfl, h1, h2⟩ := h
    obtain ⟨h3, h4⟩ := ArgsRel.g (i + 1) h2
    refine ⟨⟨v, r, rfl, h1.g i, h3⟩, ?_⟩
    show argBoxes.one p x.1 i ++ argBoxes (q :: ps) x.2 (i + 1) = []
    rw [h4]
    cases p <;> first | rfl | exact h1.elim
theorem vels_caps : ∀ {ts : List Ty} {x : DenL ts} {vs : List Value}, VelsRel V ts x vs → All2 (CapRel V σ ν) (argAVs.velsOf ts x) vs
  | [], x, vs, h => by have : vs = [] := h; subst this; trivial
  | [t], x, vs, h => by obtain ⟨v, rfl, h1⟩ := h; exact ⟨h1, trivial⟩
  | t :: u :: ts, x, vs, h => by
    obtain ⟨v, r, rfl, h1, h2⟩ := h
    exact ⟨h1, vels_caps h2⟩
theorem one_rel {p : ArgT} {x : p.den} {v : Value} {i : Nat} (h : ArgRelG V ν Y i p x v) (hb : ∀ t, p = .bx t → BoxAt σ ν i 0 (ν (.box i))) : AvRel V σ ν Y (argAVs.one p x i) v := by
  cases p with
  | v t => exact argAV_rel h
  | fn f ts => obtain ⟨vs, h1, h2⟩ := h; exact ⟨vs, h1, vels_caps h2⟩
  | c cs => exact h
  | rp t => exact h
  | bx t => have h' : v = ν (.box i) := h; subst h'; exact hb t rfl
  | yld => exact h
theorem argBoxes_get : ∀ {ps : List ArgT} {x : DenA ps} {i k : Nat} {t : Ty}, ps[k]? = some (.bx t) → (look (argBoxes ps x i) (i + k)).isSome = true
  | [], x, i, k, t, h => by simp at h
  | [p], x, i, 0, t, h => by
    simp only [List.getElem?_cons_zero, Option.some.injEq] at h
    subst h
    simp [argBoxes, argBoxes.one, look]
  | [p], x, i, k + 1, t, h => by simp at h
  | p :: q :: ps, x, i, 0, t, h => by
    simp only [List.getElem?_cons_zero, Option.some.injEq] at h
    subst h
    simp [argBoxes, argBoxes.one, look]
  | p :: q :: ps, x, i, k + 1, t, h => by
    have ih := argBoxes_get (ps := q :: ps) (x := x.2) (i := i + 1) (k := k) (by simpa using h)
    rw [show i + (k + 1) = i + 1 + k by omega]
    show (look (argBoxes.one p x.1 i ++ argBoxes (q :: ps) x.2 (i + 1)) _).isSome = true
    cases p with
    | bx u =>
      simp only [argBoxes.one, List.cons_append, List.nil_append, look]
      cases hb : Nat.beq i (i + 1 + k) with
      | true => rfl
      | false => exact ih
    | _ => exact ih
theorem args_start : ∀ {ps : List ArgT} {x : DenA ps} {vs : List Value} {i : Nat}, ArgsG V ν Y i ps x vs → (∀ (k : Nat) t, ps[k]? = some (.bx t) → BoxAt σ ν (i + k) 0 (ν (.box (i + k)))) → All2 (AvRel V σ ν Y) (argAVs ps x i) vs ∧ vs.length = ps.length
  | [], x, vs, i, h, hb => by have : vs = [] := h; subst this; exact ⟨trivial, rfl⟩
  | [p], x, vs, i, h, hb => by
    obtain ⟨v, rfl, h1⟩ := h
    exact ⟨⟨one_rel h1 (fun t e => hb 0 t (by simp [e])), trivial⟩, rfl⟩
  | p :: q :: ps, x, vs, i, h, hb => by
    obtain ⟨v, r, rfl, h1, h2⟩ := h
    obtain ⟨h3, h4⟩ := args_start (i := i + 1) h2 (fun k t e => by
      have := hb (k + 1) t (by simpa using e)
      rw [show i + (k + 1) = i + 1 + k by omega] at this; exact this)
    exact ⟨⟨one_rel h1 (fun t e => hb 0 t (by simp [e])), h3⟩, by simp [h4]⟩
theorem enumD_rel {R : AV → Value → Prop} {g : Nat → Value} : ∀ {l : List AV} {vs : List Value} {acc : List (Nat × AV)} {i : Nat}, All2 R l vs → (∀ j x, look acc j = some x → R x (g j)) →
    (∀ k v, vs[k]? = some v → g (i + k) = v) → ∀ j x, look (enumD i l acc) j = some x → R x (g j)
  | [], [], acc, i, _, ha, _, j, x, h => ha j x h
  | y :: l, v :: vs, acc, i, h, ha, hg, j, x, hx => by
    refine enumD_rel (i := i + 1) (acc := (i, y) :: acc) h.2 (fun j z hz => ?_) (fun k u hu => ?_) j x hx
    · simp only [look] at hz
      cases hb : Nat.beq i j with
      | true =>
        have := (beq_iff _ _).1 hb; subst this
        rw [hb] at hz
        obtain rfl : y = z := by simpa using hz
        have := hg 0 v rfl
        rw [Nat.add_zero] at this
        rw [this]; exact h.1
      | false => rw [hb] at hz; exact ha j z hz
    · rw [Nat.add_assoc, Nat.add_comm 1 k]; exact hg (k + 1) u (by simpa using hu)
  | [], _ :: _, _, _, h, _, _, _, _, _ => h.elim
  | _ :: _, [], _, _, h, _, _, _, _, _ => h.elim
theorem of_rel {R : AV → Value → Prop} {l : List AV} {vs : List Value} {X : Nat → Value} (h : All2 R l vs) (m : Nat) {s : List (Nat × AV)} (hs : ∀ i x, look s i = some x → R x (X i)) : SRel R (Slots.of l m s) (vs ++ List.replicate m undef) X := by
  refine ⟨by simp [Slots.of, h.length], fun j x hx => ?_, hs⟩
  refine enumD_rel (g := fun j => (vs ++ List.replicate m undef).getD j undef) h (fun j x hx => by cases hx) (fun k v hv => ?_) j x hx
  have hk := (List.getElem?_eq_some_iff.1 hv).1
  simp [List.getD, List.getElem?_append_left hk, hv]
theorem St.begin {fn : Func} {v : Nat} {xh : InT T v} {vals : Array Value} (hG : EnvT T E) (h : St E (startP T v xh) ⟨#[], []⟩ E.w0 ν O)
    (ha : ArgsG (view E (startP T v xh) ν O E.w0) ν E.Y 0 (T.sig v).args (fstH _ xh) vals.toList) :
    St E (startAS T fn v xh) { tmps := vals ++ Array.replicate (fn.ntmps - vals.size) undef, defers := [] } E.w0 ν O := by
  obtain ⟨h1, h2⟩ := args_start (σ := startP T v xh) ha (fun k t e => by
    have h3 := argBoxes_get (x := fstH _ xh) (i := 0) e
    obtain ⟨bx, h4⟩ := Option.isSome_iff_exists.1 h3
    obtain ⟨g, h5, _⟩ := h.box (b := 0 + k) h4
    exact ⟨h3, g, h5, h5⟩)
  refine h.reslot (σ' := startAS T fn v xh) ⟨rfl, rfl, rfl, rfl⟩ rfl ?_
  have e : (vals ++ Array.replicate (fn.ntmps - vals.size) undef).toList = vals.toList ++ List.replicate (fn.ntmps - (T.sig v).args.length) undef := by
    rw [Array.toList_append, Array.toList_replicate, ← h2]; simp
  show SRel _ _ (vals ++ Array.replicate (fn.ntmps - vals.size) undef).toList _
  rw [e]
  refine of_rel h1 _ (fun i x hx => ?_)
  obtain ⟨g, cs, rfl, rfl, h3⟩ := hG.2 i x hx
  rw [hG.1 g]
  exact h3.mono fun key u ⟨ad, e, hlt, hv⟩ => by subst e; exact .inl ⟨hlt, hv⟩
theorem St.unmark {tmps : Array Value} {d : Deferred} {ds : List Deferred} (hE : EnvOk E) (h : St E σ ⟨tmps, d :: ds⟩ w ν O) (hM : ∀ r, E.M r → r < E.w0.heap.size) (hb : E.base.heap.size ≤ E.w0.heap.size) :
    ∃ r, d = ⟨.collected r, #[]⟩ ∧ w.heap[r]? = some (.deferred (some [])) ∧ St E σ ⟨tmps, ds⟩ (w.putObj r (.deferred none)) ν O := by
  obtain ⟨r, hd, h1, h2, h3⟩ := h.marks d (by simp)
  refine ⟨r, hd, h2, ?_⟩
  have hg : Grow (fun k => k = r) w (w.putObj r (.deferred none)) := putObj_grow
  have hne : ∀ m, ¬ Own σ ν m r := fun m hm => by
    obtain ⟨cur, e, h4⟩ := h.own_cells hm
    rw [h2] at h4; cases h4
  have hblk : ∀ k o, w.heap[k]? = some o → k ≠ r → (w.putObj r (.deferred none)).heap[k]? = some o := fun k o h4 h5 => by
    rw [hg.block k (Array.getElem?_eq_some_iff.1 h4).1 h5]; exact h4
  have hV : ∀ key u, view E σ ν O w key u → view E σ ν O (w.putObj r (.deferred none)) key u := fun key u hu => by
    cases key with
    | cell ad =>
      rcases hu with hu | ⟨h4, h5, h6, h7⟩
      · exact .inl hu
      · have h8 : ad.block ≠ r := fun e => by
          unfold World.cell? at h7
          rw [e, h2] at h7; cases h7
        exact .inr ⟨h4, h5, h6, by rw [World.cell?_of_block (hg.block _ (cell_lt h7) h8)]; exact h7⟩
    | ref i n => exact hu
  refine ⟨h.keep.trans hg (fun k hk e => by subst e; omega), fun d' hd' => ?_, h.slots.mono (AvRel.mono hV (Sub.refl _ _)), fun m o ho => ?_, h.inj, fun m k hm => ?_, h.new, ⟨hE.stay _ _ _ _ _ h.out.1 hg (fun k e => by subst e; exact ⟨h3, fun hlt => by omega⟩), fun k hk => ⟨Nat.lt_of_lt_of_le (h.out.2 k hk).1 hg.size, (h.out.2 k hk).2⟩⟩, h.nn, h.ro, h.kept, fun r' hr' => ?_, h.baseG.trans hg (fun k hk e => by subst e; omega), h.baseH, h.omin, ?_⟩
  · obtain ⟨r', h4, h5, h6, h7⟩ := h.marks d' (by simp [hd'])
    refine ⟨r', h4, h5, hblk r' _ h6 (fun e => ?_), h7⟩
    subst e
    have := h.nd
    rw [List.nodup_cons] at this
    rw [hd, ← h4] at this
    exact this.1 hd'
  · exact (h.objs m o ho).mono hV (fun k hk => hg.block k (h.bnd m k ⟨isSome_of ho, hk⟩).2.1 (fun e => by subst e; exact hne m ⟨isSome_of ho, hk⟩)) (fun r' _ hr' => ⟨rfl, hr'⟩)
  · obtain ⟨h4, h5, h6⟩ := h.bnd m k hm
    exact ⟨h4, Nat.lt_of_lt_of_le h5 hg.size, h6⟩
  · obtain ⟨h4, h5⟩ := h.waits r' hr'
    exact ⟨hblk r' _ h4 (fun e => by subst e; have := hM _ hr'; omega), h5⟩
  · have := h.nd
    rw [List.nodup_cons] at this
    exact this.2
theorem leaves_marks {F : Fence} {n : Nat} {fn : Func} {tmps : Array Value} {R : Ending → World → Prop} (hE : EnvOk E) (hM : ∀ r, E.M r → r < E.w0.heap.size) (hb : E.base.heap.size ≤ E.w0.heap.size)
    (hend : ∀ w', St E σ ⟨tmps, []⟩ w' ν O → ∃ v, (results fn tmps).run P w' = .ok v w' ∧ R (.returned v) w') : ∀ (ds : List Deferred) (w : World), St E σ ⟨tmps, ds⟩ w ν O → LeavesInM F n P fn tmps R ds .returning w
  | [], w, h => hend w h
  | d :: ds, w, h => by
    obtain ⟨r, h1, h2, h3⟩ := h.unmark hE hM hb
    refine ⟨(by intro e; cases e), .inl ⟨r, _, by rw [h1], run_takeDeferred h2, leaves_marks hE hM hb hend ds _ h3⟩⟩
theorem St.unlend (hJ : E.J = plainJ) (hOm : ∀ k, ¬ E.Om k) (h : St E σ a w ν O) : St E σ a w ν (fun _ => False) := by
  have hV : ∀ key u, view E σ ν O w key u → view E σ ν (fun _ => False) w key u := fun key u hu => by
    cases key with
    | cell ad => exact hu.imp id (fun ⟨h1, h2, h3, h4⟩ => ⟨h1, h2, id, h4⟩)
    | ref i n => exact hu
  refine ⟨h.keep, fun d hd => ?_, h.slots.mono (AvRel.mono hV (Sub.refl _ _)), fun m o ho => (h.objs m o ho).mono hV (fun _ _ => rfl) (fun r _ hr => ⟨rfl, hr⟩), h.inj, fun m k hm => ?_, h.new, ⟨?_, fun _ hf => hf.elim⟩, h.nn, h.ro, h.kept, fun r hr => ⟨(h.waits r hr).1, id⟩, h.baseG, h.baseH, fun k hk => hOm k hk, h.nd⟩
  · obtain ⟨r, h1, h2, h3, _⟩ := h.marks d hd
    exact ⟨r, h1, h2, h3, id⟩
  · obtain ⟨h1, h2, _⟩ := h.bnd m k hm
    exact ⟨h1, h2, id⟩
  · have := h.out.1
    rw [hJ] at this ⊢; exact this
def resSem (tmps : Array Value) : ResultVar → Sem Value
  | .tmp t => pure (tmps.getD t undef)
  | .cell x t => do loadVar t (← asAddr (tmps.getD x undef))
theorem resVar_run (hT : TabOk P T.rows) (h : St E σ a w ν O) {rv : ResultVar} {av : AV} (he : resVar T.rows σ rv = some av) :
    ∃ v, (resSem a.tmps rv).run P w = .ok v w ∧ AvRel (view E σ ν O w) σ ν E.Y av v := by
  cases rv with
  | tmp t =>
    simp only [resVar, Option.some.injEq] at he
    subst he
    refine ⟨a.tmps.getD t undef, rfl, ?_⟩
    have := nth_rel (fun v => by trivial) h.slots t
    simpa using this
  | cell x t =>
    simp only [resVar] at he
    split at he
    · rename_i b off r hb hr
      obtain ⟨rfl, hr'⟩ := hT t r hr
      have hx := nth_rel (fun v => by trivial) h.slots x
      rw [hb] at hx
      obtain ⟨_, g, hg, hu⟩ := hx
      have hu' : a.tmps.getD x undef = .pointer (some ⟨g, off, none⟩) := by simpa using hu
      split at he
      · rename_i cs hcs
        obtain ⟨g', e1, cur, e, hgc, hrel⟩ := h.box hcs
        rw [hg] at e1
        simp only [Value.pointer.injEq, Option.some.injEq, Addr.mk.injEq, and_true] at e1
        subst e1
        have hc : ∀ j u, (cur.toList.drop off)[j]? = some u → w.cell? ((⟨g, off, none⟩ : Addr).add j) = some u := by
          intro j u hj
          rw [addr1, cell_of_row w _ _ cur e (0, 0) hgc]
          simpa using drop_get hj
        obtain ⟨v', h1, h2⟩ := load_run (P := P) hr' hc (hrel.drop off) he (σ := σ) (ν := ν) (Y := E.Y)
        refine ⟨v', ?_, h2⟩
        simp only [resSem, hu', asAddr, Sem.run_bind, Sem.run_pure, Result.andThen_ok, h1]
      · rename_i q hq
        obtain ⟨g', e1, e, hgc, hql⟩ := h.box hq
        rw [hg] at e1
        simp only [Value.pointer.injEq, Option.some.injEq, Addr.mk.injEq, and_true] at e1
        subst e1
        split at he
        · rename_i ut hty
          cases h0 : Nat.beq off 0 with
          | false => rw [h0] at he; cases he
          | true =>
            rw [h0] at he
            simp only [cond_true, Option.some.injEq] at he
            subst he
            have := (beq_iff _ _).1 h0
            subst this
            refine ⟨ν (.row q), ?_, rfl, hql⟩
            have hc : w.cell? ⟨g, 0, none⟩ = some (ν (.row q)) := by rw [cell_of_row w _ _ _ e (0, 0) hgc]; rfl
            have ha := isAgg_run hr' w
            rw [hty] at ha
            simp only [resSem, hu', asAddr, Sem.run_bind, Sem.run_pure, Result.andThen_ok]
            simp [loadVar, ha, hc]
        · cases he
      · cases he
    · cases he
theorem results_run {fn : Func} {vs : List Value} (h : (fn.results.toList.mapM (resSem a.tmps)).run P w = .ok vs w) :
    (results fn a.tmps).run P w = .ok (match vs with | [v] => v | l => .tuple l.toArray) w := by
  have e : results fn a.tmps = (do
      let vs ← fn.results.mapM (resSem a.tmps)
      pure (if h : vs.size = 1 then vs[0] else .tuple vs)) := by
    unfold results
    have : (fun rv => (match rv with | ResultVar.tmp t => pure (a.tmps.getD t undef) | .cell x t => do loadVar t (← asAddr (a.tmps.getD x undef)) : Sem Value)) = resSem a.tmps := by
      funext rv; cases rv <;> rfl
    rw [← this]; rfl
  rw [e, Array.mapM_eq_mapM_toList]
  simp only [Sem.run_bind, Sem.run_map, h, Result.andThen_ok, Sem.run_pure]
  match vs with
  | [] => rfl
  | [v] => rfl
  | v :: u :: r => simp
end
end Go.Abs
namespace Go.Abs
open Go.RowKit Go.Lib
section
variable {P : Program} {T : Tab} {Φ : PhiT T} {E : Env} {σ σ' es : AS} {a a' : Act} {w w' : World} {ν ν' : Nm → Value} {O O' : Nat → Prop} {V V' : View} {Y : Value} {fr fb : Nat → Nat} {hin : List Nat}
def srcN (fr fb : Nat → Nat) : Nm → Nm
  | .row k => .row (fr k)
  | .box k => .box (fb k)
  | .hp i n => .hp i n
def nuS (fr fb : Nat → Nat) (ν : Nm → Value) (m : Nm) : Value := ν (srcN fr fb m)
def ObjRefs (hin : List Nat) : Obj → Prop
  | .row row => refsIn hin row.t = true
  | .box (.cells cs) => ∃ (t : Ty) (y : t.den), cs = flat t y ∧ refsIn hin t = true
  | .box _ => False
  | .hp _ row => refsIn hin row.t = true
theorem srcN_ro (m : Nm) : E.RoNm (srcN fr fb m) → E.RoNm m := fun h => by
  cases m with
  | row k => exact absurd h ro_row
  | box k => exact absurd h ro_box
  | hp i n => exact h
theorem srcN_old (m : Nm) (k : Nat) : E.OldNm (srcN fr fb m) k → E.OldNm m k := fun h => by
  cases m <;> exact h
structure EndSt (E : Env) (σ es : AS) (ν : Nm → Value) (fr fb : Nat → Nat) (hin : List Nat) : Prop where
  obj : ∀ m o, es.obj m = some o → σ.obj (srcN fr fb m) = some o ∧ ObjRefs hin o
  inj : ∀ m m', (es.obj m).isSome = true → (es.obj m').isSome = true → srcN fr fb m = srcN fr fb m' → m = m'
  hp : ∀ i, i ∈ hin → es.heaps[i]? = σ.heaps[i]?
  em : ∀ i hr, i ∉ hin → es.heaps[i]? = some hr → hr.xs = []
  kept : HK E.h0 E.n0 es.heaps ν
  tr : es.trace = ⟨.unit, ()⟩
  tm : es.tmps = ⟨0, [], []⟩
  ro : ∀ i hr, E.ro i = some hr → es.heaps[i]? = some hr
theorem EndSt.own (g : EndSt E σ es ν fr fb hin) {m : Nm} {k : Nat} (h : Own es (nuS fr fb ν) m k) : Own σ ν (srcN fr fb m) k := by
  obtain ⟨o, ho⟩ := Option.isSome_iff_exists.1 h.1
  exact ⟨by rw [(g.obj m o ho).1]; rfl, h.2⟩
theorem EndSt.cell (g : EndSt E σ es ν fr fb hin) (ad : Addr) (u : Value) (hv : view E σ ν O w (.cell ad) u) : view E es (nuS fr fb ν) O w (.cell ad) u := by
  rcases hv with hv | ⟨h1, h2, h3, h4⟩
  · exact .inl hv
  · exact .inr ⟨h1, fun ⟨m, hm⟩ => h2 ⟨_, g.own hm⟩, h3, h4⟩
theorem EndSt.ref (g : EndSt E σ es ν fr fb hin) (i : Nat) (hi : hin.any (Nat.beq i) = true) (n : Nat) (u : Value) (hv : view E σ ν O w (.ref i n) u) : view E es (nuS fr fb ν) O w (.ref i n) u := by
  obtain ⟨h1, h2, h3⟩ := hv
  refine ⟨h1, ?_, h3⟩
  unfold hlen at h2 ⊢
  rw [g.hp i (any_mem.1 hi)]; exact h2
theorem St.finish (h : St E σ a w ν (fun _ => False)) (hJ : E.J = plainJ) (g : EndSt E σ es ν fr fb hin) : St E es ⟨#[], []⟩ w (nuS fr fb ν) (fun _ => False) := by
  have hrel : ∀ t x cs, refsIn hin t = true → Rel (view E σ ν (fun _ => False) w) t x cs → Rel (view E es (nuS fr fb ν) (fun _ => False) w) t x cs := fun t x cs hr => Rel.tr g.cell g.ref t x cs hr
  refine ⟨h.keep, (fun d hd => by cases hd), ⟨by rw [g.tm]; rfl, (fun i x e => by rw [g.tm] at e; cases e), (fun i x e => by rw [g.tm] at e; cases e)⟩, fun m o ho => ?_, fun m m' k h1 h2 => g.inj m m' h1.1 h2.1 (h.inj _ _ k (g.own h1) (g.own h2)), fun m k hm => ?_, fun m k hm => (h.new _ k (g.own hm)).imp id (srcN_old m k), ⟨?_, fun _ hf => hf.elim⟩, fun i hr n e h1 h2 => ?_, fun i hr e => ⟨g.ro i hr e, (h.ro i hr e).2⟩, ⟨g.kept.num, g.kept.row, g.kept.nm⟩, h.waits, h.baseG, fun m k hm => (h.baseH _ k (g.own hm)).imp (srcN_ro m) id, h.omin, List.nodup_nil⟩
  · obtain ⟨h1, h2⟩ := g.obj m o ho
    have h3 := h.objs _ o h1
    show ObjRel _ es _ w (ν (srcN fr fb m)) o
    cases o with
    | row row =>
      obtain ⟨yss, h4, h5⟩ := h3
      exact ⟨yss, h4, h5.mono fun x cs => hrel _ x cs h2⟩
    | box x =>
      cases x with
      | cells cs =>
        obtain ⟨t, y, rfl, h2⟩ := h2
        obtain ⟨gb, h4, cur, e, h5, h6⟩ := h3
        exact ⟨gb, h4, cur, e, h5, rel_flat (hrel t y _ h2 (rel_of_flat h6))⟩
      | own q => exact h2.elim
      | nil => exact h2.elim
    | hp k row =>
      match k, h3 with
      | 0, ⟨h4, yss, h5, h6⟩ => exact ⟨h4, yss, h5, h6.mono fun x cs => hrel _ x cs h2⟩
      | 1, ⟨gb, cur, ys, x, h4, h5, h6, h7, h8⟩ => exact ⟨gb, cur, ys, x, h4, h5, h6, h7, hrel _ _ _ h2 h8⟩
  · obtain ⟨h1, h2, h3⟩ := h.bnd _ k (g.own hm)
    exact ⟨h1.imp id (Or.imp id (srcN_ro m)), h2, h3⟩
  · have := h.out.1
    rw [hJ] at this ⊢
    exact g.tr
  · by_cases hi : i ∈ hin
    · rw [g.hp i hi] at e; exact h.nn i hr n e h1 h2
    · rw [g.em i hr hi e] at h2; simp at h2; omega
theorem putH_get (wr : List Nat) : ∀ (hs : List Nat) (x : HDen T hs) (l : List HRow) (i : Nat), i ∈ hs → i < l.length → ∃ hr : HRow, (putH T wr hs x l)[i]? = some hr ∧ hr.e = (T.ht i).e ∧ hr.t = (T.ht i).t ∧ hr.k = (T.ht i).k ∧ hr.w = wr.any (Nat.beq i)
  | [], _, l, i, h, _ => by simp at h
  | [h], x, l, i, hm, hl => by
    simp only [List.mem_singleton] at hm
    subst hm
    simp only [putH, putH1]
    rw [List.getElem?_set_self hl]
    exact ⟨_, rfl, rfl, rfl, rfl, rfl⟩
  | h :: j :: r, x, l, i, hm, hl => by
    by_cases hm2 : i ∈ j :: r
    · simp only [putH]
      exact putH_get wr (j :: r) x.2 _ i hm2 (by simpa [putH1] using hl)
    · have : i = h := by
        rcases List.mem_cons.1 hm with e | e
        · exact e
        · exact absurd e hm2
      subst this
      simp only [putH]
      rw [putH_other wr _ _ _ i hm2]
      simp only [putH1]
      rw [List.getElem?_set_self hl]
      exact ⟨_, rfl, rfl, rfl, rfl, rfl⟩
theorem castH_eq {s t : Ty} (h : s = t) (xs : List (Option (List s.den))) (e : TypeId) (k : Nat) (w : Bool) : (⟨e, t, k, w, castH h xs⟩ : HRow) = ⟨e, s, k, w, xs⟩ := castH_row e k w h xs
theorem getH_put (wr : List Nat) {heaps : List HRow} : ∀ (hs : List Nat) (x : HDen T hs) (l : List HRow) (i : Nat), getH T heaps hs = some x → i ∈ hs → i < l.length → ∃ hr : HRow, heaps[i]? = some hr ∧ hr.t = (T.ht i).t ∧ (putH T wr hs x l)[i]? = some ⟨(T.ht i).e, hr.t, (T.ht i).k, wr.any (Nat.beq i), hr.xs⟩
  | [], _, l, i, _, h, _ => by simp at h
  | [h], x, l, i, hx, hm, hl => by
    simp only [List.mem_singleton] at hm
    subst hm
    simp only [getH, getH1] at hx
    split at hx
    · rename_i hr e
      split at hx
      · rename_i et
        simp only [Option.some.injEq] at hx
        subst hx
        refine ⟨hr, e, et, ?_⟩
        simp only [putH, putH1]
        rw [List.getElem?_set_self hl]
        exact congrArg some (castH_eq et hr.xs _ _ _)
      · cases hx
    · cases hx
  | h :: j :: r, x, l, i, hx, hm, hl => by
    simp only [getH] at hx
    split at hx
    · rename_i y hy
      split at hx
      · rename_i z hz
        simp only [Option.some.injEq] at hx
        subst hx
        by_cases hm2 : i ∈ j :: r
        · simp only [putH]
          exact getH_put wr (j :: r) z _ i hz hm2 (by simpa [putH1] using hl)
        · have : i = h := by
            rcases List.mem_cons.1 hm with e | e
            · exact e
            · exact absurd e hm2
          subst this
          simp only [getH1] at hy
          split at hy
          · rename_i hr e
            split at hy
            · rename_i et
              simp only [Option.some.injEq] at hy
              subst hy
              refine ⟨hr, e, et, ?_⟩
              simp only [putH]
              rw [putH_other wr _ _ _ i hm2]
              simp only [putH1]
              rw [List.getElem?_set_self hl]
              exact congrArg some (castH_eq et hr.xs _ _ _)
            · cases hy
          · cases hy
      · cases hx
    · cases hx
theorem end_heaps {v : Nat} {xh : InT T v} {yh : OutT T v} {ν0 : Nm → Value} (hC : Callee T E v xh) (hk0 : HK E.h0 E.n0 (startHs T v xh) ν0) (h : St E σ a w ν O) (hy : getH T σ.heaps (T.sig v).hout = some (sndH _ yh)) (hro : ∀ i hr, E.ro i = some hr → σ.heaps[i]? = some hr) :
    (∀ i, i ∈ (T.sig v).hin → (endHs T v xh yh)[i]? = σ.heaps[i]?) ∧ (∀ i hr, i ∉ (T.sig v).hin → (endHs T v xh yh)[i]? = some hr → hr.xs = []) ∧ HK E.h0 E.n0 (endHs T v xh yh) ν ∧ (∀ i hr, E.ro i = some hr → (endHs T v xh yh)[i]? = some hr) ∧ ∀ i hr, i ∈ (T.sig v).hin → σ.heaps[i]? = some hr → hr.t = (T.ht i).t := by
  have hlen0 : (startHs T v xh).length = T.heaps.length := by unfold startHs; rw [putH_len, emptyH_len]
  have hlen1 : σ.heaps.length = T.heaps.length := by rw [h.kept.num, ← hk0.num, hlen0]
  have same : ∀ i hr, (startHs T v xh)[i]? = some hr → ∃ hr', σ.heaps[i]? = some hr' ∧ SameH hr hr' := fun i hr e => by
    have hlt := (List.getElem?_eq_some_iff.1 e).1
    rw [hk0.num] at hlt
    obtain ⟨hr1, h1, h2, _⟩ := hk0.row i _ (List.getElem?_eq_getElem hlt)
    obtain ⟨hr2, h3, h4, _⟩ := h.kept.row i _ (List.getElem?_eq_getElem hlt)
    rw [e] at h1
    obtain rfl : hr = hr1 := by simpa using h1
    exact ⟨hr2, h3, ⟨h4.e.trans h2.e.symm, h4.t.trans h2.t.symm, h4.k.trans h2.k.symm, h4.w.trans h2.w.symm⟩⟩
  have hsub : ∀ i, i ∈ (T.sig v).hout → i ∈ (T.sig v).hin := fun i hi => hout_hin (s := T.sig v) (any_mem.2 hi)
  have hEq : ∀ i, i ∉ (T.sig v).hout → (endHs T v xh yh)[i]? = (startHs T v xh)[i]? := fun i hi => putH_other _ _ _ _ i hi
  have hHin : ∀ i, i ∈ (T.sig v).hin → (endHs T v xh yh)[i]? = σ.heaps[i]? := fun i hi => by
    by_cases hlt : i < T.heaps.length
    · obtain ⟨hs, s1, s2, s3, s4, s5⟩ := putH_get (T := T) (T.sig v).hout (T.sig v).hin (sndH _ xh) (emptyH T) i hi (by rw [emptyH_len]; exact hlt)
      obtain ⟨hr', h1, h2⟩ := same i hs s1
      by_cases ho : i ∈ (T.sig v).hout
      · obtain ⟨hr, g1, g2, g3⟩ := getH_put (T := T) (T.sig v).hout (T.sig v).hout (sndH _ yh) (startHs T v xh) i hy ho (by rw [hlen0]; exact hlt)
        rw [h1] at g1
        obtain rfl : hr' = hr := by simpa using g1
        show (putH T _ _ _ _)[i]? = _
        rw [g3, h1]
        have e1 : hr'.e = (T.ht i).e := h2.e.trans s2
        have e2 : hr'.k = (T.ht i).k := h2.k.trans s4
        have e3 : hr'.w = (T.sig v).hout.any (Nat.beq i) := h2.w.trans s5
        rw [← e1, ← e2, ← e3]
      · have s1' : (startHs T v xh)[i]? = some hs := s1
        rw [hEq i ho, s1']
        have hr0 := hC.ro i
        have hf : (T.sig v).hout.any (Nat.beq i) = false := eq_false_of_ne_true (fun h => ho (any_mem.1 h))
        rw [any_mem.2 hi, hf] at hr0
        have hr1 : E.ro i = (startHs T v xh)[i]? := hr0
        rw [s1'] at hr1
        exact (hro i hs hr1).symm
    · rw [List.getElem?_eq_none (by unfold endHs; rw [putH_len, hlen0]; omega), List.getElem?_eq_none (by rw [hlen1]; omega)]
  have hEm : ∀ i hr, i ∉ (T.sig v).hin → (endHs T v xh yh)[i]? = some hr → (startHs T v xh)[i]? = some hr ∧ hr.xs = [] := fun i hr hi e => by
    rw [hEq i (fun ho => hi (hsub i ho))] at e
    refine ⟨e, ?_⟩
    unfold startHs at e
    rw [putH_other _ _ _ _ i hi] at e
    exact emptyH_get i hr e
  refine ⟨hHin, fun i hr hi e => (hEm i hr hi e).2, ⟨?_, fun i hr e => ?_, fun i n h1 h2 => h.kept.nm i n h1 h2⟩, fun i hr e => ?_, fun i hr hi e => ?_⟩
  · show (endHs T v xh yh).length = _
    unfold endHs; rw [putH_len]; exact hk0.num
  · by_cases hi : i ∈ (T.sig v).hin
    · rw [hHin i hi]; exact h.kept.row i hr e
    · have hlt := (List.getElem?_eq_some_iff.1 e).1
      rw [← hk0.num] at hlt
      have e2 : (startHs T v xh)[i]? = some (startHs T v xh)[i] := List.getElem?_eq_getElem hlt
      obtain ⟨hr1, h1, h2, h3⟩ := hk0.row i hr e
      refine ⟨hr1, ?_, h2, h3⟩
      rw [hEq i (fun ho => hi (hsub i ho))]; exact h1
  · have h1 := hC.ro i
    rw [e] at h1
    cases hb : ((T.sig v).hin.any (Nat.beq i) && !((T.sig v).hout.any (Nat.beq i))) with
    | false => rw [hb] at h1; cases h1
    | true =>
      rw [hb, cond_true] at h1
      simp only [Bool.and_eq_true, Bool.not_eq_true'] at hb
      rw [hEq i (fun ho => by rw [any_mem.2 ho] at hb; cases hb.2)]
      exact h1.symm
  · have hlt := (List.getElem?_eq_some_iff.1 e).1
    rw [hlen1] at hlt
    obtain ⟨hs, s1, s2, s3, s4, s5⟩ := putH_get (T := T) (T.sig v).hout (T.sig v).hin (sndH _ xh) (emptyH T) i hi (by rw [emptyH_len]; exact hlt)
    obtain ⟨hr', h1, h2⟩ := same i hs s1
    rw [e] at h1
    obtain rfl : hr = hr' := by simpa using h1
    exact h2.t.trans s3
end
end Go.Abs
namespace Go.Abs
open Go.RowKit Go.Lib
section
variable {P : Program} {T : Tab} {Φ : PhiT T} {E : Env} {σ σ' es : AS} {a a' : Act} {w w' : World} {ν ν' : Nm → Value} {O O' : Nat → Prop} {V V' : View} {Y : Value} {fr fb : Nat → Nat} {hin : List Nat}
def rowAt (T : List TRow) (σ : AS) (rv : ResultVar) : Option Nat :=
  match resVar T σ rv with
  | some (.rv (.own r)) => some r
  | _ => none
theorem ownKeys_mem {T : List TRow} : ∀ (l : List ResultVar) (p r : Nat), (l[p]?).bind (rowAt T σ) = some r → r ∈ ownKeys T σ l
  | [], p, r, h => by simp at h
  | v :: l, 0, r, h => by
    simp only [List.getElem?_cons_zero, Option.bind_some, rowAt] at h
    simp only [ownKeys]
    split at h
    · rename_i r' hr
      simp only [Option.some.injEq] at h
      subst h
      rw [hr]; simp
    · cases h
  | v :: l, p + 1, r, h => by
    have := ownKeys_mem l p r (by simpa using h)
    simp only [ownKeys]
    split
    · simp [this]
    · exact this
theorem noDup_uniq {T : List TRow} : ∀ (l : List ResultVar), noDup (ownKeys T σ l) = true → ∀ (p q r : Nat), (l[p]?).bind (rowAt T σ) = some r → (l[q]?).bind (rowAt T σ) = some r → p = q
  | [], h, p, q, r, hp, hq => by simp at hp
  | v :: l, h, p, q, r, hp, hq => by
    have htail : noDup (ownKeys T σ l) = true ∧ ∀ r', rowAt T σ v = some r' → r' ∉ ownKeys T σ l := by
      simp only [ownKeys] at h
      split at h
      · rename_i r' hr
        simp only [noDup, Bool.and_eq_true, Bool.not_eq_true', List.any_eq_false] at h
        refine ⟨h.2, fun r2 h2 hm => ?_⟩
        simp only [rowAt, hr, Option.some.injEq] at h2
        subst h2
        exact h.1 r' hm (beq_refl r')
      · rename_i hn
        refine ⟨h, fun r2 h2 => ?_⟩
        simp only [rowAt] at h2
        cases h2
    cases p with
    | zero =>
      cases q with
      | zero => rfl
      | succ q => exact absurd (ownKeys_mem l q r (by simpa using hq)) (htail.2 r (by simpa using hp))
    | succ p =>
      cases q with
      | zero => exact absurd (ownKeys_mem l p r (by simpa using hp)) (htail.2 r (by simpa using hq))
      | succ q => rw [noDup_uniq l htail.1 p q r (by simpa using hp) (by simpa using hq)]
theorem resOne_own {t : Ty} {e : TypeId} {av : AV} {x : t.den} (h : resOne σ hin (t, some e) av = some x) : ∃ r row, av = .rv (.own r) ∧ look σ.rows r = some row ∧ ownRow t e x = some row ∧ t = .slice row.t := by
  have hcase : (∃ r, av = .rv (.own r)) ∨ resOne σ hin (t, some e) av = none := by
    cases av with
    | rv x => cases x <;> first | exact .inl ⟨_, rfl⟩ | exact .inr rfl
    | _ => exact .inr rfl
  rcases hcase with ⟨r, rfl⟩ | hcase
  · simp only [resOne] at h
    split at h
    · rename_i row hrow
      cases hb : Nat.beq row.e e with
      | false => simp [hb] at h
      | true =>
        simp only [hb, cond_true] at h
        have hbe := (beq_iff _ _).1 hb
        have hc := unleaf1 h
        refine ⟨r, row, rfl, hrow, ?_⟩
        obtain ⟨re, rt, rxs⟩ := row
        simp only at hbe hc
        subst hbe
        cases hc
        exact ⟨rfl, rfl⟩
    · cases h
  · rw [hcase] at h; cases h
theorem typed_hp (h : St E σ a w ν (fun _ => False)) (g : EndSt E σ es ν fr fb hin) (hX : ∀ i k, i ∉ hin → ¬ E.XH i k) (hR : ∀ i hr, i ∉ hin → E.ro i ≠ some hr) :
    ∀ (i n : Nat) (hr : HRow) (l : List hr.t.den) (v : Value), (localH σ.heaps hin)[i]? = some hr → hget hr.xs n = some l → LRel (view E σ ν (fun _ => False) w) ⟨.ref i, n⟩ v → Src (view E σ ν (fun _ => False) w) (view E es (nuS fr fb ν) (fun _ => False) w) hr.t l v := by
  intro i n hr l v e hg hv
  unfold localH at e
  simp only [List.getElem?_map, Option.map_eq_some_iff] at e
  obtain ⟨p, hp, e⟩ := e
  rw [List.getElem?_zipIdx] at hp
  simp only [Option.map_eq_some_iff, Nat.zero_add] at hp
  obtain ⟨hr0, hp1, rfl⟩ := hp
  dsimp only at e
  cases hi : hin.any (Nat.beq i) with
  | true =>
    rw [hi, cond_true] at e
    subst e
    cases n with
    | zero =>
      simp only [hget, Option.some.injEq] at hg
      subst hg
      have : [v] = [_] := hv
      simp only [List.cons.injEq, and_true] at this
      exact ⟨none, 0, [], this, Nat.le_refl _, trivial, fun _ => rfl, fun j u hj => by simp at hj⟩
    | succ m => simp [hget] at hg
  | false =>
    rw [hi, cond_false] at e
    subst e
    have hni : i ∉ hin := fun hm => by rw [any_mem.2 hm] at hi; cases hi
    obtain ⟨h2, h3, _⟩ := h.ref_row hp1 hg hv
    obtain ⟨A, c, yss, e1, e2, e3, e4, e5⟩ := row_src h2
    refine ⟨A, c, yss, e1, e2, e3, e4, fun j u hj => ?_⟩
    obtain ⟨ad, rfl, hc⟩ := e5 j u hj
    refine ⟨ad, rfl, ?_⟩
    have hown := h3 ad.block (by rw [e1]; rfl)
    refine .inr ⟨by rw [add_block]; exact (h.new _ _ hown).resolve_right (hX i _ hni), fun ⟨m, hm⟩ => ?_, id, hc⟩
    rw [add_block] at hm
    have h7 := h.inj _ _ _ hown (g.own hm)
    cases m with
    | row k => cases h7
    | box k => cases h7
    | hp i' n' =>
      injection h7 with h7 h8
      subst h7 h8
      have h9 := hm.1
      cases n with
      | zero => cases h9
      | succ n =>
        simp only [AS.obj, hobj] at h9
        split at h9
        · rename_i hr2 e6
          rw [g.em i hr2 hni e6] at h9
          simp [hslot] at h9
        · cases h9
theorem resOne_plain (h : St E σ a w ν (fun _ => False)) (g : EndSt E σ es ν fr fb hin) (hX : ∀ i k, i ∉ hin → ¬ E.XH i k) (hR : ∀ i hr, i ∉ hin → E.ro i ≠ some hr) {t : Ty} {av : AV} {x : t.den} {v : Value}
    (hi : refsIn hin t = true) (hu : ∀ r, av = .rv (.own r) → ∀ k, (look es.rows k).isSome = true → fr k ≠ r) (he : resOne σ hin (t, none) av = some x) (hv : AvRel (view E σ ν (fun _ => False) w) σ ν Y av v) :
    VRel (view E es (nuS fr fb ν) (fun _ => False) w) t x v := by
  have hcase : (∃ r, av = .rv (.own r)) ∨ resOne σ hin (t, none) av = (bif hasRef av then typed (localH σ.heaps hin) t av else typed [] t av) := by
    cases av with
    | rv x => cases x <;> first | exact .inl ⟨_, rfl⟩ | exact .inr rfl
    | _ => exact .inr rfl
  rcases hcase with ⟨r, rfl⟩ | hcase
  · simp only [resOne] at he
    obtain ⟨rfl, hlk⟩ := hv
    split at he
    · rename_i row hrow
      have hc := unleaf1 he
      obtain ⟨A, c, yss, e1, e2, e3, e4, e5⟩ := row_src (h.row hrow)
      have hsrc : Src (view E σ ν (fun _ => False) w) (view E es (nuS fr fb ν) (fun _ => False) w) row.t row.xs (ν (.row r)) := by
        refine ⟨A, c, yss, e1, e2, e3, e4, fun j u hj => ?_⟩
        obtain ⟨ad, rfl, hcell⟩ := e5 j u hj
        refine ⟨ad, rfl, ?_⟩
        have hown : Own σ ν (.row r) ad.block := ⟨by simp [AS.obj, hrow], by rw [e1]; rfl⟩
        refine .inr ⟨by rw [add_block]; exact (h.new _ _ hown).resolve_right id, fun ⟨m, hm⟩ => ?_, id, hcell⟩
        rw [add_block] at hm
        have h7 := h.inj _ _ _ (g.own hm) hown
        cases m with
        | row k =>
          injection h7 with h7
          exact hu r rfl k (by have := hm.1; simpa [AS.obj] using this) h7
        | box k => cases h7
        | hp i' n' => cases h7
      have hri : refsIn hin row.t = true := by
        have : t = .slice row.t := by cases hc; rfl
        rw [this] at hi; exact hi
      have hlr := hsrc.tr g.cell g.ref hri
      rw [hc] at hlr
      refine VRel.of_rel (fun u e => ?_) hlr
      subst e; cases hc
    · cases he
  · rw [hcase] at he
    cases hb : hasRef av with
    | true => rw [hb, cond_true] at he; exact typed_rel g.cell g.ref (typed_hp h g hX hR) hi he hv
    | false => rw [hb, cond_false] at he; exact typed_rel (heaps := []) g.cell g.ref (fun i n hr l v e => by simp at e) hi he hv
theorem res_rows : ∀ {vars : List ResultVar} {ts : List ResT} {y : DenL (ts.map (·.1))} {d : Nat}, getRes T.rows σ hin vars ts = some y → ∀ u ∈ resUs d ts y, ∃ j r row t e, u = .row (d + j) row ∧ (vars[j]?).bind (rowAt T.rows σ) = some r ∧ look σ.rows r = some row ∧ ts[j]? = some (t, some e) ∧ t = .slice row.t
  | [], [], y, d, h, u, hu => by simp [resUs] at hu
  | [v], [(t, none)], y, d, h, u, hu => by simp [resUs] at hu
  | [v], [(t, some e)], y, d, h, u, hu => by
    simp only [getRes] at h
    obtain ⟨av, hav, h⟩ := Option.bind_eq_some_iff.1 h
    obtain ⟨r, row, rfl, h1, h2, h3⟩ := resOne_own h
    simp only [resUs] at hu
    rw [h2] at hu
    simp only [List.mem_singleton] at hu
    exact ⟨0, r, row, t, e, hu, by simp [rowAt, hav], h1, rfl, h3⟩
  | v :: vs, (t, o) :: q :: ps, y, d, h, u, hu => by
    simp only [getRes] at h
    split at h
    · rename_i x1 y1 hx hy
      simp only [Option.some.injEq] at h
      subst h
      have ih := fun u hu => res_rows (d := d + 1) hy u hu
      have tail : ∀ u ∈ resUs (d + 1) (q :: ps) y1, ∃ j r row t' e, u = .row (d + j) row ∧ ((v :: vs)[j]?).bind (rowAt T.rows σ) = some r ∧ look σ.rows r = some row ∧ ((t, o) :: q :: ps)[j]? = some (t', some e) ∧ t' = .slice row.t := fun u hu => by
        obtain ⟨j, r, row, t', e, h1, h2, h3, h4, h5⟩ := ih u hu
        exact ⟨j + 1, r, row, t', e, by rw [h1]; congr 1; omega, by simpa using h2, h3, by simpa using h4, h5⟩
      cases o with
      | none => exact tail u hu
      | some e =>
        obtain ⟨av, hav, hx⟩ := Option.bind_eq_some_iff.1 hx
        obtain ⟨r, row, rfl, h1, h2, h3⟩ := resOne_own hx
        simp only [resUs] at hu
        rw [show ownRow t e ((x1, y1) : DenL (((t, some e) :: q :: ps).map (·.1))).1 = some row from h2] at hu
        rcases List.mem_cons.1 hu with hu | hu
        · exact ⟨0, r, row, t, e, hu, by simp [rowAt, hav], h1, rfl, h3⟩
        · exact tail u hu
    · cases h
  | [], _ :: _, y, d, h, u, hu => by simp [getRes] at h
  | _ :: _, [], y, d, h, u, hu => by simp [getRes] at h
  | _ :: _ :: _, [_], y, d, h, u, hu => by simp [getRes] at h
theorem app_has {us : List TU} (h : OnlyRB us) (σ : AS) : (∀ k, ((look σ.rows k).isSome = true ∨ ∃ row, TU.row k row ∈ us) → (look (σ.app us).rows k).isSome = true) ∧ ∀ k, ((look σ.boxes k).isSome = true ∨ ∃ x, TU.box k x ∈ us) → (look (σ.app us).boxes k).isSome = true := by
  induction us generalizing σ with
  | nil => exact ⟨fun k hk => hk.elim id (fun ⟨row, e⟩ => by simp at e), fun k hk => hk.elim id (fun ⟨row, e⟩ => by simp at e)⟩
  | cons u us ih =>
    obtain ⟨h1, h2⟩ := ih (fun x hx => h x (by simp [hx])) (σ.one u)
    refine ⟨fun k hk => h1 k ?_, fun k hk => h2 k ?_⟩
    · rcases hk with hk | ⟨row, hk⟩
      · left
        rcases h u (by simp) with ⟨j, r0, rfl⟩ | ⟨j, x0, rfl⟩
        · show (look (put _ _ _) k).isSome = true
          rw [look_put]; split
          · rfl
          · exact hk
        · exact hk
      · rcases List.mem_cons.1 hk with hk | hk
        · left; subst hk
          show (look (put _ _ _) k).isSome = true
          rw [look_put, if_pos rfl]; rfl
        · exact .inr ⟨row, hk⟩
    · rcases hk with hk | ⟨row, hk⟩
      · left
        rcases h u (by simp) with ⟨j, r0, rfl⟩ | ⟨j, x0, rfl⟩
        · exact hk
        · show (look (put _ _ _) k).isSome = true
          rw [look_put]; split
          · rfl
          · exact hk
      · rcases List.mem_cons.1 hk with hk | hk
        · left; subst hk
          show (look (put _ _ _) k).isSome = true
          rw [look_put, if_pos rfl]; rfl
        · exact .inr ⟨row, hk⟩
theorem getRes_rel (hT : TabOk P T.rows) (h : St E σ a w ν (fun _ => False)) (g : EndSt E σ es ν fr fb hin) (hX : ∀ i k, i ∉ hin → ¬ E.XH i k) (hR : ∀ i hr, i ∉ hin → E.ro i ≠ some hr) :
    ∀ {vars : List ResultVar} {ts : List ResT} {y : DenL (ts.map (·.1))} {d : Nat}, getRes T.rows σ hin vars ts = some y → (ts.all fun p => refsIn hin p.1) = true → (∀ (j r : Nat), (vars[j]?).bind (rowAt T.rows σ) = some r → ∀ t e, ts[j]? = some (t, some e) → fr (d + j) = r) →
      (∀ (j r : Nat) t, (vars[j]?).bind (rowAt T.rows σ) = some r → ts[j]? = some (t, none) → ∀ k, (look es.rows k).isSome = true → fr k ≠ r) → (∀ u ∈ resUs d ts y, ∀ k row, u = .row k row → (look es.rows k).isSome = true) →
      ∃ vs, (vars.mapM (resSem a.tmps)).run P w = .ok vs w ∧ All2 (RvRel (view E es (nuS fr fb ν) (fun _ => False) w) es (nuS fr fb ν)) (toRVs d ts y) vs
  | [], [], y, d, he, hi, h1, h2, h3 => ⟨[], rfl, trivial⟩
  | [rv], [(t, none)], y, d, he, hi, h1, h2, h3 => by
    simp only [getRes] at he
    obtain ⟨av, hav, he⟩ := Option.bind_eq_some_iff.1 he
    obtain ⟨v, hrun, hv⟩ := resVar_run hT h hav
    simp only [List.all_cons, List.all_nil, Bool.and_true] at hi
    have hp := resOne_plain h g hX hR hi (fun r e k hk => h2 0 r t (by simp [rowAt, hav, e]) rfl k hk) he hv
    refine ⟨[v], by simp [hrun], ?_⟩
    have := argAV_rel (σ := es) (ν := nuS fr fb ν) (Y := E.Y) hp
    cases t <;> exact ⟨this, trivial⟩
  | [rv], [(t, some e)], y, d, he, hi, h1, h2, h3 => by
    simp only [getRes] at he
    obtain ⟨av, hav, he⟩ := Option.bind_eq_some_iff.1 he
    obtain ⟨v, hrun, hv⟩ := resVar_run hT h hav
    obtain ⟨r, row, rfl, g1, g2, g3⟩ := resOne_own he
    obtain ⟨rfl, _⟩ := hv
    refine ⟨[ν (.row r)], by simp [hrun], ?_⟩
    have hfr := h1 0 r (by simp [rowAt, hav]) t e rfl
    have hm : TU.row d row ∈ resUs d [(t, some e)] y := by
      have e9 : resUs d [(t, some e)] y = [TU.row d row] := by
        show (match ownRow t e y with | some row => [TU.row d row] | none => []) = _
        rw [g2]
      rw [e9]; simp
    have hsome := h3 _ hm d row rfl
    have : RvRel (view E es (nuS fr fb ν) (fun _ => False) w) es (nuS fr fb ν) (.own d) (ν (.row r)) := ⟨by show _ = ν (.row (fr d)); rw [show fr d = r from hfr], hsome⟩
    cases t <;> exact ⟨this, trivial⟩
  | rv :: vs, (t, o) :: q :: ps, y, d, he, hi, h1, h2, h3 => by
    simp only [getRes] at he
    split at he
    · rename_i x1 y1 hx hy
      simp only [Option.some.injEq] at he
      subst he
      rw [List.all_cons, Bool.and_eq_true] at hi
      have hsub : ∀ u ∈ resUs (d + 1) (q :: ps) y1, u ∈ resUs d ((t, o) :: q :: ps) (x1, y1) := fun u hu => by
        cases o with
        | none => exact hu
        | some e =>
          simp only [resUs]
          split
          · exact List.mem_cons_of_mem _ hu
          · exact hu
      obtain ⟨us, e1, e2⟩ := getRes_rel hT h g hX hR (d := d + 1) hy hi.2 (fun j r hj t' e he => by
          have := h1 (j + 1) r (by simpa using hj) t' e (by simpa using he)
          rw [show d + (j + 1) = d + 1 + j by omega] at this; exact this) (fun j r t' hj he k hk => h2 (j + 1) r t' (by simpa using hj) (by simpa using he) k hk) (fun u hu k row e => h3 u (hsub u hu) k row e)
      obtain ⟨av, hav, hx⟩ := Option.bind_eq_some_iff.1 hx
      obtain ⟨v, hrun, hv⟩ := resVar_run hT h hav
      have fin : RvRel (view E es (nuS fr fb ν) (fun _ => False) w) es (nuS fr fb ν) (match o with | some _ => .own d | none => match t, x1 with | .st t, x => .agg (flat t x) | t, x => .cv ⟨t, x⟩) v → ∃ vs', ((rv :: vs).mapM (resSem a.tmps)).run P w = .ok vs' w ∧ All2 (RvRel (view E es (nuS fr fb ν) (fun _ => False) w) es (nuS fr fb ν)) (toRVs d ((t, o) :: q :: ps) (x1, y1)) vs' := fun hr => by
        refine ⟨v :: us, ?_, ?_⟩
        · rw [List.mapM_cons]
          simp [hrun, e1]
        · cases o with
          | none => cases t <;> exact ⟨hr, e2⟩
          | some e => cases t <;> exact ⟨hr, e2⟩
      cases o with
      | none =>
        have hp := resOne_plain h g hX hR hi.1 (fun r e k hk => h2 0 r t (by simp [rowAt, hav, e]) rfl k hk) hx hv
        have := argAV_rel (σ := es) (ν := nuS fr fb ν) (Y := E.Y) hp
        refine fin ?_
        cases t <;> exact this
      | some e =>
        obtain ⟨r, row, rfl, g1, g2, g3⟩ := resOne_own hx
        obtain ⟨rfl, _⟩ := hv
        have hfr := h1 0 r (by simp [rowAt, hav]) t e rfl
        have hm : TU.row d row ∈ resUs d ((t, some e) :: q :: ps) (x1, y1) := by
          simp only [resUs]
          rw [show ownRow t e ((x1, y1) : DenL (((t, some e) :: q :: ps).map (·.1))).1 = some row from g2]; simp
        have hsome := h3 _ hm d row rfl
        exact fin ⟨by show _ = ν (.row (fr d)); rw [show fr d = r from hfr], hsome⟩
    · cases he
  | [], _ :: _, y, d, he, hi, h1, h2, h3 => by simp [getRes] at he
  | _ :: _, [], y, d, he, hi, h1, h2, h3 => by simp [getRes] at he
  | _ :: _ :: _, [_], y, d, he, hi, h1, h2, h3 => by simp [getRes] at he
end
end Go.Abs
namespace Go.Abs
open Go.RowKit Go.Lib
section
variable {P : Program} {T : Tab} {Φ : PhiT T} {E : Env} {σ σ' es : AS} {a a' : Act} {w w' : World} {ν ν' : Nm → Value} {O O' : Nat → Prop} {V V' : View} {Y : Value} {fr fb : Nat → Nat} {hin : List Nat}
theorem capDen_spec {boxes : List (Nat × BX)} : ∀ {ts : List Ty} {caps : List Cap} {y : DenL ts} {d : Nat}, capDen boxes ts caps = some y → ∀ u ∈ boxUs d ts y, ∃ j b t z, u = .box (d + j) (.cells (flat t z)) ∧ (capKeys caps)[j]? = some b ∧ look boxes b = some (.cells (flat t z)) ∧ t ∈ ts
  | [], [], y, d, h, u, hu => by simp [boxUs] at hu
  | [t], [.box b], y, d, h, u, hu => by
    simp only [capDen] at h
    split at h
    · rename_i cs hb
      have := unflat1_eq h
      subst this
      simp only [boxUs, List.mem_singleton] at hu
      exact ⟨0, b, t, y, hu, by simp [capKeys], hb, by simp⟩
    · cases h
  | t :: t2 :: ts, .box b :: cs, y, d, h, u, hu => by
    simp only [capDen] at h
    split at h
    · rename_i l hb
      split at h
      · rename_i x1 hx1
        split at h
        · rename_i y1 hy
          simp only [Option.some.injEq] at h
          subst h
          have := unflat1_eq hx1
          subst this
          simp only [boxUs, List.mem_cons] at hu
          rcases hu with hu | hu
          · exact ⟨0, b, t, x1, hu, by simp [capKeys], hb, by simp⟩
          · obtain ⟨j, b', t', z, h1, h2, h3, h4⟩ := capDen_spec (d := d + 1) hy u hu
            exact ⟨j + 1, b', t', z, by rw [h1]; congr 1; omega, by simpa [capKeys] using h2, h3, List.mem_cons_of_mem _ h4⟩
        · cases h
      · cases h
    · cases h
  | [], _ :: _, y, d, h, u, hu => by simp [capDen] at h
  | [_], [], y, d, h, u, hu => by simp [capDen] at h
  | [_], [.vel _], y, d, h, u, hu => by simp [capDen] at h
  | [_], .box _ :: _ :: _, y, d, h, u, hu => by simp [capDen] at h
  | [_], .vel _ :: _ :: _, y, d, h, u, hu => by simp [capDen] at h
  | _ :: _ :: _, [], y, d, h, u, hu => by simp [capDen] at h
  | _ :: _ :: _, .vel _ :: _, y, d, h, u, hu => by simp [capDen] at h
theorem capDen_rel {boxes : List (Nat × BX)} : ∀ {ts : List Ty} {caps : List Cap} {y : DenL ts} {d : Nat} {us : List Value}, capDen boxes ts caps = some y → All2 (CapRel V σ ν) caps us → (∀ (j b : Nat), (capKeys caps)[j]? = some b → fb (d + j) = b) →
    (∀ u ∈ boxUs d ts y, ∀ k x, u = .box k x → (look es.boxes k).isSome = true) → All2 (CapRel V' es (nuS fr fb ν)) (boxCs d ts) us
  | [], [], y, d, us, h, ha, hf, hb => by
    cases us with
    | nil => trivial
    | cons _ _ => exact ha.elim
  | [t], [.box b], y, d, us, h, ha, hf, hb => by
    match us, ha with
    | [v], ha =>
      obtain ⟨⟨_, g, h1, h2⟩, _⟩ := ha
      have hfb : fb d = b := hf 0 b rfl
      exact ⟨⟨hb (.box d (.cells (flat t y))) (by simp [boxUs]) _ _ rfl, g, by show ν (.box (fb d)) = _; rw [hfb]; exact h1, h2⟩, trivial⟩
  | t :: t2 :: ts, .box b :: cs, y, d, us, h, ha, hf, hb => by
    match us, ha with
    | v :: us, ha =>
      obtain ⟨⟨_, g, h1, h2⟩, ha⟩ := ha
      simp only [capDen] at h
      split at h
      · split at h
        · rename_i x1 hx1
          split at h
          · rename_i y1 hy
            simp only [Option.some.injEq] at h
            subst h
            have hfb : fb d = b := hf 0 b rfl
            refine ⟨⟨hb (.box d (.cells (flat t x1))) (by simp [boxUs]) _ _ rfl, g, by show ν (.box (fb d)) = _; rw [hfb]; exact h1, h2⟩, capDen_rel (d := d + 1) hy ha (fun j c hj => ?_) (fun u hu k x e => hb u (by simp only [boxUs]; exact List.mem_cons_of_mem _ hu) k x e)⟩
            have := hf (j + 1) c (by simpa [capKeys] using hj)
            rw [← this]; congr 1; omega
          · cases h
        · cases h
      · cases h
  | [], _ :: _, y, d, us, h, _, _, _ => by simp [capDen] at h
  | [_], [], y, d, us, h, _, _, _ => by simp [capDen] at h
  | [_], [.vel _], y, d, us, h, _, _, _ => by simp [capDen] at h
  | [_], .box _ :: _ :: _, y, d, us, h, _, _, _ => by simp [capDen] at h
  | [_], .vel _ :: _ :: _, y, d, us, h, _, _, _ => by simp [capDen] at h
  | _ :: _ :: _, [], y, d, us, h, _, _, _ => by simp [capDen] at h
  | _ :: _ :: _, .vel _ :: _, y, d, us, h, _, _, _ => by simp [capDen] at h
theorem resUs_only : ∀ (ts : List ResT) (d : Nat) (y : DenL (ts.map (·.1))), OnlyRB (resUs d ts y) := fun ts d y u hu => by
  obtain ⟨k, row, t, e, rfl, _⟩ := mem_resUs ts d y u hu
  exact .inl ⟨k, row, rfl⟩
theorem boxUs_only : ∀ (ts : List Ty) (d : Nat) (y : DenL ts), OnlyRB (boxUs d ts y)
  | [], d, y, u, hu => by simp [boxUs] at hu
  | [t], d, y, u, hu => by simp only [boxUs, List.mem_singleton] at hu; exact .inr ⟨_, _, hu⟩
  | t :: t2 :: ts, d, y, u, hu => by
    simp only [boxUs, List.mem_cons] at hu
    rcases hu with hu | hu
    · exact .inr ⟨_, _, hu⟩
    · exact boxUs_only (t2 :: ts) (d + 1) y.2 u hu
theorem fin_sig (hT : TabOk P T.rows) (h : St E σ a w ν (fun _ => False)) {s : Sig} {y : SigR s} {fn : Func} {heaps : List HRow} {d : Nat} (hgen : s.gen = none) (hs : sigOk T s = true) (hf : finR T.rows fn.results.toList s σ = some y)
    (hX : ∀ i k, i ∉ s.hin → ¬ E.XH i k) (hR : ∀ i hr, i ∉ s.hin → E.ro i ≠ some hr) (h1 : ∀ i, i ∈ s.hin → heaps[i]? = σ.heaps[i]?) (h2 : ∀ i hr, i ∉ s.hin → heaps[i]? = some hr → hr.xs = []) (h3 : HK E.h0 E.n0 heaps ν) (h4 : ∀ i hr, E.ro i = some hr → heaps[i]? = some hr)
    (h5 : ∀ i hr, i ∈ s.hin → σ.heaps[i]? = some hr → hr.t = (T.ht i).t) : ∃ fr fb val, EndSt E σ ((plainAS heaps).app (resU d s y)) ν fr fb s.hin ∧ (results fn a.tmps).run P w = .ok val w ∧
      AvRel (view E ((plainAS heaps).app (resU d s y)) (nuS fr fb ν) (fun _ => False) w) ((plainAS heaps).app (resU d s y)) (nuS fr fb ν) E.Y (resA d s y) val := by
  -- the heaps
  have hhp : ∀ {es : AS}, es.heaps = heaps → ∀ i n o, es.obj (.hp i n) = some o → σ.obj (.hp i n) = some o ∧ ObjRefs s.hin o := fun {es} e i n o ho => by
    simp only [AS.obj, e] at ho ⊢
    cases n with
    | zero => cases ho
    | succ n =>
      simp only [hobj] at ho ⊢
      split at ho
      · rename_i hr hhr
        by_cases hi : i ∈ s.hin
        · have e1 := h1 i hi
          rw [hhr] at e1
          rw [← e1]
          refine ⟨ho, ?_⟩
          unfold hslot at ho
          split at ho
          · simp only [Option.some.injEq] at ho
            subst ho
            show refsIn s.hin hr.t = true
            rw [h5 i hr hi e1.symm]
            simp only [sigOk, Bool.and_eq_true] at hs
            exact List.all_eq_true.1 hs.1.2 i hi
          · cases ho
        · rw [h2 i hr hi hhr] at ho
          simp [hslot] at ho
      · cases ho
  obtain ⟨args, res, clo, hps, gen⟩ := s
  simp only at hgen
  subst hgen
  cases clo with
  | none =>
    have hf' : (bif noDup (ownKeys T.rows σ fn.results.toList) || !(anyOwn res) then getRes T.rows σ (hps.map (·.1)) fn.results.toList res else none) = some y := hf
    cases hc : (noDup (ownKeys T.rows σ fn.results.toList) || !(anyOwn res)) with
    | false => rw [hc] at hf'; cases hf'
    | true =>
      rw [hc, cond_true] at hf'
      have hus := resUs_only res d y
      generalize hes : (plainAS heaps).app (resUs d res y) = es
      obtain ⟨a1, a2, a3, _, _⟩ := app_rb hus (plainAS heaps)
      rw [hes] at a1 a2 a3
      have hrows : ∀ k row, look es.rows k = some row → ∃ j r t e, k = d + j ∧ (fn.results.toList[j]?).bind (rowAt T.rows σ) = some r ∧ look σ.rows r = some row ∧ res[j]? = some (t, some e) ∧ t = .slice row.t := fun k row hk => by
        rw [← hes] at hk
        rcases (app_from hus (plainAS heaps) k).1 row hk with g1 | g1
        · cases g1
        · obtain ⟨j, r, row', t, e, g2, g3, g4, g5, g6⟩ := res_rows hf' _ g1
          injection g2 with g2 g7
          subst g7
          exact ⟨j, r, t, e, g2, g3, g4, g5, g6⟩
      have hboxes : ∀ k x, look es.boxes k = some x → False := fun k x hk => by
        rw [← hes] at hk
        rcases (app_from hus (plainAS heaps) k).2 x hk with g1 | g1
        · cases g1
        · obtain ⟨_, _, _, _, g2, _⟩ := mem_resUs _ _ _ _ g1
          cases g2
      let fr : Nat → Nat := fun k => ((fn.results.toList[k - d]?).bind (rowAt T.rows σ)).getD 0
      have hfr : ∀ (j r : Nat), (fn.results.toList[j]?).bind (rowAt T.rows σ) = some r → fr (d + j) = r := fun j r hj => by
        show ((fn.results.toList[d + j - d]?).bind (rowAt T.rows σ)).getD 0 = r
        rw [show d + j - d = j by omega, hj]; rfl
      have huniq : ∀ (p q r : Nat), (fn.results.toList[p]?).bind (rowAt T.rows σ) = some r → (fn.results.toList[q]?).bind (rowAt T.rows σ) = some r → (∃ t e, res[q]? = some (t, some e)) → p = q := fun p q r g1 g2 ⟨t, e, g3⟩ => by
        rw [Bool.or_eq_true] at hc
        rcases hc with hc | hc
        · exact noDup_uniq _ hc p q r g1 g2
        · exfalso
          have : anyOwn res = true := by
            unfold anyOwn; rw [List.any_eq_true]; exact ⟨(t, some e), List.mem_of_getElem? g3, rfl⟩
          rw [this] at hc; cases hc
      have g : EndSt E σ es ν fr (fun _ => 0) (hps.map (·.1)) := by
        refine ⟨fun m o ho => ?_, fun m m' g1 g2 g3 => ?_, fun i hi => by rw [a2]; exact h1 i hi, fun i hr hi e => by rw [a2] at e; exact h2 i hr hi e, by rw [a2]; exact h3, a3, a1, fun i hr e => by rw [a2]; exact h4 i hr e⟩
        · cases m with
          | row k =>
            simp only [AS.obj, Option.map_eq_some_iff] at ho
            obtain ⟨row, g1, rfl⟩ := ho
            obtain ⟨j, r, t, e, rfl, g3, g4, g5, g6⟩ := hrows k row g1
            refine ⟨?_, ?_⟩
            · show (look σ.rows (fr (d + j))).map _ = _
              rw [hfr j r g3, g4]; rfl
            · simp only [sigOk, Bool.and_eq_true] at hs
              have := List.all_eq_true.1 hs.2.1.1 _ (List.mem_of_getElem? g5)
              rw [g6] at this
              exact this
          | box k =>
            simp only [AS.obj, Option.map_eq_some_iff] at ho
            obtain ⟨x, g1, _⟩ := ho
            exact (hboxes k x g1).elim
          | hp i n => exact hhp a2 i n o ho
        · have hsb : ∀ k, (es.obj (.box k)).isSome = true → False := fun k hk => by
            simp only [AS.obj, Option.isSome_map] at hk
            obtain ⟨x, e⟩ := Option.isSome_iff_exists.1 hk
            exact hboxes k x e
          cases m with
          | row k =>
            cases m' with
            | row k' =>
              simp only [AS.obj, Option.isSome_map] at g1 g2
              obtain ⟨row, e1⟩ := Option.isSome_iff_exists.1 g1
              obtain ⟨row', e2⟩ := Option.isSome_iff_exists.1 g2
              obtain ⟨j, r, t, e, rfl, k3, k4, k5, k6⟩ := hrows k row e1
              obtain ⟨j', r', t', e', rfl, k3', k4', k5', k6'⟩ := hrows k' row' e2
              have g3' : fr (d + j) = fr (d + j') := by injection g3
              rw [hfr j r k3, hfr j' r' k3'] at g3'
              subst g3'
              rw [huniq j j' r k3 k3' ⟨_, _, k5'⟩]
            | box k' => exact (hsb k' g2).elim
            | hp i n => cases g3
          | box k => exact (hsb k g1).elim
          | hp i n =>
            cases m' with
            | row k' => cases g3
            | box k' => exact (hsb k' g2).elim
            | hp i' n' => exact g3
      have hres : (res.all fun p => refsIn (hps.map (·.1)) p.1) = true := by
        simp only [sigOk, Bool.and_eq_true] at hs
        exact hs.2.1.1
      obtain ⟨vs, r1, r2⟩ := getRes_rel (d := d) hT h g hX hR hf' hres (fun j r hj t e he => hfr j r hj) (fun j r t hj he k hk => by
          obtain ⟨row, e1⟩ := Option.isSome_iff_exists.1 hk
          obtain ⟨j', r', t', e', rfl, k3', k4', k5', k6'⟩ := hrows k row e1
          intro e2
          rw [hfr j' r' k3'] at e2
          subst e2
          have := huniq j j' r' hj k3' ⟨_, _, k5'⟩
          subst this
          rw [he] at k5'; cases k5') (fun u hu k row e => by
          subst e
          rw [← hes]
          exact (app_has hus (plainAS heaps)).1 k (.inr ⟨row, hu⟩))
      rw [show (plainAS heaps).app (resU d { args := args, res := res, clo := none, heaps := hps, gen := none } y) = es from hes]
      refine ⟨fr, fun _ => 0, _, g, results_run r1, ?_⟩
      show AvRel _ _ _ _ (resAV (toRVs d res y)) _
      generalize toRVs d res y = rvs at r2
      match rvs, vs, r2 with
      | [], [], _ => exact ⟨[], rfl, trivial⟩
      | [x], [v], r2 => exact r2.1
      | x :: x2 :: xs, v :: v2 :: vs, r2 => exact ⟨_, rfl, r2⟩
      | [], _ :: _, r2 => exact r2.elim
      | [_], [], r2 => exact r2.elim
      | [_], _ :: _ :: _, r2 => exact r2.2.elim
      | _ :: _ :: _, [], r2 => exact r2.elim
      | _ :: _ :: _, [_], r2 => exact r2.2.elim
  | some fc =>
    obtain ⟨f, ts⟩ := fc
    have hf' : (match fn.results.toList with
      | [v] => match resVar T.rows σ v with
        | some (.fn g caps) => bif Nat.beq g f && noDup (capKeys caps) then capDen σ.boxes ts caps else none
        | _ => none
      | _ => none) = some y := hf
    split at hf'
    · rename_i rv hrv
      split at hf'
      · rename_i g0 caps hav
        cases hc : (Nat.beq g0 f && noDup (capKeys caps)) with
        | false => rw [hc] at hf'; cases hf'
        | true =>
          rw [hc, cond_true] at hf'
          simp only [Bool.and_eq_true, beq_iff] at hc
          obtain ⟨rfl, hnd⟩ := hc
          have hus := boxUs_only ts d y
          generalize hes : (plainAS heaps).app (boxUs d ts y) = es
          obtain ⟨a1, a2, a3, _, _⟩ := app_rb hus (plainAS heaps)
          rw [hes] at a1 a2 a3
          have hrows : ∀ k row, look es.rows k = some row → False := fun k row hk => by
            rw [← hes] at hk
            rcases (app_from hus (plainAS heaps) k).1 row hk with g1 | g1
            · cases g1
            · obtain ⟨_, _, _, _, g2, _⟩ := capDen_spec hf' _ g1
              cases g2
          have hboxes : ∀ k x, look es.boxes k = some x → ∃ j b t z, k = d + j ∧ x = .cells (flat t z) ∧ (capKeys caps)[j]? = some b ∧ look σ.boxes b = some (.cells (flat t z)) ∧ t ∈ ts := fun k x hk => by
            rw [← hes] at hk
            rcases (app_from hus (plainAS heaps) k).2 x hk with g1 | g1
            · cases g1
            · obtain ⟨j, b, t, z, g2, g3, g4, g5⟩ := capDen_spec hf' _ g1
              injection g2 with g2 g7
              exact ⟨j, b, t, z, g2, g7, g3, g4, g5⟩
          let fb : Nat → Nat := fun k => ((capKeys caps)[k - d]?).getD 0
          have hfb : ∀ (j b : Nat), (capKeys caps)[j]? = some b → fb (d + j) = b := fun j b hj => by
            show ((capKeys caps)[d + j - d]?).getD 0 = b
            rw [show d + j - d = j by omega, hj]; rfl
          have g : EndSt E σ es ν (fun _ => 0) fb (hps.map (·.1)) := by
            refine ⟨fun m o ho => ?_, fun m m' g1 g2 g3 => ?_, fun i hi => by rw [a2]; exact h1 i hi, fun i hr hi e => by rw [a2] at e; exact h2 i hr hi e, by rw [a2]; exact h3, a3, a1, fun i hr e => by rw [a2]; exact h4 i hr e⟩
            · cases m with
              | box k =>
                simp only [AS.obj, Option.map_eq_some_iff] at ho
                obtain ⟨x, g1, rfl⟩ := ho
                obtain ⟨j, b, t, z, rfl, rfl, g3, g4, g5⟩ := hboxes k x g1
                refine ⟨?_, t, z, rfl, ?_⟩
                · show (look σ.boxes (fb (d + j))).map _ = _
                  rw [hfb j b g3, g4]; rfl
                · simp only [sigOk, Bool.and_eq_true] at hs
                  exact List.all_eq_true.1 hs.2.1.2 _ g5
              | row k =>
                simp only [AS.obj, Option.map_eq_some_iff] at ho
                obtain ⟨x, g1, _⟩ := ho
                exact (hrows k x g1).elim
              | hp i n => exact hhp a2 i n o ho
            · have hsb : ∀ k, (es.obj (.row k)).isSome = true → False := fun k hk => by
                simp only [AS.obj, Option.isSome_map] at hk
                obtain ⟨x, e⟩ := Option.isSome_iff_exists.1 hk
                exact hrows k x e
              cases m with
              | box k =>
                cases m' with
                | box k' =>
                  simp only [AS.obj, Option.isSome_map] at g1 g2
                  obtain ⟨x, e1⟩ := Option.isSome_iff_exists.1 g1
                  obtain ⟨x', e2⟩ := Option.isSome_iff_exists.1 g2
                  obtain ⟨j, b, t, z, rfl, _, k3, k4, k5⟩ := hboxes k x e1
                  obtain ⟨j', b', t', z', rfl, _, k3', k4', k5'⟩ := hboxes k' x' e2
                  have g3' : fb (d + j) = fb (d + j') := by injection g3
                  rw [hfb j b k3, hfb j' b' k3'] at g3'
                  subst g3'
                  rw [noDup_get hnd j j' b k3 k3']
                | row k' => exact (hsb k' g2).elim
                | hp i n => cases g3
              | row k => exact (hsb k g1).elim
              | hp i n =>
                cases m' with
                | box k' => cases g3
                | row k' => exact (hsb k' g2).elim
                | hp i' n' => exact g3
          obtain ⟨v, hrun, hv⟩ := resVar_run hT h hav
          obtain ⟨us, e1, e2⟩ := hv
          rw [show (plainAS heaps).app (resU d { args := args, res := res, clo := some (g0, ts), heaps := hps, gen := none } y) = es from hes]
          refine ⟨fun _ => 0, fb, v, g, ?_, us, e1, ?_⟩
          · have := results_run (P := P) (fn := fn) (a := a) (w := w) (vs := [v]) (by rw [hrv]; simp [hrun])
            exact this
          · exact capDen_rel hf' e2 hfb (fun u hu k x e => by
              subst e
              rw [← hes]
              exact (app_has hus (plainAS heaps)).2 k (.inr ⟨x, hu⟩))
      · cases hf'
    · cases hf'
end
end Go.Abs
namespace Go.Abs
open Go.RowKit Go.Lib
section
variable {P : Program} {T : Tab} {Φ : PhiT T} {E : Env} {σ σ' es : AS} {a a' : Act} {w w' : World} {ν ν' : Nm → Value} {O O' : Nat → Prop}
theorem calls_of_in {f : FuncId} {args : Array Value} {w : World} {R : Ending → World → Prop} (h : CallsIn (FW none) 0 P f args w R) : Calls P f args w R := fun cs =>
  let ⟨e, w', fr, q, s, x⟩ := h.2 cs (room_wide _); ⟨e, w', fr, q, (comesIn_wide (P := P)).1 s, x⟩
theorem withH_inv {A : Type} {x : A} : ∀ {hs : List Nat} {o : Option (HDen T hs)} {y : WithH T A hs}, withH x hs o = some y → fstH hs y = x ∧ (o = some (sndH hs y) ∨ hs = [])
  | [], o, y, e => by simp only [withH, Option.some.injEq] at e; exact ⟨e.symm, .inr rfl⟩
  | _ :: _, some h, y, e => by simp only [withH, Option.some.injEq] at e; subst e; exact ⟨rfl, .inl rfl⟩
  | _ :: _, none, y, e => by cases e
theorem withH_get {A : Type} {heaps : List HRow} {x : A} {hs : List Nat} {y : WithH T A hs} (h : withH x hs (getH T heaps hs) = some y) : fstH hs y = x ∧ getH T heaps hs = some (sndH hs y) := by
  obtain ⟨h1, h2⟩ := withH_inv h
  refine ⟨h1, h2.elim id (fun e => ?_)⟩
  subst e; rfl
theorem finK_inv {fn : Func} {v : Nat} {e : Ex} {yh : OutT T v} (h : finK T fn v e σ = some yh) : finR T.rows fn.results.toList (T.sig v) σ = some (fstH _ yh) ∧ getH T σ.heaps (T.sig v).hout = some (sndH _ yh) := by
  have main : (match finR T.rows fn.results.toList (T.sig v) σ with
    | some y => withH y (T.sig v).hout (getH T σ.heaps (T.sig v).hout)
    | none => none) = some yh → finR T.rows fn.results.toList (T.sig v) σ = some (fstH _ yh) ∧ getH T σ.heaps (T.sig v).hout = some (sndH _ yh) := fun h => by
    split at h
    · rename_i y hy
      obtain ⟨h1, h2⟩ := withH_get h
      exact ⟨by rw [hy, h1], h2⟩
    · cases h
  cases e with
  | exit i => cases h
  | normal => exact main h
  | ret => exact main h
def FnOkAt (P : Program) (T : Tab) (v : Nat) (xh : InT T v) (yh : OutT T v) : Prop := (∃ fn, P.funcs[T.real v]? = some fn ∧ fn.body.isSome = true ∧ (fn.name == "runtime.NumGoroutine") = false) ∧
  ∀ (E : Env) (ν : Nm → Value) (args : Array Value) (d : Nat), EnvOk E → EnvT T E → Callee T E v xh → St E (plainAS (startHs T v xh)) ⟨#[], []⟩ E.w0 ν (fun _ => False) →
    ArgsRel (view E (plainAS (startHs T v xh)) ν (fun _ => False) E.w0) (T.sig v).args (fstH _ xh) args.toList → Calls P (T.real v) args E.w0 (Left T E v xh yh d)
structure ProgOk (P : Program) (T : Tab) : Prop where
  mixed : P.follows .mixedOrders = true
  tab : TabOk P T.rows
  hps : HeapsOk P T
  eqs : EqOk P T
  sigs : SigsOk T
theorem ProgOk.ctx (hP : ProgOk P T) (hΦ : FnOk P T Φ) (hE : EnvOk E) (hG : EnvT T E) (hnum : E.h0.length = T.heaps.length) (hY : YieldOk P E) (hj : ∀ O w, E.J ⟨.unit, ()⟩ O w → E.J = plainJ) : Ctx P T Φ E :=
  ⟨hE, hG, hP.tab, hP.hps, hP.eqs, hP.sigs, hΦ, hnum, hY, hj⟩
theorem start_len {v : Nat} {xh : InT T v} : (startHs T v xh).length = T.heaps.length := by unfold startHs; rw [putH_len, emptyH_len]
theorem body_plain (hP : ProgOk P T) (hΦ : FnOk P T Φ) (hΓ : GenOk P T Φ) {v n : Nat} {xh : InT T v} {yh : OutT T v} {fn : Func} {c : Code} (hf : P.funcs[T.real v]? = some fn) (hb : fn.body = some c) (hname : (fn.name == "runtime.NumGoroutine") = false) (hgen : (T.sig v).gen = none)
    (he : evBody T fn c Φ n v xh = some yh) : FnOkAt P T v xh yh := by
  refine ⟨⟨fn, hf, by rw [hb]; rfl, hname⟩, fun E ν args d hE hG hC hst hargs => ?_⟩
  obtain ⟨hag, hbx⟩ := ArgsRel.g (ν := ν) (Y := E.Y) 0 hargs
  have e0 : startP T v xh = plainAS (startHs T v xh) := by
    unfold startP plainAS
    rw [hbx]
    have : traceOf (T.sig v) = ⟨.unit, ()⟩ := by unfold traceOf; rw [hgen]
    rw [this]
  have h0 := St.begin (fn := fn) (vals := args) hG (xh := xh) (by rw [e0]; exact hst) (by rw [e0]; exact hag)
  have hctx := hP.ctx hΦ hE hG (by rw [← hst.kept.num]; exact start_len) (yieldOk_plain hC.j) (fun _ _ _ => hC.j)
  have hM : ∀ r, E.M r → r < E.w0.heap.size := fun r hr => absurd hr (hC.m r)
  have hRo : ∀ i hr, i ∉ (T.sig v).hin → E.ro i ≠ some hr := fun i hr hi e => by
    have h1 := hC.ro i
    have hf : (T.sig v).hin.any (Nat.beq i) = false := eq_false_of_ne_true (fun h => hi (any_mem.1 h))
    rw [hf, e] at h1; cases h1
  refine calls_of_in (callsIn_of_wp_marks hf hb trivial ?_)
  refine wpIn_mono (code_sound hP.mixed (fun f ps x y Sx Sy => range_sound hΓ Sx Sy) c E hctx (fun tr tr' _ _ => hC.acc tr) none _ _ _ _ E.w0 ν _ he h0 (fun h => by cases h) (fun e σ' _ _ => hC.acc _)) (fun e a' w' hp => ?_)
  have fin : ∀ (ex : Ex) (σ' : AS) (a' : Act) (w' : World), finK T fn v ex σ' = some yh → To E σ' a' w' → LeavesInM (FW none) 0 P fn a'.tmps (Left T E v xh yh d) a'.defers .returning w' := by
    rintro ex σ' ⟨tmps, ds⟩ w' hk ⟨ν', O', h⟩
    obtain ⟨k1, k2⟩ := finK_inv hk
    refine leaves_marks hE hM hst.baseG.size (fun w2 h2 => ?_) ds w' h
    have h3 := h2.unlend hC.j hC.om
    obtain ⟨q1, q2, q3, q4, q5⟩ := end_heaps hC hst.kept h3 k2 (fun i hr e => (h3.ro i hr e).1)
    obtain ⟨fr, fb, val, g, g1, g2⟩ := fin_sig (d := d) hP.tab h3 hgen (hP.sigs v) k1 hC.hx hRo q1 q2 q3 q4 q5
    exact ⟨val, g1, val, _, rfl, h3.finish hC.j g, g2⟩
  cases e with
  | normal => obtain ⟨σ', h1, _, h2⟩ := hp; exact fin _ σ' a' w' h1 h2
  | ret => obtain ⟨σ', h1, _, h2⟩ := hp; exact fin _ σ' a' w' h1 h2
  | exit id => obtain ⟨σ', h1, _, _⟩ := hp; cases h1
  | _ => exact hp.elim
theorem finR_gen : ∀ {s : Sig} {y : SigR s} {vars : List ResultVar}, s.gen.isSome = true → finR T.rows vars s σ = some y → vars = [] ∧ σ.trace = genTrS s y
  | ⟨_, _, _, _, some ts⟩, y, [], _, h => ⟨rfl, unleaf1 h⟩
  | ⟨_, _, _, _, some ts⟩, y, _ :: _, _, h => by cases h
theorem body_gen (hP : ProgOk P T) (hΦ : FnOk P T Φ) (hΓ : GenOk P T Φ) {v n : Nat} {xh : InT T v} {yh : OutT T v} {fn : Func} {c : Code} (hf : P.funcs[T.real v]? = some fn) (hb : fn.body = some c) (hgen : (T.sig v).gen.isSome = true)
    (he : evBody T fn c Φ n v xh = some yh) (E : Env) (ν : Nm → Value) (args : Array Value) (O : Nat → Prop) (hE : EnvOk E) (hG : EnvT T E) (hY : YieldOk P E) (hD : AccDown E) (hnj : ∀ O w, ¬ E.J ⟨.unit, ()⟩ O w) (hacc : E.acc (genTr T v yh))
    (hst : St E (startP T v xh) ⟨#[], []⟩ E.w0 ν O) (hargs : ArgsG (view E (startP T v xh) ν O E.w0) ν E.Y 0 (T.sig v).args (fstH _ xh) args.toList) :
    Calls P (T.real v) args E.w0 fun e w' => ∃ r O', e = .returned r ∧ E.J (genTr T v yh) O' w' := by
  have h0 := St.begin (fn := fn) (vals := args) hG (xh := xh) hst hargs
  have hctx := hP.ctx hΦ hE hG (by rw [← hst.kept.num]; exact start_len) hY (fun O w h => absurd h (hnj O w))
  have hM : ∀ r, E.M r → r < E.w0.heap.size := fun r hr => (Array.getElem?_eq_some_iff.1 (hst.waits r hr).1).1
  have htr : ∀ (ex : Ex) (σ' : AS), finK T fn v ex σ' = some yh → σ'.trace = genTr T v yh ∧ fn.results.toList = [] := fun ex σ' hk => by
    obtain ⟨k1, _⟩ := finK_inv hk
    obtain ⟨k2, k3⟩ := finR_gen hgen k1
    exact ⟨k3, k2⟩
  refine calls_of_in (callsIn_of_wp_marks hf hb trivial ?_)
  refine wpIn_mono (code_sound hP.mixed (fun f ps x y Sx Sy => range_sound hΓ Sx Sy) c E hctx hD none _ _ _ _ E.w0 ν _ he h0 (fun h => by cases h) (fun e σ' h1 _ => by rw [(htr e σ' h1).1]; exact hacc)) (fun e a' w' hp => ?_)
  have fin : ∀ (ex : Ex) (σ' : AS) (a' : Act) (w' : World), finK T fn v ex σ' = some yh → To E σ' a' w' → LeavesInM (FW none) 0 P fn a'.tmps (fun e w' => ∃ r O', e = .returned r ∧ E.J (genTr T v yh) O' w') a'.defers .returning w' := by
    rintro ex σ' ⟨tmps, ds⟩ w' hk ⟨ν', O', h⟩
    obtain ⟨k1, k2⟩ := htr ex σ' hk
    refine leaves_marks hE hM hst.baseG.size (fun w2 h2 => ?_) ds w' h
    refine ⟨_, results_run (P := P) (fn := fn) (a := ⟨tmps, []⟩) (w := w2) (vs := []) (by rw [k2]; rfl), _, O', rfl, ?_⟩
    rw [← k1]; exact h2.out.1
  cases e with
  | normal => obtain ⟨σ', h1, _, h2⟩ := hp; exact fin _ σ' a' w' h1 h2
  | ret => obtain ⟨σ', h1, _, h2⟩ := hp; exact fin _ σ' a' w' h1 h2
  | exit id => obtain ⟨σ', h1, _, _⟩ := hp; cases h1
  | _ => exact hp.elim
def BaseOk (P : Program) (T : Tab) (B : Base T) : Prop := ∀ v g, B v = some g → (T.sig v).gen = none ∧ ∀ xh yh, g xh = some yh → FnOkAt P T v xh yh
def FnsOk (P : Program) (T : Tab) (fns : Nat → Option Func) : Prop := ∀ v fn, fns v = some fn → P.funcs[T.real v]? = some fn ∧ (fn.name == "runtime.NumGoroutine") = false
theorem fn_sound {B : Base T} {fns : Nat → Option Func} (hP : ProgOk P T) (hB : BaseOk P T B) (hF : FnsOk P T fns) : ∀ n, FnOk P T (evFn T B fns n) ∧ GenOk P T (evFn T B fns n)
  | 0 => ⟨(fun v x y h => by cases h), (fun v x y h => by cases h)⟩
  | n + 1 => by
    obtain ⟨ih1, ih2⟩ := fn_sound hP hB hF n
    refine ⟨fun v xh yh h hgen => ?_, fun v xh yh h hgen => ?_⟩
    · simp only [evFn] at h
      split at h
      · rename_i g hg
        exact (hB v g hg).2 xh yh h
      · split at h
        · rename_i fn hfn
          obtain ⟨h1, h2⟩ := hF v fn hfn
          split at h
          · rename_i c hc
            exact body_plain hP ih1 ih2 h1 hc h2 hgen h
          · cases h
        · cases h
    · simp only [evFn] at h
      split at h
      · rename_i g hg
        have := (hB v g hg).1
        rw [this] at hgen; cases hgen
      · split at h
        · rename_i fn hfn
          obtain ⟨h1, h2⟩ := hF v fn hfn
          split at h
          · rename_i c hc
            exact ⟨⟨fn, h1, by rw [hc]; rfl, h2⟩, fun E ν args O hE hG hY hD hnj hacc hst hargs => body_gen hP ih1 ih2 h1 hc hgen h E ν args O hE hG hY hD hnj hacc hst hargs⟩
          · cases h
        · cases h
end
end Go.Abs
namespace Go.Abs
open Go.RowKit Go.Lib
def isZ : CV → Bool
  | ⟨.int _, n⟩ => decide (n = (0 : Int))
  | ⟨.bool, b⟩ => !b
  | ⟨.str, s⟩ => match s with | ⟨⟨[]⟩⟩ => true | _ => false
  | ⟨.slice t, xs⟩ => match (xs : List t.den) with | [] => true | _ => false
  | ⟨.ref _, n⟩ => Nat.beq n 0
  | ⟨.ptr _, n⟩ => Nat.beq n 0
  | ⟨.mp _, n⟩ => Nat.beq n 0
  | ⟨.fn, n⟩ => Nat.beq n 0
  | ⟨.nsl t, o⟩ => match (o : Option (List t.den)) with | none => true | _ => false
  | _ => false
theorem litFlat_zero : ∀ {t : Ty} {l : List Value} {cs : List CV} {r : List Value}, litFlat t l = some (cs, r) → cs.all isZ = true → cs = zeroCV t
  | .unit, l, cs, r, h, hz => by simp only [litFlat, Option.some.injEq, Prod.mk.injEq] at h; exact h.1.symm
  | .pair a b, l, cs, r, h, hz => by
    simp only [litFlat] at h
    split at h
    · rename_i x l' h1
      split at h
      · rename_i y l'' h2
        simp only [Option.some.injEq, Prod.mk.injEq] at h
        obtain ⟨rfl, rfl⟩ := h
        rw [List.all_append, Bool.and_eq_true] at hz
        rw [litFlat_zero h1 hz.1, litFlat_zero h2 hz.2]
        rfl
      · cases h
    · cases h
  | .st t, l, cs, r, h, hz => litFlat_zero (t := t) h hz
  | .int k, .int k' n :: l, cs, r, h, hz => by
    simp only [litFlat] at h
    split at h
    · simp only [Option.some.injEq, Prod.mk.injEq] at h
      obtain ⟨rfl, rfl⟩ := h
      simp [isZ] at hz
      subst hz; rfl
    · cases h
  | .bool, .bool b :: l, cs, r, h, hz => by
    simp only [litFlat, Option.some.injEq, Prod.mk.injEq] at h
    obtain ⟨rfl, rfl⟩ := h
    simp [isZ] at hz
    subst hz; rfl
  | .str, .string s :: l, cs, r, h, hz => by
    simp only [litFlat, Option.some.injEq, Prod.mk.injEq] at h
    obtain ⟨rfl, rfl⟩ := h
    simp only [List.all_cons, List.all_nil, Bool.and_true, isZ] at hz
    split at hz
    · rfl
    · cases hz
  | .slice t, .slice none 0 0 :: l, cs, r, h, hz => by
    simp only [litFlat, Option.some.injEq, Prod.mk.injEq] at h
    obtain ⟨rfl, rfl⟩ := h
    rfl
  | .ref _, .slice none 0 0 :: l, cs, r, h, hz => by
    simp only [litFlat, Option.some.injEq, Prod.mk.injEq] at h
    obtain ⟨rfl, rfl⟩ := h
    rfl
  | .ptr _, .pointer none :: l, cs, r, h, hz => by
    simp only [litFlat, Option.some.injEq, Prod.mk.injEq] at h
    obtain ⟨rfl, rfl⟩ := h
    rfl
  | .mp _, .map none :: l, cs, r, h, hz => by
    simp only [litFlat, Option.some.injEq, Prod.mk.injEq] at h
    obtain ⟨rfl, rfl⟩ := h
    rfl
  | .nsl _, .slice none 0 0 :: l, cs, r, h, hz => by
    simp only [litFlat, Option.some.injEq, Prod.mk.injEq] at h
    obtain ⟨rfl, rfl⟩ := h
    rfl
  | .fn, .nilFunc :: l, cs, r, h, hz => by
    simp only [litFlat, Option.some.injEq, Prod.mk.injEq] at h
    obtain ⟨rfl, rfl⟩ := h
    rfl
def tyBeq : Ty → Ty → Bool
  | .int a, .int b => decide (a = b)
  | .bool, .bool => true
  | .str, .str => true
  | .slice a, .slice b => tyBeq a b
  | .unit, .unit => true
  | .pair a b, .pair c d => tyBeq a c && tyBeq b d
  | .st a, .st b => tyBeq a b
  | .nsl a, .nsl b => tyBeq a b
  | .ref a, .ref b => Nat.beq a b
  | .ptr a, .ptr b => Nat.beq a b
  | .mp a, .mp b => Nat.beq a b
  | .fn, .fn => true
  | _, _ => false
theorem tyBeq_eq : ∀ {a b : Ty}, tyBeq a b = true → a = b
  | .int a, .int b, h => by simp [tyBeq] at h; rw [h]
  | .bool, .bool, _ => rfl
  | .str, .str, _ => rfl
  | .slice a, .slice b, h => by rw [tyBeq_eq (a := a) (b := b) h]
  | .unit, .unit, _ => rfl
  | .pair a b, .pair c d, h => by
    simp only [tyBeq, Bool.and_eq_true] at h
    rw [tyBeq_eq h.1, tyBeq_eq h.2]
  | .st a, .st b, h => by rw [tyBeq_eq (a := a) (b := b) h]
  | .nsl a, .nsl b, h => by rw [tyBeq_eq (a := a) (b := b) h]
  | .ref a, .ref b, h => by rw [(beq_iff _ _).1 h]
  | .ptr a, .ptr b, h => by rw [(beq_iff _ _).1 h]
  | .mp a, .mp b, h => by rw [(beq_iff _ _).1 h]
  | .fn, .fn, _ => rfl
def fldsOf (P : Program) : List Field → Option (List (Nat × Nat))
  | [] => some []
  | f :: fs => match P.info? f.type with
    | some i => match fldsOf P fs with
      | some r => some ((f.offset, i.size) :: r)
      | none => none
    | none => none
theorem fldsOf_eq {P : Program} : ∀ {fs : List Field} {r : List (Nat × Nat)}, fldsOf P fs = some r → fs.mapM (fun f => (P.info? f.type).map fun i => (f.offset, i.size)) = some r
  | [], r, h => by simp [fldsOf] at h; subst h; rfl
  | f :: fs, r, h => by
    simp only [fldsOf] at h
    split at h
    · rename_i i hi
      split at h
      · rename_i r' hr
        simp only [Option.some.injEq] at h
        subst h
        rw [List.mapM_cons, fldsOf_eq hr]
        simp [hi]
      · cases h
    · cases h
theorem fldsOf_get {P : Program} : ∀ {fs : List Field} {r : List (Nat × Nat)}, fldsOf P fs = some r → ∀ (k off size : Nat), r[k]? = some (off, size) → ∃ (fd : Field) (j : TypeInfo), fs[k]? = some fd ∧ fd.offset = off ∧ P.info? fd.type = some j ∧ j.size = size
  | [], r, h, k, off, size, hk => by simp [fldsOf] at h; subst h; simp at hk
  | f :: fs, r, h, k, off, size, hk => by
    simp only [fldsOf] at h
    split at h
    · rename_i i hi
      split at h
      · rename_i r' hr
        simp only [Option.some.injEq] at h
        subst h
        cases k with
        | zero => simp at hk; exact ⟨f, i, by simp, hk.1, hi, hk.2⟩
        | succ k =>
          obtain ⟨fd, j, h1, h2⟩ := fldsOf_get hr k off size (by simpa using hk)
          exact ⟨fd, j, by simpa using h1, h2⟩
      · cases h
    · cases h
def pairsBeq : List (Nat × Nat) → List (Nat × Nat) → Bool
  | [], [] => true
  | (a, b) :: r, (c, d) :: s => Nat.beq a c && Nat.beq b d && pairsBeq r s
  | _, _ => false
theorem pairsBeq_eq : ∀ {a b : List (Nat × Nat)}, pairsBeq a b = true → a = b
  | [], [], _ => rfl
  | (a, b) :: r, (c, d) :: s, h => by
    simp only [pairsBeq, Bool.and_eq_true] at h
    rw [(beq_iff _ _).1 h.1.1, (beq_iff _ _).1 h.1.2, pairsBeq_eq h.2]
  | [], _ :: _, h => by simp [pairsBeq] at h
  | _ :: _, [], h => by simp [pairsBeq] at h
def descChk (P : Program) (T : List TRow) (r : TRow) : Ty → TypeDesc → Bool
  | .int k, .int k' => decide (k = k') && r.flds.isEmpty
  | .bool, .bool => r.flds.isEmpty
  | .str, .string => r.flds.isEmpty
  | .slice u, .slice e => Nat.beq e r.elem && r.flds.isEmpty && match findT T e with
    | some re => tyBeq re.ty u
    | none => false
  | .st u, .struct fs => !r.arr && match fldsOf P fs.toList with
    | some l => pairsBeq l r.flds && l.all fun p => Nat.blt 0 p.2 && Nat.ble (p.1 + p.2) u.size
    | none => false
  | .st u, .array n e => r.arr && match P.info? e with
    | some j => pairsBeq ((List.range n).map fun i => (i * j.size, j.size)) r.flds && Nat.blt 0 j.size && Nat.beq u.size (n * j.size)
    | none => false
  | .ptr _, .pointer _ => r.flds.isEmpty
  | .mp _, .map _ _ => r.flds.isEmpty
  | .fn, .func _ _ _ => r.flds.isEmpty
  | _, _ => false
def zOk (t : Ty) (z : Value) : Bool := match t, z with
  | .st _, .agg _ => true
  | .st _, _ => false
  | .slice _, .slice none 0 0 => true
  | .slice _, _ => false
  | _, .agg _ => false
  | _, _ => true
theorem zOk_slice {u : Ty} {z : Value} (h : zOk (.slice u) z = true) : z = .slice none 0 0 := by
  unfold zOk at h
  split at h <;> first | rfl | (rename_i e _; cases e; done) | (rename_i e; cases e; done) | (cases h; done) | skip
  all_goals simp_all
theorem zOk_wrap {t : Ty} {z : Value} (h : zOk t z = true) : z = wrap t z.cells.toList := by
  cases t with
  | st u =>
    cases z with
    | agg cs => simp [wrap, Value.cells]
    | _ => cases h
  | slice u => rw [zOk_slice h]; rfl
  | _ =>
    cases z with
    | agg cs => cases h
    | _ => rfl
def zeroChk (t : Ty) (z : Value) : Bool :=
  (match litFlat t z.cells.toList with
   | some (cs, []) => cs.all isZ
   | _ => false) && zOk t z
def rowChk (P : Program) (T : List TRow) (r : TRow) : Bool :=
  match P.info? r.id, P.underlying r.id with
  | some i, some d => Nat.beq i.size r.ty.size && Nat.beq i.bytes r.bytes && (match i.zero with | some z => zeroChk r.ty z | none => false) && descChk P T r r.ty d
  | _, _ => false
theorem findT_mem {T : List TRow} {t : TypeId} {r : TRow} (h : findT T t = some r) : r ∈ T ∧ r.id = t := by
  induction T with
  | nil => cases h
  | cons x xs ih =>
    simp only [findT] at h
    cases hb : Nat.beq x.id t with
    | true =>
      simp only [hb, cond_true, Option.some.injEq] at h
      subst h
      exact ⟨by simp, (beq_iff _ _).1 hb⟩
    | false =>
      simp only [hb, cond_false] at h
      exact ⟨by simp [(ih h).1], (ih h).2⟩
theorem rowChk_ok {P : Program} {T : List TRow} {r : TRow} (h : rowChk P T r = true) : TOk P T r := by
  unfold rowChk at h
  split at h
  · rename_i i d hi hd
    simp only [Bool.and_eq_true] at h
    obtain ⟨⟨⟨h1, h2⟩, h3⟩, h4⟩ := h
    have hflds : (∀ u, r.ty ≠ .st u) → r.flds = [] := by
      intro hn
      unfold descChk at h4
      split at h4
      · simp only [Bool.and_eq_true] at h4; simpa using h4.2
      · simpa using h4
      · simpa using h4
      · simp only [Bool.and_eq_true] at h4; simpa using h4.1.2
      · rename_i u fs ht; exact absurd ht (hn u)
      · rename_i u n e ht; exact absurd ht (hn u)
      · simpa using h4
      · simpa using h4
      · simpa using h4
      · cases h4
    refine ⟨?_, ?_, hflds⟩
    · split at h3
      · rename_i z hz
        simp only [zeroChk, Bool.and_eq_true] at h3
        obtain ⟨h5, h6⟩ := h3
        refine ⟨i, z, hi, (beq_iff _ _).1 h1, (beq_iff _ _).1 h2, hz, fun V => ?_, ?_, fun u hu => ?_⟩
        · split at h5
          · rename_i cs hl
            obtain ⟨l1, e1, h7⟩ := litFlat_rel (V := V) hl
            rw [e1, List.append_nil]
            refine rel_of_flat ?_
            have := litFlat_zero hl h5
            rw [this] at h7
            exact h7
          · cases h5
        · exact zOk_wrap h6
        · rw [hu] at h6; exact zOk_slice h6
      · cases h3
    · unfold descChk at h4
      split at h4
      · rename_i k k' ht
        rw [ht]
        simp only [Bool.and_eq_true, decide_eq_true_eq] at h4
        show P.underlying r.id = _
        rw [h4.1]; exact hd
      · rename_i ht; rw [ht]; exact hd
      · rename_i ht; rw [ht]; exact hd
      · rename_i u e ht
        rw [ht]
        simp only [Bool.and_eq_true] at h4
        have he := (beq_iff _ _).1 h4.1.1
        subst he
        refine ⟨hd, ?_⟩
        have h5 := h4.2
        split at h5
        · rename_i re hre; exact ⟨re, hre, tyBeq_eq h5⟩
        · cases h5
      · rename_i u fs ht
        rw [ht]
        simp only [Bool.and_eq_true, Bool.not_eq_true'] at h4
        obtain ⟨ha, h4⟩ := h4
        left
        split at h4
        · rename_i l hl
          simp only [Bool.and_eq_true] at h4
          have hle := pairsBeq_eq h4.1
          subst hle
          refine ⟨ha, fs, hd, fldsOf_eq hl, fun f off size hf => ?_⟩
          obtain ⟨fd, j, h5, h6, h7, h8⟩ := fldsOf_get hl f off size hf
          have h9 := List.all_eq_true.1 h4.2 (off, size) (List.mem_of_getElem? hf)
          simp only [Bool.and_eq_true] at h9
          have h10 : 0 + 1 ≤ size := Nat.le_of_ble_eq_true h9.1
          have h11 := Nat.le_of_ble_eq_true h9.2
          exact ⟨fd, j, by simpa using h5, h6, h7, h8, by omega, h11⟩
        · cases h4
      · rename_i u n e ht
        rw [ht]
        simp only [Bool.and_eq_true] at h4
        obtain ⟨ha, h4⟩ := h4
        right
        split at h4
        · rename_i j hj
          simp only [Bool.and_eq_true] at h4
          have hle := pairsBeq_eq h4.1.1
          have h10 : 0 + 1 ≤ j.size := Nat.le_of_ble_eq_true h4.1.2
          exact ⟨ha, n, e, j, hd, hj, hle.symm, by omega, (beq_iff _ _).1 h4.2⟩
        · cases h4
      · rename_i h e ht; rw [ht]; exact ⟨_, hd⟩
      · rename_i h k e ht; rw [ht]; exact ⟨_, _, hd⟩
      · rename_i a b c ht; rw [ht]; exact ⟨_, _, _, hd⟩
      · cases h4
  · cases h
theorem tab_ok {P : Program} {T : List TRow} (h : T.all (rowChk P T) = true) : TabOk P T := fun t r hr => by
  obtain ⟨h1, h2⟩ := findT_mem hr
  exact ⟨h2, rowChk_ok (List.all_eq_true.1 h r h1)⟩
def heapChk (P : Program) (ht : HT) : Bool := match P.info? ht.e with
  | some j => Nat.beq j.size ht.t.size && match j.zero with
    | some z => (match litFlat ht.t z.cells.toList with
      | some (cs, []) => cs.all isZ
      | _ => false)
    | none => false
  | none => false
theorem heaps_ok {P : Program} {T : Tab} (h : T.heaps.all (heapChk P) = true) : HeapsOk P T := fun i ht hi => by
  have h1 := List.all_eq_true.1 h ht (List.mem_of_getElem? hi)
  unfold heapChk at h1
  split at h1
  · rename_i j hj
    simp only [Bool.and_eq_true] at h1
    obtain ⟨h2, h3⟩ := h1
    split at h3
    · rename_i z hz
      refine ⟨j, z, hj, (beq_iff _ _).1 h2, hz, fun V => ?_⟩
      split at h3
      · rename_i cs hl
        obtain ⟨l1, e1, h7⟩ := litFlat_rel (V := V) hl
        rw [e1, List.append_nil]
        refine rel_of_flat ?_
        have := litFlat_zero hl h3
        rw [this] at h7
        exact h7
      · cases h3
    · cases h3
  · cases h1
def eqFs (P : Program) (g : TypeId → Ty → Bool) : Ty → Nat → List Field → Bool
  | .unit, _, [] => true
  | .pair a b, off, f :: fs => f.name != "_" && Nat.beq f.offset off && (match P.info? f.type with | some i => Nat.beq i.size a.size | none => false) && g f.type a && eqFs P g b (off + a.size) fs
  | _, _, _ => false
def eqTy (P : Program) : Nat → TypeId → Ty → Bool
  | 0, _, _ => false
  | d + 1, t, ty => match ty, P.underlying t with
    | .int _, some (.int _) => true
    | .bool, some .bool => true
    | .str, some .string => true
    | .st u, some (.struct fs) => !(P.stoodInHeld t) && eqFs P (eqTy P d) u 0 fs.toList
    | _, _ => false
theorem part_run {P : Program} {V : View} {d : Nat} {t : TypeId} {a : Ty} {x : a.den} {pre ys post : List Value} {w : World} (h : eqTy P d t a = true) (hs : (match P.info? t with | some i => Nat.beq i.size a.size | none => false) = true) (hr : Rel V a x ys) :
    (part t (pre ++ (ys ++ post)).toArray pre.length).run P w = .ok (wrap a ys) w := by
  have hlen := hr.length
  have scal : (isAgg t).run P w = .ok false w → a.size = 1 → wrap a ys = ys.headD undef → (part t (pre ++ (ys ++ post)).toArray pre.length).run P w = .ok (wrap a ys) w := fun h1 h2 h3 => by
    rw [h2] at hlen
    match ys, hlen with
    | [v], _ =>
      rw [h3]
      simp [part, h1]
  cases d with
  | zero => cases h
  | succ d =>
    unfold eqTy at h
    split at h
    · rename_i hu; exact scal (by simp [isAgg, run_underlying hu]) rfl rfl
    · rename_i hu; exact scal (by simp [isAgg, run_underlying hu]) rfl rfl
    · rename_i hu; exact scal (by simp [isAgg, run_underlying hu]) rfl rfl
    · rename_i u fs hu
      split at hs
      · rename_i i hi
        have hsz := (beq_iff _ _).1 hs
        have e1 : (isAgg t).run P w = .ok true w := by simp [isAgg, run_underlying hu]
        have e2 : (sizeOf t).run P w = .ok (Ty.st u).size w := by
          have : (sizeOf t).run P w = .ok i.size w := by simp [sizeOf, typeInfo, hi]
          rw [this, hsz]
        simp only [part, Sem.run_bind, e1, Result.andThen_ok, if_true, e2, Sem.run_pure]
        rw [← hlen]
        simp [wrap]
      · cases hs
    · cases h
theorem eqTy_ok {P : Program} : ∀ (d : Nat) (t : TypeId) (ty : Ty), eqTy P d t ty = true → ∀ (V : View) (x y : ty.den) (vs us : List Value) (w : World), Rel V ty x vs → Rel V ty y us → (Op.equalIn d t (wrap ty vs) (wrap ty us)).run P w = .ok (denEq ty x y) w
  | 0, t, ty, h => by cases h
  | d + 1, t, ty, h => by
    intro V x y vs us w hx hy
    unfold eqTy at h
    split at h
    · rename_i k k' hu
      have e1 : vs = [.int k x] := hx
      have e2 : us = [.int k y] := hy
      subst e1 e2
      exact run_equalIn_int w d t k k' x y hu
    · rename_i hu
      have e1 : vs = [.bool x] := hx
      have e2 : us = [.bool y] := hy
      subst e1 e2
      exact run_equalIn_bool' w d t x y hu
    · rename_i hu
      have e1 : vs = [.string x] := hx
      have e2 : us = [.string y] := hy
      subst e1 e2
      exact run_equalIn_string w d t x y hu
    · rename_i u fs hu
      simp only [Bool.and_eq_true, Bool.not_eq_true'] at h
      have hf : P.fieldsOf t = fs := by simp [Program.fieldsOf, hu]
      show (Op.equalIn (d + 1) t (.agg vs.toArray) (.agg us.toArray)).run P w = _
      rw [run_equalIn_struct w d t _ _ (by rw [hf]; exact hu) h.1, hf]
      have key : ∀ (u : Ty) (fs : List Field) (x y : u.den) (p1 p2 c1 c2 : List Value), eqFs P (eqTy P d) u p1.length fs = true → p1.length = p2.length → Rel V u x c1 → Rel V u y c2 →
          (Op.eqFields d (p1 ++ c1).toArray (p2 ++ c2).toArray fs).run P w = .ok (denEq u x y) w := by
        intro u
        induction u with
        | unit =>
          intro fs x y p1 p2 c1 c2 h1 h2 h3 h4
          cases fs with
          | nil => rfl
          | cons f fs => cases h1
        | pair a b _ ihb =>
          intro fs x y p1 p2 c1 c2 h1 h2 h3 h4
          cases fs with
          | nil => cases h1
          | cons f fs =>
            simp only [eqFs, Bool.and_eq_true] at h1
            obtain ⟨⟨⟨⟨g1, g2⟩, g3⟩, g4⟩, g5⟩ := h1
            obtain ⟨a1, b1, rfl, r1, r2⟩ := h3
            obtain ⟨a2, b2, rfl, r3, r4⟩ := h4
            have hoff := (beq_iff _ _).1 g2
            have hl1 := r1.length
            have hl2 := r3.length
            have hp1 := part_run (P := P) (pre := p1) (post := b1) (w := w) g4 g3 r1
            have hp2 := part_run (P := P) (pre := p2) (post := b2) (w := w) g4 g3 r3
            have heq := eqTy_ok d f.type a g4 V x.1 y.1 a1 a2 w r1 r3
            have ih := ihb fs x.2 y.2 (p1 ++ a1) (p2 ++ a2) b1 b2 (by rw [List.length_append, hl1]; exact g5) (by simp [h2, hl1, hl2]) r2 r4
            have hne : f.name ≠ "_" := by simpa using g1
            simp only [Op.eqFields, hne, ne_eq, not_false_eq_true, if_true, Sem.run_bind]
            rw [hoff, hp1]
            simp only [Result.andThen_ok]
            rw [h2, hp2]
            simp only [Result.andThen_ok]
            rw [heq]
            simp only [Result.andThen_ok, denEq]
            cases hb : denEq a x.1 y.1 with
            | false => simp
            | true => simpa [List.append_assoc] using ih
        | _ => intro fs x y p1 p2 c1 c2 h1; cases fs <;> cases h1
      exact key u fs.toList x y [] [] vs us h.2 rfl hx hy
    · cases h
def eqChk (P : Program) (T : List TRow) (t : TypeId) : Bool := !(P.eqGuardType P.depth t) && match findT T t with
  | some r => match r.ty with
    | .st u => eqTy P 10000 t (.st u)
    | _ => true
  | none => true
theorem eqs_ok {P : Program} {T : Tab} (h : T.eqs.all (eqChk P T.rows) = true) : EqOk P T := fun t ht r u hr hty V x y vs us w op ox oy hx hy => by
  obtain ⟨t', hm, he⟩ := List.any_eq_true.1 ht
  have := (beq_iff _ _).1 he
  subst this
  have h1 := List.all_eq_true.1 h t hm
  simp only [eqChk, Bool.and_eq_true, Bool.not_eq_true'] at h1
  obtain ⟨h2, h3⟩ := h1
  rw [hr] at h3
  simp only [hty] at h3
  exact ⟨run_eqGuard_agg w op t ox oy _ _ h2, eqTy_ok 10000 t (.st u) h3 V x y vs us w hx hy⟩
theorem sigs_ok {T : Tab} {l : List (Nat × Sig)} (h : l.all (fun p => sigOk T p.2) = true) (hT : ∀ v, T.sig v = (look l v).getD ⟨[], [], none, [], none⟩) : SigsOk T := fun v => by
  rw [hT v]
  cases hl : look l v with
  | none => rfl
  | some s =>
    have hm := look_mem hl
    exact List.all_eq_true.1 h (v, s) hm
def FnsL (P : Program) (T : Tab) : List (Nat × Func) → Prop
  | [] => True
  | p :: r => (P.funcs[T.real p.1]? = some p.2 ∧ (p.2.name == "runtime.NumGoroutine") = false) ∧ FnsL P T r
theorem fnsOk_look {P : Program} {T : Tab} : ∀ {l : List (Nat × Func)}, FnsL P T l → FnsOk P T (look l)
  | [], h, f, fn, hl => by cases hl
  | (k, g) :: r, h, f, fn, hl => by
    simp only [look] at hl
    cases hb : Nat.beq k f with
    | true =>
      simp only [hb, cond_true, Option.some.injEq] at hl
      have := (beq_iff _ _).1 hb
      subst this hl
      exact h.1
    | false =>
      simp only [hb, cond_false] at hl
      exact fnsOk_look h.2 f fn hl
end Go.Abs
namespace Go.Abs
section
variable {α β : Type}
def Conv (u : Nat → Option α) (v : Option α) : Prop :=
  (∀ y, v = some y → ∃ n, ∀ m, n ≤ m → u m = some y) ∧ ∀ n y, u n = some y → v = some y
theorem Conv.const (v : Option α) : Conv (fun _ => v) v := ⟨fun y h => ⟨0, fun _ _ => h⟩, fun _ _ h => h⟩
theorem Conv.bind {u : Nat → Option α} {v : Option α} {g : Nat → α → Option β} {G : α → Option β} (h : Conv u v) (hg : ∀ y, Conv (fun n => g n y) (G y)) :
    Conv (fun n => (u n).bind (g n)) (v.bind G) := by
  constructor
  · intro z hz
    obtain ⟨y, hy, hz⟩ := Option.bind_eq_some_iff.1 hz
    obtain ⟨n1, h1⟩ := h.1 y hy
    obtain ⟨n2, h2⟩ := (hg y).1 z hz
    exact ⟨max n1 n2, fun m hm => by show (u m).bind (g m) = some z; rw [h1 m (by omega)]; exact h2 m (by omega)⟩
  · intro n z hz
    obtain ⟨y, hy, hz⟩ := Option.bind_eq_some_iff.1 hz
    rw [h.2 n y hy]
    exact (hg y).2 n z hz
theorem Conv.shift {u : Nat → Option α} {v : Option α} (h : Conv u v) : Conv (fun n => u (n + 1)) v :=
  ⟨fun y hy => let ⟨n, hn⟩ := h.1 y hy; ⟨n, fun m hm => hn (m + 1) (by omega)⟩, fun n y hy => h.2 (n + 1) y hy⟩
open Classical in
noncomputable def lim (u : Nat → Option α) : Option α := if h : ∃ y, ∃ n, ∀ m, n ≤ m → u m = some y then some h.choose else none
theorem Conv.lim_eq {u : Nat → Option α} {v : Option α} (h : Conv u v) : lim u = v := by
  unfold lim
  cases v with
  | none =>
    rw [dif_neg]
    rintro ⟨y, n, hn⟩
    have := h.2 n y (hn n (Nat.le_refl _))
    cases this
  | some y =>
    have hex : ∃ y, ∃ n, ∀ m, n ≤ m → u m = some y := ⟨y, h.1 y rfl⟩
    rw [dif_pos hex]
    obtain ⟨n, hn⟩ := hex.choose_spec
    exact (h.2 n _ (hn n (Nat.le_refl _))).symm
theorem up_le {u : Nat → Option α} (hm : ∀ n y, u n = some y → u (n + 1) = some y) {n m : Nat} (h : n ≤ m) {y : α} (hy : u n = some y) : u m = some y := by
  induction h with
  | refl => exact hy
  | step _ ih => exact hm _ _ ih
theorem conv_lim {u : Nat → Option α} (hm : ∀ n y, u n = some y → u (n + 1) = some y) : Conv u (lim u) := by
  have key : ∀ n y, u n = some y → lim u = some y := fun n y hy => by
    have hex : ∃ y, ∃ n, ∀ m, n ≤ m → u m = some y := ⟨y, n, fun m h => up_le hm h hy⟩
    unfold lim
    rw [dif_pos hex]
    obtain ⟨k, hk⟩ := hex.choose_spec
    have h1 := hk (max n k) (by omega)
    have h2 := up_le hm (show n ≤ max n k by omega) hy
    rw [h1] at h2
    exact h2
  refine ⟨fun y hy => ?_, key⟩
  unfold lim at hy
  split at hy
  · rename_i hex
    obtain ⟨k, hk⟩ := hex.choose_spec
    refine ⟨k, fun m hm' => ?_⟩
    rw [hk m hm']
    exact hy
  · cases hy
theorem lim_some {u : Nat → Option α} {y : α} (h : lim u = some y) : ∃ n, u n = some y := by
  unfold lim at h
  split at h
  · rename_i hex
    obtain ⟨k, hk⟩ := hex.choose_spec
    exact ⟨k, by rw [hk k (Nat.le_refl _)]; exact h⟩
  · cases h
end
section
variable {R : Type} {T : Tab}
theorem Q.run_conv {α : Type} {Φ : Nat → PhiT T} {Φ' : PhiT T} (hΦ : ∀ v x, Conv (fun n => Φ n v x) (Φ' v x)) {k : Nat → Cls → α → Option R} {K : Cls → α → Option R} (hk : ∀ c s, Conv (fun n => k n c s) (K c s)) :
    ∀ (q : Q T α) (σ : AS) (c : Cls), Conv (fun n => q.run (Φ n) σ c (k n)) (q.run Φ' σ c K) := by
  intro q
  induction q with
  | ret a => intro σ c; exact hk _ _
  | fail => intro σ c; exact Conv.const _
  | opt o q ih => intro σ c; exact Conv.bind (Conv.const o) fun y => ih y σ c
  | chk b q ih => intro σ c; cases b <;> simp only [Q.run, cond_true, cond_false] <;> first | exact ih σ c | exact Conv.const _
  | ite b x y ihx ihy => intro σ c; cases b <;> simp only [Q.run, cond_true, cond_false] <;> first | exact ihx σ c | exact ihy σ c
  | row r q ih =>
    intro σ c
    simp only [Q.run]
    cases look σ.rows r with
    | none => exact Conv.const _
    | some x => exact ih _ σ _
  | len r q ih =>
    intro σ c
    simp only [Q.run]
    cases look σ.rows r with
    | none => exact Conv.const _
    | some x => exact ih _ σ _
  | box r q ih =>
    intro σ c
    simp only [Q.run]
    cases look σ.boxes r with
    | none => exact Conv.const _
    | some x => exact ih _ σ _
  | heap r q ih =>
    intro σ c
    simp only [Q.run]
    cases σ.heaps[r]? with
    | none => exact Conv.const _
    | some x => exact ih _ σ _
  | freeR r q ih =>
    intro σ c
    simp only [Q.run]
    cases look σ.rows r with
    | none => exact ih σ _
    | some x => exact Conv.const _
  | freeB r q ih =>
    intro σ c
    simp only [Q.run]
    cases look σ.boxes r with
    | none => exact ih σ _
    | some x => exact Conv.const _
  | call v x q ih => intro σ c; exact Conv.bind (hΦ v x) fun y => ih y σ c
  | all q ih => intro σ c; exact ih σ σ _
  | on σ' q ih => intro σ c; exact ih σ' _
theorem doOp_conv {Φ : Nat → PhiT T} {Φ' : PhiT T} (hΦ : ∀ f x, Conv (fun n => Φ n f x) (Φ' f x)) (σ : AS) (o : Oper) {k : Nat → Cls → AS → Option R} {K : Cls → AS → Option R}
    (hk : ∀ c s, Conv (fun n => k n c s) (K c s)) : Conv (fun n => doOp T (Φ n) σ o (k n)) (doOp T Φ' σ o K) := by
  simp only [doOp_eq]
  refine Q.run_conv (α := Res) (k := fun n c (r : Res) => match r.2 with
    | .upd us => k n (c.wr (keysU us)) ((σ.app us).putd o.dst r.1)
    | .set σ' => k n .X (σ'.putd o.dst r.1)) (K := fun c (r : Res) => match r.2 with
    | .upd us => K (c.wr (keysU us)) ((σ.app us).putd o.dst r.1)
    | .set σ' => K .X (σ'.putd o.dst r.1)) hΦ (fun c r => ?_) _ _ _
  obtain ⟨z, e⟩ := r
  cases e with
  | upd us => exact hk _ _
  | set σ' => exact hk _ _
theorem evOp_conv {Φ : Nat → PhiT T} {Φ' : PhiT T} (hΦ : ∀ f x, Conv (fun n => Φ n f x) (Φ' f x)) (ops : Array Oper) (σ : AS) (o : Oper) {k : Nat → Cls → AS → Option R} {K : Cls → AS → Option R}
    (hk : ∀ c s, Conv (fun n => k n c s) (K c s)) : Conv (fun n => evOp T (Φ n) ops σ o (k n)) (evOp T Φ' ops σ o K) := by
  cases hg : o.guard with
  | none => simp only [evOp, hg]; exact doOp_conv hΦ σ o hk
  | some p =>
    obtain ⟨j, want⟩ := p
    cases ht : (ops[j]?).bind (·.dst) with
    | none => simp only [evOp, hg, ht]; exact Conv.const _
    | some t =>
      simp only [evOp, hg, ht]
      split
      · rename_i b hb
        cases b <;> cases want <;> simp only [cond_true, cond_false] <;> first | exact hk _ _ | exact doOp_conv hΦ _ o hk
      · exact hk _ _
      · exact Conv.const _
theorem evOps_conv {Φ : Nat → PhiT T} {Φ' : PhiT T} (hΦ : ∀ f x, Conv (fun n => Φ n f x) (Φ' f x)) (ops : Array Oper) : ∀ (l : List Oper) (σ : AS) (cs : List Cls) {k : Nat → List Cls → AS → Option R} {K : List Cls → AS → Option R}
    (hk : ∀ c s, Conv (fun n => k n c s) (K c s)), Conv (fun n => evOps T (Φ n) ops l σ cs (k n)) (evOps T Φ' ops l σ cs K)
  | [], σ, cs, k, K, hk => hk _ _
  | o :: r, σ, cs, k, K, hk => by
    simp only [evOps]
    exact evOp_conv hΦ ops σ o fun c s => evOps_conv hΦ ops r s (c :: cs) hk
theorem evRegion_conv {Φ : Nat → PhiT T} {Φ' : PhiT T} (hΦ : ∀ f x, Conv (fun n => Φ n f x) (Φ' f x)) (ops : Array Oper) (draw : Bool) (σ : AS) {k : Nat → AS → Option R} {K : AS → Option R}
    (hk : ∀ s, Conv (fun n => k n s) (K s)) : Conv (fun n => evRegion T (Φ n) ops draw σ (k n)) (evRegion T Φ' ops draw σ K) := by
  unfold evRegion
  refine evOps_conv hΦ ops _ _ _ fun c s => ?_
  cases draw with
  | false => exact hk s
  | true =>
    cases (okDeps 0 ops.toList && okDraw ops 0 (ops.toList.zip c.reverse) (ancs ops.toList [])) with
    | true => simp only [cond_true]; exact hk s
    | false => simp only [cond_true, cond_false]; exact Conv.const _
noncomputable def loopI (h : List (Nat × Bool)) (body : AS → (Ex → AS → Option R) → Option R) (k : Ex → AS → Option R) (σ : AS) : Option R := lim fun m => loopN h body k m σ
noncomputable def evCodeI (T : Tab) (Φ : PhiT T) : Code → List (List (Nat × Bool)) → AS → (Ex → AS → Option R) → Option R
  | .skip, _, σ, k => k .normal σ
  | .region _ ops draw, _, σ, k => evRegion T Φ ops draw σ (k .normal)
  | .seq a b, hs, σ, k => evCodeI T Φ a hs σ fun e σ' => match e with
    | .normal => evCodeI T Φ b (hs.drop (loops a)) σ' k
    | .exit i => k (.exit i) σ'
    | .ret => k .ret σ'
  | .cond c a b, hs, σ, k => match c with
    | .tmp t => match nth σ.tmps t with
      | .rv (.cv ⟨.bool, x⟩) => bif x then evCodeI T Φ a hs (σ.setb t true) k else evCodeI T Φ b (hs.drop (loops a)) (σ.setb t false) k
      | _ => none
    | .const (.bool x) => bif x then evCodeI T Φ a hs σ k else evCodeI T Φ b (hs.drop (loops a)) σ k
    | _ => none
  | .block id c, hs, σ, k => evCodeI T Φ c hs σ fun e σ' => match e with
    | .normal => k .normal σ'
    | .exit i => bif Nat.beq i id then k .normal σ' else k (.exit i) σ'
    | .ret => k .ret σ'
  | .loop c, hs, σ, k => match hs with
    | h :: hs' => loopI h (fun σ k' => evCodeI T Φ c hs' σ k') k (σ.forget h)
    | [] => none
  | .rangeFunc f ps a b, hs, σ, k => match hs, σ.rngs, σ.trace with
    | h :: hs', [], ⟨.unit, _⟩ => genCall T Φ σ (σ.av f) fun r bs =>
        bif okSave ((σ.loseB bs).forget h) then
          loopI h (roundB ps.toList (fun σ k' => evCodeI T Φ a hs' σ k') (fun σ k' => evCodeI T Φ b (hs'.drop (loops a)) σ k')) (endRounds k)
            { (((σ.loseB bs).forget h)) with rngs := [r] }.save
        else none
    | _, _, _ => none
  | .exit i, _, σ, k => k (.exit i) σ
  | .ret, _, σ, k => k .ret σ
  | _, _, _, _ => none
def Le {α : Type} (a b : Option α) : Prop := ∀ y, a = some y → b = some y
theorem Le.rfl' {α : Type} (a : Option α) : Le a a := fun _ h => h
theorem le_conv {α : Type} {a b : Option α} (h : Le a b) : Conv (fun n => bif Nat.ble n 0 then a else b) b := by
  refine ⟨fun y hy => ⟨1, fun m hm => ?_⟩, fun n y hy => ?_⟩
  · have : Nat.ble m 0 = false := by cases m with
      | zero => omega
      | succ m => rfl
    show (bif Nat.ble m 0 then a else b) = some y
    rw [this]; exact hy
  · have hy' : (bif Nat.ble n 0 then a else b) = some y := hy
    cases hb : Nat.ble n 0 with
    | true => rw [hb] at hy'; exact h y hy'
    | false => rw [hb] at hy'; exact hy'
theorem conv_le {α : Type} {u : Nat → Option α} {b : Option α} (h : Conv u b) : Le (u 0) b := fun y hy => h.2 0 y hy
theorem loopN_le {h : List (Nat × Bool)} {body body' : AS → (Ex → AS → Option R) → Option R} (hb : ∀ σ k k', (∀ e s, Le (k e s) (k' e s)) → Le (body σ k) (body' σ k'))
    {k k' : Ex → AS → Option R} (hk : ∀ e s, Le (k e s) (k' e s)) : ∀ m m' σ, m ≤ m' → Le (loopN h body k m σ) (loopN h body' k' m' σ)
  | 0, m', σ, _ => fun y hy => by cases hy
  | m + 1, 0, σ, hm => by omega
  | m + 1, m' + 1, σ, hm => by
    simp only [loopN]
    refine hb σ _ _ fun e s => ?_
    cases e with
    | normal => exact loopN_le hb hk m m' _ (by omega)
    | exit i => exact hk _ _
    | ret => exact hk _ _
theorem genCall_conv {Φ : Nat → PhiT T} {Φ' : PhiT T} (hΦ : ∀ f x, Conv (fun n => Φ n f x) (Φ' f x)) (σ : AS) (f : AV) {k : Nat → Rng → List Nat → Option R} {K : Rng → List Nat → Option R} (hk : ∀ r bs, Conv (fun n => k n r bs) (K r bs)) :
    Conv (fun n => genCall T (Φ n) σ f (k n)) (genCall T Φ' σ f K) := by
  unfold genCall
  split
  · rename_i g caps
    split
    · rename_i v _ _
      split
      · rename_i x _
        split
        · rename_i xh _
          refine Conv.bind (hΦ v xh) fun yh => ?_
          cases (noDup (capKeys caps) && (T.sig v).heaps.isEmpty && Nat.beq (T.real v) g) with
          | false => exact Conv.const _
          | true =>
            simp only [cond_true]
            have key : ∀ (s : Sig) (y : SigR s), Conv (fun n => match s, y with
              | ⟨_, _, _, _, some ts⟩, y => k n ⟨ts, y⟩ (capKeys caps)
              | _, _ => none) (match s, y with
              | ⟨_, _, _, _, some ts⟩, y => K ⟨ts, y⟩ (capKeys caps)
              | _, _ => none)
              | ⟨_, _, _, _, some ts⟩, y => hk _ _
              | ⟨_, _, none, _, none⟩, y => Conv.const _
              | ⟨_, _, some _, _, none⟩, y => Conv.const _
            exact key _ _
        · exact Conv.const _
      · exact Conv.const _
    · exact Conv.const _
  · exact Conv.const _
theorem genCall_le {Φ Φ' : PhiT T} (hΦ : ∀ f x, Le (Φ f x) (Φ' f x)) (σ : AS) (f : AV) {k k' : Rng → List Nat → Option R} (hk : ∀ r bs, Le (k r bs) (k' r bs)) : Le (genCall T Φ σ f k) (genCall T Φ' σ f k') :=
  conv_le (genCall_conv (Φ := fun n f x => bif Nat.ble n 0 then Φ f x else Φ' f x) (Φ' := Φ') (fun f x => le_conv (hΦ f x)) σ f (k := fun n r bs => bif Nat.ble n 0 then k r bs else k' r bs) (K := k') (fun r bs => le_conv (hk r bs)))
theorem roundB_conv {ps : List Tmp} {asg body : Nat → AS → (Ex → AS → Option R) → Option R} {asgI bodyI : AS → (Ex → AS → Option R) → Option R}
    (ha : ∀ σ {k : Nat → Ex → AS → Option R} {K : Ex → AS → Option R}, (∀ e s, Conv (fun n => k n e s) (K e s)) → Conv (fun n => asg n σ (k n)) (asgI σ K))
    (hb : ∀ σ {k : Nat → Ex → AS → Option R} {K : Ex → AS → Option R}, (∀ e s, Conv (fun n => k n e s) (K e s)) → Conv (fun n => body n σ (k n)) (bodyI σ K))
    (σ : AS) {k : Nat → Ex → AS → Option R} {K : Ex → AS → Option R} (hk : ∀ e s, Conv (fun n => k n e s) (K e s)) : Conv (fun n => roundB ps (asg n) (body n) σ (k n)) (roundB ps asgI bodyI σ K) := by
  unfold roundB
  split
  · exact Conv.const _
  · rename_i r rs _
    obtain ⟨ts, xs⟩ := r
    cases xs with
    | nil => exact hk _ _
    | cons x xs =>
      simp only
      split
      · refine ha _ (k := fun n e σ1 => match e with
          | .normal => body n σ1 fun e σ2 => match e with
            | .normal => k n .normal σ2.back
            | _ => none
          | _ => none) fun e s => ?_
        cases e with
        | normal =>
          refine hb _ (k := fun n e σ2 => match e with
            | .normal => k n .normal σ2.back
            | _ => none) fun e s => ?_
          cases e with
          | normal => exact hk _ _
          | _ => exact Conv.const _
        | _ => exact Conv.const _
      · exact Conv.const _
theorem roundB_le {ps : List Tmp} {asg body asg' body' : AS → (Ex → AS → Option R) → Option R} (ha : ∀ σ k k', (∀ e s, Le (k e s) (k' e s)) → Le (asg σ k) (asg' σ k')) (hb : ∀ σ k k', (∀ e s, Le (k e s) (k' e s)) → Le (body σ k) (body' σ k'))
    (σ : AS) (k k' : Ex → AS → Option R) (hk : ∀ e s, Le (k e s) (k' e s)) : Le (roundB ps asg body σ k) (roundB ps asg' body' σ k') := by
  unfold roundB
  split
  · exact Le.rfl' _
  · rename_i r rs _
    obtain ⟨ts, xs⟩ := r
    cases xs with
    | nil => exact hk _ _
    | cons x xs =>
      simp only
      split
      · refine ha _ _ _ fun e s => ?_
        cases e with
        | normal =>
          refine hb _ _ _ fun e s => ?_
          cases e with
          | normal => exact hk _ _
          | _ => exact Le.rfl' _
        | _ => exact Le.rfl' _
      · exact Le.rfl' _
theorem endRounds_conv {k : Nat → Ex → AS → Option R} {K : Ex → AS → Option R} (hk : ∀ e s, Conv (fun n => k n e s) (K e s)) (e : Ex) (s : AS) : Conv (fun n => endRounds (k n) e s) (endRounds K e s) := by
  cases e with
  | exit i => exact hk _ _
  | _ => exact Conv.const _
theorem endRounds_le {k k' : Ex → AS → Option R} (hk : ∀ e s, Le (k e s) (k' e s)) (e : Ex) (s : AS) : Le (endRounds k e s) (endRounds k' e s) := by
  cases e with
  | exit i => exact hk _ _
  | _ => exact Le.rfl' _
theorem evCode_le {Φ Φ' : PhiT T} (hΦ : ∀ f x, Le (Φ f x) (Φ' f x)) {n n' : Nat} (hn : n ≤ n') : ∀ (c : Code) (hs : List (List (Nat × Bool))) (σ : AS) (k k' : Ex → AS → Option R) (hk : ∀ e s, Le (k e s) (k' e s)),
    Le (evCode T Φ n c hs σ k) (evCode T Φ' n' c hs σ k') := by
  intro c
  induction c with
  | skip => intro hs σ k k' hk; exact hk _ _
  | region id ops draw =>
    intro hs σ k k' hk
    have := evRegion_conv (Φ := fun n f x => bif Nat.ble n 0 then Φ f x else Φ' f x) (Φ' := Φ') (fun f x => le_conv (hΦ f x)) ops draw σ (k := fun n s => bif Nat.ble n 0 then k .normal s else k' .normal s) (K := k' .normal) (fun s => le_conv (hk _ _))
    exact conv_le this
  | seq a b iha ihb =>
    intro hs σ k k' hk
    simp only [evCode]
    refine iha _ _ _ _ fun e s => ?_
    cases e with
    | normal => exact ihb _ _ _ _ hk
    | exit i => exact hk _ _
    | ret => exact hk _ _
  | cond c a b iha ihb =>
    intro hs σ k k' hk
    simp only [evCode]
    split
    · split
      · rename_i x _
        cases x
        · exact ihb _ _ _ _ hk
        · exact iha _ _ _ _ hk
      · exact Le.rfl' _
    · rename_i x
      cases x
      · exact ihb _ _ _ _ hk
      · exact iha _ _ _ _ hk
    · exact Le.rfl' _
  | block id c ih =>
    intro hs σ k k' hk
    simp only [evCode]
    refine ih _ _ _ _ fun e s => ?_
    cases e with
    | normal => exact hk _ _
    | exit i => cases hb : Nat.beq i id <;> simp only [hb, cond_true, cond_false] <;> exact hk _ _
    | ret => exact hk _ _
  | loop c ih =>
    intro hs σ k k' hk
    simp only [evCode]
    cases hs with
    | nil => exact Le.rfl' _
    | cons h hs' => exact loopN_le (body := fun σ k' => evCode T Φ n c hs' σ k') (body' := fun σ k' => evCode T Φ' n' c hs' σ k') (fun σ k k' hk => ih hs' σ k k' hk) hk _ _ _ hn
  | rangeFunc f ps a b iha ihb =>
    intro hs σ k k' hk
    simp only [evCode]
    split
    · refine genCall_le hΦ σ _ fun r bs => ?_
      rename_i h hs' _ _ _
      · cases okSave ((σ.loseB bs).forget h) with
        | false => exact Le.rfl' _
        | true =>
          simp only [cond_true]
          exact loopN_le (fun σ k k' hk => roundB_le (fun σ k k' hk => iha _ σ k k' hk) (fun σ k k' hk => ihb _ σ k k' hk) σ k k' hk) (endRounds_le hk) _ _ _ hn
    · exact Le.rfl' _
  | exit i => intro hs σ k k' hk; exact hk _ _
  | ret => intro hs σ k k' hk; exact hk _ _
  | _ => intro hs σ k k' hk; exact Le.rfl' _
theorem loopN_up {h : List (Nat × Bool)} {body : AS → (Ex → AS → Option R) → Option R} (hb : ∀ σ k k', (∀ e s, Le (k e s) (k' e s)) → Le (body σ k) (body σ k'))
    (k : Ex → AS → Option R) (σ : AS) : ∀ n y, loopN h body k n σ = some y → loopN h body k (n + 1) σ = some y :=
  fun n y hy => loopN_le hb (fun e s => Le.rfl' _) n (n + 1) σ (by omega) y hy
theorem loop_conv {h : List (Nat × Bool)} {bn : Nat → AS → (Ex → AS → Option R) → Option R} {bI : AS → (Ex → AS → Option R) → Option R}
    (hc : ∀ σ {k : Nat → Ex → AS → Option R} {K : Ex → AS → Option R}, (∀ e s, Conv (fun n => k n e s) (K e s)) → Conv (fun n => bn n σ (k n)) (bI σ K))
    (hbn : ∀ n σ (k k' : Ex → AS → Option R), (∀ e s, Le (k e s) (k' e s)) → Le (bn n σ k) (bn n σ k'))
    {k : Nat → Ex → AS → Option R} {K : Ex → AS → Option R} (hk : ∀ e s, Conv (fun n => k n e s) (K e s)) (σ : AS) : Conv (fun n => loopN h (bn n) (k n) n σ) (loopI h bI K σ) := by
  have hbI : ∀ σ (k k' : Ex → AS → Option R), (∀ e s, Le (k e s) (k' e s)) → Le (bI σ k) (bI σ k') := fun σ k k' hkk y hy => by
    obtain ⟨n, hn⟩ := (hc σ (k := fun _ => k) (K := k) (fun e s => Conv.const _)).1 y hy
    exact (hc σ (k := fun _ => k') (K := k') (fun e s => Conv.const _)).2 n y (hbn n σ k k' hkk y (hn n (Nat.le_refl _)))
  have hm : ∀ m σ, Conv (fun n => loopN h (bn n) (k n) m σ) (loopN h bI K m σ) := by
    intro m
    induction m with
    | zero => intro σ; exact Conv.const _
    | succ m ihm =>
      intro σ
      simp only [loopN]
      refine hc σ (k := fun n e σ' => match e with
        | .normal => loopN h (bn n) (k n) m (σ'.forget h)
        | .exit i => k n (.exit i) σ'
        | .ret => k n .ret σ') fun e s => ?_
      cases e with
      | normal => exact ihm _
      | exit i => exact hk _ _
      | ret => exact hk _ _
  have hlim : ∀ σ, Conv (fun m => loopN h bI K m σ) (loopI h bI K σ) := fun σ => conv_lim (loopN_up hbI K σ)
  constructor
  · intro y hy
    obtain ⟨m, h1⟩ := (hlim _).1 y hy
    obtain ⟨n, h2⟩ := (hm m _).1 y (h1 m (Nat.le_refl _))
    refine ⟨max n m, fun i hi => ?_⟩
    exact loopN_le (hbn i) (fun e s => Le.rfl' _) m i _ (by omega) y (h2 i (by omega))
  · intro n y hy
    exact (hlim _).2 n y ((hm n _).2 n y hy)
theorem evCode_conv {Φ : Nat → PhiT T} {Φ' : PhiT T} (hΦ : ∀ f x, Conv (fun n => Φ n f x) (Φ' f x)) : ∀ (c : Code) (hs : List (List (Nat × Bool))) (σ : AS) {k : Nat → Ex → AS → Option R} {K : Ex → AS → Option R}
    (hk : ∀ e s, Conv (fun n => k n e s) (K e s)), Conv (fun n => evCode T (Φ n) n c hs σ (k n)) (evCodeI T Φ' c hs σ K) := by
  intro c
  induction c with
  | skip => intro hs σ k K hk; exact hk _ _
  | region id ops draw => intro hs σ k K hk; exact evRegion_conv hΦ ops draw σ fun s => hk _ _
  | seq a b iha ihb =>
    intro hs σ k K hk
    simp only [evCode, evCodeI]
    refine iha hs σ (k := fun n e σ' => match e with
      | .normal => evCode T (Φ n) n b (hs.drop (loops a)) σ' (k n)
      | .exit i => k n (.exit i) σ'
      | .ret => k n .ret σ') fun e s => ?_
    cases e with
    | normal => exact ihb _ _ hk
    | exit i => exact hk _ _
    | ret => exact hk _ _
  | cond c a b iha ihb =>
    intro hs σ k K hk
    simp only [evCode, evCodeI]
    cases c with
    | tmp t =>
      simp only
      generalize nth σ.tmps t = v
      cases v with
      | rv x =>
        cases x with
        | cv d =>
          obtain ⟨ty, x⟩ := d
          cases ty with
          | bool =>
            cases x
            · exact ihb _ _ hk
            · exact iha _ _ hk
          | _ => exact Conv.const _
        | _ => exact Conv.const _
      | _ => exact Conv.const _
    | const v =>
      cases v with
      | bool x =>
        cases x
        · exact ihb _ _ hk
        · exact iha _ _ hk
      | _ => exact Conv.const _
    | _ => exact Conv.const _
  | block id c ih =>
    intro hs σ k K hk
    simp only [evCode, evCodeI]
    refine ih hs σ (k := fun n e σ' => match e with
      | .normal => k n .normal σ'
      | .exit i => bif Nat.beq i id then k n .normal σ' else k n (.exit i) σ'
      | .ret => k n .ret σ') fun e s => ?_
    cases e with
    | normal => exact hk _ _
    | exit i => cases hb : Nat.beq i id <;> simp only [hb, cond_true, cond_false] <;> exact hk _ _
    | ret => exact hk _ _
  | loop c ih =>
    intro hs σ k K hk
    simp only [evCode, evCodeI]
    cases hs with
    | nil => exact Conv.const _
    | cons h hs' =>
      exact loop_conv (bn := fun n σ k' => evCode T (Φ n) n c hs' σ k') (bI := fun σ k' => evCodeI T Φ' c hs' σ k') (fun σ {k K} hk => ih hs' σ hk) (fun n σ k k' hkk => evCode_le (T := T) (fun f x => Le.rfl' _) (Nat.le_refl n) c hs' σ k k' hkk) hk _
  | rangeFunc f ps a b iha ihb =>
    intro hs σ k K hk
    simp only [evCode, evCodeI]
    cases hs with
    | nil => exact Conv.const _
    | cons h hs' =>
      generalize σ.rngs = rn
      generalize σ.trace = tr
      obtain ⟨ty, x⟩ := tr
      cases rn with
      | cons _ _ => exact Conv.const _
      | nil =>
        cases ty with
        | unit =>
          simp only
          refine genCall_conv hΦ σ _ (k := fun n r bs => bif okSave ((σ.loseB bs).forget h) then
              loopN h (roundB ps.toList (fun σ k' => evCode T (Φ n) n a hs' σ k') (fun σ k' => evCode T (Φ n) n b (hs'.drop (loops a)) σ k')) (endRounds (k n)) n
                { (((σ.loseB bs).forget h)) with rngs := [r] }.save
            else none) fun r bs => ?_
          cases okSave ((σ.loseB bs).forget h) with
          | false => exact Conv.const _
          | true =>
            simp only [cond_true]
            exact loop_conv (bn := fun n => roundB ps.toList (fun σ k' => evCode T (Φ n) n a hs' σ k') (fun σ k' => evCode T (Φ n) n b (hs'.drop (loops a)) σ k')) (bI := roundB ps.toList (fun σ k' => evCodeI T Φ' a hs' σ k') (fun σ k' => evCodeI T Φ' b (hs'.drop (loops a)) σ k'))
              (fun σ {k K} hk => roundB_conv (asg := fun n σ k' => evCode T (Φ n) n a hs' σ k') (body := fun n σ k' => evCode T (Φ n) n b (hs'.drop (loops a)) σ k') (fun σ {k K} hk => iha hs' σ hk) (fun σ {k K} hk => ihb _ σ hk) σ hk)
              (fun n σ k k' hkk => roundB_le (fun σ k k' hkk => evCode_le (T := T) (fun f x => Le.rfl' _) (Nat.le_refl n) a hs' σ k k' hkk) (fun σ k k' hkk => evCode_le (T := T) (fun f x => Le.rfl' _) (Nat.le_refl n) b _ σ k k' hkk) σ k k' hkk)
              (endRounds_conv hk) _
        | _ => exact Conv.const _
  | exit i => intro hs σ k K hk; exact hk _ _
  | ret => intro hs σ k K hk; exact hk _ _
  | _ => intro hs σ k K hk; exact Conv.const _
theorem evCodeI_le {Φ : PhiT T} (c : Code) (hs : List (List (Nat × Bool))) (σ : AS) (k k' : Ex → AS → Option R) (hk : ∀ e s, Le (k e s) (k' e s)) : Le (evCodeI T Φ c hs σ k) (evCodeI T Φ c hs σ k') := fun y hy => by
  obtain ⟨n, hn⟩ := (evCode_conv (T := T) (Φ := fun _ => Φ) (Φ' := Φ) (fun f x => Conv.const _) c hs σ (k := fun _ => k) (K := k) (fun e s => Conv.const _)).1 y hy
  have h2 := evCode_le (T := T) (Φ := Φ) (Φ' := Φ) (fun f x => Le.rfl' _) (Nat.le_refl n) c hs σ k k' hk y (hn n (Nat.le_refl _))
  exact (evCode_conv (T := T) (Φ := fun _ => Φ) (Φ' := Φ) (fun f x => Conv.const _) c hs σ (k := fun _ => k') (K := k') (fun e s => Conv.const _)).2 n y h2
theorem evCodeI_cont {Φ : PhiT T} (c : Code) (hs : List (List (Nat × Bool))) (σ : AS) {k : Nat → Ex → AS → Option R} {K : Ex → AS → Option R} (hk : ∀ e s, Conv (fun n => k n e s) (K e s)) : Conv (fun n => evCodeI T Φ c hs σ (k n)) (evCodeI T Φ c hs σ K) := by
  constructor
  · intro y hy
    have h3 := evCode_conv (T := T) (Φ := fun _ => Φ) (Φ' := Φ) (fun f x => Conv.const _) c hs σ (k := k) (K := K) hk
    obtain ⟨n, hn⟩ := h3.1 y hy
    exact ⟨n, fun m hm => (evCode_conv (T := T) (Φ := fun _ => Φ) (Φ' := Φ) (fun f x => Conv.const _) c hs σ (k := fun _ => k m) (K := k m) (fun e s => Conv.const _)).2 m y (hn m hm)⟩
  · intro m y hy
    exact evCodeI_le c hs σ _ _ (fun e s y hy => (hk e s).2 m y hy) y hy
theorem loopI_step {h : List (Nat × Bool)} {bI : AS → (Ex → AS → Option R) → Option R} (hle : ∀ σ (k k' : Ex → AS → Option R), (∀ e s, Le (k e s) (k' e s)) → Le (bI σ k) (bI σ k'))
    (hc : ∀ σ {k : Nat → Ex → AS → Option R} {K : Ex → AS → Option R}, (∀ e s, Conv (fun n => k n e s) (K e s)) → Conv (fun n => bI σ (k n)) (bI σ K)) (k : Ex → AS → Option R) (σ : AS) :
    loopI h bI k σ = bI σ fun e σ' => match e with
      | .normal => loopI h bI k (σ'.forget h)
      | .exit i => k (.exit i) σ'
      | .ret => k .ret σ' := by
  have hlim : ∀ σ, Conv (fun m => loopN h bI k m σ) (loopI h bI k σ) := fun σ => conv_lim (loopN_up hle k σ)
  have h1 := (hlim σ).shift
  have h2 : Conv (fun m => loopN h bI k (m + 1) σ) (bI σ fun e σ' => match e with
      | .normal => loopI h bI k (σ'.forget h)
      | .exit i => k (.exit i) σ'
      | .ret => k .ret σ') := by
    simp only [loopN]
    refine hc σ (k := fun m e σ' => match e with
      | .normal => loopN h bI k m (σ'.forget h)
      | .exit i => k (.exit i) σ'
      | .ret => k .ret σ') fun e s => ?_
    cases e with
    | normal => exact hlim _
    | exit i => exact Conv.const _
    | ret => exact Conv.const _
  rw [← h2.lim_eq, h1.lim_eq]
theorem loopI_eq (T : Tab) (Φ : PhiT T) (h : List (Nat × Bool)) (c : Code) (hs : List (List (Nat × Bool))) (k : Ex → AS → Option R) (σ : AS) :
    loopI h (fun σ k' => evCodeI T Φ c hs σ k') k σ = evCodeI T Φ c hs σ fun e σ' => match e with
      | .normal => loopI h (fun σ k' => evCodeI T Φ c hs σ k') k (σ'.forget h)
      | .exit i => k (.exit i) σ'
      | .ret => k .ret σ' := loopI_step (fun σ k k' hk => evCodeI_le c hs σ k k' hk) (fun σ {k K} hk => evCodeI_cont c hs σ hk) k σ
theorem rangeI_eq (T : Tab) (Φ : PhiT T) (h : List (Nat × Bool)) (ps : List Tmp) (a b : Code) (hs1 hs2 : List (List (Nat × Bool))) (k : Ex → AS → Option R) (σ : AS) :
    loopI h (roundB ps (fun σ k' => evCodeI T Φ a hs1 σ k') (fun σ k' => evCodeI T Φ b hs2 σ k')) k σ = roundB ps (fun σ k' => evCodeI T Φ a hs1 σ k') (fun σ k' => evCodeI T Φ b hs2 σ k') σ fun e σ' => match e with
      | .normal => loopI h (roundB ps (fun σ k' => evCodeI T Φ a hs1 σ k') (fun σ k' => evCodeI T Φ b hs2 σ k')) k (σ'.forget h)
      | .exit i => k (.exit i) σ'
      | .ret => k .ret σ' := loopI_step (fun σ k k' hk => roundB_le (fun σ k k' hk => evCodeI_le a _ σ k k' hk) (fun σ k k' hk => evCodeI_le b _ σ k k' hk) σ k k' hk)
    (fun σ {k K} hk => roundB_conv (asg := fun _ σ k' => evCodeI T Φ a hs1 σ k') (body := fun _ σ k' => evCodeI T Φ b hs2 σ k') (fun σ {k K} hk => evCodeI_cont a _ σ hk) (fun σ {k K} hk => evCodeI_cont b _ σ hk) σ hk) k σ
end
noncomputable def evBodyI (T : Tab) (fn : Func) (c : Code) (Φ : PhiT T) (v : Nat) (x : InT T v) : Option (OutT T v) :=
  evCodeI T Φ c (T.hint v) (startAS T fn v x) (finK T fn v)
noncomputable def evI (T : Tab) (B : Base T) (fns : Nat → Option Func) (v : Nat) (x : InT T v) : Option (OutT T v) := lim fun n => evFn T B fns n v x
theorem evFn_up (T : Tab) (B : Base T) (fns : Nat → Option Func) : ∀ n v x y, evFn T B fns n v x = some y → evFn T B fns (n + 1) v x = some y
  | 0, v, x, y, h => by cases h
  | n + 1, v, x, y, h => by
    rw [evFn] at h ⊢
    revert h
    cases B v with
    | some g => exact id
    | none =>
      simp only
      cases fns v with
      | none => exact id
      | some fn =>
        simp only
        cases fn.body with
        | none => exact id
        | some c =>
          simp only [evBody]
          exact evCode_le (T := T) (fun f x y hy => evFn_up T B fns n f x y hy) (by omega) c _ _ _ _ (fun e s => Le.rfl' _) y
theorem evI_conv (T : Tab) (B : Base T) (fns : Nat → Option Func) (v : Nat) (x : InT T v) : Conv (fun n => evFn T B fns n v x) (evI T B fns v x) := conv_lim fun n y => evFn_up T B fns n v x y
theorem evI_eq {T : Tab} {B : Base T} {fns : Nat → Option Func} {v : Nat} {fn : Func} {c : Code} (hB : B v = none) (hf : fns v = some fn) (hc : fn.body = some c) (x : InT T v) :
    evI T B fns v x = evBodyI T fn c (evI T B fns) v x := by
  have h1 := (evI_conv T B fns v x).shift
  have h2 : Conv (fun n => evFn T B fns (n + 1) v x) (evBodyI T fn c (evI T B fns) v x) := by
    have e : (fun n => evFn T B fns (n + 1) v x) = fun n => evCode T (evFn T B fns n) n c (T.hint v) (startAS T fn v x) (finK T fn v) := by
      funext n
      rw [evFn, hB]
      simp only
      rw [hf]
      simp only [hc]
      rfl
    rw [e]
    exact evCode_conv (T := T) (fun f x => evI_conv T B fns f x) c _ _ (k := fun _ => finK T fn v) fun e s => Conv.const _
  rw [← h2.lim_eq, h1.lim_eq]
theorem evI_base {T : Tab} {B : Base T} {fns : Nat → Option Func} {v : Nat} {g : InT T v → Option (OutT T v)} (hB : B v = some g) (x : InT T v) : evI T B fns v x = g x := by
  have h1 := (evI_conv T B fns v x).shift
  have e : (fun n => evFn T B fns (n + 1) v x) = fun _ => g x := by
    funext n
    rw [evFn, hB]
  rw [e] at h1
  rw [← h1.lim_eq, (Conv.const (g x)).lim_eq]
theorem fnI_sound {P : Program} {T : Tab} {B : Base T} {fns : Nat → Option Func} (hP : ProgOk P T) (hB : BaseOk P T B) (hF : FnsOk P T fns) : FnOk P T (evI T B fns) := fun v xh yh h => by
  obtain ⟨n, hn⟩ := lim_some h
  exact (fn_sound hP hB hF n).1 v xh yh hn
theorem Le.none' {α : Type} (b : Option α) : Le none b := fun y h => by cases h
theorem Le.of_eq' {α : Type} {a b c : Option α} (h : b = c) (p : Le a c) : Le a b := fun y hy => by rw [h]; exact p y hy
theorem Le.bind' {α β : Type} {o o' : Option α} {k k' : α → Option β} (h : Le o o') (hk : ∀ v, Le (k v) (k' v)) : Le (o.bind k) (o'.bind k') := fun y hy => by
  obtain ⟨v, h1, h2⟩ := Option.bind_eq_some_iff.1 hy
  rw [h v h1]
  exact hk v y h2
theorem Le.cond' {α : Type} {c : Bool} {a a' b b' : Option α} (ha : Le a a') (hb : Le b b') : Le (bif c then a else b) (bif c then a' else b') := by cases c <;> assumption
def res2 {α β : Type} (a : Option α) (b : Option β) : Option (α × β) := match a, b with
  | some x, some y => some (x, y)
  | _, _ => none
def bs (l : List Nat) : ByteArray := ⟨(l.map UInt8.ofNat).toArray⟩
inductive Frm where
  | seq (b : Code) (hs : List (List (Nat × Bool)))
  | blk (id : Nat)
  | lp (h : List (Nat × Bool)) (c : Code) (hs : List (List (Nat × Bool)))
  | rg (h : List (Nat × Bool)) (ps : List Tmp) (a b : Code) (hs1 hs2 : List (List (Nat × Bool)))
section
variable {R : Type}
noncomputable def kOf (T : Tab) (Φ : PhiT T) : List Frm → (Ex → AS → Option R) → Ex → AS → Option R
  | [], k => k
  | .seq b hs :: fr, k => fun e σ' => match e with
    | .normal => evCodeI T Φ b hs σ' (kOf T Φ fr k)
    | .exit i => kOf T Φ fr k (.exit i) σ'
    | .ret => kOf T Φ fr k .ret σ'
  | .blk id :: fr, k => fun e σ' => match e with
    | .normal => kOf T Φ fr k .normal σ'
    | .exit i => bif Nat.beq i id then kOf T Φ fr k .normal σ' else kOf T Φ fr k (.exit i) σ'
    | .ret => kOf T Φ fr k .ret σ'
  | .lp h c hs :: fr, k => fun e σ' => match e with
    | .normal => loopI h (fun σ k' => evCodeI T Φ c hs σ k') (kOf T Φ fr k) (σ'.forget h)
    | .exit i => kOf T Φ fr k (.exit i) σ'
    | .ret => kOf T Φ fr k .ret σ'
  | .rg h ps a b hs1 hs2 :: fr, k => fun e σ' => match e with
    | .normal => loopI h (roundB ps (fun σ k' => evCodeI T Φ a hs1 σ k') (fun σ k' => evCodeI T Φ b hs2 σ k')) (endRounds (kOf T Φ fr k)) (σ'.back.forget h)
    | _ => none
end
inductive Spot where
  | lp (h : List (Nat × Bool)) (c : Code) (hs : List (List (Nat × Bool))) (fr : List Frm)
  | rg (h : List (Nat × Bool)) (ps : List Tmp) (a b : Code) (hs1 hs2 : List (List (Nat × Bool))) (fr : List Frm)
def spotAt : Code → List (List (Nat × Bool)) → List Frm → Nat → Option Spot
  | .seq a b, hs, fr, i => bif Nat.blt i (loops a) then spotAt a hs (.seq b (hs.drop (loops a)) :: fr) i else spotAt b (hs.drop (loops a)) fr (i - loops a)
  | .cond _ a b, hs, fr, i => bif Nat.blt i (loops a) then spotAt a hs fr i else spotAt b (hs.drop (loops a)) fr (i - loops a)
  | .block id c, hs, fr, i => spotAt c hs (.blk id :: fr) i
  | .loop c, h :: hs, fr, 0 => some (.lp h c hs fr)
  | .loop c, h :: hs, fr, i + 1 => spotAt c hs (.lp h c hs :: fr) i
  | .rangeFunc f ps a b, h :: hs, fr, 0 => some (.rg h ps.toList a b hs (hs.drop (loops a)) fr)
  | .rangeFunc f ps a b, h :: hs, fr, i + 1 => bif Nat.blt i (loops a) then none else spotAt b (hs.drop (loops a)) (.rg h ps.toList a b hs (hs.drop (loops a)) :: fr) (i - loops a)
  | _, _, _, _ => none
noncomputable def LL (T : Tab) (B : Base T) (fns : Nat → Option Func) (v : Nat) (i : Nat) (σ : AS) : Option (OutT T v) :=
  match fns v with
  | some fn => match fn.body with
    | some c => match spotAt c (T.hint v) [] i with
      | some (.lp h c hs fr) => loopI h (fun σ k' => evCodeI T (evI T B fns) c hs σ k') (kOf T (evI T B fns) fr (finK T fn v)) σ
      | some (.rg h ps a b hs1 hs2 fr) => loopI h (roundB ps (fun σ k' => evCodeI T (evI T B fns) a hs1 σ k') (fun σ k' => evCodeI T (evI T B fns) b hs2 σ k')) (endRounds (kOf T (evI T B fns) fr (finK T fn v))) σ
      | none => none
    | none => none
  | none => none
noncomputable def LL1 (T : Tab) (B : Base T) (fns : Nat → Option Func) (v : Nat) (i : Nat) (σ : AS) : Option (OutT T v) :=
  match fns v with
  | some fn => match fn.body with
    | some c => match spotAt c (T.hint v) [] i with
      | some (.lp h c hs fr) => evCodeI T (evI T B fns) c hs σ fun e σ' => match e with
        | .normal => loopI h (fun σ k' => evCodeI T (evI T B fns) c hs σ k') (kOf T (evI T B fns) fr (finK T fn v)) (σ'.forget h)
        | .exit i => kOf T (evI T B fns) fr (finK T fn v) (.exit i) σ'
        | .ret => kOf T (evI T B fns) fr (finK T fn v) .ret σ'
      | some (.rg h ps a b hs1 hs2 fr) => roundB ps (fun σ k' => evCodeI T (evI T B fns) a hs1 σ k') (fun σ k' => evCodeI T (evI T B fns) b hs2 σ k') σ fun e σ' => match e with
        | .normal => loopI h (roundB ps (fun σ k' => evCodeI T (evI T B fns) a hs1 σ k') (fun σ k' => evCodeI T (evI T B fns) b hs2 σ k')) (endRounds (kOf T (evI T B fns) fr (finK T fn v))) (σ'.forget h)
        | .exit i => endRounds (kOf T (evI T B fns) fr (finK T fn v)) (.exit i) σ'
        | .ret => endRounds (kOf T (evI T B fns) fr (finK T fn v)) .ret σ'
      | none => none
    | none => none
  | none => none
theorem LL_eq (T : Tab) (B : Base T) (fns : Nat → Option Func) (v : Nat) (i : Nat) (σ : AS) : LL T B fns v i σ = LL1 T B fns v i σ := by
  unfold LL LL1
  split
  · split
    · split
      · exact loopI_eq T (evI T B fns) _ _ _ _ _
      · exact rangeI_eq T (evI T B fns) _ _ _ _ _ _ _ _
      · rfl
    · rfl
  · rfl
noncomputable def evI1 (T : Tab) (B : Base T) (fns : Nat → Option Func) (v : Nat) (x : InT T v) : Option (OutT T v) :=
  match B v with
  | some g => g x
  | none => match fns v with
    | some fn => match fn.body with
      | some c => evBodyI T fn c (evI T B fns) v x
      | none => none
    | none => none
theorem evI_eq1 (T : Tab) (B : Base T) (fns : Nat → Option Func) (v : Nat) (x : InT T v) : evI T B fns v x = evI1 T B fns v x := by
  unfold evI1
  split
  · rename_i g hg; exact evI_base hg x
  · rename_i hB
    split
    · rename_i fn hf
      split
      · rename_i c hc
        exact evI_eq hB hf hc x
      · rename_i hc
        refine Conv.lim_eq ?_
        refine ⟨fun y hy => (by cases hy), fun n y hy => ?_⟩
        cases n with
        | zero => cases hy
        | succ n => simp only [evFn, hB, hf, hc] at hy; cases hy
    · rename_i hf
      refine Conv.lim_eq ?_
      refine ⟨fun y hy => (by cases hy), fun n y hy => ?_⟩
      cases n with
      | zero => cases hy
      | succ n => simp only [evFn, hB, hf] at hy; cases hy
end Go.Abs
namespace Go.Abs
open Go.RowKit Go.Lib
section
variable {P : Program} {T : Tab} {V0 : View} {w : World}
def topE (T : Tab) (V0 : View) (w : World) : Env where
  V0 := V0
  w0 := w
  X := fun _ => False
  J := plainJ
  XS := fun i => .pointer (some ⟨i - 1000000000, 0, none⟩)
  Y := .nilFunc
  ro := fun _ => none
  h0 := emptyH T
  n0 := fun _ _ => .nilFunc
  M := fun _ => False
  base := w
  CB := fun _ => False
  Om := fun _ => False
  acc := fun _ => True
  XH := fun _ _ => False
theorem topE_ok (h : ∀ ad v, V0 (.cell ad) v → w.cell? ad = some v) : EnvOk (topE T V0 w) :=
  ⟨fun ad v hv => ⟨h ad v hv, id⟩, fun tr O w w' C hJ _ _ => hJ⟩
theorem topE_glob (h : ∀ ad v, V0 (.cell ad) v → w.cell? ad = some v) (hG : GlobOk T (fun key v => ∃ ad : Addr, key = .cell ad ∧ V0 (.cell ad) v)) : EnvT T (topE T V0 w) := by
  refine ⟨fun g => ?_, fun i x hx => ?_⟩
  · show Value.pointer (some ⟨gk g - 1000000000, 0, none⟩) = _
    unfold gk
    rw [show 1000000000 + g - 1000000000 = g by omega]
  · obtain ⟨g, cs, h1, h2, h3⟩ := hG i x hx
    exact ⟨g, cs, h1, h2, h3.of fun key u ⟨ad, e, hv⟩ => ⟨ad, e, cell_lt (h ad u hv), hv⟩⟩
theorem top_start : St (topE T V0 w) (plainAS (emptyH T)) ⟨#[], []⟩ w (fun _ => .nilFunc) (fun _ => False) := by
  have hobj : ∀ m, (plainAS (emptyH T)).obj m = none := fun m => by
    cases m with
    | row q => rfl
    | box q => rfl
    | hp i n =>
      simp only [AS.obj, plainAS]
      cases n with
      | zero => rfl
      | succ n =>
        simp only [hobj]
        split
        · rename_i hr hhr
          rw [emptyH_get i hr hhr]; rfl
        · rfl
  have hno : ∀ m k, ¬ Own (plainAS (emptyH T)) (fun _ => .nilFunc) m k := fun m k h => by
    have := h.1; rw [hobj m] at this; cases this
  refine ⟨Grow.refl _ _, (fun d hd => by cases hd), ⟨rfl, (fun i x e => by cases e), (fun i x e => by cases e)⟩, fun m o ho => ?_, fun m m' k h1 h2 => absurd h1 (hno m k), fun m k hm => absurd hm (hno m k), fun m k hm => absurd hm (hno m k), ⟨rfl, fun _ hf => hf.elim⟩, fun i hr n e h1 h2 => ?_, (fun i hr e => by cases e), ⟨rfl, fun i hr e => ⟨hr, e, SameH.refl _, Nat.le_refl _⟩, fun i n h1 h2 => rfl⟩, fun _ hf => hf.elim, Grow.refl _ _, fun m k hm => absurd hm (hno m k), fun _ hf => hf.elim, List.nodup_nil⟩
  · rw [hobj m] at ho; cases ho
  · rw [emptyH_get i hr e] at h2; simp at h2; omega
theorem res_true {V : View} {σ : AS} {ν : Nm → Value} {Y : Value} {d : Nat} {s : Sig} {args : List ArgT} {hs : List (Nat × Bool)} (hres : s = ⟨args, [(.bool, none)], none, hs, none⟩) {y : SigR s} (hy : HEq y true) {r : Value} (h : AvRel V σ ν Y (resA d s y) r) : r = .bool true := by
  subst hres
  have hy' : y = true := eq_of_heq hy
  subst hy'
  have : LRel V ⟨.bool, true⟩ r := h
  have h2 : [r] = [.bool true] := this
  simpa using h2
theorem fstH_nil {A : Type} {hs : List Nat} (h : hs = []) (y : WithH T A hs) : HEq (fstH hs y) y := by subst h; rfl
theorem walk3 {v : Nat} {xh : InT T v} {yh : OutT T v} (hF : FnOkAt P T v xh yh) {as : List ArgT} (hs : T.sig v = ⟨as, [(.bool, none)], none, [], none⟩) (hy : HEq yh true) (hV0 : ∀ ad u, V0 (.cell ad) u → w.cell? ad = some u)
    (hG : GlobOk T (fun key u => ∃ ad : Addr, key = .cell ad ∧ V0 (.cell ad) u)) {args : Array Value} (hargs : ArgsRel (fun key u => ∃ ad : Addr, key = .cell ad ∧ V0 (.cell ad) u) (T.sig v).args (fstH _ xh) args.toList) :
    Calls P (T.real v) args w fun e w' => e = .returned (.bool true) ∧ Below w.heap.size w w' := by
  have hhe : (T.sig v).heaps.isEmpty = true := by rw [hs]; rfl
  have hst : startHs T v xh = emptyH T := start_empty hhe
  have hin : (T.sig v).hin = [] := by rw [hs]; rfl
  have hout : (T.sig v).hout = [] := by rw [hs]; rfl
  refine Calls.mono (hF.2 (topE T V0 w) (fun _ => .nilFunc) args 0 (topE_ok hV0) (topE_glob hV0 hG) ⟨rfl, fun _ h => h, fun _ h => h, fun _ => trivial, fun _ _ _ h => h, fun i => by rw [hin]; rfl⟩ (by rw [hst]; exact top_start) (hargs.mono fun key u ⟨ad, e, hv⟩ => by
    subst e; exact .inl ⟨cell_lt (hV0 ad u hv), hv⟩)) ?_
  rintro e w' ⟨r, ν', rfl, hend, hr⟩
  have hk : Grow (fun _ => False) w w' := hend.keep
  refine ⟨?_, hk.below⟩
  rw [res_true hs ((fstH_nil hout yh).trans hy) hr]
end
end Go.Abs
