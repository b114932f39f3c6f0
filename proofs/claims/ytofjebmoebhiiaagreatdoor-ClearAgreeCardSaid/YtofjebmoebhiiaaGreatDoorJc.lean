/- YtofjebmoebhiiaaGreatDoorJc: a part of the proof (AbsC2, AbsC3, AbsC4 ..). No condition. -/
import Derived.Test.YtofjebmoebhiiaaGreatDoorJb
import Derived.RangeFuncNested
import Derived.SliceStrings
import Derived.SizedLaws
set_option linter.unusedVariables false
set_option linter.unusedSimpArgs false
set_option maxRecDepth 100000
set_option exponentiation.threshold 2000
namespace Go.Abs
open Go.RowKit Go.Lib
def Post {R:Type}(E:Env)(σ:AS)(k:Ex→AS→Option R)(r:R):Exit→Act→World→Prop
 | .normal,a,w=>∃ah,k .normal ah=some r∧Fr σ ah∧To E ah a w
 | .exit id,a,w=>∃ah,k (.exit id) ah=some r∧Fr σ ah∧To E ah a w
 | .ret,a,w=>∃ah,k .ret ah=some r∧Fr σ ah∧To E ah a w
 |_,_,_=>False
theorem exists_least {p:Nat→Prop}(h:∃m,p m):∃m,p m∧∀k,p k→m≤k:=by
 obtain⟨m,hm⟩:=h;induction m using Nat.strongRecOn with
 |_ m ih=>
  by_cases hk:∃k,k<m∧p k
  ·obtain⟨k,h1,h2⟩:=hk;exact ih k h1 h2
  ·exact⟨m,hm,fun k hk'=>Nat.le_of_not_lt fun hlt=>hk ⟨k,hlt,hk'⟩⟩
open Classical in
noncomputable def least (p:Nat→Prop):Nat:=if h:∃m,p m then (exists_least h).choose else 0
theorem U0 {p:Nat→Prop}(h:∃m,p m):p (least p)∧∀k,p k→least p≤k:=by unfold least;rw[dif_pos h];exact(exists_least h).choose_spec
section
variable {P:Program}{T:dc}{E:Env}{σ dL nv JD:AS}{a:Act}{w w':World}{ν aN:Nm→Value}{O:Nat→Prop}{Φ:cj T}{F:Fence}{nn:Nat}
theorem agA {c:Code}{Q:Exit→Act→World→Prop}(J:Nat→Act→World→Prop){m:Nat}(h0:J m a w)
  (round:∀m a w,J m a w→c.wpIn F nn P (Exit.then (fun a' w'=>∃m',m'<m∧J m' a' w') Q) a w):(Code.loop c).wpIn F nn P Q a w:=by
 refine wpIn_loop (fun a w=>∃m,J m a w) (fun a w=>least fun m=>J m a w) ⟨m,h0⟩ (fun a w hI=> ?_);obtain⟨h1,h2⟩:=U0 hI;refine wpIn_mono (round _ a w h1) (fun e a' w' he=> ?_);cases e with
 |normal=>obtain⟨m',h3,h4⟩:=he;exact⟨⟨m',h4⟩,Nat.lt_of_le_of_lt ((U0 ⟨m',h4⟩).2 m' h4) h3⟩
 |_=>exact he
def Sound (P:Program)(T:dc)(Φ:cj T)(n:Nat)(c:Code):Prop:=∀{R:Type} {r:R} (E:Env) (_:Ctx P T Φ E) (_:aah E) (rr:Option Nat) (hs:List (List (Nat×Bool))) (σ:AS) (k:Ex→AS→Option R) (a:Act) (w:World) (ν:Nm→Value) (O:Nat→Prop),
 aM T Φ n c hs σ k=some r→St E σ a w ν O→(rr.isSome=true→σ.cR≠ [])→(∀e ah,k e ah=some r→Fr σ ah→E.acc ah.trace)→c.wpIn (FW rr) 0 P (Post E σ k r) a w
theorem Post.ajo {R:Type}{r:R}{k:Ex→AS→Option R}(hf:Fr σ dL){e:Exit}{a:Act}{w:World}(h:Post E dL k r e a w):Post E σ k r e a w:=by
 cases e with
 |normal=>obtain⟨ah,h1,h2,h3⟩:=h;exact⟨ah,h1,hf.trans h2,h3⟩
 |exit i=>obtain⟨ah,h1,h2,h3⟩:=h;exact⟨ah,h1,hf.trans h2,h3⟩
 |ret=>obtain⟨ah,h1,h2,h3⟩:=h;exact⟨ah,h1,hf.trans h2,h3⟩
 |_=>exact h
theorem U1 {n:Nat}(hm:P.follows .mixedOrders=true)(hR:∀f ps x y,Sound P T Φ n x→Sound P T Φ n y→Sound P T Φ n (.rangeFunc f ps x y)):∀(c:Code),Sound P T Φ n c:=by
 intro c;induction c with
 |skip=>intro R r E C hD rr hs σ k a w ν O he h hrr hk;exact wpIn_skip ⟨σ,he,Fr.refl _,ν,O,h⟩
 |region id ops draw=>intro R r E C hD rr hs σ k a w ν O he h hrr hk;exact Y4 C hD hm h he (fun ah h1 h2=>hk _ _ h1 h2) (fun ah a' w' h1 h2 h3=>⟨ah,h1,h2,h3⟩)
 |seq x y Ml JA=>
  intro R r E C hD rr hs σ k a w ν O he h hrr hk;simp only[aM] at he;refine wpIn_seq (wpIn_mono (Ml E C hD rr _ _ _ a w ν O he h hrr (fun e ah h1 h2=> ?_)) (fun e a' w' hp=> ?_))
  ·cases e with
   |normal=>obtain⟨e',adt,h3,h4⟩:=UZ _ _ _ _ h1;exact hD _ _ h4.tr (hk _ _ h3 (h2.trans h4))
   |exit i=>exact hk _ _ h1 h2
   |ret=>exact hk _ _ h1 h2
  ·cases e with
   |normal=>obtain⟨ah,h1,h2,aN,O',h3⟩:=hp;refine wpIn_mono (JA E C hD rr _ _ _ a' w' aN O' h1 h3 (fun h4=>by rw[h2.cR];exact hrr h4) (fun e adt h4 h5=>hk _ _ h4 (h2.trans h5))) (fun e a2 w2 hp=>hp.ajo h2)
   |exit id=>exact hp
   |ret=>exact hp
   |_=>exact hp.elim
 |cond x y z JA ihz=>
  intro R r E C hD rr hs σ k a w ν O he h hrr hk;simp only[aM] at he;split at he
  ·rename_i t;split at he
   ·rename_i b hb;have hx:a.eval (.tmp t)= .bool b:=by have:=h.av C.Tu.1 (.tmp t);simp only[AS.av,gh.av] at this;rw[hb] at this;exact Pu this rfl
    have main:∀b:Bool,nth σ.tmps t= .rv (.cv ⟨.bool,b⟩)→(bif b then aM T Φ n y hs (σ.NU t true) k else aM T Φ n z (hs.drop (loops y)) (σ.NU t false) k)=some r→
      (if b then y else z).wpIn (FW rr) 0 P (Post E σ k r) a w:=fun b hb he=>by
     cases b
     ·rw[Y3 hb] at he;exact ihz E C hD rr _ _ _ a w ν O he h hrr hk
     ·rw[Y3 hb] at he;exact JA E C hD rr _ _ _ a w ν O he h hrr hk
    exact wpIn_cond hx (main b hb he)
   ·cases he
  ·rename_i b;refine wpIn_cond (t:=b) rfl ?_;cases b
   ·exact ihz E C hD rr _ _ _ a w ν O he h hrr hk
   ·exact JA E C hD rr _ _ _ a w ν O he h hrr hk
  ·cases he
 |block id c ih=>
  intro R r E C hD rr hs σ k a w ν O he h hrr hk;simp only[aM] at he;refine wpIn_block (wpIn_mono (ih E C hD rr _ _ _ a w ν O he h hrr (fun e ah h1 h2=> ?_)) (fun e a' w' hp=> ?_))
  ·cases e with
   |normal=>exact hk _ _ h1 h2
   |exit i=>
    cases hb:Nat.beq i id with
    |true=>simp only[hb,cond_true] at h1;exact hk _ _ h1 h2
    |false=>simp only[hb,cond_false] at h1;exact hk _ _ h1 h2
   |ret=>exact hk _ _ h1 h2
  ·cases e with
   |normal=>exact hp
   |exit i=>
    obtain⟨ah,h1,h2⟩:=hp;simp only[Exit.inBlock];cases hb:Nat.beq i id with
    |true=>have:=(beq_iff _ _).1 hb;subst this;simp only[hb,cond_true] at h1;rw[if_pos rfl];exact⟨ah,h1,h2⟩
    |false=>have:=tB.1 hb;simp only[hb,cond_false] at h1;rw[if_neg this];exact⟨ah,h1,h2⟩
   |ret=>exact hp
   |_=>exact hp.elim
 |loop c ih=>
  intro R r E C hD rr hs σ k a w ν O he h hrr hk;simp only[aM] at he;split at he
  ·rename_i hd hs';refine agA (fun m a w=>∃dL,mQ hd (fun σ k'=>aM T Φ n c hs' σ k') k m dL=some r∧Fr σ dL∧To E dL a w) ⟨_,he,oC hd σ,ν,O,h.forget C.env hd⟩ (fun m a w hJ=> ?_);obtain⟨dL,h1,hf,ν,O,h2⟩:=hJ;cases m with
   |zero=>cases h1
   |succ m=>
    simp only[mQ] at h1;refine wpIn_mono (ih E C hD rr _ _ _ a w ν O h1 h2 (fun h4=>by rw[hf.cR];exact hrr h4) (fun e ah h3 h4=> ?_)) (fun e a' w' hp=> ?_)
    ·cases e with
     |normal=>
      obtain⟨e2,σ3,h8,h9⟩:=L6 (I:=Fr ah) (fun ah h=>h.trans (oC hd ah)) (fun ah k' hi hb=>by
       obtain⟨e,adt,h1,h2⟩:=UZ _ _ _ _ hb;exact⟨e,adt,h1,hi.trans h2⟩) m _ (oC hd ah) h3
      exact hD _ _ h9.tr (hk _ _ h8 ((hf.trans h4).trans h9))
     |exit i=>exact hk _ _ h3 (hf.trans h4)
     |ret=>exact hk _ _ h3 (hf.trans h4)
    ·cases e with
     |normal=>obtain⟨ah,h3,h4,aN,O',h5⟩:=hp;exact⟨m,Nat.lt_succ_self m,_,h3,(hf.trans h4).trans (oC hd _),aN,O',h5.forget C.env hd⟩
     |exit i=>exact hp.ajo hf
     |ret=>exact hp.ajo hf
     |_=>exact hp.elim
  ·cases he
 |rangeFunc f ps x y Ml JA=>exact hR f ps x y Ml JA
 |exit i=>intro R r E C hD rr hs σ k a w ν O he h hrr hk;exact wpIn_exit ⟨σ,he,Fr.refl _,ν,O,h⟩
 |ret=>intro R r E C hD rr hs σ k a w ν O he h hrr hk;exact wpIn_ret ⟨σ,he,Fr.refl _,ν,O,h⟩
 |_=>intros;intro R r E C hD rr hs σ k a w ν O he h hrr hk;cases he
end
section
variable {P:Program}{T:dc}{E:Env}{σ dL nv JD ah:AS}{a a':Act}{w w':World}{ν aN:Nm→Value}{O O':Nat→Prop}{Φ:cj T}
theorem St.Rl (h:St E σ a w ν O){m:Nm}{k:Nat}(hm:Own σ ν m k):∃cur e,w.heap[k]? =some (.cells cur e (0,0)):=by
 obtain⟨o,ho⟩:=Option.isSome_iff_exists.1 hm.1;have cS:=h.CF m o ho;have hblk:=hm.2;cases o with
 |row row=>
  obtain⟨bG,⟨_,h5⟩,_⟩:=cS;rcases h5 with ⟨h5,_⟩ | ⟨g,cap,cur,h5,_,h6,_⟩
  ·rw[h5] at hblk;cases hblk
  ·rw[h5] at hblk;simp only[dw,Option.some.injEq] at hblk;subst hblk;exact⟨_,_,h6⟩
 |box x=>
  obtain⟨g,h5,h6⟩:=cS;rw[h5] at hblk;simp only[dw,Option.some.injEq] at hblk;subst hblk;cases x with
  |cells cs=>obtain⟨cur,e,h7,_⟩:=h6;exact⟨_,_,h7⟩
  |own q=>obtain⟨e,h7,_⟩:=h6;exact⟨_,_,h7⟩
  |nil=>obtain⟨u,e,h7⟩:=h6;exact⟨_,_,h7⟩
 |hp k row=>
  match k,cS with
  |0,⟨_,bG,⟨_,h5⟩,_⟩=>
   rcases h5 with ⟨h5,_⟩ | ⟨g,cap,cur,h5,_,h6,_⟩
   ·rw[h5] at hblk;cases hblk
   ·rw[h5] at hblk;simp only[dw,Option.some.injEq] at hblk;subst hblk;exact⟨_,_,h6⟩
  |1,⟨g,cur,ys,x,h5,h6,_⟩=>rw[h5] at hblk;simp only[dw,Option.some.injEq] at hblk;subst hblk;exact⟨_,_,h6⟩
theorem St.al0 (hE:aI E)(hJ:E.J=lj)(h:St E σ a w ν O){C:Nat→Prop}(hg:Grow C w w')(hC:∀k,C k→O k∧(E.CB k∨E.base.heap.size≤k))(hO:∀k,O k→O' k)(hO':∀k,O' k→O k∨(w.heap.size≤k∧k<w'.heap.size)):
  St E σ a w' ν O':=by
 have hV:∀key u,view E σ ν O w key u→view E σ ν O' w' key u:=fun key u hu=>GF hg (HSub.refl _ _) (fun k h1 h2 h3 h4=>⟨h3,fun h5=>by
  rcases hO' k h5 with h6 |h6
  ·exact h4 h6
  ·omega,fun h5=>h4 (hC k h5).1⟩) hu
 have hblk:∀r o,w.heap[r]? =some o→¬O r→w'.heap[r]? =some o∧¬O' r:=fun r o h1 h2=>by
  have hlt:=(Array.getElem?_eq_some_iff.1 h1).1;refine⟨by rw[hg.block r hlt (fun hc=>h2 (hC r hc).1)];exact h1,fun h3=> ?_⟩;rcases hO' r h3 with h4 |h4
  ·exact h2 h4
  ·omega
 have htr:σ.trace=⟨.unit,()⟩:=by have:=h.out.1;rw[hJ] at this;exact this
 refine⟨h.keep.trans hg (fun k hk hc=>(h.out.2 k (hC k hc).1).2 hk),fun d hd=> ?_,h.slots.mono (ak.mono hV (Sub.refl _ _)),fun m o ho=> ?_,h.inj,fun m k hm=> ?_,h.new,⟨?_,fun k hk=> ?_⟩,h.nn,h.ro,h.kept,fun r hr=> ?_,h.wS.trans hg (fun k hk hc=> ?_),h.yx,fun k hk=>hO k (h.Pp k hk),h.nd⟩
 ·obtain⟨r,h1,h2,h3,h4⟩:=h.marks d hd;obtain⟨h5,h6⟩:=hblk r _ h3 h4;exact⟨r,h1,h2,h5,h6⟩
 ·exact(h.CF m o ho).mono hV (fun k hk=>hg.block k (h.Aw m k ⟨br ho,hk⟩).2.1 (fun hc=>(h.Aw m k ⟨br ho,hk⟩).2.2 (hC k hc).1)) (fun r _ hr=>⟨rfl,hr⟩)
 ·obtain⟨h1,h2,h3⟩:=h.Aw m k hm;refine⟨h1,Nat.lt_of_lt_of_le h2 hg.size,fun h4=> ?_⟩;rcases hO' k h4 with h5 |h5
  ·exact h3 h5
  ·omega
 ·rw[hJ];exact htr
 ·rcases hO' k hk with h5 |h5
  ·exact⟨Nat.lt_of_lt_of_le (h.out.2 k h5).1 hg.size,(h.out.2 k h5).2⟩
  ·exact⟨h5.2,fun h6=>by have:=h.keep.size;omega⟩
 ·obtain⟨h1,h2⟩:=h.waits r hr;exact hblk r _ h1 h2
 ·rcases (hC k hc).2 with h1 |h1
  ·exact h1
  ·omega
theorem St.frame (h:St E σ a w ν O):St E σ ⟨a.tmps,[]⟩ w ν O:=
 ⟨h.keep,(fun d hd=>by cases hd),h.slots,h.CF,h.inj,h.Aw,h.new,h.out,h.nn,h.ro,h.kept,h.waits,h.wS,h.yx,h.Pp,List.nodup_nil⟩
def Env.zl (E:Env)(σ:AS)(ν:Nm→Value)(O:Nat→Prop)(w:World):Env:={E with base:=w,CB:=fun k=>∃m,Own σ ν m k∧¬E.yq m,Om:=O}
theorem aI.zl (hE:aI E):aI (E.zl σ ν O w):=⟨hE.cell,hE.stay⟩
theorem St.zl (h:St E σ a w ν O):St (E.zl σ ν O w) σ a w ν O:=
 ⟨h.keep,h.marks,h.slots,h.CF,h.inj,h.Aw,h.new,h.out,h.nn,h.ro,h.kept,h.waits,Grow.refl _ _,fun m k hm=>by
   by_cases hr:E.yq m
   ·exact .inl hr
   ·exact .inr (.inl ⟨m,hm,hr⟩),fun k hk=>hk,h.nd⟩
theorem St.ajp (h:St E σ a w ν O)(g:St (E.zl σ ν O w) ah a' w' aN O'):
  St E ah a' w' aN O'∧Grow (fun k=>∃m,Own σ ν m k∧¬E.yq m) w w'∧(∀k,O k→O' k)∧∀m k,Own ah aN m k→E.yq m∨(∃m',Own σ ν m' k∧¬E.yq m')∨w.heap.size≤k:=by
 have hgr:Grow (fun k=>∃m,Own σ ν m k∧¬E.yq m) w w':=g.wS;refine⟨⟨g.keep,g.marks,g.slots,g.CF,g.inj,g.Aw,g.new,g.out,g.nn,g.ro,g.kept,g.waits,h.wS.trans hgr (fun k hk ⟨m,hm,hr⟩=> ?_),fun m k hm=> ?_,fun k hk=>g.Pp k (h.Pp k hk),g.nd⟩,hgr,g.Pp,g.yx⟩
 ·rcases h.yx m k hm with h1 |h1 |h1
  ·exact absurd h1 hr
  ·exact h1
  ·omega
 ·rcases g.yx m k hm with h1 | ⟨m',h1,h2⟩ |h1
  ·exact .inl h1
  ·rcases h.yx m' k h1 with h3 |h3
   ·exact absurd h3 h2
   ·exact .inr h3
  ·exact .inr (.inr (Nat.le_trans h.wS.size h1))
end
def adu:(s:JZ)→NQ s→CV
 | ⟨_,_,_,_,some ts⟩,y=>⟨.slice (kL ts),y⟩
 |_,_=>⟨.unit,()⟩
def PM (T:dc)(v:Nat)(yh:wN T v):CV:=adu (T.sig v) (wJ _ yh)
def uZ (T:dc)(v:Nat)(xh:CS T v):AS:=⟨⟨0,[],[]⟩,[],dZ (T.sig v).args (wJ _ xh) 0,aO T v xh,EO (T.sig v),[],[]⟩
def TY (V:View)(ν:Nm→Value)(Y:Value)(i:Nat):(p:ph)→p.den→Value→Prop
 | .bx t,x,v=>v=ν (.box i)
 | .Na,_,v=>v=Y
 |p,x,v=>ArgRel V p x v
def SD (V:View)(ν:Nm→Value)(Y:Value):Nat→(ps:List ph)→HN ps→List Value→Prop
 |_,[],_,vs=>vs=[]
 |i,[p],x,vs=>∃v,vs=[v]∧TY V ν Y i p x v
 |i,p::q::ps,x,vs=>∃v r,vs=v::r∧TY V ν Y i p x.1 v∧SD V ν Y (i+1) (q::ps) x.2 r
def abk (P:Program)(T:dc)(Φ:cj T):Prop:=∀v xh yh,Φ v xh=some yh→(T.sig v).gen.isSome=true→(∃fn,P.funcs[T.real v]? =some fn∧fn.body.isSome=true∧(fn.name== "runtime.NumGoroutine")=false)∧
 ∀(E:Env) (ν:Nm→Value) (args:Array Value) (O:Nat→Prop),aI E→N1 T E→Ij P E→aah E→(∀O w,¬E.J ⟨.unit,()⟩ O w)→E.acc (PM T v yh)→St E (uZ T v xh) ⟨#[],[]⟩ E.w0 ν O→
  SD (view E (uZ T v xh) ν O E.w0) ν E.Y 0 (T.sig v).args (wJ _ xh) args.toList→Calls P (T.real v) args E.w0 fun e w'=>∃r O',e= .returned r∧E.J (PM T v yh) O' w'
section
variable {P:Program}{T:dc}{E:Env}{σ dL nv JD ah:AS}{a a':Act}{w w':World}{ν aN:Nm→Value}{O O':Nat→Prop}{Φ:cj T}{V V':View}
theorem Nl {boxes:List (Nat×BX)}:∀{ps:List ph} {aX:List I5} {x:HN ps} (i:Nat),aC boxes ps aX=some x→
  (∀c∈aX,∃b,c= .box b)∧ps.length=aX.length∧∀(j:Nat) bx,look (dZ ps x i) j=some bx→∃b t y,i≤j∧(bA aX)[j - i]? =some b∧bx= .cells (flat t y)∧ph.bx t∈ps∧look boxes b=some (.cells (flat t y))
 | [],[],x,i,h=>⟨fun c hc=>by simp at hc,rfl,fun j bx hj=>by simp[dZ,look] at hj⟩
 | [.bx t],[.box b],x,i,h=>by
   simp only[aC] at h;split at h
   ·rename_i cs hb;have:=rT h;subst this;refine⟨fun c hc=>⟨b,by simpa using hc⟩,rfl,fun j bx hj=> ?_⟩;simp only[dZ,dZ.one,look] at hj;cases hij:Nat.beq i j with
    |true=>have:=(beq_iff _ _).1 hij;subst this;rw[hij] at hj;simp only[cond_true,Option.some.injEq] at hj;exact⟨b,t,x,Nat.le_refl _,by simp[bA],hj.symm,by simp,hb⟩
    |false=>rw[hij] at hj;cases hj
   ·cases h
 | .bx t::q::ps, .box b::cs,x,i,h=>by
   simp only[aC] at h;split at h
   ·rename_i l hb;split at h
    ·rename_i x1 hx1;split at h
     ·rename_i y hy;simp only[Option.some.injEq] at h;subst h;have:=rT hx1;subst this;obtain⟨h1,h2,h3⟩:=Nl (ps:=q::ps) (i+1) hy;refine⟨fun c hc=> ?_,by simp[h2],fun j bx hj=> ?_⟩
      ·rcases List.mem_cons.1 hc with e |hc
       ·exact⟨b,e⟩
       ·exact h1 c hc
      ·simp only[dZ,dZ.one,List.cons_append,List.nil_append,look] at hj;cases hij:Nat.beq i j with
       |true=>have:=(beq_iff _ _).1 hij;subst this;rw[hij] at hj;simp only[cond_true,Option.some.injEq] at hj;exact⟨b,t,x1,Nat.le_refl _,by simp[bA],hj.symm,by simp,hb⟩
       |false=>
        rw[hij] at hj;simp only[cond_false] at hj;obtain⟨b',t',y',h4,h5,h6,h7,h8⟩:=h3 j bx hj;refine⟨b',t',y',by omega, ?_,h6,List.mem_cons_of_mem _ h7,h8⟩;have e:j - i=(j - (i+1))+1:=by omega
        rw[e];simpa [bA] using h5
     ·cases h
    ·cases h
   ·cases h
 | [.v _],_,_,_,h=>by simp[aC] at h
 | [.fn _ _],_,_,_,h=>by simp[aC] at h
 | [.c _],_,_,_,h=>by simp[aC] at h
 | [.rp _],_,_,_,h=>by simp[aC] at h
 | [.Na],_,_,_,h=>by simp[aC] at h
 | [.bx _],[],_,_,h=>by simp[aC] at h
 | [.bx _],[.qA _],_,_,h=>by simp[aC] at h
 | [.bx _], .box _::_::_,_,_,h=>by simp[aC] at h
 | [.bx _], .qA _::_::_,_,_,h=>by simp[aC] at h
 | .v _::_::_,_,_,_,h=>by simp[aC] at h
 | .fn _ _::_::_,_,_,_,h=>by simp[aC] at h
 | .c _::_::_,_,_,_,h=>by simp[aC] at h
 | .rp _::_::_,_,_,_,h=>by simp[aC] at h
 | .Na::_::_,_,_,_,h=>by simp[aC] at h
 | .bx _::_::_,[],_,_,h=>by simp[aC] at h
 | .bx _::_::_, .qA _::_,_,_,h=>by simp[aC] at h
 | [],_::_,_,_,h=>by simp[aC] at h
end
section
variable {P:Program}{T:dc}{E:Env}{σ dL nv JD ah:AS}{a a':Act}{w w':World}{ν aN:Nm→Value}{O O':Nat→Prop}{Φ:cj T}{V V':View}
theorem St.amf (hE:aI E)(hJ:E.J=lj)(h:St E σ a w ν O)(d:Nat):St E (σ.eV d) a w ν (fun k=>O k∨Own σ ν (.box d) k):=by
 have hne:∀k,k≠d→look (σ.eV d).boxes k=look σ.boxes k:=fun k hk=>by rw[pq,if_neg (Ne.symm hk)]
 have hd:look (σ.eV d).boxes d=none:=by rw[pq,if_pos rfl]
 have hob:∀m o,(σ.eV d).obj m=some o→σ.obj m=some o∧m≠ .box d:=fun m o ho=>by
  cases m with
  |row r=>exact⟨ho,fun e=>by cases e⟩
  |box b=>
   by_cases e:b=d
   ·subst e;simp only[AS.obj,hd] at ho;cases ho
   ·simp only[AS.obj,hne b e] at ho ⊢;exact⟨ho,fun e'=>e (by injection e')⟩
  |hp i n=>exact⟨ho,fun e=>by cases e⟩
 have hown:∀m k,Own (σ.eV d) ν m k→Own σ ν m k∧m≠ .box d:=fun m k ⟨h1,h2⟩=>by obtain⟨o,ho⟩:=Option.isSome_iff_exists.1 h1;obtain⟨h3,h4⟩:=hob m o ho;exact⟨⟨br h3,h2⟩,h4⟩
 have hV:∀key u,view E σ ν O w key u→view E (σ.eV d) ν (fun k=>O k∨Own σ ν (.box d) k) w key u:=fun key u hu=>GF (σ:=σ) (ah:=σ.eV d) (Grow.refl (fun _=>False) w) (HSub.of_eq rfl (fun _ _=>rfl)) (fun k h1 h2 h3 h4=>⟨fun⟨m,hm⟩=>h3 ⟨m,(hown m k hm).1⟩,fun h5=>by
  rcases h5 with h5 |h5
  ·exact h4 h5
  ·exact h3 ⟨_,h5⟩,fun h5=>h5⟩) hu
 have hcell:∀r ds,w.heap[r]? =some (.deferred ds)→¬Own σ ν (.box d) r:=fun r ds h1 h2=>by obtain⟨cur,e,h3⟩:=h.Rl h2;rw[h3] at h1;cases h1
 have htr:σ.trace=⟨.unit,()⟩:=by have:=h.out.1;rw[hJ] at this;exact this
 refine⟨h.keep,fun d' Z9=> ?_,LP (fun x v hx=> ?_) h.slots,fun m o ho=> ?_,fun m m' k h1 h2=>h.inj m m' k (hown _ _ h1).1 (hown _ _ h2).1,fun m k hm=> ?_,fun r k hk=>h.new r k (hown _ _ hk).1,⟨?_,fun k hk=> ?_⟩,h.nn,h.ro,h.kept,fun r hr=> ?_,h.wS,fun m k hm=>h.yx m k (hown _ _ hm).1,fun k hk=> .inl (h.Pp k hk),h.nd⟩
 ·obtain⟨r,h1,h2,h3,h4⟩:=h.marks d' Z9;exact⟨r,h1,h2,h3,fun h5=>h5.elim h4 (hcell r _ h3)⟩
 ·unfold AV.eV;cases hk:x.mP d with
  |true=>trivial
  |false=>exact ak.keep (σ:=σ) (ah:=σ.eV d) hV (HSub.of_eq rfl (fun _ _=>rfl)) x v (fun _ _ row hrow=>⟨rfl,row,hrow,rfl⟩) (fun b hb hs=>⟨rfl,by rw[hne b (fun e=>by rw[e,hk] at hb;cases hb)];exact hs⟩) hx
 ·exact(h.CF m o (hob m o ho).1).mono hV (fun k hk=>rfl) (fun r _ hr=>⟨rfl,hr⟩)
 ·obtain⟨h1,h2⟩:=hown m k hm;obtain⟨h3,h4,h5⟩:=h.Aw m k h1;exact⟨h3,h4,fun h6=>h6.elim h5 (fun h7=>h2 (h.inj _ _ k h1 h7))⟩
 ·show E.J σ.trace _ w;rw[hJ];exact htr
 ·rcases hk with h5 |h5
  ·exact h.out.2 k h5
  ·obtain⟨h3,h4,_⟩:=h.Aw _ k h5;refine⟨h4,fun h6=> ?_⟩;rcases h3 with h3 |h3 |h3
   ·omega
   ·exact h3
   ·exact absurd h3 NW
 ·obtain⟨h1,h2⟩:=h.waits r hr;exact⟨h1,fun h5=>h5.elim h2 (hcell r _ h1)⟩
theorem St.ajq (hE:aI E)(hJ:E.J=lj):∀(bs:List Nat) (σ:AS) (O:Nat→Prop),St E σ a w ν O→∃O',St E (σ.kM bs) a w ν O'∧(∀k,O k→O' k)∧(∀b∈bs,∀k,Own σ ν (.box b) k→O' k)∧∀k,O' k→O k∨∃b∈bs,Own σ ν (.box b) k
 | [],σ,O,h=>⟨O,h,fun _ h=>h,fun b hb=>by simp at hb,fun _ h=> .inl h⟩
 |d::bs,σ,O,h=>by
  obtain⟨O',h1,h2,h3,h4⟩:=St.ajq hE hJ bs _ _ (h.amf hE hJ d);have hown:∀b k,b≠d→Own σ ν (.box b) k→Own (σ.eV d) ν (.box b) k:=fun b k hb ⟨e1,e2⟩=>⟨by simp only[AS.obj,pq,if_neg (Ne.symm hb)];exact e1,e2⟩
  have aqM:∀b k,Own (σ.eV d) ν (.box b) k→Own σ ν (.box b) k:=fun b k ⟨e1,e2⟩=>⟨by
   simp only[AS.obj,pq,Option.isSome_map] at e1 ⊢;split at e1
   ·cases e1
   ·exact e1,e2⟩
  refine⟨O',h1,fun k hk=>h2 k (.inl hk),fun b hb k hk=> ?_,fun k hk=> ?_⟩
  ·by_cases e:b=d
   ·subst e;exact h2 k (.inr hk)
   ·exact h3 b ((List.mem_cons.1 hb).resolve_left e) k (hown b k e hk)
  ·rcases h4 k hk with (h5 |h5) | ⟨b,hb,h5⟩
   ·exact .inl h5
   ·exact .inr ⟨d,by simp,h5⟩
   ·exact .inr ⟨b,by simp[hb],aqM b k h5⟩
end
section
variable {P:Program}{T:dc}{E:Env}{σ dL nv JD ah:AS}{a a':Act}{w w':World}{ν aN:Nm→Value}{O O':Nat→Prop}{Φ:cj T}{V V':View}
theorem SE {α:Type}:∀{l m:List (Nat×α)} {i:Nat} {x:α},look (l++m) i=some x→look l i=some x∨look m i=some x
 | [],m,i,x,h=> .inr h
 | (k,u)::l,m,i,x,h=>by
   simp only[List.cons_append,look] at h ⊢;cases hb:Nat.beq k i with
   |true=>rw[hb] at h;exact .inl h
   |false=>rw[hb] at h;exact SE h
theorem U2 {α:Type}(c:Nat):∀{l:List (Nat×α)} {i:Nat} {x:α},look (l.map fun p=>(p.1+c,p.2)) i=some x→∃t,i=t+c∧look l t=some x
 | [],i,x,h=>by cases h
 | (k,u)::l,i,x,h=>by
   simp only[List.map_cons,look] at h;cases hb:Nat.beq (k+c) i with
   |true=>have:=(beq_iff _ _).1 hb;subst this;rw[hb] at h;exact⟨k,rfl,by simp only[look,beq_refl];exact h⟩
   |false=>rw[hb] at h;obtain⟨t,h1,h2⟩:=U2 c (l:=l) h;refine⟨t,h1, ?_⟩;simp only[look];rw[ny (fun e=>(tB.1 hb) (by rw[e,h1]))];exact h2
theorem PN {α:Type}(c:Nat):∀{l:List (Nat×α)} {i:Nat} {x:α},(∀p∈l,c≤p.1)→look (l.map fun p=>(p.1 - c,p.2)) i=some x→look l (i+c)=some x
 | [],i,x,_,h=>by cases h
 | (k,u)::l,i,x,hc,h=>by
   have hk:=hc (k,u) (by simp);simp only at hk;simp only[List.map_cons,look] at h ⊢;by_cases e:k=i+c
   ·subst e;have:i+c - c=i:=by omega
    rw[this,beq_refl] at h;rw[beq_refl];exact h
   ·rw[ny (fun e'=>e (by omega))] at h;rw[ny e];exact PN c (fun p hp=>hc p (by simp[hp])) h
def Env.jQ (E:Env)(a:Act)(mk:Nat):Env:={E with XS:=fun i=>if i<1000000000 then a.tmps.toList.getD (i - 10000) undef else E.XS i,M:=fun r=>E.M r∨r=mk∨(⟨.collected r, #[]⟩:Deferred)∈a.defers}
theorem abl {a:Act}{mk i t:Nat}(h:i<1000000000)(ht:i - 10000=t):(E.jQ a mk).XS i=a.tmps.toList.getD t undef:=by subst ht;exact if_pos h
theorem U3 {a:Act}{mk i:Nat}(h:1000000000≤i):(E.jQ a mk).XS i=E.XS i:=if_neg (Nat.not_lt.2 h)
theorem aI.jQ (hE:aI E)(a:Act)(mk:Nat):aI (E.jQ a mk):=⟨hE.cell,hE.stay⟩
theorem N1.jQ (hG:N1 T E)(a:Act)(mk:Nat):N1 T (E.jQ a mk):=by refine⟨fun g=> ?_,hG.2⟩;rw[U3 (by unfold gk;omega)];exact hG.1 g
theorem St.saved (h:St E σ a w ν O)(hok:y9 σ=true){mk:Nat}(hmk:w.heap[mk]? =some (.deferred (some []))∧¬O mk)(g:Rng):St (E.jQ a mk) ({σ with cR:=[g]}:AS).save ⟨a.tmps,[]⟩ w ν O:=by
 simp only[y9,Bool.and_eq_true,List.all_eq_true] at hok;have TS:∀x v,ak (view E σ ν O w) σ ν E.Y x v→ak (view E σ ν O w) ({σ with cR:=[g]}:AS).save ν E.Y x v:=fun x v hx=>
  ak.mono (σ:=σ) (ah:=({σ with cR:=[g]}:AS).save) (fun _ _ h=>h) ⟨HSub.of_eq rfl (fun _ _=>rfl),fun r row hr=>⟨rfl,row,hr,rfl⟩,fun b hb=>⟨rfl,hb⟩⟩ x v hx
 refine⟨h.keep,(fun d hd=>by cases hd),⟨h.slots.1,fun i x hx=>TS _ _ (h.slots.2.1 i x hx),fun i x hx=> ?_⟩,fun m o ho=> ?_, ?_, ?_, ?_,h.out,h.nn,h.ro,h.kept,fun r hr=> ?_,h.wS, ?_,h.Pp,List.nodup_nil⟩
 ·have hx':look ((σ.tmps.l.map fun p=>(p.1+10000*1,p.2))++σ.tmps.s) i=some x:=hx;rcases SE hx' with h1 |h1
  ·obtain⟨t,rfl,h2⟩:=U2 (10000*1) h1;have h3:=hok.1 _ (Av h2);rw[uO] at h3;have h4:(E.jQ a mk).XS (t+10000*1)=a.tmps.toList.getD t undef:=abl (by simp only at h3;omega) (by omega);rw[h4];exact TS _ _ (h.slots.2.1 t x h2)
  ·have h3:=hok.2 _ (Av h1);rw[Nat.ble_eq] at h3;have h4:(E.jQ a mk).XS i=E.XS i:=U3 h3;rw[h4];exact TS _ _ (h.slots.2.2 i x h1)
 ·have ho':σ.obj m=some o:=by cases m<;>exact ho
  exact(h.CF m o ho').mono (fun _ _ h=>h) (fun _ _=>rfl) (fun r _ hr=>⟨rfl,hr⟩)
 ·intro m m' k h1 h2;exact h.inj m m' k (by cases m<;>exact h1) (by cases m'<;>exact h2)
 ·intro m k hm;exact h.Aw m k (by cases m<;>exact hm)
 ·intro m k hk;exact h.new m k (by cases m<;>exact hk)
 ·rcases hr with h1 |rfl |h1
  ·exact h.waits r h1
  ·exact hmk
  ·obtain⟨r',h2,h3,h4,h5⟩:=h.marks _ h1;injection h2 with h2
   injection h2 with h2
   subst h2;exact⟨h4,h5⟩
 ·intro m k hm;exact h.yx m k (by cases m<;>exact hm)
theorem St.amg {mk:Nat}(h:St (E.jQ a mk) σ ⟨a.tmps,[]⟩ w ν O)(hks:∀i x,look σ.CT.tmps.s i=some x→1000000000≤i)(hmk:E.w0.heap.size≤mk)(hdf:∀d∈a.defers,∃r,d=⟨.collected r, #[]⟩∧E.w0.heap.size≤r)(hnd:([{target:= .collected mk,args:= #[]}]++a.defers:List Deferred).Nodup):
  St E ({σ.CT with cR:=σ.cR.tail}:AS) ⟨a.tmps,[{target:= .collected mk,args:= #[]}]++a.defers⟩ w ν O:=by
 have TS:∀x v,ak (view E σ ν O w) σ ν E.Y x v→ak (view E σ ν O w) ({σ.CT with cR:=σ.cR.tail}:AS) ν E.Y x v:=fun x v hx=>
  ak.mono (σ:=σ) (ah:=({σ.CT with cR:=σ.cR.tail}:AS)) (fun _ _ h=>h) ⟨HSub.of_eq rfl (fun _ _=>rfl),fun r row hr=>⟨rfl,row,hr,rfl⟩,fun b hb=>⟨rfl,hb⟩⟩ x v hx
 refine⟨h.keep,fun d hd=> ?_,⟨h.slots.1,fun i x hx=>TS _ _ (h.slots.2.1 i x hx),fun i x hx=> ?_⟩,fun m o ho=> ?_, ?_, ?_, ?_,h.out,h.nn,h.ro,h.kept,fun r hr=>h.waits r (.inl hr),h.wS, ?_,h.Pp,hnd⟩
 ·rcases List.mem_append.1 hd with h1 |h1
  ·simp only[List.mem_singleton] at h1;subst h1;obtain⟨h2,h3⟩:=h.waits mk (.inr (.inl rfl));exact⟨mk,rfl,hmk,h2,h3⟩
  ·obtain⟨r,rfl,h2⟩:=hdf d h1;obtain⟨h3,h4⟩:=h.waits r (.inr (.inr h1));exact⟨r,rfl,h2,h3,h4⟩
 ·have hx':look σ.CT.tmps.s i=some x:=hx;have h1:=hks i x hx';have h2:look σ.tmps.s i=some x:=by
   unfold AS.CT at hx';rw[Au σ.tmps.s (fun k=> !(lN σ.cR.length k)) i] at hx';split at hx'
   ·exact hx'
   ·cases hx'
  have h3:=h.slots.2.2 i x h2;have h4:(E.jQ a mk).XS i=E.XS i:=U3 h1;rw[h4] at h3;exact TS _ _ h3
 ·have ho':σ.obj m=some o:=by cases m<;>exact ho
  exact(h.CF m o ho').mono (fun _ _ h=>h) (fun _ _=>rfl) (fun r _ hr=>⟨rfl,hr⟩)
 ·intro m m' k h1 h2;exact h.inj m m' k (by cases m<;>exact h1) (by cases m'<;>exact h2)
 ·intro m k hm;exact h.Aw m k (by cases m<;>exact hm)
 ·intro m k hk;exact h.new m k (by cases m<;>exact hk)
 ·intro m k hm;exact h.yx m k (by cases m<;>exact hm)
theorem St.aoy {E':Env}{a0:Act}{mk:Nat}(hXS:E'.XS=(E.jQ a0 mk).XS)(hn:a0.tmps.size=σ.tmps.n)(hr:∃g,σ.cR=[g])(h:St E' σ a w ν O):St E' σ.back ⟨a0.tmps,[]⟩ w ν O:=by
 have TS:∀x v,ak (view E' σ ν O w) σ ν E'.Y x v→ak (view E' σ ν O w) σ.back ν E'.Y x v:=fun x v hx=>
  ak.mono (σ:=σ) (ah:=σ.back) (fun _ _ h=>h) ⟨HSub.of_eq rfl (fun _ _=>rfl),fun r row hr=>⟨rfl,row,hr,rfl⟩,fun b hb=>⟨rfl,hb⟩⟩ x v hx
 obtain⟨g,hg⟩:=hr;refine⟨h.keep,(fun d hd=>by cases hd),⟨(show σ.tmps.n=a0.tmps.toList.length by simpa using hn.symm),fun i x hx=> ?_,fun i x hx=>TS _ _ (h.slots.2.2 i x hx)⟩,fun m o ho=> ?_, ?_, ?_, ?_,h.out,h.nn,h.ro,h.kept,h.waits,h.wS, ?_,h.Pp,List.nodup_nil⟩
 ·have hx':look ((σ.tmps.s.filter fun p=>lN σ.cR.length p.1).map fun p=>(p.1 - 10000*σ.cR.length,p.2)) i=some x:=hx;rw[hg] at hx';have h1:=PN (10000*1) (fun p hp=>by
   have:=(List.mem_filter.1 hp).2;simp only[lN,Bool.and_eq_true,Nat.ble_eq] at this;exact this.1) hx'
  rw[Au σ.tmps.s (fun k=>lN [g].length k) (i+10000*1)] at h1;split at h1
  ·rename_i hd;have h2:=h.slots.2.2 _ x h1;simp only[lN,Bool.and_eq_true,uO,List.length_singleton] at hd;have h4:E'.XS (i+10000*1)=a0.tmps.toList.getD i undef:=by rw[hXS];exact abl (by omega) (by omega)
   rw[h4] at h2;exact TS _ _ h2
  ·cases h1
 ·have ho':σ.obj m=some o:=by cases m<;>exact ho
  exact(h.CF m o ho').mono (fun _ _ h=>h) (fun _ _=>rfl) (fun r _ hr=>⟨rfl,hr⟩)
 ·intro m m' k h1 h2;exact h.inj m m' k (by cases m<;>exact h1) (by cases m'<;>exact h2)
 ·intro m k hm;exact h.Aw m k (by cases m<;>exact hm)
 ·intro m k hk;exact h.new m k (by cases m<;>exact hk)
 ·intro m k hm;exact h.yx m k (by cases m<;>exact hm)
end
structure RgD (T:dc) (Φ:cj T) (R:Type) where
 E:Env
 a:Act
 mb:Nat
 l:Nat
 wW:Loop
 ts:List Ty
 ys:List (kL ts).den
 QS:AS
 hd:List (Nat×Bool)
 RB:AS→(Ex→AS→Option R)→Option R
 k:Ex→AS→Option R
 r:R
 w2:World
 Xg:Nat→Prop
 Bx:Nat→Prop
section
variable {P:Program}{T:dc}{Φ:cj T}{R:Type}
def RgD.len (D:RgD T Φ R)(k:Nat):Prop:=D.Bx k∨D.w2.heap.size≤k
structure aqN (D:RgD T Φ R) (xs rest:List (kL D.ts).den) (Og:Nat→Prop) (w:World) (dL:AS) (ν1:Nm→Value) (Oc:Nat→Prop) (m:Nat):Prop where
 ys:D.ys=xs++rest
 cR:dL.cR=[⟨D.ts,rest⟩]
 loop:mQ D.hd D.RB (gF D.k) m dL=some D.r
 fr:FrX D.QS dL
 st:St (D.E.jQ D.a D.mb) dL ⟨D.a.tmps,[]⟩ w ν1 Oc
 abm:w.heap[D.l]? =some (Go.Obj.loop D.wW)
 ol:Og D.l
 cl:Oc D.l
 own:∀m k,Own dL ν1 m k→¬D.E.yq m→Og k
 cover:∀k,k<w.heap.size→(D.w2.heap.size≤k∨D.Xg k)→Og k∨(Oc k∧D.len k)
 size:D.w2.heap.size≤w.heap.size
 ogl:∀k,Og k→k<w.heap.size
def JG (D:RgD T Φ R):CV→(Nat→Prop)→World→Prop:=fun tr Og w=>∃xs rest dL ν1 Oc m,tr=⟨.slice (kL D.ts),xs⟩∧aqN D xs rest Og w dL ν1 Oc m
theorem JG.stay {D:RgD T Φ R}(hE:aI D.E)(hJ:D.E.J=lj)(hlen:∀k,D.len k→D.E.CB k∨D.E.base.heap.size≤k){tr:CV}{Og:Nat→Prop}{w w':World}{C:Nat→Prop}(h:JG D tr Og w)(hg:Grow C w w')
  (hC:∀k,C k→¬Og k∧(k<D.w2.heap.size→D.Xg k)):JG D tr Og w':=by
 obtain⟨xs,rest,dL,ν1,Oc,m,rfl,j⟩:=h;have hCl:∀k,k<w.heap.size→C k→Oc k∧D.len k:=fun k hk hc=>by
  obtain⟨h1,h2⟩:=hC k hc;by_cases h3:D.w2.heap.size≤k
  ·exact(j.cover k hk (.inl h3)).resolve_left h1
  ·exact(j.cover k hk (.inr (h2 (by omega)))).resolve_left h1
 have hg':Grow (fun k=>Oc k∧D.len k) w w':=hg.mono hCl;refine⟨xs,rest,dL,ν1,fun k=>Oc k∨(w.heap.size≤k∧k<w'.heap.size),m,rfl,j.ys,j.cR,j.loop,j.fr, ?_, ?_,j.ol, .inl j.cl,j.own,fun k hk hx=> ?_,Nat.le_trans j.size hg.size,fun k hk=>Nat.lt_of_lt_of_le (j.ogl k hk) hg.size⟩
 ·exact j.st.al0 (hE.jQ D.a D.mb) hJ hg' (fun k hk=>⟨hk.1,hlen k hk.2⟩) (fun k hk=> .inl hk) (fun k hk=>hk)
 ·rw[hg.block D.l (Array.getElem?_eq_some_iff.1 j.abm).1 (fun hc=>(hC _ hc).1 j.ol)];exact j.abm
 ·by_cases hlt:k<w.heap.size
  ·exact(j.cover k hlt hx).imp id (fun h=>⟨.inl h.1,h.2⟩)
  ·exact .inr ⟨.inr ⟨by omega,hk⟩, .inr (Nat.le_trans j.size (by omega))⟩
end
section
variable {V:View}{σ:AS}{ν:Nm→Value}{Y:Value}
theorem L8 {t:Ty}{x:t.den}{v:Value}(h:yr V t x v):ak V σ ν Y (aiu t x) v:=by
 cases t with
 |st t=>obtain⟨cs,h1,h2⟩:=h;exact⟨cs,h1,jK h2⟩
 |_=>exact h
theorem XM {X:Nat→Value}:∀{ps:List Tmp} {ts:List Ty} {s s':gh} {x:(kL ts).den} {vs ys:List Value},I8 s ps ts x=some s'→JC (ak V σ ν Y) s ys X→WE V (kL ts) x vs→
  vs.length=ps.length∧JC (ak V σ ν Y) s' ((ps.zip vs).foldl (fun l p=>l.set p.1 p.2) ys) X
 | [],[],s,s',x,vs,ys,h,hs,hy=>by simp only[I8,Option.some.injEq] at h;subst h;have:vs=[]:=hy;subst this;exact⟨rfl,hs⟩
 |p::ps,t::ts,s,s',x,vs,ys,h,hs,hy=>by simp only[I8] at h;obtain⟨v,r,rfl,h1,h2⟩:=hy;obtain⟨h3,h4⟩:=XM h (aat hs (L8 h1)) h2;exact⟨by simp[h3],by simpa using h4⟩
 | [],_::_,_,_,_,_,_,h,_,_=>by simp[I8] at h
 |_::_,[],_,_,_,_,_,h,_,_=>by simp[I8] at h
theorem agB (tmps:Array Value)(ps:Array Tmp)(vs:Array Value):((ps.zip vs).foldl (fun tmps (p:Tmp×Value)=>tmps.setIfInBounds p.1 p.2) tmps).toList=(ps.toList.zip vs.toList).foldl (fun l p=>l.set p.1 p.2) tmps.toList:=by
 rw[←Array.foldl_toList,Array.toList_zip];generalize ps.toList.zip vs.toList=l;induction l generalizing tmps with
 |nil=>rfl
 |cons p l ih=>simp only[List.foldl_cons];rw[ih];simp
end
section
variable {P:Program}{T:dc}{Φ:cj T}{R:Type}{E:Env}{σ ah:AS}{a a':Act}{w w':World}{ν aN:Nm→Value}{O O':Nat→Prop}
theorem Ctx.jQ (C:Ctx P T Φ E)(hJ:E.J=lj)(a:Act)(mb:Nat):Ctx P T Φ (E.jQ a mb):=
 ⟨C.env.jQ a mb,C.Tu.jQ a mb,C.tab,C.hps,C.eqs,C.sigs,C.fns,C.num,F2 hJ,fun _ _ _=>hJ⟩
theorem Ctx.zl (C:Ctx P T Φ E)(hJ:E.J=lj):Ctx P T Φ (E.zl σ ν O w):=
 ⟨C.env.zl,C.Tu,C.tab,C.hps,C.eqs,C.sigs,C.fns,C.num,F2 hJ,fun _ _ _=>hJ⟩
theorem N2 {t:CV}(h:qv ⟨.unit,()⟩ t):t=⟨.unit,()⟩:=by
 rcases h with h | ⟨t',xs,ys,e,_⟩
 ·exact h
 ·injection e with e;cases e
theorem St.Y6 (hE:aI E)(hJ:E.J=lj)(h:St E σ a w ν O){l:Nat}{r:Loop}(hl:w.heap[l]? =some (.loop r))(hO:O l)(hc:E.CB l∨E.base.heap.size≤l)(r':Loop):St E σ a (w.putObj l (.loop r')) ν O∧(w.putObj l (.loop r')).heap[l]? =some (.loop r')∧(w.putObj l (.loop r')).heap.size=w.heap.size:=by
 have hlt:=(Array.getElem?_eq_some_iff.1 hl).1;have hsz:(w.putObj l (.loop r')).heap.size=w.heap.size:=by simp[World.putObj]
 refine⟨h.al0 hE hJ (C:=fun k=>k=l) ⟨rfl,rfl,rfl,by rw[hsz];exact Nat.le_refl _,fun k hk hn=> ?_⟩ (fun k e=>by subst e;exact⟨hO,hc⟩) (fun k hk=>hk) (fun k hk=> .inl hk), ?_,hsz⟩
 ·simp only[World.putObj];rw[Array.getElem?_setIfInBounds_ne (fun e=>hn e.symm)]
 ·simp only[World.putObj];rw[Array.getElem?_setIfInBounds_self_of_lt hlt]
end
section
variable {P:Program}{T:dc}{Φ:cj T}{R:Type}
theorem Kr {w:World}{l:Nat}{o:Go.Obj}:Grow (fun k=>k=l) w (w.putObj l o):=
 ⟨rfl,rfl,rfl,by simp[World.putObj],fun k hk hn=>by
  simp only[World.putObj];rw[Array.getElem?_setIfInBounds_ne (fun e=>hn e.symm)]⟩
structure Sh (σ ah:AS):Prop where
 rows:∀r,(look ah.rows r).isSome=true→(look σ.rows r).isSome=true
 boxes:∀r,(look ah.boxes r).isSome=true→(look σ.boxes r).isSome=true
 af:ah.af=σ.af
theorem Sh.refl (σ:AS):Sh σ σ:=⟨fun _ h=>h,fun _ h=>h,rfl⟩
theorem Sh.trans {a b c:AS}(h:Sh a b)(g:Sh b c):Sh a c:=⟨fun r hr=>h.rows r (g.rows r hr),fun r hr=>h.boxes r (g.boxes r hr),g.af.trans h.af⟩
theorem Sh.own {σ ah:AS}{ν:Nm→Value}{m:Nm}{k:Nat}(h:Sh σ ah)(hm:Own ah ν m k):Own σ ν m k:=by
 refine⟨?_,hm.2⟩;have h1:=hm.1;cases m with
 |row r=>simp only[AS.obj,Option.isSome_map] at h1 ⊢;exact h.rows r h1
 |box r=>simp only[AS.obj,Option.isSome_map] at h1 ⊢;exact h.boxes r h1
 |hp i n=>simp only[AS.obj,h.af] at h1 ⊢;exact h1
theorem aoz {σ:AS}(x:Operand):Sh σ (σ.frz x):=by
 unfold AS.frz;split
 ·refine⟨fun k hk=> ?_,fun k hk=>by rw[PA] at hk;exact hk,by unfold AS.freeze;split<;>rfl⟩;rw[ET] at hk;split at hk
  ·cases hk
  ·exact hk
 ·exact Sh.refl _
theorem U4:∀(hs:List (Nat×Bool)) (σ:AS),Sh σ (σ.share hs)
 | [],σ=>Sh.refl _
 | (j,true)::h,σ=>(aoz _).trans (U4 h _)
 | (j,false)::h,σ=>U4 h σ
theorem CI {α:Type}:∀{l:List (Nat×α)} {p:Nat×α→Bool} {i:Nat},(look (l.filter p) i).isSome=true→(look l i).isSome=true
 | [],p,i,h=>by cases h
 | (k,u)::l,p,i,h=>by
   simp only[look];cases hb:Nat.beq k i with
   |true=>rfl
   |false=>
    simp only[List.filter_cons] at h;split at h
    ·simp only[look,hb,cond_false] at h;exact CI h
    ·exact CI h
theorem XN (hs:List (Nat×Bool))(σ:AS):Sh σ (σ.forget hs):=by refine(U4 hs σ).trans ?_;unfold AS.forget;exact⟨fun r hr=>CI hr,fun r hr=>CI hr,rfl⟩
theorem JG.round {D:RgD T Φ R}{n:Nat}{Tl body:Code}{ps:Array Tmp}{fn:FuncId}{hs1 hs2:List (List (Nat×Bool))}(hRB:D.RB=jN ps.toList (fun σ k'=>aM T Φ n Tl hs1 σ k') (fun σ k'=>aM T Φ n body hs2 σ k'))
  (Y7:D.wW={state:= .ready,pending:=none,fn,tmps:=D.a.tmps,params:=ps,assign:=Tl,body,defers:=D.mb}) (C:Ctx P T Φ D.E) (hD:aah D.E) (hJ:D.E.J=lj) (hacc:D.E.acc ⟨.unit,()⟩) (hlen:∀k,D.len k→D.E.CB k∨D.E.base.heap.size≤k)
  (Sx:Sound P T Φ n Tl) (Sy:Sound P T Φ n body) (hn:D.a.tmps.size=D.QS.tmps.n) {xs rest:List (kL D.ts).den} {x:(kL D.ts).den} {Og Oc:Nat→Prop} {w:World} {dL:AS} {ν1:Nm→Value} {m:Nat} (j:aqN D xs (x::rest) Og w dL ν1 Oc m) (hlB:D.len D.l)
  {vs:List Value} (hv:∀V,WE V (kL D.ts) x vs) (rr:Option Nat):
  ∃tmps,(Instr.yield D.l vs.toArray).run P w= .ok (.round D.l fn tmps Tl body) w∧RoundIn (FW rr) 0 P D.l fn tmps Tl body w fun e w'=>e= .returned (.bool true)∧∃O',JG D ⟨.slice (kL D.ts),xs++[x]⟩ O' w'∧Grow Og w w'∧(∀k,Og k→O' k)∧∀k,O' k→Og k∨(w.heap.size≤k∧k<w'.heap.size):=by
 have hl:=j.loop;cases m with
 |zero=>cases hl
 |succ m=>
  simp only[mQ] at hl;rw[hRB] at hl;unfold jN at hl;rw[j.cR] at hl;dsimp only at hl;split at hl
  ·rename_i s hs;have aoB:dL.trace=⟨.unit,()⟩:=by have:=j.st.out.1;rw[show (D.E.jQ D.a D.mb).J=lj from hJ] at this;exact this
   obtain⟨h1,h2⟩:=XM hs j.st.slots (hv _);have hsz:vs.toArray.size=D.wW.params.size:=by rw[Y7];simpa using h1
   have hy:=run_yield (P:=P) j.abm hsz;rw[Y7] at hy;refine⟨_,hy, ?_⟩
   -- C7 assignments
   have aoC:St (D.E.jQ D.a D.mb) {dL with tmps:=s,cR:=[⟨D.ts,rest⟩]} ⟨(ps.zip vs.toArray).foldl (fun tmps (t,a)=>tmps.setIfInBounds t a) D.a.tmps,[]⟩ w ν1 Oc:=by refine j.st.ac1 (ah:={dL with tmps:=s,cR:=[⟨D.ts,rest⟩]}) (a':=⟨(ps.zip vs.toArray).foldl (fun tmps (t,a)=>tmps.setIfInBounds t a) D.a.tmps,[]⟩) ⟨rfl,rfl,rfl,rfl⟩ rfl ?_;rw[show ((ps.zip vs.toArray).foldl (fun tmps (t,a)=>tmps.setIfInBounds t a) D.a.tmps).toList=_ from agB D.a.tmps ps vs.toArray];exact h2
   have hk1:∀e ah,(match e with
     |Ex.normal=>aM T Φ n body hs2 ah fun e nv=>match e with
      | .normal=>mQ D.hd D.RB (gF D.k) m (nv.back.forget D.hd)
      |_=>none
     |_=>none)=some D.r→Fr {dL with tmps:=s,cR:=[⟨D.ts,rest⟩]} ah→D.E.acc ah.trace:=fun e ah _ hf=>by
    have:=hf.tr;rw[show ({dL with tmps:=s,cR:=[⟨D.ts,rest⟩]}:AS).trace=dL.trace from rfl,aoB] at this;rw[N2 this];exact hacc
   have hDr:∀(σ:AS) (ν:Nm→Value) (O:Nat→Prop) (w:World),aah ((D.E.jQ D.a D.mb).zl σ ν O w):=fun _ _ _ _=>hD;have hCr:∀(σ:AS) (ν:Nm→Value) (O:Nat→Prop) (w:World),Ctx P T Φ ((D.E.jQ D.a D.mb).zl σ ν O w):=fun _ _ _ _=>(C.jQ hJ D.a D.mb).zl hJ;have af6:∀m,(D.E.jQ D.a D.mb).yq m↔D.E.yq m:=fun m=>Iff.rfl;refine roundIn_of_wpIn trivial ?_;refine wpIn_mono (Sx _ (hCr _ _ _ _) (hDr _ _ _ _) (some D.l) hs1 _ _ _ w _ _ hl aoC.zl (fun _=>by simp) (fun e ah h3 h4=> ?_)) (fun e a1 w1 hp=> ?_)
   ·have:=h4.tr;rw[show ({dL with tmps:=s,cR:=[⟨D.ts,rest⟩]}:AS).trace=dL.trace from rfl,aoB] at this;show D.E.acc ah.trace;rw[N2 this];exact hacc
   ·cases e with
    |normal=>
     obtain⟨nv,h3,h4,ν2,O2,h5⟩:=hp;dsimp only at h3;obtain⟨u1,u2,u3,u4⟩:=aoC.ajp h5;have hnl:∀{σ:AS} {ν:Nm→Value} {O:Nat→Prop} {a:Act} {w:World} {r:Loop},St (D.E.jQ D.a D.mb) σ a w ν O→w.heap[D.l]? =some (Go.Obj.loop r)→¬∃m,Own σ ν m D.l∧¬(D.E.jQ D.a D.mb).yq m:=fun hst hr ⟨m,hm,_⟩=>by obtain⟨cur,e,hc⟩:=hst.Rl hm;rw[hc] at hr;cases hr
     have Pe:w1.heap[D.l]? =some (Go.Obj.loop D.wW):=by rw[u2.block D.l (Array.getElem?_eq_some_iff.1 j.abm).1 (hnl aoC j.abm)];exact j.abm
     have atk:D.wW.state= .ready:=by rw[Y7]
     have hOl:O2 D.l:=u3 _ j.cl;obtain⟨p1,p2,p3⟩:=St.Y6 (E:=D.E.jQ D.a D.mb) (C.env.jQ D.a D.mb) hJ u1 Pe hOl (hlen _ hlB) {D.wW with state:= .busy};refine⟨_,run_beginRound Pe atk, ?_⟩;refine wpIn_mono (Sy _ (hCr _ _ _ _) (hDr _ _ _ _) (some D.l) hs2 _ _ _ _ _ _ h3 p1.zl (fun _=>by rw[h4.cR];simp) (fun e ah h6 h7=> ?_)) (fun e a2 w2 hp2=> ?_)
     ·have:=(h4.trans h7).tr;rw[show ({dL with tmps:=s,cR:=[⟨D.ts,rest⟩]}:AS).trace=dL.trace from rfl,aoB] at this;show D.E.acc ah.trace;rw[N2 this];exact hacc
     ·cases e with
      |normal=>
       obtain⟨σ3,h6,h7,ν3,O3,h8⟩:=hp2;dsimp only at h6;obtain⟨v1,v2,v3,v4⟩:=p1.ajp h8;have Ja:w2.heap[D.l]? =some (Go.Obj.loop {D.wW with state:= .busy}):=by rw[v2.block D.l (Array.getElem?_eq_some_iff.1 p2).1 (hnl p1 p2)];exact p2
       obtain⟨q1,q2,q3⟩:=St.Y6 (E:=D.E.jQ D.a D.mb) (C.env.jQ D.a D.mb) hJ v1 Ja (v3 _ hOl) (hlen _ hlB) {({D.wW with state:= .busy}:Loop) with state:=if (none:Option Code).isNone then .ready else .done,pending:=none};refine⟨_,_,run_endRound none Ja,rfl, ?_⟩;have g1:Grow Og w w1:=u2.mono (fun k _ ⟨m,hm,hr⟩=>j.own m k (by cases m<;>exact hm) hr);have g2:=g1.trans (Kr (w:=w1) (l:=D.l) (o:= .loop {D.wW with state:= .busy})) (fun i _ e=>by rw[e];exact j.ol);have g3:Grow Og w w2:=g2.trans v2 (fun i hi ⟨m,hm,hr⟩=>by
        rcases u4 m i hm with h9 | ⟨m',h9,h10⟩ |h9
        ·exact absurd h9 hr
        ·exact j.own m' i (by cases m'<;>exact h9) h10
        ·omega)
       have g4:=g3.trans (Kr (w:=w2) (l:=D.l) (o:= .loop {({D.wW with state:= .busy}:Loop) with state:=if (none:Option Code).isNone then .ready else .done,pending:=none})) (fun i _ e=>by rw[e];exact j.ol);have TV:Fr {dL with tmps:=s,cR:=[⟨D.ts,rest⟩]} σ3:=h4.trans h7;have hbk:St (D.E.jQ D.a D.mb) σ3.back ⟨D.a.tmps,[]⟩ _ ν3 O3:=St.aoy (E:=D.E) rfl (by rw[hn, ←j.fr.s];exact(TV.s.trans (L7 hs).1).symm) ⟨_,TV.cR⟩ q1;have WG:=hbk.forget (C.env.jQ D.a D.mb) D.hd;have hfx:FrX D.QS σ3.back:=⟨⟨_,TV.cR⟩,TV.sites.trans j.fr.sites,(TV.s.trans (L7 hs).1).trans j.fr.s,j.fr.tr.trans TV.tr,by
        show ∃ls:List Nat,σ3.tmps.s.map (·.1)=_∧_;rw[TV.ks];show ∃ls:List Nat,s.s.map (·.1)=_∧_;rw[(L7 hs).2];exact j.fr.ks⟩
       have aqO:({({D.wW with state:= .busy}:Loop) with state:=if (none:Option Code).isNone then .ready else .done,pending:=none}:Loop)=D.wW:=by rw[Y7];rfl
       refine⟨fun k=>Og k∨(w.heap.size≤k∧k<_),⟨xs++[x],rest,σ3.back.forget D.hd,ν3,O3,m,rfl, ?_⟩,g4,fun k hk=> .inl hk,fun k hk=>hk⟩;refine⟨by rw[j.ys];simp,by rw[(oC D.hd σ3.back).cR];exact TV.cR,by rw[hRB];exact h6,hfx.fr (oC _ _),WG,by rw[←aqO];exact q2, .inl j.ol,v3 _ hOl,fun m' k hm hr=> ?_,fun k hk hx=> ?_,Nat.le_trans j.size g4.size,fun k hk=> ?_⟩
       ·rcases (WG.Aw m' k hm) with ⟨_,h10,_⟩;by_cases hk:w.heap.size≤k
        ·exact .inr ⟨hk,h10⟩
        ·left;have o3:Own σ3 ν3 m' k:=by have:=(XN D.hd σ3.back).own hm;cases m'<;>exact this
         rcases v4 m' k o3 with h11 | ⟨m2,h11,h12⟩ |h11
         ·exact absurd h11 hr
         ·rcases u4 m2 k h11 with h13 | ⟨m3,h13,h14⟩ |h13
          ·exact absurd h13 h12
          ·exact j.own m3 k (by cases m3<;>exact h13) h14
          ·omega
         ·have:=g2.size;omega
       ·by_cases hlt:k<w.heap.size
        ·exact(j.cover k hlt hx).imp .inl (fun h=>⟨v3 _ (u3 _ h.1),h.2⟩)
        ·exact .inl (.inr ⟨by omega,hk⟩)
       ·rcases hk with hk |hk
        ·exact Nat.lt_of_lt_of_le (j.ogl k hk) g4.size
        ·exact hk.2
      |_=>first |exact hp2.elim | (obtain⟨σ3,h6,_⟩:=hp2;cases h6)
    |_=>first |exact hp.elim | (obtain⟨nv,h3,_⟩:=hp;cases h3)
  ·cases hl
end
section
variable {P:Program}{T:dc}{Φ:cj T}{R:Type}
def RgD.abn (D:RgD T Φ R)(V0:View)(h0:List aQ):Env where
 V0:=V0
 w0:=D.w2
 X:=D.Xg
 J:=JG D
 XS:=D.E.XS
 Y:= .func (.yield D.l) #[] #[]
 ro:=fun _=>none
 h0:=h0
 n0:=fun _ _=> .nilFunc
 M:=fun _=>False
 base:=D.w2
 CB:=D.Xg
 Om:=fun _=>False
 acc:=fun tr=>qv tr ⟨.slice (kL D.ts),D.ys⟩
 XH:=fun _ _=>False
theorem agC (D:RgD T Φ R)(V0:View)(h0:List aQ):aah (D.abn V0 h0):=fun tr tr' h1 h2=>h1.trans h2
theorem abo {D:RgD T Φ R}{V0:View}{h0:List aQ}{n:Nat}{Tl body:Code}{ps:Array Tmp}{fn:FuncId}{hs1 hs2:List (List (Nat×Bool))}(hRB:D.RB=jN ps.toList (fun σ k'=>aM T Φ n Tl hs1 σ k') (fun σ k'=>aM T Φ n body hs2 σ k'))
  (Y7:D.wW={state:= .ready,pending:=none,fn,tmps:=D.a.tmps,params:=ps,assign:=Tl,body,defers:=D.mb}) (C:Ctx P T Φ D.E) (hD:aah D.E) (hJ:D.E.J=lj) (hacc:D.E.acc ⟨.unit,()⟩) (hlen:∀k,D.len k→D.E.CB k∨D.E.base.heap.size≤k)
  (Sx:Sound P T Φ n Tl) (Sy:Sound P T Φ n body) (hn:D.a.tmps.size=D.QS.tmps.n) (hlB:D.len D.l):Ij P (D.abn V0 h0):=by
 intro rr t xs x vs O w hJG hac hv;refine⟨⟨rfl,fun k hk=>hk⟩, ?_⟩;obtain⟨xs',rest,dL,ν1,Oc,m,e,j⟩:=hJG;injection e with e1 e2
 injection e1 with e1
 subst e1;simp only[heq_eq_eq] at e2;subst e2;have Uv:∃more,rest=x::more:=by
  have atn:qv ⟨.slice (kL D.ts),xs++[x]⟩ ⟨.slice (kL D.ts),D.ys⟩:=hac;have hys:=j.ys;rcases atn with h1 | ⟨t',ys1,ys2,h1,h2⟩
  ·injection h1 with _ h1
   try simp only[heq_eq_eq] at h1
   rw[h1] at hys;exact⟨[],(List.append_cancel_left hys).symm⟩
  ·injection h1 with h3 h4
   injection h3 with h3
   subst h3;simp only[heq_eq_eq] at h4;subst h4;injection h2 with _ h2
   try simp only[heq_eq_eq] at h2
   rw[h2,List.append_assoc] at hys;exact⟨ys2,(List.append_cancel_left hys).symm⟩
 obtain⟨more,rfl⟩:=Uv;obtain⟨tmps,h1,h2⟩:=JG.round hRB Y7 C hD hJ hacc hlen Sx Sy hn j hlB hv rr;exact⟨D.l,fn,tmps,Tl,body,rfl,h1,h2⟩
end
section
variable {P:Program}{T:dc}{Φ:cj T}{R:Type}{E:Env}{σ ah:AS}{a a':Act}{w w':World}{ν aN:Nm→Value}{O O':Nat→Prop}
theorem U5:∀(bs:List Nat) (σ:AS),Sh σ (σ.kM bs)∧∀b∈bs,look (σ.kM bs).boxes b=none
 | [],σ=>⟨Sh.refl _,fun b hb=>by simp at hb⟩
 |d::bs,σ=>by
  obtain⟨h1,h2⟩:=U5 bs (σ.eV d);have h0:Sh σ (σ.eV d):=⟨fun r hr=>hr,fun r hr=>by
   rw[pq] at hr;split at hr
   ·cases hr
   ·exact hr,rfl⟩
  refine⟨h0.trans h1,fun b hb=> ?_⟩;rcases List.mem_cons.1 hb with rfl |hb
  ·cases hl:look (((σ.eV b).kM bs).boxes) b with
   |none=>exact hl
   |some x=>have:=h1.boxes b (by rw[hl];rfl);rw[pq,if_pos rfl] at this;cases this
  ·exact h2 b hb
def eK (w:World)(r:Loop):World:=(w.alloc (.deferred (some []))).alloc (.loop r)
theorem uk (w:World)(r:Loop):Below w.heap.size w (eK w r)∧(eK w r).heap.size=w.heap.size+2∧(eK w r).heap[w.heap.size]? =some (Go.Obj.deferred (some []))∧(eK w r).heap[w.heap.size+1]? =some (Go.Obj.loop r):=by
 have h1:=heap_alloc_new w (.deferred (some []));have h2:=heap_alloc_new (w.alloc (.deferred (some []))) (.loop r);have hs:(w.alloc (.deferred (some []))).heap.size=w.heap.size+1:=by simp
 refine⟨⟨rfl,rfl,rfl,by unfold eK;simp;omega,fun k hk=> ?_⟩,by unfold eK;simp, ?_, ?_⟩
 ·unfold eK;rw[heap_alloc_old (w.alloc (.deferred (some []))) _ (r:=k) (by rw[hs];omega),heap_alloc_old w _ (r:=k) hk]
 ·unfold eK;rw[heap_alloc_old (w.alloc (.deferred (some []))) _ (by rw[hs];omega)];exact h1
 ·unfold eK;rw[hs] at h2;exact h2
end
section
variable {P:Program}{T:dc}{Φ:cj T}{R:Type}{E:Env}{σ ah:AS}{a a':Act}{w w':World}{ν aN:Nm→Value}{O O':Nat→Prop}
def Il (σ:AS)(ν:Nm→Value)(bs:List Nat)(k:Nat):Prop:=∃b∈bs,Own σ ν (.box b) k
theorem abp (hE:aI E)(hJ:E.J=lj)(h:St E σ a w ν O)(bs:List Nat)(hd:List (Nat×Bool))(hok:y9 ((σ.kM bs).forget hd)=true)(g:Rng)(r:Loop):
  ∃Oc,St (E.jQ a w.heap.size) ({((σ.kM bs).forget hd) with cR:=[g]}:AS).save ⟨a.tmps,[]⟩ (eK w r) ν Oc∧(∀k,O k→Oc k)∧(∀k,Il σ ν bs k→Oc k)∧Oc (w.heap.size+1)∧∀k,Oc k→O k∨Il σ ν bs k∨k=w.heap.size+1:=by
 obtain⟨O1,s1,h1,h2,h3⟩:=h.ajq hE hJ bs;obtain⟨e1,e2,e3,e4⟩:=uk w r;have hO1:∀k,O1 k→k<w.heap.size:=fun k hk=>(s1.out.2 k hk).1;have s4:St E ((σ.kM bs).forget hd) a (eK w r) ν (fun k=>O1 k∨k=w.heap.size+1):=
  (s1.forget hE hd).al0 hE hJ (C:=fun _=>False) (Grow.C0 e1) (fun k hk=>hk.elim) (fun k hk=> .inl hk) (fun k hk=>hk.imp id (fun e=>by subst e;omega))
 refine⟨_,s4.saved hok ⟨e3,fun h5=> ?_⟩ g,fun k hk=> .inl (h1 k hk),fun k ⟨b,hb,hk⟩=> .inl (h2 b hb k hk), .inr rfl,fun k hk=> ?_⟩
 ·rcases h5 with h5 |h5
  ·have:=hO1 _ h5;omega
  ·omega
 ·rcases hk with hk |hk
  ·rcases h3 k hk with h4 | ⟨b,hb,h4⟩
   ·exact .inl h4
   ·exact .inr (.inl ⟨b,hb,h4⟩)
  ·exact .inr (.inr hk)
end
section
variable {P:Program}{T:dc}{Φ:cj T}{R:Type}{E:Env}{σ ah:AS}{a a':Act}{w w':World}{ν aN:Nm→Value}{O O':Nat→Prop}
def agD (E:Env)(σ:AS)(ν:Nm→Value)(O:Nat→Prop)(w:World):View:=fun key u=>∃ad:Addr,key= .cell ad∧view E σ ν O w (.cell ad) u
def adv (E:Env)(σ:AS)(ν:Nm→Value)(O:Nat→Prop)(w:World)(k:Nat):Prop:=(∃m,Own σ ν m k∧¬E.yq m)∨O k∨k=w.heap.size+1
theorem agE (hE:aI E)(h:St E σ a w ν O)(r:Loop){ad:Addr}{u:Value}(hv:view E σ ν O w (.cell ad) u):(eK w r).cell? ad=some u∧¬adv E σ ν O w ad.block:=by
 have h1:=za hE h.keep hv;have hlt:=Ii h1;obtain⟨e1,_⟩:=uk w r;refine⟨by rw[World.cell?_of_block (e1.block _ hlt)];exact h1,fun hx=> ?_⟩;rcases hv with ⟨h2,h3⟩ | ⟨h2,h3,h4,_⟩
 ·have h5:=(hE.cell _ _ h3).2;rcases hx with ⟨m,hm,hr⟩ |ho |hk
  ·rcases (h.Aw m _ hm).1 with h6 |h6 |h6
   ·omega
   ·exact h5 h6
   ·exact hr h6
  ·exact h5 ((h.out.2 _ ho).2 h2)
  ·omega
 ·rcases hx with ⟨m,hm,hr⟩ |ho |hk
  ·exact h3 ⟨m,hm⟩
  ·exact h4 ho
  ·omega
theorem amh {D:RgD T Φ R}{r:Loop}(hE:aI E)(h:St E σ a w ν O)(hDE:D.E=E)(hX:D.Xg=adv E σ ν O w)(hw:D.w2=eK w r)(hJ:E.J=lj)(hlen:∀k,D.len k→E.CB k∨E.base.heap.size≤k)(h0:List aQ):aI (D.abn (agD E σ ν O w) h0):=by
 refine⟨fun ad u hv=> ?_,fun tr O1 w1 w1' C hJG hg hC=> ?_⟩
 ·obtain⟨Q3,e,hv⟩:=hv;injection e with e
  subst e;obtain⟨h1,h2⟩:=agE hE h r hv;exact⟨by show D.w2.cell? ad=_;rw[hw];exact h1,by show ¬D.Xg ad.block;rw[hX];exact h2⟩
 ·exact JG.stay (by rw[hDE];exact hE) (by rw[hDE];exact hJ) (by rw[hDE];exact hlen) hJG hg hC
end
section
variable {P:Program}{T:dc}{Φ:cj T}{R:Type}{E:Env}{σ ah:AS}{a a':Act}{w w':World}{ν aN:Nm→Value}{O O':Nat→Prop}
def agF (E:Env)(σ:AS)(ν:Nm→Value)(O:Nat→Prop)(w:World)(bs:List Nat)(k:Nat):Prop:=adv E σ ν O w k∧¬Il σ ν bs k
theorem ajr {D:RgD T Φ R}{r:Loop}{bs:List Nat}(hE:aI E)(h:St E σ a w ν O)(hDE:D.E=E)(hDa:D.a=a)(hmb:D.mb=w.heap.size)(hDl:D.l=w.heap.size+1)(hr:D.wW=r)(hw:D.w2=eK w r)(hX:D.Xg=adv E σ ν O w)
  (hB:D.Bx=fun k=>Il σ ν bs k∨k=w.heap.size+1) (hσ:D.QS=σ) (hJ:E.J=lj) (hok:y9 ((σ.kM bs).forget D.hd)=true) (hfx:FrX σ ({((σ.kM bs).forget D.hd) with cR:=[⟨D.ts,D.ys⟩]}:AS).save)
  {m:Nat} (hl:mQ D.hd D.RB (gF D.k) m ({((σ.kM bs).forget D.hd) with cR:=[⟨D.ts,D.ys⟩]}:AS).save=some D.r):JG D ⟨.slice (kL D.ts),[]⟩ (agF E σ ν O w bs) (eK w r):=by
 obtain⟨Oc,s1,o1,o2,o3,o4⟩:=abp hE hJ h bs D.hd hok ⟨D.ts,D.ys⟩ r;obtain⟨e1,e2,e3,e4⟩:=uk w r;have aoE:∀k,Il σ ν bs k→k<w.heap.size:=fun k ⟨b,hb,ho⟩=>(h.Aw _ _ ho).2.1;have atp:∀k,adv E σ ν O w k→k<w.heap.size+2:=fun k hk=>by
  rcases hk with ⟨m,hm,_⟩ |hk |hk
  ·have:=(h.Aw _ _ hm).2.1;omega
  ·have:=(h.out.2 _ hk).1;omega
  ·omega
 have hl0:agF E σ ν O w bs (w.heap.size+1):=⟨.inr (.inr rfl),fun hb=>by have:=aoE _ hb;omega⟩
 refine⟨[],D.ys,_,ν,Oc,m,rfl,⟨rfl,rfl,hl,by rw[hσ];exact hfx,by rw[hDE,hDa,hmb];exact s1,by rw[hDl,hr];exact e4,by rw[hDl];exact hl0,by rw[hDl];exact o3,fun m' k hm hro=> ?_,fun k hk hx=> ?_,by rw[hw];exact Nat.le_refl _,fun k hk=> ?_⟩⟩
 ·rw[hDE] at hro;have hm2:Own ((σ.kM bs).forget D.hd) ν m' k:=by cases m'<;>exact hm
  have hm3:=(XN D.hd (σ.kM bs)).own hm2;have hm4:=(U5 bs σ).1.own hm3;refine⟨.inl ⟨m',hm4,hro⟩,fun⟨b,hb,ho⟩=> ?_⟩;have:=h.inj _ _ k hm4 ho;subst this;have h9:=(U5 bs σ).2 b hb;have h10:=hm3.1;simp only[AS.obj,h9] at h10;cases h10
 ·rw[hw] at hx;rcases hx with hx |hx
  ·omega
  ·rw[hX] at hx;by_cases hb:Il σ ν bs k
   ·exact .inr ⟨o2 k hb, .inl (by rw[hB];exact .inl hb)⟩
   ·exact .inl ⟨hx,hb⟩
 ·have:=atp k hk.1;omega
end
section
variable {P:Program}{T:dc}{Φ:cj T}{R:Type}{E:Env}{σ ah:AS}{a a':Act}{w w':World}{ν aN:Nm→Value}{O O':Nat→Prop}
def SG (ν:Nm→Value)(ks:List Nat):Nm→Value
 | .box (j+1)=>match ks[j]? with
   |some b=>ν (.box b)
   |none=> .nilFunc
 |_=> .nilFunc
theorem Rm:∀{l:List Nat},yw l=true→∀(i j b:Nat),l[i]? =some b→l[j]? =some b→i=j
 | [],_,i,j,b,h1,h2=>by simp at h1
 |x::l,h,i,j,b,h1,h2=>by
  simp only[yw,Bool.and_eq_true,Bool.not_eq_true'] at h;have hx:∀k,l[k]? ≠some x:=fun k hk=>by have:l.any (Nat.beq x)=true:=lO.2 (List.mem_of_getElem? hk);rw[h.1] at this;cases this
  cases i with
  |zero=>
   cases j with
   |zero=>rfl
   |succ j=>simp at h1 h2;subst h1;exact absurd h2 (hx j)
  |succ i=>
   cases j with
   |zero=>simp at h1 h2;subst h2;exact absurd h1 (hx i)
   |succ j=>rw[Rm h.2 i j b (by simpa using h1) (by simpa using h2)]
end
section
variable {P:Program}{T:dc}{Φ:cj T}{R:Type}{E:Env}{σ ah:AS}{a a':Act}{w w':World}{ν aN:Nm→Value}{O O':Nat→Prop}
theorem agG {boxes:List (Nat×BX)}{args:List ph}{aX:List I5}{x:HN args}(h:HR boxes args aX=some x):∀(j:Nat) bx,look (dZ args x 0) j=some bx→∃i b t y,j=i+1∧(bA aX)[i]? =some b∧bx= .cells (flat t y)∧ph.bx t∈args∧look boxes b=some (.cells (flat t y)):=by
 intro j bx hj;unfold HR at h;split at h
 ·simp[dZ,dZ.one,look] at hj
 ·split at h
  ·rename_i q ps cs y hy;simp only[Option.some.injEq] at h;subst h;simp only[dZ,dZ.one,List.nil_append] at hj;obtain⟨_,_,h3⟩:=Nl 1 hy;obtain⟨b,t,z,h4,h5,h6,h7,h8⟩:=h3 j bx hj;exact⟨j - 1,b,t,z,by omega,h5,h6,List.mem_cons_of_mem _ h7,h8⟩
  ·cases h
 ·cases h
end
section
variable {P:Program}{T:dc}{Φ:cj T}{R:Type}{E:Env}{σ ah:AS}{a a':Act}{w w':World}{ν aN:Nm→Value}{O O':Nat→Prop}
theorem E0 {v:Nat}{xh:CS T v}(hh:(T.sig v).af.isEmpty=true):aO T v xh=c8 T:=by
 have h1:(T.sig v).hin=[]:=by
  have:(T.sig v).af=[]:=by simpa using hh
  simp[JZ.hin,this]
 have key:∀(hs:List Nat) (x:FZ T hs),hs=[]→rR T (T.sig v).hout hs x (c8 T)=c8 T:=fun hs x e=>by subst e;rfl
 exact key _ _ h1
theorem agH {D:RgD T Φ R}{r:Loop}{bs:List Nat}(hE:aI E)(h:St E σ a w ν O)(hDE:D.E=E)(hw:D.w2=eK w r)(hX:D.Xg=adv E σ ν O w)(hJ:E.J=lj)
  {v:Nat} {xh:CS T v} (hh:(T.sig v).af.isEmpty=true) (hs:I7 T (T.sig v)=true) (htr:EO (T.sig v)=⟨.slice (kL D.ts),([]:List (kL D.ts).den)⟩) {aX:List I5} (hx:HR σ.boxes (T.sig v).args aX=some (wJ _ xh)) (hnd:yw (bA aX)=true) (hbs:bs=bA aX)
  (hJG:JG D ⟨.slice (kL D.ts),[]⟩ (agF E σ ν O w bs) (eK w r)):
  St (D.abn (agD E σ ν O w) (c8 T)) (uZ T v xh) ⟨#[],[]⟩ (eK w r) (SG ν bs) (agF E σ ν O w bs):=by
 obtain⟨e1,e2,e3,e4⟩:=uk w r;have hsh:(uZ T v xh).af=c8 T:=E0 hh;have pj:∀m o,(uZ T v xh).obj m=some o→∃i b t y,m= .box (i+1)∧bs[i]? =some b∧o= .box (.cells (flat t y))∧ph.bx t∈(T.sig v).args∧look σ.boxes b=some (.cells (flat t y)):=fun m o ho=>by
  cases m with
  |row q=>simp[AS.obj,uZ,look] at ho
  |box j=>simp only[AS.obj,Option.map_eq_some_iff] at ho;obtain⟨bx,h1,rfl⟩:=ho;obtain⟨i,b,t,y,rfl,h3,rfl,h5,h6⟩:=agG hx j bx h1;exact⟨i,b,t,y,rfl,by rw[hbs];exact h3,rfl,h5,h6⟩
  |hp i n=>
   simp only[AS.obj,hsh] at ho;cases n with
   |zero=>cases ho
   |succ n=>
    simp only[pj] at ho;split at ho
    ·rename_i hr hhr;rw[zh i hr hhr] at ho;simp[I9] at ho
    ·cases ho
 have hown:∀m k,Own (uZ T v xh) (SG ν bs) m k→∃i b,m= .box (i+1)∧bs[i]? =some b∧b∈bs∧Own σ ν (.box b) k:=fun m k ⟨h1,h2⟩=>by
  obtain⟨o,ho⟩:=Option.isSome_iff_exists.1 h1;obtain⟨i,b,t,y,rfl,h3,rfl,h5,h6⟩:=pj m o ho;refine⟨i,b,rfl,h3,List.mem_of_getElem? h3,by simp[AS.obj,h6], ?_⟩;have:SG ν bs (.box (i+1))=ν (.box b):=by simp only[SG,h3]
  rw[←this];exact h2
 have hin:(T.sig v).hin=[]:=by
  have:(T.sig v).af=[]:=by simpa using hh
  simp[JZ.hin,this]
 have atq:∀t,ph.bx t∈(T.sig v).args→fw [] t=true:=fun t ht=>by simp only[I7,Bool.and_eq_true] at hs;have:=List.all_eq_true.1 hs.1.1 _ ht;rw[hin] at this;exact this
 have hO:∀k,agF E σ ν O w bs k→k<(eK w r).heap.size:=fun k hk=>by
  rw[e2];rcases hk.1 with ⟨m,hm,_⟩ |hk |hk
  ·have:=(h.Aw _ _ hm).2.1;omega
  ·have:=(h.out.2 _ hk).1;omega
  ·omega
 refine⟨?_,(fun d hd=>by cases hd),⟨rfl,(fun i x e=>by cases e),(fun i x e=>by cases e)⟩,fun m o ho=> ?_,fun m m' k h1 h2=> ?_,fun m k hm=> ?_,fun q k hk=> ?_,⟨?_,fun k hk=>⟨hO k hk,fun _=>by show D.Xg k;rw[hX];exact hk.1⟩⟩, ?_,(fun i hr e=>by cases e), ?_,(fun _ hf=>hf.elim), ?_,fun m k hm=> ?_,(fun _ hf=>hf.elim),List.nodup_nil⟩
 ·show Grow _ D.w2 (eK w r);rw[hw];exact Grow.refl _ _
 ·obtain⟨i,b,t,y,rfl,h3,rfl,h5,h6⟩:=pj m o ho;obtain⟨g,g1,cur,e,g2,g3⟩:=h.box h6;have hlt:=(Array.getElem?_eq_some_iff.1 g2).1;refine⟨g,by simp only[SG,h3];exact g1,cur,e,by rw[e1.block g hlt];exact g2, ?_⟩;refine jK (Rel.tr (hs:=[]) (fun ad u hv=> ?_) (fun i hi=>by simp at hi) _ _ _ (atq t h5) (jL g3));exact .inl ⟨by show ad.block<D.w2.heap.size;rw[hw,e2];have:=Ii (za hE h.keep hv);omega,ad,rfl,hv⟩
 ·obtain⟨i,b,rfl,h3,_,h4⟩:=hown m k h1;obtain⟨i',b',rfl,h3',_,h4'⟩:=hown m' k h2;have:=h.inj _ _ k h4 h4';injection this with this
  subst this;rw[Rm (by rw[hbs];exact hnd) i i' b h3 h3']
 ·obtain⟨i,b,rfl,h3,hb,h4⟩:=hown m k hm;have hlt:=(h.Aw _ k h4).2.1;refine⟨.inr (.inl (by show D.Xg k;rw[hX];exact .inl ⟨_,h4,NW⟩)),by rw[e2];omega,fun hg=>hg.2 ⟨b,hb,h4⟩⟩
 ·obtain⟨i,b,e,_⟩:=hown _ k hk;subst e;exact .inr trivial
 ·show JG D (EO (T.sig v)) _ _;rw[htr];exact hJG
 ·intro i hr n e h1 h2;have e':(uZ T v xh).af[i]? =some hr:=e;rw[hsh] at e';rw[zh i hr e'] at h2;simp at h2;omega
 ·rw[hsh];exact⟨rfl,fun i hr e=>⟨hr,e,BN.refl _,Nat.le_refl _⟩,fun i n h1 h2=>rfl⟩
 ·show Grow _ D.w2 (eK w r);rw[hw];exact Grow.refl _ _
 ·obtain⟨i,b,rfl,h3,hb,h4⟩:=hown m k hm;exact .inr (.inl (by show D.Xg k;rw[hX];exact .inl ⟨_,h4,NW⟩))
end
section
variable {P:Program}{T:dc}{Φ:cj T}{E:Env}{σ ah:AS}{a a':Act}{w w':World}{ν aN:Nm→Value}{O O':Nat→Prop}
theorem agI {R:Type}{r:R}(k:Rng→List Nat→Option R)(bs:List Nat):∀(s:JZ) (y:NQ s),(match s,y with
  | ⟨_,_,_,_,some ts⟩,y=>k ⟨ts,y⟩ bs
  |_,_=>none)=some r→∃ts ys,s.gen.isSome=true∧adu s y=⟨.slice (kL ts),ys⟩∧EO s=⟨.slice (kL ts),([]:List (kL ts).den)⟩∧k ⟨ts,ys⟩ bs=some r
 | ⟨_,_,_,_,some ts⟩,y,h=>⟨ts,y,rfl,rfl,rfl,h⟩
 | ⟨_,_,none,_,none⟩,y,h=>by cases h
 | ⟨_,_,some _,_,none⟩,y,h=>by cases h
theorem Y8 {f:AV}{R:Type}{k:Rng→List Nat→Option R}{r:R}(h:wR T Φ σ f k=some r):∃g aX v xh yh ts ys,f= .fn g aX∧HR σ.boxes (T.sig v).args aX=some (wJ _ xh)∧Φ v xh=some yh∧
  yw (bA aX)=true∧(T.sig v).af.isEmpty=true∧T.real v=g∧(T.sig v).gen.isSome=true∧PM T v yh=⟨.slice (kL ts),ys⟩∧EO (T.sig v)=⟨.slice (kL ts),([]:List (kL ts).den)⟩∧k ⟨ts,ys⟩ (bA aX)=some r:=by
 unfold wR at h;split at h
 ·rename_i g aX;split at h
  ·rename_i v _ _;split at h
   ·rename_i x hx;split at h
    ·rename_i xh hxh;simp only[Option.bind_eq_some_iff] at h;obtain⟨yh,hy,h⟩:=h;cases hb:(yw (bA aX)&&(T.sig v).af.isEmpty&&Nat.beq (T.real v) g) with
     |false=>rw[hb] at h;cases h
     |true=>
      rw[hb,cond_true] at h;simp only[Bool.and_eq_true,beq_iff] at hb;obtain⟨ts,ys,h1,h2,h3,h4⟩:=agI k (bA aX) _ _ h;refine⟨g,aX,v,xh,yh,ts,ys,rfl, ?_,hy,hb.1.1,hb.1.2,hb.2,h1,h2,h3,h4⟩;cases hg:NR T σ.af (T.sig v).hin with
      |none=>
       have hin:(T.sig v).hin=[]:=by
        have:(T.sig v).af=[]:=by simpa using hb.1.2
        simp[JZ.hin,this]
       exfalso;have:∀hs,hs=[]→NR T σ.af hs≠none:=fun hs e=>by subst e;simp[NR]
       exact this _ hin hg
      |some hh=>rw[hg] at hxh;rw[(aaV hxh).1];exact hx
    ·cases h
   ·cases h
  ·cases h
 ·cases h
theorem Nn {V V':View}{boxes:List (Nat×BX)}{νg:Nm→Value}{Y:Value}:∀{ps:List ph} {aX:List I5} {x:HN ps} (i:Nat) {vs:List Value},aC boxes ps aX=some x→aF (tC V σ ν) aX vs→
  (∀(j b:Nat),(bA aX)[j]? =some b→νg (.box (i+j))=ν (.box b))→SD V' νg Y i ps x vs
 | [],[],x,i,vs,h,ha,hn=>by
   cases vs with
   |nil=>rfl
   |cons _ _=>exact ha.elim
 | [.bx t],[.box b],x,i,vs,h,ha,hn=>by
   match vs,ha with
   | [v],ha=>obtain⟨⟨_,g,h1,h2⟩,_⟩:=ha;exact⟨v,rfl,by show v=νg (.box i);rw[show νg (.box i)=ν (.box b) from hn 0 b rfl,h1,h2]⟩
 | .bx t::q::ps, .box b::cs,x,i,vs,h,ha,hn=>by
   match vs,ha with
   |v::vs,ha=>
    obtain⟨⟨_,g,h1,h2⟩,ha⟩:=ha;simp only[aC] at h;split at h
    ·split at h
     ·split at h
      ·rename_i y hy;simp only[Option.some.injEq] at h;subst h;refine⟨v,vs,rfl,by show v=νg (.box i);rw[show νg (.box i)=ν (.box b) from hn 0 b rfl,h1,h2],Nn (i+1) hy ha (fun j c hj=> ?_)⟩;have:=hn (j+1) c (by simpa [bA] using hj);rw[←this];congr 2;omega
      ·cases h
     ·cases h
    ·cases h
 | [.v _],[],_,_,_,h,_,_=>by simp[aC] at h
 | [.v _],_::_,_,_,_,h,_,_=>by simp[aC] at h
 | [.fn _ _],[],_,_,_,h,_,_=>by simp[aC] at h
 | [.fn _ _],_::_,_,_,_,h,_,_=>by simp[aC] at h
 | [.c _],[],_,_,_,h,_,_=>by simp[aC] at h
 | [.c _],_::_,_,_,_,h,_,_=>by simp[aC] at h
 | [.rp _],[],_,_,_,h,_,_=>by simp[aC] at h
 | [.rp _],_::_,_,_,_,h,_,_=>by simp[aC] at h
 | [.Na],[],_,_,_,h,_,_=>by simp[aC] at h
 | [.Na],_::_,_,_,_,h,_,_=>by simp[aC] at h
 | [.bx _],[],_,_,_,h,_,_=>by simp[aC] at h
 | [.bx _],[.qA _],_,_,_,h,_,_=>by simp[aC] at h
 | [.bx _], .box _::_::_,_,_,_,h,_,_=>by simp[aC] at h
 | [.bx _], .qA _::_::_,_,_,_,h,_,_=>by simp[aC] at h
 | .v _::_::_,_,_,_,_,h,_,_=>by simp[aC] at h
 | .fn _ _::_::_,_,_,_,_,h,_,_=>by simp[aC] at h
 | .c _::_::_,_,_,_,_,h,_,_=>by simp[aC] at h
 | .rp _::_::_,_,_,_,_,h,_,_=>by simp[aC] at h
 | .Na::_::_,_,_,_,_,h,_,_=>by simp[aC] at h
 | .bx _::_::_,[],_,_,_,h,_,_=>by simp[aC] at h
 | .bx _::_::_, .qA _::_,_,_,_,h,_,_=>by simp[aC] at h
 | [],_::_,_,_,_,h,_,_=>by simp[aC] at h
theorem ajs {V V':View}{boxes:List (Nat×BX)}{Y:Value}{args:List ph}{aX:List I5}{x:HN args}{vs:List Value}(h:HR boxes args aX=some x)(ha:aF (tC V σ ν) aX vs):SD V' (SG ν (bA aX)) Y 0 args x (Y::vs):=by
 unfold HR at h;split at h
 ·cases vs with
  |nil=>exact⟨Y,rfl,rfl⟩
  |cons _ _=>exact ha.elim
 ·split at h
  ·rename_i q ps cs y hy;simp only[Option.some.injEq] at h;subst h;refine⟨Y,vs,rfl,rfl,Nn 1 hy ha (fun j b hj=> ?_)⟩;rw[show (0+1+j)=j+1 by omega];simp only[SG,hj]
  ·cases h
 ·cases h
theorem SH {n:Nat}(hG:abk P T Φ){f:Operand}{ps:Array Tmp}{x y:Code}(Sx:Sound P T Φ n x)(Sy:Sound P T Φ n y):Sound P T Φ n (.rangeFunc f ps x y):=by
 intro R r E C hD rr hs σ k a w ν O he h hrr hk;have anA:E.acc σ.trace:=by obtain⟨e,ah,h1,h2⟩:=UZ _ _ _ _ he;exact hD _ _ h2.tr (hk _ _ h1 h2)
 simp only[aM] at he;split at he
 ·rename_i hd hs' u hrn htr;have atr:rr=none:=by
   cases rr with
   |none=>rfl
   |some l=>exact absurd hrn (hrr rfl)
  subst atr;have hE:=C.env;have hJ:E.J=lj:=C.jj O w (by have:=h.out.1;rw[htr] at this;exact this);have hacc:E.acc ⟨.unit,()⟩:=by rw[htr] at anA;exact anA
  obtain⟨g,aX,v,xh,yh,ts,ys,e1,e2,e3,e4,e5,e6,e7,e8,e9,Y9⟩:=Y8 he;cases hok:y9 ((σ.kM (bA aX)).forget hd) with
  |false=>rw[hok] at Y9;cases Y9
  |true=>
   rw[hok,cond_true] at Y9;have f1:Fr σ ((σ.kM (bA aX)).forget hd):=(UX _ σ).trans (oC hd _);have abj:=hok;simp only[y9,Bool.and_eq_true,List.all_eq_true] at abj;have hfx:FrX σ ({((σ.kM (bA aX)).forget hd) with cR:=[⟨ts,ys⟩]}:AS).save:=⟨⟨_,rfl⟩,f1.sites,f1.s,f1.tr,by
    refine⟨((σ.kM (bA aX)).forget hd).tmps.l.map fun p=>p.1+10000, ?_,fun i hi=> ?_⟩
    ·show (List.map _ _++_).map _=_;rw[List.map_append,List.map_map, ←f1.ks];rfl
    ·obtain⟨p,hp,rfl⟩:=List.mem_map.1 hi;have:=abj.1 p hp;rw[uO] at this;simp only[lN,Bool.and_eq_true,Nat.ble_eq,uO];omega⟩
   refine wpIn_rangeFunc (fun fn hfn=> ?_);rw[show (FW none).round=none from rfl]
   let wW:Loop:={state:= .ready,pending:=none,fn,tmps:=a.tmps,params:=ps,assign:=x,body:=y,defers:=w.heap.size}
   let D:RgD T Φ R:={E:=E,a:=a,mb:=w.heap.size,l:=w.heap.size+1,wW:=wW,ts:=ts,ys:=ys,QS:=σ,hd:=hd,RB:=jN ps.toList (fun σ k'=>aM T Φ n x hs' σ k') (fun σ k'=>aM T Φ n y (hs'.drop (loops x)) σ k'),k:=k,r:=r,w2:=eK w wW,Xg:=adv E σ ν O w,Bx:=fun k=>Il σ ν (bA aX) k∨k=w.heap.size+1}
   obtain⟨n1,n2,n3,n4⟩:=uk w wW;have hlen:∀k,D.len k→D.E.CB k∨D.E.base.heap.size≤k:=fun k hk=>by
    have hb:=h.wS.size;rcases hk with (⟨b,hb1,ho⟩ |hk) |hk
    ·rcases h.yx _ _ ho with h1 |h1
     ·exact absurd h1 NW
     ·exact h1
    ·exact .inr (by show E.base.heap.size≤k;omega)
    ·refine .inr ?_;have hk':(eK w wW).heap.size≤k:=hk;show E.base.heap.size≤k;omega
   have att:JG D ⟨.slice (kL D.ts),[]⟩ (agF E σ ν O w (bA aX)) (eK w wW):=ajr (D:=D) (bs:=bA aX) hE h rfl rfl rfl rfl rfl rfl rfl rfl rfl hJ hok hfx Y9;have hEg:aI (D.abn (agD E σ ν O w) (c8 T)):=amh hE h rfl rfl rfl hJ hlen _;have hTg:N1 T (D.abn (agD E σ ν O w) (c8 T)):=⟨C.Tu.1,fun i x hx=>by
    obtain⟨g,cs,h1,h2,h3⟩:=C.Tu.2 i x hx;refine⟨g,cs,h1,h2,h3.of fun key u ⟨ad,e,hlt,hv⟩=>⟨ad,e, ?_,ad,rfl, .inl ⟨hlt,hv⟩⟩⟩;show ad.block<(eK w wW).heap.size;have:=h.keep.size;omega⟩
   have hYg:Ij P (D.abn (agD E σ ν O w) (c8 T)):=abo (D:=D) rfl rfl C hD hJ hacc hlen Sx Sy (by have:=h.slots.1;simpa using this.symm) (.inl (.inr rfl));have aqQ:=agH (D:=D) (xh:=xh) hE h rfl rfl rfl hJ e5 (C.sigs v) e9 e2 e4 rfl att;obtain⟨⟨fd,hfd,hbody,hname⟩,C6⟩:=hG v xh yh e3 e7;have hf:ak (view E σ ν O w) σ ν E.Y (σ.av f) (a.eval f):=h.av C.Tu.1 f;rw[e1] at hf;obtain⟨vs,hf1,hf2⟩:=hf;have Xv:=C6 (D.abn (agD E σ ν O w) (c8 T)) (SG ν (bA aX)) (#[.func (.yield (w.heap.size+1)) #[] #[]]++vs.toArray) _ hEg hTg hYg (agC D _ _) (fun O2 w2 hj=>by
    obtain⟨_,_,_,_,_,_,e,_⟩:=hj;injection e with e;cases e) (by rw[e8];exact .inl rfl) aqQ (by
     have:(#[.func (.yield (w.heap.size+1)) #[] #[]]++vs.toArray:Array Value).toList= .func (.yield (w.heap.size+1)) #[] #[]::vs:=by simp
     rw[this];exact ajs e2 hf2)
   rw[e6] at hfd Xv;have aoF:Calls P g (#[.func (.yield (w.heap.size+1)) #[] #[]]++vs.toArray) (eK w wW) (fun e w'=>∃r O',e= .returned r∧JG D (PM T v yh) O' w'):=Xv;clear Xv C6 aqQ hYg hTg hEg;have hb:fd.body.isNone=false:=by cases hfb:fd.body<;>simp_all
   have hn1:¬fd.name= "runtime.NumGoroutine" :=by simpa using hname
   have hb1:¬fd.body=none:=by intro e;rw[e] at hb;cases hb
   refine⟨w.heap.size+1,[{target:= .collected w.heap.size,args:= #[]}],eK w wW,{target:= .fn (.func g) vs.toArray,args:= #[.func (.yield (w.heap.size+1)) #[] #[]]},eK w wW,g,
    #[.func (.yield (w.heap.size+1)) #[] #[]]++vs.toArray,eK w wW,run_enterLoop_outer _ _ _ _ _, ?_,fun _ _=>trivial, ?_,fun e=>(by cases e), ?_⟩
   ·simp only[resolve,hf1];simp[go_sem]
   ·simp[invoke,callFunc,hfd,hn1,hb1,go_sem]
   ·refine UH (Calls.mono (R:=fun e w'=>∃r O',e= .returned r∧JG D (PM T v yh) O' w') aoF ?_);rintro e w3 ⟨rv,Og,rfl,xs,rest,dL,ν1,Oc,m,WH,j⟩;rw[e8] at WH;injection WH with _ WH
    try simp only[heq_eq_eq] at WH
    subst WH;have Uv:rest=[]:=by have:=j.ys;exact(List.append_cancel_left (as:=ys) (by rw[List.append_nil];exact this)).symm
    subst Uv;have hl:=j.loop;cases m with
    |zero=>cases hl
    |succ m=>
     simp only[mQ] at hl;have hRB:D.RB=jN ps.toList (fun σ k'=>aM T Φ n x hs' σ k') (fun σ k'=>aM T Φ n y (hs'.drop (loops x)) σ k'):=rfl;rw[hRB] at hl;unfold jN at hl;rw[j.cR] at hl;dsimp only at hl;have hl':k .normal {dL.CT with cR:=dL.cR.tail}=some r:=hl;have hrun:=run_endLoop (P:=P) j.abm (by show wW.state≠_;simp[wW]);obtain⟨q1,q2,q3⟩:=St.Y6 (E:=E.jQ a w.heap.size) (hE.jQ _ _) hJ j.st j.abm j.cl (hlen _ (.inl (.inr rfl))) {wW with state:= .exhausted};have hks:=XL j.fr (fun i hi=>by
      have hi:i∈σ.tmps.s.map (·.1):=hi;rw[←f1.ks] at hi;obtain⟨p,hp,rfl⟩:=List.mem_map.1 hi;have:=abj.2 p hp;rw[Nat.ble_eq] at this;simp only[lN,Bool.and_eq_false_iff];exact .inr (by cases hb:Nat.blt p.1 (10000*(1+1)) with
       |false=>rfl
       |true=>rw[uO] at hb;omega))
     have WG:=q1.amg (fun i x hx=>by
      have h1:=Av hx;have h2:i∈dL.CT.tmps.s.map (·.1):=List.mem_map_of_mem (f:=(·.1)) h1;rw[hks] at h2;have h2:i∈σ.tmps.s.map (·.1):=h2;rw[←f1.ks] at h2;obtain⟨p,hp,rfl⟩:=List.mem_map.1 h2;have:=abj.2 p hp;rwa [Nat.ble_eq] at this) h.keep.size (fun d hd=>by
       obtain⟨r',g1,g2,_⟩:=h.marks d hd;exact⟨r',g1,g2⟩) (List.nodup_cons.2 ⟨fun hm=>by
       obtain⟨r',g1,_,g2,_⟩:=h.marks _ hm;injection g1 with g1
       injection g1 with g1
       have:=(Array.getElem?_eq_some_iff.1 g2).1;omega,h.nd⟩)
     refine⟨none,_,hrun,⟨_,hl',⟨?_,j.fr.sites,j.fr.s,j.fr.tr,hks⟩,ν1,Oc,WG⟩⟩;show dL.cR.tail=_;rw[j.cR,hrn];rfl
 ·cases he
end
section
variable {P:Program}{T:dc}{Φ:cj T}{E:Env}{σ ah:AS}{a a':Act}{w w':World}{ν aN:Nm→Value}{O O':Nat→Prop}{V V':View}{Y:Value}
theorem ArgRel.g:∀{p:ph} {x:p.den} {v:Value} (i:Nat),ArgRel V p x v→TY V ν Y i p x v
 | .v _,_,_,_,h=>h
 | .fn _ _,_,_,_,h=>h
 | .c _,_,_,_,h=>h
 | .rp _,_,_,_,h=>h
 | .bx _,_,_,_,h=>h.elim
 | .Na,_,_,_,h=>h.elim
theorem nZ.g:∀{ps:List ph} {x:HN ps} {vs:List Value} (i:Nat),nZ V ps x vs→SD V ν Y i ps x vs∧dZ ps x i=[]
 | [],x,vs,i,h=>⟨h,rfl⟩
 | [p],x,vs,i,h=>by obtain⟨v,rfl,h1⟩:=h;refine⟨⟨v,rfl,h1.g i⟩, ?_⟩;cases p<;>first |rfl |exact h1.elim
 |p::q::ps,x,vs,i,h=>by
  obtain⟨v,r,rfl,h1,h2⟩:=h;obtain⟨h3,h4⟩:=nZ.g (i+1) h2;refine⟨⟨v,r,rfl,h1.g i,h3⟩, ?_⟩;show dZ.one p x.1 i++dZ (q::ps) x.2 (i+1)=[]
  rw[h4];cases p<;>first |rfl |exact h1.elim
theorem XO:∀{ts:List Ty} {x:tw ts} {vs:List Value},EW V ts x vs→aF (tC V σ ν) (Uf.ac0 ts x) vs
 | [],x,vs,h=>by have:vs=[]:=h;subst this;trivial
 | [t],x,vs,h=>by obtain⟨v,rfl,h1⟩:=h;exact⟨h1,trivial⟩
 |t::u::ts,x,vs,h=>by obtain⟨v,r,rfl,h1,h2⟩:=h;exact⟨h1,XO h2⟩
theorem ae2 {p:ph}{x:p.den}{v:Value}{i:Nat}(h:TY V ν Y i p x v)(hb:∀t,p= .bx t→CY σ ν i 0 (ν (.box i))):ak V σ ν Y (Uf.one p x i) v:=by
 cases p with
 |v t=>exact L8 h
 |fn f ts=>obtain⟨vs,h1,h2⟩:=h;exact⟨vs,h1,XO h2⟩
 |c cs=>exact h
 |rp t=>exact h
 |bx t=>have h':v=ν (.box i):=h;subst h';exact hb t rfl
 |Na=>exact h
theorem PO:∀{ps:List ph} {x:HN ps} {i k:Nat} {t:Ty},ps[k]? =some (.bx t)→(look (dZ ps x i) (i+k)).isSome=true
 | [],x,i,k,t,h=>by simp at h
 | [p],x,i,0,t,h=>by simp only[List.getElem?_cons_zero,Option.some.injEq] at h;subst h;simp[dZ,dZ.one,look]
 | [p],x,i,k+1,t,h=>by simp at h
 |p::q::ps,x,i,0,t,h=>by simp only[List.getElem?_cons_zero,Option.some.injEq] at h;subst h;simp[dZ,dZ.one,look]
 |p::q::ps,x,i,k+1,t,h=>by
  have ih:=PO (ps:=q::ps) (x:=x.2) (i:=i+1) (k:=k) (by simpa using h);rw[show i+(k+1)=i+1+k by omega];show (look (dZ.one p x.1 i++dZ (q::ps) x.2 (i+1)) _).isSome=true;cases p with
  |bx u=>
   simp only[dZ.one,List.cons_append,List.nil_append,look];cases hb:Nat.beq i (i+1+k) with
   |true=>rfl
   |false=>exact ih
  |_=>exact ih
theorem U6:∀{ps:List ph} {x:HN ps} {vs:List Value} {i:Nat},SD V ν Y i ps x vs→(∀(k:Nat) t,ps[k]? =some (.bx t)→CY σ ν (i+k) 0 (ν (.box (i+k))))→aF (ak V σ ν Y) (Uf ps x i) vs∧vs.length=ps.length
 | [],x,vs,i,h,hb=>by have:vs=[]:=h;subst this;exact⟨trivial,rfl⟩
 | [p],x,vs,i,h,hb=>by obtain⟨v,rfl,h1⟩:=h;exact⟨⟨ae2 h1 (fun t e=>hb 0 t (by simp[e])),trivial⟩,rfl⟩
 |p::q::ps,x,vs,i,h,hb=>by
  obtain⟨v,r,rfl,h1,h2⟩:=h;obtain⟨h3,h4⟩:=U6 (i:=i+1) h2 (fun k t e=>by
   have:=hb (k+1) t (by simpa using e);rw[show i+(k+1)=i+1+k by omega] at this;exact this)
  exact⟨⟨ae2 h1 (fun t e=>hb 0 t (by simp[e])),h3⟩,by simp[h4]⟩
theorem XP {R:AV→Value→Prop}{g:Nat→Value}:∀{l:List AV} {vs:List Value} {acc:List (Nat×AV)} {i:Nat},aF R l vs→(∀j x,look acc j=some x→R x (g j))→
  (∀k v,vs[k]? =some v→g (i+k)=v)→∀j x,look (aik i l acc) j=some x→R x (g j)
 | [],[],acc,i,_,ha,_,j,x,h=>ha j x h
 |y::l,v::vs,acc,i,h,ha,hg,j,x,hx=>by
  refine XP (i:=i+1) (acc:=(i,y)::acc) h.2 (fun j z hz=> ?_) (fun k u hu=> ?_) j x hx
  ·simp only[look] at hz;cases hb:Nat.beq i j with
   |true=>
    have:=(beq_iff _ _).1 hb;subst this;rw[hb] at hz;obtain rfl:y=z:=by simpa using hz
    have:=hg 0 v rfl;rw[Nat.add_zero] at this;rw[this];exact h.1
   |false=>rw[hb] at hz;exact ha j z hz
  ·rw[Nat.add_assoc,Nat.add_comm 1 k];exact hg (k+1) u (by simpa using hu)
 | [],_::_,_,_,h,_,_,_,_,_=>h.elim
 |_::_,[],_,_,h,_,_,_,_,_=>h.elim
theorem Rc {R:AV→Value→Prop}{l:List AV}{vs:List Value}{X:Nat→Value}(h:aF R l vs)(m:Nat){s:List (Nat×AV)}(hs:∀i x,look s i=some x→R x (X i)):JC R (gh.of l m s) (vs++List.replicate m undef) X:=by refine⟨by simp[gh.of,h.length],fun j x hx=> ?_,hs⟩;refine XP (g:=fun j=>(vs++List.replicate m undef).getD j undef) h (fun j x hx=>by cases hx) (fun k v hv=> ?_) j x hx;have hk:=(List.getElem?_eq_some_iff.1 hv).1;simp[List.getD,List.getElem?_append_left hk,hv]
theorem St.begin {fn:Func}{v:Nat}{xh:CS T v}{vals:Array Value}(hG:N1 T E)(h:St E (uZ T v xh) ⟨#[],[]⟩ E.w0 ν O)
  (ha:SD (view E (uZ T v xh) ν O E.w0) ν E.Y 0 (T.sig v).args (wJ _ xh) vals.toList):
  St E (Po T fn v xh) {tmps:=vals++Array.replicate (fn.ntmps - vals.size) undef,defers:=[]} E.w0 ν O:=by
 obtain⟨h1,h2⟩:=U6 (σ:=uZ T v xh) ha (fun k t e=>by
  have h3:=PO (x:=wJ _ xh) (i:=0) e;obtain⟨bx,h4⟩:=Option.isSome_iff_exists.1 h3;obtain⟨g,h5,_⟩:=h.box (b:=0+k) h4;exact⟨h3,g,h5,h5⟩)
 refine h.ac1 (ah:=Po T fn v xh) ⟨rfl,rfl,rfl,rfl⟩ rfl ?_;have e:(vals++Array.replicate (fn.ntmps - vals.size) undef).toList=vals.toList++List.replicate (fn.ntmps - (T.sig v).args.length) undef:=by rw[Array.toList_append,Array.toList_replicate, ←h2];simp
 show JC _ _ (vals++Array.replicate (fn.ntmps - vals.size) undef).toList _;rw[e];refine Rc h1 _ (fun i x hx=> ?_);obtain⟨g,cs,rfl,rfl,h3⟩:=hG.2 i x hx;rw[hG.1 g];exact h3.mono fun key u ⟨ad,e,hlt,hv⟩=>by subst e;exact .inl ⟨hlt,hv⟩
theorem St.aoG {tmps:Array Value}{d:Deferred}{ds:List Deferred}(hE:aI E)(h:St E σ ⟨tmps,d::ds⟩ w ν O)(hM:∀r,E.M r→r<E.w0.heap.size)(hb:E.base.heap.size≤E.w0.heap.size):
  ∃r,d=⟨.collected r, #[]⟩∧w.heap[r]? =some (.deferred (some []))∧St E σ ⟨tmps,ds⟩ (w.putObj r (.deferred none)) ν O:=by
 obtain⟨r,hd,h1,h2,h3⟩:=h.marks d (by simp);refine⟨r,hd,h2, ?_⟩;have hg:Grow (fun k=>k=r) w (w.putObj r (.deferred none)):=Kr;have hne:∀m,¬Own σ ν m r:=fun m hm=>by obtain⟨cur,e,h4⟩:=h.Rl hm;rw[h2] at h4;cases h4
 have hblk:∀k o,w.heap[k]? =some o→k≠r→(w.putObj r (.deferred none)).heap[k]? =some o:=fun k o h4 h5=>by rw[hg.block k (Array.getElem?_eq_some_iff.1 h4).1 h5];exact h4
 have hV:∀key u,view E σ ν O w key u→view E σ ν O (w.putObj r (.deferred none)) key u:=fun key u hu=>by
  cases key with
  |cell ad=>
   rcases hu with hu | ⟨h4,h5,h6,h7⟩
   ·exact .inl hu
   ·have h8:ad.block≠r:=fun e=>by unfold World.cell? at h7;rw[e,h2] at h7;cases h7
    exact .inr ⟨h4,h5,h6,by rw[World.cell?_of_block (hg.block _ (Ii h7) h8)];exact h7⟩
  |ref i n=>exact hu
 refine⟨h.keep.trans hg (fun k hk e=>by subst e;omega),fun d' Z9=> ?_,h.slots.mono (ak.mono hV (Sub.refl _ _)),fun m o ho=> ?_,h.inj,fun m k hm=> ?_,h.new,⟨hE.stay _ _ _ _ _ h.out.1 hg (fun k e=>by subst e;exact⟨h3,fun hlt=>by omega⟩),fun k hk=>⟨Nat.lt_of_lt_of_le (h.out.2 k hk).1 hg.size,(h.out.2 k hk).2⟩⟩,h.nn,h.ro,h.kept,fun r' hr'=> ?_,h.wS.trans hg (fun k hk e=>by subst e;omega),h.yx,h.Pp, ?_⟩
 ·obtain⟨r',h4,h5,h6,h7⟩:=h.marks d' (by simp[Z9]);refine⟨r',h4,h5,hblk r' _ h6 (fun e=> ?_),h7⟩;subst e;have:=h.nd;rw[List.nodup_cons] at this;rw[hd, ←h4] at this;exact this.1 Z9
 ·exact(h.CF m o ho).mono hV (fun k hk=>hg.block k (h.Aw m k ⟨br ho,hk⟩).2.1 (fun e=>by subst e;exact hne m ⟨br ho,hk⟩)) (fun r' _ hr'=>⟨rfl,hr'⟩)
 ·obtain⟨h4,h5,h6⟩:=h.Aw m k hm;exact⟨h4,Nat.lt_of_lt_of_le h5 hg.size,h6⟩
 ·obtain⟨h4,h5⟩:=h.waits r' hr';exact⟨hblk r' _ h4 (fun e=>by subst e;have:=hM _ hr';omega),h5⟩
 ·have:=h.nd;rw[List.nodup_cons] at this;exact this.2
theorem Im {F:Fence}{n:Nat}{fn:Func}{tmps:Array Value}{R:Ending→World→Prop}(hE:aI E)(hM:∀r,E.M r→r<E.w0.heap.size)(hb:E.base.heap.size≤E.w0.heap.size)
  (hend:∀w',St E σ ⟨tmps,[]⟩ w' ν O→∃v,(results fn tmps).run P w'= .ok v w'∧R (.returned v) w'):∀(ds:List Deferred) (w:World),St E σ ⟨tmps,ds⟩ w ν O→LeavesInM F n P fn tmps R ds .returning w
 | [],w,h=>hend w h
 |d::ds,w,h=>by obtain⟨r,h1,h2,h3⟩:=h.aoG hE hM hb;refine⟨(by intro e;cases e), .inl ⟨r,_,by rw[h1],run_takeDeferred h2,Im hE hM hb hend ds _ h3⟩⟩
theorem St.aoH (hJ:E.J=lj)(hOm:∀k,¬E.Om k)(h:St E σ a w ν O):St E σ a w ν (fun _=>False):=by
 have hV:∀key u,view E σ ν O w key u→view E σ ν (fun _=>False) w key u:=fun key u hu=>by
  cases key with
  |cell ad=>exact hu.imp id (fun⟨h1,h2,h3,h4⟩=>⟨h1,h2,id,h4⟩)
  |ref i n=>exact hu
 refine⟨h.keep,fun d hd=> ?_,h.slots.mono (ak.mono hV (Sub.refl _ _)),fun m o ho=>(h.CF m o ho).mono hV (fun _ _=>rfl) (fun r _ hr=>⟨rfl,hr⟩),h.inj,fun m k hm=> ?_,h.new,⟨?_,fun _ hf=>hf.elim⟩,h.nn,h.ro,h.kept,fun r hr=>⟨(h.waits r hr).1,id⟩,h.wS,h.yx,fun k hk=>hOm k hk,h.nd⟩
 ·obtain⟨r,h1,h2,h3,_⟩:=h.marks d hd;exact⟨r,h1,h2,h3,id⟩
 ·obtain⟨h1,h2,_⟩:=h.Aw m k hm;exact⟨h1,h2,id⟩
 ·have:=h.out.1;rw[hJ] at this ⊢;exact this
def Ks (tmps:Array Value):ResultVar→Sem Value
 | .tmp t=>pure (tmps.getD t undef)
 | .cell x t=>do loadVar t (←asAddr (tmps.getD x undef))
theorem Io (hT:jO P T.rows)(h:St E σ a w ν O){rv:ResultVar}{av:AV}(he:HS T.rows σ rv=some av):
  ∃v,(Ks a.tmps rv).run P w= .ok v w∧ak (view E σ ν O w) σ ν E.Y av v:=by
 cases rv with
 |tmp t=>simp only[HS,Option.some.injEq] at he;subst he;refine⟨a.tmps.getD t undef,rfl, ?_⟩;have:=Pq (fun v=>by trivial) h.slots t;simpa using this
 |cell x t=>
  simp only[HS] at he;split at he
  ·rename_i b off r hb hr;obtain⟨rfl,hr'⟩:=hT t r hr;have hx:=Pq (fun v=>by trivial) h.slots x;rw[hb] at hx;obtain⟨_,g,hg,hu⟩:=hx;have hu':a.tmps.getD x undef= .pointer (some ⟨g,off,none⟩):=by simpa using hu
   split at he
   ·rename_i cs hcs;obtain⟨g',e1,cur,e,hgc,cS⟩:=h.box hcs;rw[hg] at e1;simp only[Value.pointer.injEq,Option.some.injEq,Addr.mk.injEq,and_true] at e1;subst e1;have hc:∀j u,(cur.toList.drop off)[j]? =some u→w.cell? ((⟨g,off,none⟩:Addr).add j)=some u:=by intro j u hj;rw[Xd,cell_of_row w _ _ cur e (0,0) hgc];simpa using Kg hj
    obtain⟨v',h1,h2⟩:=aay (P:=P) hr' hc (cS.drop off) he (σ:=σ) (ν:=ν) (Y:=E.Y);refine⟨v', ?_,h2⟩;simp only[Ks,hu',asAddr,Sem.run_bind,Sem.run_pure,Result.andThen_ok,h1]
   ·rename_i q hq;obtain⟨g',e1,e,hgc,hql⟩:=h.box hq;rw[hg] at e1;simp only[Value.pointer.injEq,Option.some.injEq,Addr.mk.injEq,and_true] at e1;subst e1;split at he
    ·rename_i ut rK;cases h0:Nat.beq off 0 with
     |false=>rw[h0] at he;cases he
     |true=>
      rw[h0] at he;simp only[cond_true,Option.some.injEq] at he;subst he;have:=(beq_iff _ _).1 h0;subst this;refine⟨ν (.row q), ?_,rfl,hql⟩;have hc:w.cell? ⟨g,0,none⟩=some (ν (.row q)):=by rw[cell_of_row w _ _ _ e (0,0) hgc];rfl
      have ha:=LQ hr' w;rw[rK] at ha;simp only[Ks,hu',asAddr,Sem.run_bind,Sem.run_pure,Result.andThen_ok];simp[loadVar,ha,hc]
    ·cases he
   ·cases he
  ·cases he
theorem Kt {fn:Func}{vs:List Value}(h:(fn.results.toList.mapM (Ks a.tmps)).run P w= .ok vs w):
  (results fn a.tmps).run P w= .ok (match vs with | [v]=>v |l=> .tuple l.toArray) w:=by
 have e:results fn a.tmps=(do
   let vs ←fn.results.mapM (Ks a.tmps)
   pure (if h:vs.size=1 then vs[0] else .tuple vs)):=by
  unfold results;have:(fun rv=>(match rv with |ResultVar.tmp t=>pure (a.tmps.getD t undef) | .cell x t=>do loadVar t (←asAddr (a.tmps.getD x undef)):Sem Value))=Ks a.tmps:=by funext rv;cases rv<;>rfl
  rw[←this];rfl
 rw[e,Array.mapM_eq_mapM_toList];simp only[Sem.run_bind,Sem.run_map,h,Result.andThen_ok,Sem.run_pure]
 match vs with
 | []=>rfl
 | [v]=>rfl
 |v::u::r=>simp
end
section
variable {P:Program}{T:dc}{Φ:cj T}{E:Env}{σ ah es:AS}{a a':Act}{w w':World}{ν aN:Nm→Value}{O O':Nat→Prop}{V V':View}{Y:Value}{fr fb:Nat→Nat}{hin:List Nat}
def abq (fr fb:Nat→Nat):Nm→Nm
 | .row k=> .row (fr k)
 | .box k=> .box (fb k)
 | .hp i n=> .hp i n
def WI (fr fb:Nat→Nat)(ν:Nm→Value)(m:Nm):Value:=ν (abq fr fb m)
def ae3 (hin:List Nat):Obj→Prop
 | .row row=>fw hin row.t=true
 | .box (.cells cs)=>∃(t:Ty) (y:t.den),cs=flat t y∧fw hin t=true
 | .box _=>False
 | .hp _ row=>fw hin row.t=true
theorem ae4 (m:Nm):E.yq (abq fr fb m)→E.yq m:=fun h=>by
 cases m with
 |row k=>exact absurd h Q0
 |box k=>exact absurd h NW
 |hp i n=>exact h
theorem ajt (m:Nm)(k:Nat):E.Xa (abq fr fb m) k→E.Xa m k:=fun h=>by cases m<;>exact h
structure GM (E:Env) (σ es:AS) (ν:Nm→Value) (fr fb:Nat→Nat) (hin:List Nat):Prop where
 obj:∀m o,es.obj m=some o→σ.obj (abq fr fb m)=some o∧ae3 hin o
 inj:∀m m',(es.obj m).isSome=true→(es.obj m').isSome=true→abq fr fb m=abq fr fb m'→m=m'
 hp:∀i,i∈hin→es.af[i]? =σ.af[i]?
 em:∀i hr,i∉hin→es.af[i]? =some hr→hr.xs=[]
 kept:HK E.h0 E.n0 es.af ν
 tr:es.trace=⟨.unit,()⟩
 tm:es.tmps=⟨0,[],[]⟩
 ro:∀i hr,E.ro i=some hr→es.af[i]? =some hr
theorem GM.own (g:GM E σ es ν fr fb hin){m:Nm}{k:Nat}(h:Own es (WI fr fb ν) m k):Own σ ν (abq fr fb m) k:=by obtain⟨o,ho⟩:=Option.isSome_iff_exists.1 h.1;exact⟨by rw[(g.obj m o ho).1];rfl,h.2⟩
theorem GM.cell (g:GM E σ es ν fr fb hin)(ad:Addr)(u:Value)(hv:view E σ ν O w (.cell ad) u):view E es (WI fr fb ν) O w (.cell ad) u:=by
 rcases hv with hv | ⟨h1,h2,h3,h4⟩
 ·exact .inl hv
 ·exact .inr ⟨h1,fun⟨m,hm⟩=>h2 ⟨_,g.own hm⟩,h3,h4⟩
theorem GM.ref (g:GM E σ es ν fr fb hin)(i:Nat)(hi:hin.any (Nat.beq i)=true)(n:Nat)(u:Value)(hv:view E σ ν O w (.ref i n) u):view E es (WI fr fb ν) O w (.ref i n) u:=by obtain⟨h1,h2,h3⟩:=hv;refine⟨h1, ?_,h3⟩;unfold hlen at h2 ⊢;rw[g.hp i (lO.1 hi)];exact h2
theorem St.finish (h:St E σ a w ν (fun _=>False))(hJ:E.J=lj)(g:GM E σ es ν fr fb hin):St E es ⟨#[],[]⟩ w (WI fr fb ν) (fun _=>False):=by
 have cS:∀t x cs,fw hin t=true→Rel (view E σ ν (fun _=>False) w) t x cs→Rel (view E es (WI fr fb ν) (fun _=>False) w) t x cs:=fun t x cs hr=>Rel.tr g.cell g.ref t x cs hr;refine⟨h.keep,(fun d hd=>by cases hd),⟨by rw[g.tm];rfl,(fun i x e=>by rw[g.tm] at e;cases e),(fun i x e=>by rw[g.tm] at e;cases e)⟩,fun m o ho=> ?_,fun m m' k h1 h2=>g.inj m m' h1.1 h2.1 (h.inj _ _ k (g.own h1) (g.own h2)),fun m k hm=> ?_,fun m k hm=>(h.new _ k (g.own hm)).imp id (ajt m k),⟨?_,fun _ hf=>hf.elim⟩,fun i hr n e h1 h2=> ?_,fun i hr e=>⟨g.ro i hr e,(h.ro i hr e).2⟩,⟨g.kept.num,g.kept.row,g.kept.nm⟩,h.waits,h.wS,fun m k hm=>(h.yx _ k (g.own hm)).imp (ae4 m) id,h.Pp,List.nodup_nil⟩
 ·obtain⟨h1,h2⟩:=g.obj m o ho;have h3:=h.CF _ o h1;show HU _ es _ w (ν (abq fr fb m)) o;cases o with
  |row row=>obtain⟨bG,h4,h5⟩:=h3;exact⟨bG,h4,h5.mono fun x cs=>cS _ x cs h2⟩
  |box x=>
   cases x with
   |cells cs=>obtain⟨t,y,rfl,h2⟩:=h2;obtain⟨gb,h4,cur,e,h5,h6⟩:=h3;exact⟨gb,h4,cur,e,h5,jK (cS t y _ h2 (jL h6))⟩
   |own q=>exact h2.elim
   |nil=>exact h2.elim
  |hp k row=>
   match k,h3 with
   |0,⟨h4,bG,h5,h6⟩=>exact⟨h4,bG,h5,h6.mono fun x cs=>cS _ x cs h2⟩
   |1,⟨gb,cur,ys,x,h4,h5,h6,h7,h8⟩=>exact⟨gb,cur,ys,x,h4,h5,h6,h7,cS _ _ _ h2 h8⟩
 ·obtain⟨h1,h2,h3⟩:=h.Aw _ k (g.own hm);exact⟨h1.imp id (Or.imp id (ae4 m)),h2,h3⟩
 ·have:=h.out.1;rw[hJ] at this ⊢;exact g.tr
 ·by_cases hi:i∈hin
  ·rw[g.hp i hi] at e;exact h.nn i hr n e h1 h2
  ·rw[g.em i hr hi e] at h2;simp at h2;omega
theorem U7 (wr:List Nat):∀(hs:List Nat) (x:FZ T hs) (l:List aQ) (i:Nat),i∈hs→i<l.length→∃hr:aQ,(rR T wr hs x l)[i]? =some hr∧hr.e=(T.ht i).e∧hr.t=(T.ht i).t∧hr.k=(T.ht i).k∧hr.w=wr.any (Nat.beq i)
 | [],_,l,i,h,_=>by simp at h
 | [h],x,l,i,hm,hl=>by simp only[List.mem_singleton] at hm;subst hm;simp only[rR,uh];rw[List.getElem?_set_self hl];exact⟨_,rfl,rfl,rfl,rfl,rfl⟩
 |h::j::r,x,l,i,hm,hl=>by
  by_cases hm2:i∈j::r
  ·simp only[rR];exact U7 wr (j::r) x.2 _ i hm2 (by simpa [uh] using hl)
  ·have:i=h:=by
    rcases List.mem_cons.1 hm with e |e
    ·exact e
    ·exact absurd e hm2
   subst this;simp only[rR];rw[lb wr _ _ _ i hm2];simp only[uh];rw[List.getElem?_set_self hl];exact⟨_,rfl,rfl,rfl,rfl,rfl⟩
theorem abr {s t:Ty}(h:s=t)(xs:List (Option (List s.den)))(e:TypeId)(k:Nat)(w:Bool):(⟨e,t,k,w,Sd h xs⟩:aQ)=⟨e,s,k,w,xs⟩:=Xo e k w h xs
theorem abt (wr:List Nat){af:List aQ}:∀(hs:List Nat) (x:FZ T hs) (l:List aQ) (i:Nat),NR T af hs=some x→i∈hs→i<l.length→∃hr:aQ,af[i]? =some hr∧hr.t=(T.ht i).t∧(rR T wr hs x l)[i]? =some ⟨(T.ht i).e,hr.t,(T.ht i).k,wr.any (Nat.beq i),hr.xs⟩
 | [],_,l,i,_,h,_=>by simp at h
 | [h],x,l,i,hx,hm,hl=>by
   simp only[List.mem_singleton] at hm;subst hm;simp only[NR,aez] at hx;split at hx
   ·rename_i hr e;split at hx
    ·rename_i et;simp only[Option.some.injEq] at hx;subst hx;refine⟨hr,e,et, ?_⟩;simp only[rR,uh];rw[List.getElem?_set_self hl];exact congrArg some (abr et hr.xs _ _ _)
    ·cases hx
   ·cases hx
 |h::j::r,x,l,i,hx,hm,hl=>by
  simp only[NR] at hx;split at hx
  ·rename_i y hy;split at hx
   ·rename_i z hz;simp only[Option.some.injEq] at hx;subst hx;by_cases hm2:i∈j::r
    ·simp only[rR];exact abt wr (j::r) z _ i hz hm2 (by simpa [uh] using hl)
    ·have:i=h:=by
      rcases List.mem_cons.1 hm with e |e
      ·exact e
      ·exact absurd e hm2
     subst this;simp only[aez] at hy;split at hy
     ·rename_i hr e;split at hy
      ·rename_i et;simp only[Option.some.injEq] at hy;subst hy;refine⟨hr,e,et, ?_⟩;simp only[rR];rw[lb wr _ _ _ i hm2];simp only[uh];rw[List.getElem?_set_self hl];exact congrArg some (abr et hr.xs _ _ _)
      ·cases hy
     ·cases hy
   ·cases hx
  ·cases hx
theorem agJ {v:Nat}{xh:CS T v}{yh:wN T v}{ν0:Nm→Value}(hC:Callee T E v xh)(hk0:HK E.h0 E.n0 (aO T v xh) ν0)(h:St E σ a w ν O)(hy:NR T σ.af (T.sig v).hout=some (F0 _ yh))(hro:∀i hr,E.ro i=some hr→σ.af[i]? =some hr):
  (∀i,i∈(T.sig v).hin→(rZ T v xh yh)[i]? =σ.af[i]?)∧(∀i hr,i∉(T.sig v).hin→(rZ T v xh yh)[i]? =some hr→hr.xs=[])∧HK E.h0 E.n0 (rZ T v xh yh) ν∧(∀i hr,E.ro i=some hr→(rZ T v xh yh)[i]? =some hr)∧∀i hr,i∈(T.sig v).hin→σ.af[i]? =some hr→hr.t=(T.ht i).t:=by
 have aju:(aO T v xh).length=T.af.length:=by unfold aO;rw[Az,rY]
 have anD:σ.af.length=T.af.length:=by rw[h.kept.num, ←hk0.num,aju]
 have same:∀i hr,(aO T v xh)[i]? =some hr→∃hr',σ.af[i]? =some hr'∧BN hr hr':=fun i hr e=>by
  have hlt:=(List.getElem?_eq_some_iff.1 e).1;rw[hk0.num] at hlt;obtain⟨Pe,h1,h2,_⟩:=hk0.row i _ (List.getElem?_eq_getElem hlt);obtain⟨Ja,h3,h4,_⟩:=h.kept.row i _ (List.getElem?_eq_getElem hlt);rw[e] at h1;obtain rfl:hr=Pe:=by simpa using h1
  exact⟨Ja,h3,⟨h4.e.trans h2.e.symm,h4.t.trans h2.t.symm,h4.k.trans h2.k.symm,h4.w.trans h2.w.symm⟩⟩
 have hsub:∀i,i∈(T.sig v).hout→i∈(T.sig v).hin:=fun i hi=>PF (s:=T.sig v) (lO.2 hi);have hEq:∀i,i∉(T.sig v).hout→(rZ T v xh yh)[i]? =(aO T v xh)[i]? :=fun i hi=>lb _ _ _ _ i hi;have aqR:∀i,i∈(T.sig v).hin→(rZ T v xh yh)[i]? =σ.af[i]? :=fun i hi=>by
  by_cases hlt:i<T.af.length
  ·obtain⟨hs,s1,s2,s3,s4,s5⟩:=U7 (T:=T) (T.sig v).hout (T.sig v).hin (F0 _ xh) (c8 T) i hi (by rw[rY];exact hlt);obtain⟨hr',h1,h2⟩:=same i hs s1;by_cases ho:i∈(T.sig v).hout
   ·obtain⟨hr,g1,g2,g3⟩:=abt (T:=T) (T.sig v).hout (T.sig v).hout (F0 _ yh) (aO T v xh) i hy ho (by rw[aju];exact hlt);rw[h1] at g1;obtain rfl:hr'=hr:=by simpa using g1
    show (rR T _ _ _ _)[i]? =_;rw[g3,h1];have e1:hr'.e=(T.ht i).e:=h2.e.trans s2;have e2:hr'.k=(T.ht i).k:=h2.k.trans s4;have e3:hr'.w=(T.sig v).hout.any (Nat.beq i):=h2.w.trans s5;rw[←e1, ←e2, ←e3]
   ·have s1':(aO T v xh)[i]? =some hs:=s1;rw[hEq i ho,s1'];have hr0:=hC.ro i;have hf:(T.sig v).hout.any (Nat.beq i)=false:=eq_false_of_ne_true (fun h=>ho (lO.1 h));rw[lO.2 hi,hf] at hr0;have Pe:E.ro i=(aO T v xh)[i]? :=hr0;rw[s1'] at Pe;exact(hro i hs Pe).symm
  ·rw[List.getElem?_eq_none (by unfold rZ;rw[Az,aju];omega),List.getElem?_eq_none (by rw[anD];omega)]
 have hEm:∀i hr,i∉(T.sig v).hin→(rZ T v xh yh)[i]? =some hr→(aO T v xh)[i]? =some hr∧hr.xs=[]:=fun i hr hi e=>by rw[hEq i (fun ho=>hi (hsub i ho))] at e;refine⟨e, ?_⟩;unfold aO at e;rw[lb _ _ _ _ i hi] at e;exact zh i hr e
 refine⟨aqR,fun i hr hi e=>(hEm i hr hi e).2,⟨?_,fun i hr e=> ?_,fun i n h1 h2=>h.kept.nm i n h1 h2⟩,fun i hr e=> ?_,fun i hr hi e=> ?_⟩
 ·show (rZ T v xh yh).length=_;unfold rZ;rw[Az];exact hk0.num
 ·by_cases hi:i∈(T.sig v).hin
  ·rw[aqR i hi];exact h.kept.row i hr e
  ·have hlt:=(List.getElem?_eq_some_iff.1 e).1;rw[←hk0.num] at hlt;have e2:(aO T v xh)[i]? =some (aO T v xh)[i]:=List.getElem?_eq_getElem hlt;obtain⟨Pe,h1,h2,h3⟩:=hk0.row i hr e;refine⟨Pe, ?_,h2,h3⟩;rw[hEq i (fun ho=>hi (hsub i ho))];exact h1
 ·have h1:=hC.ro i;rw[e] at h1;cases hb:((T.sig v).hin.any (Nat.beq i)&& !((T.sig v).hout.any (Nat.beq i))) with
  |false=>rw[hb] at h1;cases h1
  |true=>rw[hb,cond_true] at h1;simp only[Bool.and_eq_true,Bool.not_eq_true'] at hb;rw[hEq i (fun ho=>by rw[lO.2 ho] at hb;cases hb.2)];exact h1.symm
 ·have hlt:=(List.getElem?_eq_some_iff.1 e).1;rw[anD] at hlt;obtain⟨hs,s1,s2,s3,s4,s5⟩:=U7 (T:=T) (T.sig v).hout (T.sig v).hin (F0 _ xh) (c8 T) i hi (by rw[rY];exact hlt);obtain⟨hr',h1,h2⟩:=same i hs s1;rw[e] at h1;obtain rfl:hr=hr':=by simpa using h1
  exact h2.t.trans s3
end
section
variable {P:Program}{T:dc}{Φ:cj T}{E:Env}{σ ah es:AS}{a a':Act}{w w':World}{ν aN:Nm→Value}{O O':Nat→Prop}{V V':View}{Y:Value}{fr fb:Nat→Nat}{hin:List Nat}
def rowAt (T:List gZ)(σ:AS)(rv:ResultVar):Option Nat:=
 match HS T σ rv with
 |some (.rv (.own r))=>some r
 |_=>none
theorem Ku {T:List gZ}:∀(l:List ResultVar) (p r:Nat),(l[p]?).bind (rowAt T σ)=some r→r∈uN T σ l
 | [],p,r,h=>by simp at h
 |v::l,0,r,h=>by
  simp only[List.getElem?_cons_zero,Option.bind_some,rowAt] at h;simp only[uN];split at h
  ·rename_i r' hr;simp only[Option.some.injEq] at h;subst h;rw[hr];simp
  ·cases h
 |v::l,p+1,r,h=>by
  have:=Ku l p r (by simpa using h);simp only[uN];split
  ·simp[this]
  ·exact this
theorem U8 {T:List gZ}:∀(l:List ResultVar),yw (uN T σ l)=true→∀(p q r:Nat),(l[p]?).bind (rowAt T σ)=some r→(l[q]?).bind (rowAt T σ)=some r→p=q
 | [],h,p,q,r,hp,hq=>by simp at hp
 |v::l,h,p,q,r,hp,hq=>by
  have ajv:yw (uN T σ l)=true∧∀r',rowAt T σ v=some r'→r'∉uN T σ l:=by
   simp only[uN] at h;split at h
   ·rename_i r' hr;simp only[yw,Bool.and_eq_true,Bool.not_eq_true',List.any_eq_false] at h;refine⟨h.2,fun r2 h2 hm=> ?_⟩;simp only[rowAt,hr,Option.some.injEq] at h2;subst h2;exact h.1 r' hm (beq_refl r')
   ·rename_i hn;refine⟨h,fun r2 h2=> ?_⟩;simp only[rowAt] at h2;cases h2
  cases p with
  |zero=>
   cases q with
   |zero=>rfl
   |succ q=>exact absurd (Ku l q r (by simpa using hq)) (ajv.2 r (by simpa using hp))
  |succ p=>
   cases q with
   |zero=>exact absurd (Ku l p r (by simpa using hp)) (ajv.2 r (by simpa using hq))
   |succ q=>rw[U8 l ajv.1 p q r (by simpa using hp) (by simpa using hq)]
theorem Ip {t:Ty}{e:TypeId}{av:AV}{x:t.den}(h:Kc σ hin (t,some e) av=some x):∃r row,av= .rv (.own r)∧look σ.rows r=some row∧ownRow t e x=some row∧t= .slice row.t:=by
 have GK:(∃r,av= .rv (.own r))∨Kc σ hin (t,some e) av=none:=by
  cases av with
  |rv x=>cases x<;>first |exact .inl ⟨_,rfl⟩ |exact .inr rfl
  |_=>exact .inr rfl
 rcases GK with ⟨r,rfl⟩ |GK
 ·simp only[Kc] at h;split at h
  ·rename_i row hrow;cases hb:Nat.beq row.e e with
   |false=>simp[hb] at h
   |true=>simp only[hb,cond_true] at h;have hbe:=(beq_iff _ _).1 hb;have hc:=ES h;refine⟨r,row,rfl,hrow, ?_⟩;obtain⟨re,rt,rxs⟩:=row;simp only at hbe hc;subst hbe;cases hc;exact⟨rfl,rfl⟩
  ·cases h
 ·rw[GK] at h;cases h
theorem ajw (h:St E σ a w ν (fun _=>False))(g:GM E σ es ν fr fb hin)(hX:∀i k,i∉hin→¬E.XH i k)(hR:∀i hr,i∉hin→E.ro i≠some hr):
  ∀(i n:Nat) (hr:aQ) (l:List hr.t.den) (v:Value),(YJ σ.af hin)[i]? =some hr→ag hr.xs n=some l→cg (view E σ ν (fun _=>False) w) ⟨.ref i,n⟩ v→Src (view E σ ν (fun _=>False) w) (view E es (WI fr fb ν) (fun _=>False) w) hr.t l v:=by
 intro i n hr l v e hg hv;unfold YJ at e;simp only[List.getElem?_map,Option.map_eq_some_iff] at e;obtain⟨p,hp,e⟩:=e;rw[List.getElem?_zipIdx] at hp;simp only[Option.map_eq_some_iff,Nat.zero_add] at hp;obtain⟨hr0,hp1,rfl⟩:=hp;dsimp only at e;cases hi:hin.any (Nat.beq i) with
 |true=>
  rw[hi,cond_true] at e;subst e;cases n with
  |zero=>simp only[ag,Option.some.injEq] at hg;subst hg;have: [v]=[_]:=hv;simp only[List.cons.injEq,and_true] at this;exact⟨none,0,[],this,Nat.le_refl _,trivial,fun _=>rfl,fun j u hj=>by simp at hj⟩
  |succ m=>simp[ag] at hg
 |false=>
  rw[hi,cond_false] at e;subst e;have hni:i∉hin:=fun hm=>by rw[lO.2 hm] at hi;cases hi
  obtain⟨h2,h3,_⟩:=h.LW hp1 hg hv;obtain⟨A,c,bG,e1,e2,e3,e4,e5⟩:=TW h2;refine⟨A,c,bG,e1,e2,e3,e4,fun j u hj=> ?_⟩;obtain⟨ad,rfl,hc⟩:=e5 j u hj;refine⟨ad,rfl, ?_⟩;have hown:=h3 ad.block (by rw[e1];rfl);refine .inr ⟨by rw[zi];exact(h.new _ _ hown).resolve_right (hX i _ hni),fun⟨m,hm⟩=> ?_,id,hc⟩;rw[zi] at hm;have h7:=h.inj _ _ _ hown (g.own hm);cases m with
  |row k=>cases h7
  |box k=>cases h7
  |hp i' n'=>
   injection h7 with h7 h8
   subst h7 h8;have h9:=hm.1;cases n with
   |zero=>cases h9
   |succ n=>
    simp only[AS.obj,pj] at h9;split at h9
    ·rename_i Ja e6;rw[g.em i Ja hni e6] at h9;simp[I9] at h9
    ·cases h9
theorem PQ (h:St E σ a w ν (fun _=>False))(g:GM E σ es ν fr fb hin)(hX:∀i k,i∉hin→¬E.XH i k)(hR:∀i hr,i∉hin→E.ro i≠some hr){t:Ty}{av:AV}{x:t.den}{v:Value}
  (hi:fw hin t=true) (hu:∀r,av= .rv (.own r)→∀k,(look es.rows k).isSome=true→fr k≠r) (he:Kc σ hin (t,none) av=some x) (hv:ak (view E σ ν (fun _=>False) w) σ ν Y av v):
  yr (view E es (WI fr fb ν) (fun _=>False) w) t x v:=by
 have GK:(∃r,av= .rv (.own r))∨Kc σ hin (t,none) av=(bif QX av then typed (YJ σ.af hin) t av else typed [] t av):=by
  cases av with
  |rv x=>cases x<;>first |exact .inl ⟨_,rfl⟩ |exact .inr rfl
  |_=>exact .inr rfl
 rcases GK with ⟨r,rfl⟩ |GK
 ·simp only[Kc] at he;obtain⟨rfl,hlk⟩:=hv;split at he
  ·rename_i row hrow;have hc:=ES he;obtain⟨A,c,bG,e1,e2,e3,e4,e5⟩:=TW (h.row hrow);have hsrc:Src (view E σ ν (fun _=>False) w) (view E es (WI fr fb ν) (fun _=>False) w) row.t row.xs (ν (.row r)):=by
    refine⟨A,c,bG,e1,e2,e3,e4,fun j u hj=> ?_⟩;obtain⟨ad,rfl,hcell⟩:=e5 j u hj;refine⟨ad,rfl, ?_⟩;have hown:Own σ ν (.row r) ad.block:=⟨by simp[AS.obj,hrow],by rw[e1];rfl⟩
    refine .inr ⟨by rw[zi];exact(h.new _ _ hown).resolve_right id,fun⟨m,hm⟩=> ?_,id,hcell⟩;rw[zi] at hm;have h7:=h.inj _ _ _ (g.own hm) hown;cases m with
    |row k=>
     injection h7 with h7
     exact hu r rfl k (by have:=hm.1;simpa [AS.obj] using this) h7
    |box k=>cases h7
    |hp i' n'=>cases h7
   have hri:fw hin row.t=true:=by
    have:t= .slice row.t:=by cases hc;rfl
    rw[this] at hi;exact hi
   have hlr:=hsrc.tr g.cell g.ref hri;rw[hc] at hlr;refine yr.Rc (fun u e=> ?_) hlr;subst e;cases hc
  ·cases he
 ·rw[GK] at he;cases hb:QX av with
  |true=>rw[hb,cond_true] at he;exact LZ g.cell g.ref (ajw h g hX hR) hi he hv
  |false=>rw[hb,cond_false] at he;exact LZ (af:=[]) g.cell g.ref (fun i n hr l v e=>by simp at e) hi he hv
theorem abu:∀{vars:List ResultVar} {ts:List NP} {y:tw (ts.map (·.1))} {d:Nat},tA T.rows σ hin vars ts=some y→∀u∈lh d ts y,∃j r row t e,u= .row (d+j) row∧(vars[j]?).bind (rowAt T.rows σ)=some r∧look σ.rows r=some row∧ts[j]? =some (t,some e)∧t= .slice row.t
 | [],[],y,d,h,u,hu=>by simp[lh] at hu
 | [v],[(t,none)],y,d,h,u,hu=>by simp[lh] at hu
 | [v],[(t,some e)],y,d,h,u,hu=>by simp only[tA] at h;obtain⟨av,rL,h⟩:=Option.bind_eq_some_iff.1 h;obtain⟨r,row,rfl,h1,h2,h3⟩:=Ip h;simp only[lh] at hu;rw[h2] at hu;simp only[List.mem_singleton] at hu;exact⟨0,r,row,t,e,hu,by simp[rowAt,rL],h1,rfl,h3⟩
 |v::vs,(t,o)::q::ps,y,d,h,u,hu=>by
  simp only[tA] at h;split at h
  ·rename_i x1 y1 hx hy;simp only[Option.some.injEq] at h;subst h;have ih:=fun u hu=>abu (d:=d+1) hy u hu;have tail:∀u∈lh (d+1) (q::ps) y1,∃j r row t' e,u= .row (d+j) row∧((v::vs)[j]?).bind (rowAt T.rows σ)=some r∧look σ.rows r=some row∧((t,o)::q::ps)[j]? =some (t',some e)∧t'= .slice row.t:=fun u hu=>by obtain⟨j,r,row,t',e,h1,h2,h3,h4,h5⟩:=ih u hu;exact⟨j+1,r,row,t',e,by rw[h1];congr 1;omega,by simpa using h2,h3,by simpa using h4,h5⟩
   cases o with
   |none=>exact tail u hu
   |some e=>
    obtain⟨av,rL,hx⟩:=Option.bind_eq_some_iff.1 hx;obtain⟨r,row,rfl,h1,h2,h3⟩:=Ip hx;simp only[lh] at hu;rw[show ownRow t e ((x1,y1):tw (((t,some e)::q::ps).map (·.1))).1=some row from h2] at hu;rcases List.mem_cons.1 hu with hu |hu
    ·exact⟨0,r,row,t,e,hu,by simp[rowAt,rL],h1,rfl,h3⟩
    ·exact tail u hu
  ·cases h
 | [],_::_,y,d,h,u,hu=>by simp[tA] at h
 |_::_,[],y,d,h,u,hu=>by simp[tA] at h
 |_::_::_,[_],y,d,h,u,hu=>by simp[tA] at h
theorem ae5 {us:List TU}(h:N0 us)(σ:AS):(∀k,((look σ.rows k).isSome=true∨∃row,TU.row k row∈us)→(look (σ.app us).rows k).isSome=true)∧∀k,((look σ.boxes k).isSome=true∨∃x,TU.box k x∈us)→(look (σ.app us).boxes k).isSome=true:=by
 induction us generalizing σ with
 |nil=>exact⟨fun k hk=>hk.elim id (fun⟨row,e⟩=>by simp at e),fun k hk=>hk.elim id (fun⟨row,e⟩=>by simp at e)⟩
 |cons u us ih=>
  obtain⟨h1,h2⟩:=ih (fun x hx=>h x (by simp[hx])) (σ.one u);refine⟨fun k hk=>h1 k ?_,fun k hk=>h2 k ?_⟩
  ·rcases hk with hk | ⟨row,hk⟩
   ·left;rcases h u (by simp) with ⟨j,r0,rfl⟩ | ⟨j,x0,rfl⟩
    ·show (look (put _ _ _) k).isSome=true;rw[aH];split
     ·rfl
     ·exact hk
    ·exact hk
   ·rcases List.mem_cons.1 hk with hk |hk
    ·left;subst hk;show (look (put _ _ _) k).isSome=true;rw[aH,if_pos rfl];rfl
    ·exact .inr ⟨row,hk⟩
  ·rcases hk with hk | ⟨row,hk⟩
   ·left;rcases h u (by simp) with ⟨j,r0,rfl⟩ | ⟨j,x0,rfl⟩
    ·exact hk
    ·show (look (put _ _ _) k).isSome=true;rw[aH];split
     ·rfl
     ·exact hk
   ·rcases List.mem_cons.1 hk with hk |hk
    ·left;subst hk;show (look (put _ _ _) k).isSome=true;rw[aH,if_pos rfl];rfl
    ·exact .inr ⟨row,hk⟩
theorem U9 (hT:jO P T.rows)(h:St E σ a w ν (fun _=>False))(g:GM E σ es ν fr fb hin)(hX:∀i k,i∉hin→¬E.XH i k)(hR:∀i hr,i∉hin→E.ro i≠some hr):
  ∀{vars:List ResultVar} {ts:List NP} {y:tw (ts.map (·.1))} {d:Nat},tA T.rows σ hin vars ts=some y→(ts.all fun p=>fw hin p.1)=true→(∀(j r:Nat),(vars[j]?).bind (rowAt T.rows σ)=some r→∀t e,ts[j]? =some (t,some e)→fr (d+j)=r)→
   (∀(j r:Nat) t,(vars[j]?).bind (rowAt T.rows σ)=some r→ts[j]? =some (t,none)→∀k,(look es.rows k).isSome=true→fr k≠r)→(∀u∈lh d ts y,∀k row,u= .row k row→(look es.rows k).isSome=true)→
   ∃vs,(vars.mapM (Ks a.tmps)).run P w= .ok vs w∧aF (tp (view E es (WI fr fb ν) (fun _=>False) w) es (WI fr fb ν)) (BL d ts y) vs
 | [],[],y,d,he,hi,h1,h2,h3=>⟨[],rfl,trivial⟩
 | [rv],[(t,none)],y,d,he,hi,h1,h2,h3=>by simp only[tA] at he;obtain⟨av,rL,he⟩:=Option.bind_eq_some_iff.1 he;obtain⟨v,hrun,hv⟩:=Io hT h rL;simp only[List.all_cons,List.all_nil,Bool.and_true] at hi;have hp:=PQ h g hX hR hi (fun r e k hk=>h2 0 r t (by simp[rowAt,rL,e]) rfl k hk) he hv;refine⟨[v],by simp[hrun], ?_⟩;have:=L8 (σ:=es) (ν:=WI fr fb ν) (Y:=E.Y) hp;cases t<;>exact⟨this,trivial⟩
 | [rv],[(t,some e)],y,d,he,hi,h1,h2,h3=>by
   simp only[tA] at he;obtain⟨av,rL,he⟩:=Option.bind_eq_some_iff.1 he;obtain⟨v,hrun,hv⟩:=Io hT h rL;obtain⟨r,row,rfl,g1,g2,g3⟩:=Ip he;obtain⟨rfl,_⟩:=hv;refine⟨[ν (.row r)],by simp[hrun], ?_⟩;have TV:=h1 0 r (by simp[rowAt,rL]) t e rfl;have hm:TU.row d row∈lh d [(t,some e)] y:=by
    have e9:lh d [(t,some e)] y=[TU.row d row]:=by show (match ownRow t e y with |some row=>[TU.row d row] |none=>[])=_;rw[g2]
    rw[e9];simp
   have hsome:=h3 _ hm d row rfl;have:tp (view E es (WI fr fb ν) (fun _=>False) w) es (WI fr fb ν) (.own d) (ν (.row r)):=⟨by show _=ν (.row (fr d));rw[show fr d=r from TV],hsome⟩
   cases t<;>exact⟨this,trivial⟩
 |rv::vs,(t,o)::q::ps,y,d,he,hi,h1,h2,h3=>by
  simp only[tA] at he;split at he
  ·rename_i x1 y1 hx hy;simp only[Option.some.injEq] at he;subst he;rw[List.all_cons,Bool.and_eq_true] at hi;have hsub:∀u∈lh (d+1) (q::ps) y1,u∈lh d ((t,o)::q::ps) (x1,y1):=fun u hu=>by
    cases o with
    |none=>exact hu
    |some e=>
     simp only[lh];split
     ·exact List.mem_cons_of_mem _ hu
     ·exact hu
   obtain⟨us,e1,e2⟩:=U9 hT h g hX hR (d:=d+1) hy hi.2 (fun j r hj t' e he=>by
     have:=h1 (j+1) r (by simpa using hj) t' e (by simpa using he);rw[show d+(j+1)=d+1+j by omega] at this;exact this) (fun j r t' hj he k hk=>h2 (j+1) r t' (by simpa using hj) (by simpa using he) k hk) (fun u hu k row e=>h3 u (hsub u hu) k row e)
   obtain⟨av,rL,hx⟩:=Option.bind_eq_some_iff.1 hx;obtain⟨v,hrun,hv⟩:=Io hT h rL;have fin:tp (view E es (WI fr fb ν) (fun _=>False) w) es (WI fr fb ν) (match o with |some _=> .own d |none=>match t,x1 with | .st t,x=> .agg (flat t x) |t,x=> .cv ⟨t,x⟩) v→∃vs',((rv::vs).mapM (Ks a.tmps)).run P w= .ok vs' w∧aF (tp (view E es (WI fr fb ν) (fun _=>False) w) es (WI fr fb ν)) (BL d ((t,o)::q::ps) (x1,y1)) vs':=fun hr=>by
    refine⟨v::us, ?_, ?_⟩
    ·rw[List.mapM_cons];simp[hrun,e1]
    ·cases o with
     |none=>cases t<;>exact⟨hr,e2⟩
     |some e=>cases t<;>exact⟨hr,e2⟩
   cases o with
   |none=>have hp:=PQ h g hX hR hi.1 (fun r e k hk=>h2 0 r t (by simp[rowAt,rL,e]) rfl k hk) hx hv;have:=L8 (σ:=es) (ν:=WI fr fb ν) (Y:=E.Y) hp;refine fin ?_;cases t<;>exact this
   |some e=>
    obtain⟨r,row,rfl,g1,g2,g3⟩:=Ip hx;obtain⟨rfl,_⟩:=hv;have TV:=h1 0 r (by simp[rowAt,rL]) t e rfl;have hm:TU.row d row∈lh d ((t,some e)::q::ps) (x1,y1):=by simp only[lh];rw[show ownRow t e ((x1,y1):tw (((t,some e)::q::ps).map (·.1))).1=some row from g2];simp
    have hsome:=h3 _ hm d row rfl;exact fin ⟨by show _=ν (.row (fr d));rw[show fr d=r from TV],hsome⟩
  ·cases he
 | [],_::_,y,d,he,hi,h1,h2,h3=>by simp[tA] at he
 |_::_,[],y,d,he,hi,h1,h2,h3=>by simp[tA] at he
 |_::_::_,[_],y,d,he,hi,h1,h2,h3=>by simp[tA] at he
end
section
variable {P:Program}{T:dc}{Φ:cj T}{E:Env}{σ ah es:AS}{a a':Act}{w w':World}{ν aN:Nm→Value}{O O':Nat→Prop}{V V':View}{Y:Value}{fr fb:Nat→Nat}{hin:List Nat}
theorem Kw {boxes:List (Nat×BX)}:∀{ts:List Ty} {aX:List I5} {y:tw ts} {d:Nat},mr boxes ts aX=some y→∀u∈AA d ts y,∃j b t z,u= .box (d+j) (.cells (flat t z))∧(bA aX)[j]? =some b∧look boxes b=some (.cells (flat t z))∧t∈ts
 | [],[],y,d,h,u,hu=>by simp[AA] at hu
 | [t],[.box b],y,d,h,u,hu=>by
   simp only[mr] at h;split at h
   ·rename_i cs hb;have:=rT h;subst this;simp only[AA,List.mem_singleton] at hu;exact⟨0,b,t,y,hu,by simp[bA],hb,by simp⟩
   ·cases h
 |t::t2::ts, .box b::cs,y,d,h,u,hu=>by
  simp only[mr] at h;split at h
  ·rename_i l hb;split at h
   ·rename_i x1 hx1;split at h
    ·rename_i y1 hy;simp only[Option.some.injEq] at h;subst h;have:=rT hx1;subst this;simp only[AA,List.mem_cons] at hu;rcases hu with hu |hu
     ·exact⟨0,b,t,x1,hu,by simp[bA],hb,by simp⟩
     ·obtain⟨j,b',t',z,h1,h2,h3,h4⟩:=Kw (d:=d+1) hy u hu;exact⟨j+1,b',t',z,by rw[h1];congr 1;omega,by simpa [bA] using h2,h3,List.mem_cons_of_mem _ h4⟩
    ·cases h
   ·cases h
  ·cases h
 | [],_::_,y,d,h,u,hu=>by simp[mr] at h
 | [_],[],y,d,h,u,hu=>by simp[mr] at h
 | [_],[.qA _],y,d,h,u,hu=>by simp[mr] at h
 | [_], .box _::_::_,y,d,h,u,hu=>by simp[mr] at h
 | [_], .qA _::_::_,y,d,h,u,hu=>by simp[mr] at h
 |_::_::_,[],y,d,h,u,hu=>by simp[mr] at h
 |_::_::_, .qA _::_,y,d,h,u,hu=>by simp[mr] at h
theorem Va {boxes:List (Nat×BX)}:∀{ts:List Ty} {aX:List I5} {y:tw ts} {d:Nat} {us:List Value},mr boxes ts aX=some y→aF (tC V σ ν) aX us→(∀(j b:Nat),(bA aX)[j]? =some b→fb (d+j)=b)→
  (∀u∈AA d ts y,∀k x,u= .box k x→(look es.boxes k).isSome=true)→aF (tC V' es (WI fr fb ν)) (Sp d ts) us
 | [],[],y,d,us,h,ha,hf,hb=>by
   cases us with
   |nil=>trivial
   |cons _ _=>exact ha.elim
 | [t],[.box b],y,d,us,h,ha,hf,hb=>by
   match us,ha with
   | [v],ha=>obtain⟨⟨_,g,h1,h2⟩,_⟩:=ha;have hfb:fb d=b:=hf 0 b rfl;exact⟨⟨hb (.box d (.cells (flat t y))) (by simp[AA]) _ _ rfl,g,by show ν (.box (fb d))=_;rw[hfb];exact h1,h2⟩,trivial⟩
 |t::t2::ts, .box b::cs,y,d,us,h,ha,hf,hb=>by
  match us,ha with
  |v::us,ha=>
   obtain⟨⟨_,g,h1,h2⟩,ha⟩:=ha;simp only[mr] at h;split at h
   ·split at h
    ·rename_i x1 hx1;split at h
     ·rename_i y1 hy;simp only[Option.some.injEq] at h;subst h;have hfb:fb d=b:=hf 0 b rfl;refine⟨⟨hb (.box d (.cells (flat t x1))) (by simp[AA]) _ _ rfl,g,by show ν (.box (fb d))=_;rw[hfb];exact h1,h2⟩,Va (d:=d+1) hy ha (fun j c hj=> ?_) (fun u hu k x e=>hb u (by simp only[AA];exact List.mem_cons_of_mem _ hu) k x e)⟩;have:=hf (j+1) c (by simpa [bA] using hj);rw[←this];congr 1;omega
     ·cases h
    ·cases h
   ·cases h
 | [],_::_,y,d,us,h,_,_,_=>by simp[mr] at h
 | [_],[],y,d,us,h,_,_,_=>by simp[mr] at h
 | [_],[.qA _],y,d,us,h,_,_,_=>by simp[mr] at h
 | [_], .box _::_::_,y,d,us,h,_,_,_=>by simp[mr] at h
 | [_], .qA _::_::_,y,d,us,h,_,_,_=>by simp[mr] at h
 |_::_::_,[],y,d,us,h,_,_,_=>by simp[mr] at h
 |_::_::_, .qA _::_,y,d,us,h,_,_,_=>by simp[mr] at h
theorem adw:∀(ts:List NP) (d:Nat) (y:tw (ts.map (·.1))),N0 (lh d ts y):=fun ts d y u hu=>by obtain⟨k,row,t,e,rfl,_⟩:=zj ts d y u hu;exact .inl ⟨k,row,rfl⟩
theorem Vb:∀(ts:List Ty) (d:Nat) (y:tw ts),N0 (AA d ts y)
 | [],d,y,u,hu=>by simp[AA] at hu
 | [t],d,y,u,hu=>by simp only[AA,List.mem_singleton] at hu;exact .inr ⟨_,_,hu⟩
 |t::t2::ts,d,y,u,hu=>by
  simp only[AA,List.mem_cons] at hu;rcases hu with hu |hu
  ·exact .inr ⟨_,_,hu⟩
  ·exact Vb (t2::ts) (d+1) y.2 u hu
theorem ami (hT:jO P T.rows)(h:St E σ a w ν (fun _=>False)){s:JZ}{y:NQ s}{fn:Func}{af:List aQ}{d:Nat}(C6:s.gen=none)(hs:I7 T s=true)(hf:Wt T.rows fn.results.toList s σ=some y)
  (hX:∀i k,i∉s.hin→¬E.XH i k) (hR:∀i hr,i∉s.hin→E.ro i≠some hr) (h1:∀i,i∈s.hin→af[i]? =σ.af[i]?) (h2:∀i hr,i∉s.hin→af[i]? =some hr→hr.xs=[]) (h3:HK E.h0 E.n0 af ν) (h4:∀i hr,E.ro i=some hr→af[i]? =some hr)
  (h5:∀i hr,i∈s.hin→σ.af[i]? =some hr→hr.t=(T.ht i).t):∃fr fb val,GM E σ ((aK af).app (Mq d s y)) ν fr fb s.hin∧(results fn a.tmps).run P w= .ok val w∧
   ak (view E ((aK af).app (Mq d s y)) (WI fr fb ν) (fun _=>False) w) ((aK af).app (Mq d s y)) (WI fr fb ν) E.Y (aaT d s y) val:=by
 -- C7 af
 have hhp:∀{es:AS},es.af=af→∀i n o,es.obj (.hp i n)=some o→σ.obj (.hp i n)=some o∧ae3 s.hin o:=fun {es} e i n o ho=>by
  simp only[AS.obj,e] at ho ⊢;cases n with
  |zero=>cases ho
  |succ n=>
   simp only[pj] at ho ⊢;split at ho
   ·rename_i hr hhr;by_cases hi:i∈s.hin
    ·have e1:=h1 i hi;rw[hhr] at e1;rw[←e1];refine⟨ho, ?_⟩;unfold I9 at ho;split at ho
     ·simp only[Option.some.injEq] at ho;subst ho;show fw s.hin hr.t=true;rw[h5 i hr hi e1.symm];simp only[I7,Bool.and_eq_true] at hs;exact List.all_eq_true.1 hs.1.2 i hi
     ·cases ho
    ·rw[h2 i hr hi hhr] at ho;simp[I9] at ho
   ·cases ho
 obtain⟨args,res,clo,hps,gen⟩:=s;simp only at C6;subst C6;cases clo with
 |none=>
  have hf':(bif yw (uN T.rows σ fn.results.toList)|| !(Ug res) then tA T.rows σ (hps.map (·.1)) fn.results.toList res else none)=some y:=hf;cases hc:(yw (uN T.rows σ fn.results.toList)|| !(Ug res)) with
  |false=>rw[hc] at hf';cases hf'
  |true=>
   rw[hc,cond_true] at hf';have hus:=adw res d y;generalize hes:(aK af).app (lh d res y)=es;obtain⟨a1,a2,a3,_,_⟩:=UF hus (aK af);rw[hes] at a1 a2 a3;have hrows:∀k row,look es.rows k=some row→∃j r t e,k=d+j∧(fn.results.toList[j]?).bind (rowAt T.rows σ)=some r∧look σ.rows r=some row∧res[j]? =some (t,some e)∧t= .slice row.t:=fun k row hk=>by
    rw[←hes] at hk;rcases (AB hus (aK af) k).1 row hk with g1 |g1
    ·cases g1
    ·obtain⟨j,r,row',t,e,g2,g3,g4,g5,g6⟩:=abu hf' _ g1;injection g2 with g2 g7
     subst g7;exact⟨j,r,t,e,g2,g3,g4,g5,g6⟩
   have Rn:∀k x,look es.boxes k=some x→False:=fun k x hk=>by
    rw[←hes] at hk;rcases (AB hus (aK af) k).2 x hk with g1 |g1
    ·cases g1
    ·obtain⟨_,_,_,_,g2,_⟩:=zj _ _ _ _ g1;cases g2
   let fr:Nat→Nat:=fun k=>((fn.results.toList[k - d]?).bind (rowAt T.rows σ)).getD 0
   have TV:∀(j r:Nat),(fn.results.toList[j]?).bind (rowAt T.rows σ)=some r→fr (d+j)=r:=fun j r hj=>by show ((fn.results.toList[d+j - d]?).bind (rowAt T.rows σ)).getD 0=r;rw[show d+j - d=j by omega,hj];rfl
   have anE:∀(p q r:Nat),(fn.results.toList[p]?).bind (rowAt T.rows σ)=some r→(fn.results.toList[q]?).bind (rowAt T.rows σ)=some r→(∃t e,res[q]? =some (t,some e))→p=q:=fun p q r g1 g2 ⟨t,e,g3⟩=>by
    rw[Bool.or_eq_true] at hc;rcases hc with hc |hc
    ·exact U8 _ hc p q r g1 g2
    ·exfalso;have:Ug res=true:=by unfold Ug;rw[List.any_eq_true];exact⟨(t,some e),List.mem_of_getElem? g3,rfl⟩
     rw[this] at hc;cases hc
   have g:GM E σ es ν fr (fun _=>0) (hps.map (·.1)):=by
    refine⟨fun m o ho=> ?_,fun m m' g1 g2 g3=> ?_,fun i hi=>by rw[a2];exact h1 i hi,fun i hr hi e=>by rw[a2] at e;exact h2 i hr hi e,by rw[a2];exact h3,a3,a1,fun i hr e=>by rw[a2];exact h4 i hr e⟩
    ·cases m with
     |row k=>
      simp only[AS.obj,Option.map_eq_some_iff] at ho;obtain⟨row,g1,rfl⟩:=ho;obtain⟨j,r,t,e,rfl,g3,g4,g5,g6⟩:=hrows k row g1;refine⟨?_, ?_⟩
      ·show (look σ.rows (fr (d+j))).map _=_;rw[TV j r g3,g4];rfl
      ·simp only[I7,Bool.and_eq_true] at hs;have:=List.all_eq_true.1 hs.2.1.1 _ (List.mem_of_getElem? g5);rw[g6] at this;exact this
     |box k=>simp only[AS.obj,Option.map_eq_some_iff] at ho;obtain⟨x,g1,_⟩:=ho;exact(Rn k x g1).elim
     |hp i n=>exact hhp a2 i n o ho
    ·have hsb:∀k,(es.obj (.box k)).isSome=true→False:=fun k hk=>by simp only[AS.obj,Option.isSome_map] at hk;obtain⟨x,e⟩:=Option.isSome_iff_exists.1 hk;exact Rn k x e
     cases m with
     |row k=>
      cases m' with
      |row k'=>
       simp only[AS.obj,Option.isSome_map] at g1 g2;obtain⟨row,e1⟩:=Option.isSome_iff_exists.1 g1;obtain⟨row',e2⟩:=Option.isSome_iff_exists.1 g2;obtain⟨j,r,t,e,rfl,k3,k4,k5,k6⟩:=hrows k row e1;obtain⟨j',r',t',e',rfl,k3',k4',k5',k6'⟩:=hrows k' row' e2;have g3':fr (d+j)=fr (d+j'):=by injection g3
       rw[TV j r k3,TV j' r' k3'] at g3';subst g3';rw[anE j j' r k3 k3' ⟨_,_,k5'⟩]
      |box k'=>exact(hsb k' g2).elim
      |hp i n=>cases g3
     |box k=>exact(hsb k g1).elim
     |hp i n=>
      cases m' with
      |row k'=>cases g3
      |box k'=>exact(hsb k' g2).elim
      |hp i' n'=>exact g3
   have hres:(res.all fun p=>fw (hps.map (·.1)) p.1)=true:=by simp only[I7,Bool.and_eq_true] at hs;exact hs.2.1.1
   obtain⟨vs,r1,r2⟩:=U9 (d:=d) hT h g hX hR hf' hres (fun j r hj t e he=>TV j r hj) (fun j r t hj he k hk=>by
     obtain⟨row,e1⟩:=Option.isSome_iff_exists.1 hk;obtain⟨j',r',t',e',rfl,k3',k4',k5',k6'⟩:=hrows k row e1;intro e2;rw[TV j' r' k3'] at e2;subst e2;have:=anE j j' r' hj k3' ⟨_,_,k5'⟩;subst this;rw[he] at k5';cases k5') (fun u hu k row e=>by
     subst e;rw[←hes];exact(ae5 hus (aK af)).1 k (.inr ⟨row,hu⟩))
   rw[show (aK af).app (Mq d {args:=args,res:=res,clo:=none,af:=hps,gen:=none} y)=es from hes];refine⟨fr,fun _=>0,_,g,Kt r1, ?_⟩;show ak _ _ _ _ (aan (BL d res y)) _;generalize BL d res y=rvs at r2
   match rvs,vs,r2 with
   | [],[],_=>exact⟨[],rfl,trivial⟩
   | [x],[v],r2=>exact r2.1
   |x::x2::xs,v::v2::vs,r2=>exact⟨_,rfl,r2⟩
   | [],_::_,r2=>exact r2.elim
   | [_],[],r2=>exact r2.elim
   | [_],_::_::_,r2=>exact r2.2.elim
   |_::_::_,[],r2=>exact r2.elim
   |_::_::_,[_],r2=>exact r2.2.elim
 |some fc=>
  obtain⟨f,ts⟩:=fc;have hf':(match fn.results.toList with
   | [v]=>match HS T.rows σ v with
     |some (.fn g aX)=>bif Nat.beq g f&&yw (bA aX) then mr σ.boxes ts aX else none
     |_=>none
   |_=>none)=some y:=hf
  split at hf'
  ·rename_i rv hrv;split at hf'
   ·rename_i g0 aX rL;cases hc:(Nat.beq g0 f&&yw (bA aX)) with
    |false=>rw[hc] at hf';cases hf'
    |true=>
     rw[hc,cond_true] at hf';simp only[Bool.and_eq_true,beq_iff] at hc;obtain⟨rfl,hnd⟩:=hc;have hus:=Vb ts d y;generalize hes:(aK af).app (AA d ts y)=es;obtain⟨a1,a2,a3,_,_⟩:=UF hus (aK af);rw[hes] at a1 a2 a3;have hrows:∀k row,look es.rows k=some row→False:=fun k row hk=>by
      rw[←hes] at hk;rcases (AB hus (aK af) k).1 row hk with g1 |g1
      ·cases g1
      ·obtain⟨_,_,_,_,g2,_⟩:=Kw hf' _ g1;cases g2
     have Rn:∀k x,look es.boxes k=some x→∃j b t z,k=d+j∧x= .cells (flat t z)∧(bA aX)[j]? =some b∧look σ.boxes b=some (.cells (flat t z))∧t∈ts:=fun k x hk=>by
      rw[←hes] at hk;rcases (AB hus (aK af) k).2 x hk with g1 |g1
      ·cases g1
      ·obtain⟨j,b,t,z,g2,g3,g4,g5⟩:=Kw hf' _ g1;injection g2 with g2 g7
       exact⟨j,b,t,z,g2,g7,g3,g4,g5⟩
     let fb:Nat→Nat:=fun k=>((bA aX)[k - d]?).getD 0
     have hfb:∀(j b:Nat),(bA aX)[j]? =some b→fb (d+j)=b:=fun j b hj=>by show ((bA aX)[d+j - d]?).getD 0=b;rw[show d+j - d=j by omega,hj];rfl
     have g:GM E σ es ν (fun _=>0) fb (hps.map (·.1)):=by
      refine⟨fun m o ho=> ?_,fun m m' g1 g2 g3=> ?_,fun i hi=>by rw[a2];exact h1 i hi,fun i hr hi e=>by rw[a2] at e;exact h2 i hr hi e,by rw[a2];exact h3,a3,a1,fun i hr e=>by rw[a2];exact h4 i hr e⟩
      ·cases m with
       |box k=>
        simp only[AS.obj,Option.map_eq_some_iff] at ho;obtain⟨x,g1,rfl⟩:=ho;obtain⟨j,b,t,z,rfl,rfl,g3,g4,g5⟩:=Rn k x g1;refine⟨?_,t,z,rfl, ?_⟩
        ·show (look σ.boxes (fb (d+j))).map _=_;rw[hfb j b g3,g4];rfl
        ·simp only[I7,Bool.and_eq_true] at hs;exact List.all_eq_true.1 hs.2.1.2 _ g5
       |row k=>simp only[AS.obj,Option.map_eq_some_iff] at ho;obtain⟨x,g1,_⟩:=ho;exact(hrows k x g1).elim
       |hp i n=>exact hhp a2 i n o ho
      ·have hsb:∀k,(es.obj (.row k)).isSome=true→False:=fun k hk=>by simp only[AS.obj,Option.isSome_map] at hk;obtain⟨x,e⟩:=Option.isSome_iff_exists.1 hk;exact hrows k x e
       cases m with
       |box k=>
        cases m' with
        |box k'=>
         simp only[AS.obj,Option.isSome_map] at g1 g2;obtain⟨x,e1⟩:=Option.isSome_iff_exists.1 g1;obtain⟨x',e2⟩:=Option.isSome_iff_exists.1 g2;obtain⟨j,b,t,z,rfl,_,k3,k4,k5⟩:=Rn k x e1;obtain⟨j',b',t',z',rfl,_,k3',k4',k5'⟩:=Rn k' x' e2;have g3':fb (d+j)=fb (d+j'):=by injection g3
         rw[hfb j b k3,hfb j' b' k3'] at g3';subst g3';rw[Rm hnd j j' b k3 k3']
        |row k'=>exact(hsb k' g2).elim
        |hp i n=>cases g3
       |row k=>exact(hsb k g1).elim
       |hp i n=>
        cases m' with
        |box k'=>cases g3
        |row k'=>exact(hsb k' g2).elim
        |hp i' n'=>exact g3
     obtain⟨v,hrun,hv⟩:=Io hT h rL;obtain⟨us,e1,e2⟩:=hv;rw[show (aK af).app (Mq d {args:=args,res:=res,clo:=some (g0,ts),af:=hps,gen:=none} y)=es from hes];refine⟨fun _=>0,fb,v,g, ?_,us,e1, ?_⟩
     ·have:=Kt (P:=P) (fn:=fn) (a:=a) (w:=w) (vs:=[v]) (by rw[hrv];simp[hrun]);exact this
     ·exact Va hf' e2 hfb (fun u hu k x e=>by
       subst e;rw[←hes];exact(ae5 hus (aK af)).2 k (.inr ⟨x,hu⟩))
   ·cases hf'
  ·cases hf'
end
section
variable {P:Program}{T:dc}{Φ:cj T}{E:Env}{σ ah es:AS}{a a':Act}{w w':World}{ν aN:Nm→Value}{O O':Nat→Prop}
theorem SJ {f:FuncId}{args:Array Value}{w:World}{R:Ending→World→Prop}(h:CallsIn (FW none) 0 P f args w R):Calls P f args w R:=fun cs=>
 let ⟨e,w',fr,q,s,x⟩:=h.2 cs (room_wide _);⟨e,w',fr,q,(comesIn_wide (P:=P)).1 s,x⟩
theorem agK {A:Type}{x:A}:∀{hs:List Nat} {o:Option (FZ T hs)} {y:Pk T A hs},J2 x hs o=some y→wJ hs y=x∧(o=some (F0 hs y)∨hs=[])
 | [],o,y,e=>by simp only[J2,Option.some.injEq] at e;exact⟨e.symm, .inr rfl⟩
 |_::_,some h,y,e=>by simp only[J2,Option.some.injEq] at e;subst e;exact⟨rfl, .inl rfl⟩
 |_::_,none,y,e=>by cases e
theorem agL {A:Type}{af:List aQ}{x:A}{hs:List Nat}{y:Pk T A hs}(h:J2 x hs (NR T af hs)=some y):wJ hs y=x∧NR T af hs=some (F0 hs y):=by obtain⟨h1,h2⟩:=agK h;refine⟨h1,h2.elim id (fun e=> ?_)⟩;subst e;rfl
theorem abv {fn:Func}{v:Nat}{e:Ex}{yh:wN T v}(h:Mo T fn v e σ=some yh):Wt T.rows fn.results.toList (T.sig v) σ=some (wJ _ yh)∧NR T σ.af (T.sig v).hout=some (F0 _ yh):=by
 have main:(match Wt T.rows fn.results.toList (T.sig v) σ with
  |some y=>J2 y (T.sig v).hout (NR T σ.af (T.sig v).hout)
  |none=>none)=some yh→Wt T.rows fn.results.toList (T.sig v) σ=some (wJ _ yh)∧NR T σ.af (T.sig v).hout=some (F0 _ yh):=fun h=>by
  split at h
  ·rename_i y hy;obtain⟨h1,h2⟩:=agL h;exact⟨by rw[hy,h1],h2⟩
  ·cases h
 cases e with
 |exit i=>cases h
 |normal=>exact main h
 |ret=>exact main h
def N3 (P:Program)(T:dc)(v:Nat)(xh:CS T v)(yh:wN T v):Prop:=(∃fn,P.funcs[T.real v]? =some fn∧fn.body.isSome=true∧(fn.name== "runtime.NumGoroutine")=false)∧
 ∀(E:Env) (ν:Nm→Value) (args:Array Value) (d:Nat),aI E→N1 T E→Callee T E v xh→St E (aK (aO T v xh)) ⟨#[],[]⟩ E.w0 ν (fun _=>False)→
  nZ (view E (aK (aO T v xh)) ν (fun _=>False) E.w0) (T.sig v).args (wJ _ xh) args.toList→Calls P (T.real v) args E.w0 (Left T E v xh yh d)
structure N4 (P:Program) (T:dc):Prop where
 mixed:P.follows .mixedOrders=true
 tab:jO P T.rows
 hps:EU P T
 eqs:aiB P T
 sigs:UG T
theorem N4.ctx (hP:N4 P T)(PG:aaU P T Φ)(hE:aI E)(hG:N1 T E)(C5:E.h0.length=T.af.length)(hY:Ij P E)(hj:∀O w,E.J ⟨.unit,()⟩ O w→E.J=lj):Ctx P T Φ E:=
 ⟨hE,hG,hP.tab,hP.hps,hP.eqs,hP.sigs,PG,C5,hY,hj⟩
theorem XQ {v:Nat}{xh:CS T v}:(aO T v xh).length=T.af.length:=by unfold aO;rw[Az,rY]
theorem Vd (hP:N4 P T)(PG:aaU P T Φ)(hΓ:abk P T Φ){v n:Nat}{xh:CS T v}{yh:wN T v}{fn:Func}{c:Code}(hf:P.funcs[T.real v]? =some fn)(hb:fn.body=some c)(hname:(fn.name== "runtime.NumGoroutine")=false)(C6:(T.sig v).gen=none)
  (he:Ke T fn c Φ n v xh=some yh):N3 P T v xh yh:=by
 refine⟨⟨fn,hf,by rw[hb];rfl,hname⟩,fun E ν args d hE hG hC hst hargs=> ?_⟩;obtain⟨hag,hbx⟩:=nZ.g (ν:=ν) (Y:=E.Y) 0 hargs;have e0:uZ T v xh=aK (aO T v xh):=by
  unfold uZ aK;rw[hbx];have:EO (T.sig v)=⟨.unit,()⟩:=by unfold EO;rw[C6]
  rw[this]
 have h0:=St.begin (fn:=fn) (vals:=args) hG (xh:=xh) (by rw[e0];exact hst) (by rw[e0];exact hag);have aoK:=hP.ctx PG hE hG (by rw[←hst.kept.num];exact XQ) (F2 hC.j) (fun _ _ _=>hC.j);have hM:∀r,E.M r→r<E.w0.heap.size:=fun r hr=>absurd hr (hC.m r);have hRo:∀i hr,i∉(T.sig v).hin→E.ro i≠some hr:=fun i hr hi e=>by have h1:=hC.ro i;have hf:(T.sig v).hin.any (Nat.beq i)=false:=eq_false_of_ne_true (fun h=>hi (lO.1 h));rw[hf,e] at h1;cases h1
 refine SJ (callsIn_of_wp_marks hf hb trivial ?_);refine wpIn_mono (U1 hP.mixed (fun f ps x y Sx Sy=>SH hΓ Sx Sy) c E aoK (fun tr tr' _ _=>hC.acc tr) none _ _ _ _ E.w0 ν _ he h0 (fun h=>by cases h) (fun e ah _ _=>hC.acc _)) (fun e a' w' hp=> ?_);have fin:∀(ex:Ex) (ah:AS) (a':Act) (w':World),Mo T fn v ex ah=some yh→To E ah a' w'→LeavesInM (FW none) 0 P fn a'.tmps (Left T E v xh yh d) a'.defers .returning w':=by rintro ex ah ⟨tmps,ds⟩ w' hk ⟨aN,O',h⟩;obtain⟨k1,k2⟩:=abv hk;refine Im hE hM hst.wS.size (fun w2 h2=> ?_) ds w' h;have h3:=h2.aoH hC.j hC.om;obtain⟨q1,q2,q3,q4,q5⟩:=agJ hC hst.kept h3 k2 (fun i hr e=>(h3.ro i hr e).1);obtain⟨fr,fb,val,g,g1,g2⟩:=ami (d:=d) hP.tab h3 C6 (hP.sigs v) k1 hC.hx hRo q1 q2 q3 q4 q5;exact⟨val,g1,val,_,rfl,h3.finish hC.j g,g2⟩
 cases e with
 |normal=>obtain⟨ah,h1,_,h2⟩:=hp;exact fin _ ah a' w' h1 h2
 |ret=>obtain⟨ah,h1,_,h2⟩:=hp;exact fin _ ah a' w' h1 h2
 |exit id=>obtain⟨ah,h1,_,_⟩:=hp;cases h1
 |_=>exact hp.elim
theorem ajx:∀{s:JZ} {y:NQ s} {vars:List ResultVar},s.gen.isSome=true→Wt T.rows vars s σ=some y→vars=[]∧σ.trace=adu s y
 | ⟨_,_,_,_,some ts⟩,y,[],_,h=>⟨rfl,ES h⟩
 | ⟨_,_,_,_,some ts⟩,y,_::_,_,h=>by cases h
theorem ajy (hP:N4 P T)(PG:aaU P T Φ)(hΓ:abk P T Φ){v n:Nat}{xh:CS T v}{yh:wN T v}{fn:Func}{c:Code}(hf:P.funcs[T.real v]? =some fn)(hb:fn.body=some c)(C6:(T.sig v).gen.isSome=true)
  (he:Ke T fn c Φ n v xh=some yh) (E:Env) (ν:Nm→Value) (args:Array Value) (O:Nat→Prop) (hE:aI E) (hG:N1 T E) (hY:Ij P E) (hD:aah E) (hnj:∀O w,¬E.J ⟨.unit,()⟩ O w) (hacc:E.acc (PM T v yh))
  (hst:St E (uZ T v xh) ⟨#[],[]⟩ E.w0 ν O) (hargs:SD (view E (uZ T v xh) ν O E.w0) ν E.Y 0 (T.sig v).args (wJ _ xh) args.toList):
  Calls P (T.real v) args E.w0 fun e w'=>∃r O',e= .returned r∧E.J (PM T v yh) O' w':=by
 have h0:=St.begin (fn:=fn) (vals:=args) hG (xh:=xh) hst hargs;have aoK:=hP.ctx PG hE hG (by rw[←hst.kept.num];exact XQ) hY (fun O w h=>absurd h (hnj O w));have hM:∀r,E.M r→r<E.w0.heap.size:=fun r hr=>(Array.getElem?_eq_some_iff.1 (hst.waits r hr).1).1;have htr:∀(ex:Ex) (ah:AS),Mo T fn v ex ah=some yh→ah.trace=PM T v yh∧fn.results.toList=[]:=fun ex ah hk=>by obtain⟨k1,_⟩:=abv hk;obtain⟨k2,k3⟩:=ajx C6 k1;exact⟨k3,k2⟩
 refine SJ (callsIn_of_wp_marks hf hb trivial ?_);refine wpIn_mono (U1 hP.mixed (fun f ps x y Sx Sy=>SH hΓ Sx Sy) c E aoK hD none _ _ _ _ E.w0 ν _ he h0 (fun h=>by cases h) (fun e ah h1 _=>by rw[(htr e ah h1).1];exact hacc)) (fun e a' w' hp=> ?_);have fin:∀(ex:Ex) (ah:AS) (a':Act) (w':World),Mo T fn v ex ah=some yh→To E ah a' w'→LeavesInM (FW none) 0 P fn a'.tmps (fun e w'=>∃r O',e= .returned r∧E.J (PM T v yh) O' w') a'.defers .returning w':=by rintro ex ah ⟨tmps,ds⟩ w' hk ⟨aN,O',h⟩;obtain⟨k1,k2⟩:=htr ex ah hk;refine Im hE hM hst.wS.size (fun w2 h2=> ?_) ds w' h;refine⟨_,Kt (P:=P) (fn:=fn) (a:=⟨tmps,[]⟩) (w:=w2) (vs:=[]) (by rw[k2];rfl),_,O',rfl, ?_⟩;rw[←k1];exact h2.out.1
 cases e with
 |normal=>obtain⟨ah,h1,_,h2⟩:=hp;exact fin _ ah a' w' h1 h2
 |ret=>obtain⟨ah,h1,_,h2⟩:=hp;exact fin _ ah a' w' h1 h2
 |exit id=>obtain⟨ah,h1,_,_⟩:=hp;cases h1
 |_=>exact hp.elim
def adx (P:Program)(T:dc)(B:NV T):Prop:=∀v g,B v=some g→(T.sig v).gen=none∧∀xh yh,g xh=some yh→N3 P T v xh yh
def ae6 (P:Program)(T:dc)(fns:Nat→Option Func):Prop:=∀v fn,fns v=some fn→P.funcs[T.real v]? =some fn∧(fn.name== "runtime.NumGoroutine")=false
theorem abw {B:NV T}{fns:Nat→Option Func}(hP:N4 P T)(hB:adx P T B)(hF:ae6 P T fns):∀n,aaU P T (JB T B fns n)∧abk P T (JB T B fns n)
 |0=>⟨(fun v x y h=>by cases h),(fun v x y h=>by cases h)⟩
 |n+1=>by
  obtain⟨ih1,ih2⟩:=abw hP hB hF n;refine⟨fun v xh yh h C6=> ?_,fun v xh yh h C6=> ?_⟩
  ·simp only[JB] at h;split at h
   ·rename_i g hg;exact(hB v g hg).2 xh yh h
   ·split at h
    ·rename_i fn hfn;obtain⟨h1,h2⟩:=hF v fn hfn;split at h
     ·rename_i c hc;exact Vd hP ih1 ih2 h1 hc h2 C6 h
     ·cases h
    ·cases h
  ·simp only[JB] at h;split at h
   ·rename_i g hg;have:=(hB v g hg).1;rw[this] at C6;cases C6
   ·split at h
    ·rename_i fn hfn;obtain⟨h1,h2⟩:=hF v fn hfn;split at h
     ·rename_i c hc;exact⟨⟨fn,h1,by rw[hc];rfl,h2⟩,fun E ν args O hE hG hY hD hnj hacc hst hargs=>ajy hP ih1 ih2 h1 hc C6 h E ν args O hE hG hY hD hnj hacc hst hargs⟩
     ·cases h
    ·cases h
end
def isZ:CV→Bool
 | ⟨.int _,n⟩=>decide (n=(0:Int))
 | ⟨.bool,b⟩=> !b
 | ⟨.str,s⟩=>match s with | ⟨⟨[]⟩⟩=>true |_=>false
 | ⟨.slice t,xs⟩=>match (xs:List t.den) with | []=>true |_=>false
 | ⟨.ref _,n⟩=>Nat.beq n 0
 | ⟨.ptr _,n⟩=>Nat.beq n 0
 | ⟨.mp _,n⟩=>Nat.beq n 0
 | ⟨.fn,n⟩=>Nat.beq n 0
 | ⟨.qG t,o⟩=>match (o:Option (List t.den)) with |none=>true |_=>false
 |_=>false
theorem wX:∀{t:Ty} {l:List Value} {cs:List CV} {r:List Value},de t l=some (cs,r)→cs.all isZ=true→cs=YC t
 | .unit,l,cs,r,h,hz=>by simp only[de,Option.some.injEq,Prod.mk.injEq] at h;exact h.1.symm
 | .pair a b,l,cs,r,h,hz=>by
   simp only[de] at h;split at h
   ·rename_i x l' h1;split at h
    ·rename_i y l'' h2;simp only[Option.some.injEq,Prod.mk.injEq] at h;obtain⟨rfl,rfl⟩:=h;rw[List.all_append,Bool.and_eq_true] at hz;rw[wX h1 hz.1,wX h2 hz.2];rfl
    ·cases h
   ·cases h
 | .st t,l,cs,r,h,hz=>wX (t:=t) h hz
 | .int k, .int k' n::l,cs,r,h,hz=>by
   simp only[de] at h;split at h
   ·simp only[Option.some.injEq,Prod.mk.injEq] at h;obtain⟨rfl,rfl⟩:=h;simp[isZ] at hz;subst hz;rfl
   ·cases h
 | .bool, .bool b::l,cs,r,h,hz=>by simp only[de,Option.some.injEq,Prod.mk.injEq] at h;obtain⟨rfl,rfl⟩:=h;simp[isZ] at hz;subst hz;rfl
 | .str, .string s::l,cs,r,h,hz=>by
   simp only[de,Option.some.injEq,Prod.mk.injEq] at h;obtain⟨rfl,rfl⟩:=h;simp only[List.all_cons,List.all_nil,Bool.and_true,isZ] at hz;split at hz
   ·rfl
   ·cases hz
 | .slice t, .slice none 0 0::l,cs,r,h,hz=>by simp only[de,Option.some.injEq,Prod.mk.injEq] at h;obtain⟨rfl,rfl⟩:=h;rfl
 | .ref _, .slice none 0 0::l,cs,r,h,hz=>by simp only[de,Option.some.injEq,Prod.mk.injEq] at h;obtain⟨rfl,rfl⟩:=h;rfl
 | .ptr _, .pointer none::l,cs,r,h,hz=>by simp only[de,Option.some.injEq,Prod.mk.injEq] at h;obtain⟨rfl,rfl⟩:=h;rfl
 | .mp _, .map none::l,cs,r,h,hz=>by simp only[de,Option.some.injEq,Prod.mk.injEq] at h;obtain⟨rfl,rfl⟩:=h;rfl
 | .qG _, .slice none 0 0::l,cs,r,h,hz=>by simp only[de,Option.some.injEq,Prod.mk.injEq] at h;obtain⟨rfl,rfl⟩:=h;rfl
 | .fn, .nilFunc::l,cs,r,h,hz=>by simp only[de,Option.some.injEq,Prod.mk.injEq] at h;obtain⟨rfl,rfl⟩:=h;rfl
def PR:Ty→Ty→Bool
 | .int a, .int b=>decide (a=b)
 | .bool, .bool=>true
 | .str, .str=>true
 | .slice a, .slice b=>PR a b
 | .unit, .unit=>true
 | .pair a b, .pair c d=>PR a c&&PR b d
 | .st a, .st b=>PR a b
 | .qG a, .qG b=>PR a b
 | .ref a, .ref b=>Nat.beq a b
 | .ptr a, .ptr b=>Nat.beq a b
 | .mp a, .mp b=>Nat.beq a b
 | .fn, .fn=>true
 |_,_=>false
theorem GN:∀{a b:Ty},PR a b=true→a=b
 | .int a, .int b,h=>by simp[PR] at h;rw[h]
 | .bool, .bool,_=>rfl
 | .str, .str,_=>rfl
 | .slice a, .slice b,h=>by rw[GN (a:=a) (b:=b) h]
 | .unit, .unit,_=>rfl
 | .pair a b, .pair c d,h=>by simp only[PR,Bool.and_eq_true] at h;rw[GN h.1,GN h.2]
 | .st a, .st b,h=>by rw[GN (a:=a) (b:=b) h]
 | .qG a, .qG b,h=>by rw[GN (a:=a) (b:=b) h]
 | .ref a, .ref b,h=>by rw[(beq_iff _ _).1 h]
 | .ptr a, .ptr b,h=>by rw[(beq_iff _ _).1 h]
 | .mp a, .mp b,h=>by rw[(beq_iff _ _).1 h]
 | .fn, .fn,_=>rfl
def Kx (P:Program):List Field→Option (List (Nat×Nat))
 | []=>some []
 |f::fs=>match P.info? f.type with
  |some i=>match Kx P fs with
   |some r=>some ((f.offset,i.size)::r)
   |none=>none
  |none=>none
theorem XR {P:Program}:∀{fs:List Field} {r:List (Nat×Nat)},Kx P fs=some r→fs.mapM (fun f=>(P.info? f.type).map fun i=>(f.offset,i.size))=some r
 | [],r,h=>by simp[Kx] at h;subst h;rfl
 |f::fs,r,h=>by
  simp only[Kx] at h;split at h
  ·rename_i i hi;split at h
   ·rename_i r' hr;simp only[Option.some.injEq] at h;subst h;rw[List.mapM_cons,XR hr];simp[hi]
   ·cases h
  ·cases h
theorem Vf {P:Program}:∀{fs:List Field} {r:List (Nat×Nat)},Kx P fs=some r→∀(k off size:Nat),r[k]? =some (off,size)→∃(fd:Field) (j:TypeInfo),fs[k]? =some fd∧fd.offset=off∧P.info? fd.type=some j∧j.size=size
 | [],r,h,k,off,size,hk=>by simp[Kx] at h;subst h;simp at hk
 |f::fs,r,h,k,off,size,hk=>by
  simp only[Kx] at h;split at h
  ·rename_i i hi;split at h
   ·rename_i r' hr;simp only[Option.some.injEq] at h;subst h;cases k with
    |zero=>simp at hk;exact⟨f,i,by simp,hk.1,hi,hk.2⟩
    |succ k=>obtain⟨fd,j,h1,h2⟩:=Vf hr k off size (by simpa using hk);exact⟨fd,j,by simpa using h1,h2⟩
   ·cases h
  ·cases h
def C9:List (Nat×Nat)→List (Nat×Nat)→Bool
 | [],[]=>true
 | (a,b)::r,(c,d)::s=>Nat.beq a c&&Nat.beq b d&&C9 r s
 |_,_=>false
theorem Ky:∀{a b:List (Nat×Nat)},C9 a b=true→a=b
 | [],[],_=>rfl
 | (a,b)::r,(c,d)::s,h=>by simp only[C9,Bool.and_eq_true] at h;rw[(beq_iff _ _).1 h.1.1,(beq_iff _ _).1 h.1.2,Ky h.2]
 | [],_::_,h=>by simp[C9] at h
 |_::_,[],h=>by simp[C9] at h
def Za (P:Program)(T:List gZ)(r:gZ):Ty→TypeDesc→Bool
 | .int k, .int k'=>decide (k=k')&&r.rU.isEmpty
 | .bool, .bool=>r.rU.isEmpty
 | .str, .string=>r.rU.isEmpty
 | .slice u, .slice e=>Nat.beq e r.elem&&r.rU.isEmpty&&match km T e with
   |some re=>PR re.ty u
   |none=>false
 | .st u, .struct fs=> !r.arr&&match Kx P fs.toList with
   |some l=>C9 l r.rU&&l.all fun p=>Nat.blt 0 p.2&&Nat.ble (p.1+p.2) u.size
   |none=>false
 | .st u, .array n e=>r.arr&&match P.info? e with
   |some j=>C9 ((List.range n).map fun i=>(i*j.size,j.size)) r.rU&&Nat.blt 0 j.size&&Nat.beq u.size (n*j.size)
   |none=>false
 | .ptr _, .pointer _=>r.rU.isEmpty
 | .mp _, .map _ _=>r.rU.isEmpty
 | .fn, .func _ _ _=>r.rU.isEmpty
 |_,_=>false
def zOk (t:Ty)(z:Value):Bool:=match t,z with
 | .st _, .agg _=>true
 | .st _,_=>false
 | .slice _, .slice none 0 0=>true
 | .slice _,_=>false
 |_, .agg _=>false
 |_,_=>true
theorem XT {u:Ty}{z:Value}(h:zOk (.slice u) z=true):z= .slice none 0 0:=by
 unfold zOk at h;split at h<;>first |rfl | (rename_i e _;cases e;done) | (rename_i e;cases e;done) | (cases h;done) |skip
 all_goals simp_all
theorem ajz {t:Ty}{z:Value}(h:zOk t z=true):z=wrap t z.cells.toList:=by
 cases t with
 |st u=>
  cases z with
  |agg cs=>simp[wrap,Value.cells]
  |_=>cases h
 |slice u=>rw[XT h];rfl
 |_=>
  cases z with
  |agg cs=>cases h
  |_=>rfl
def ae7 (t:Ty)(z:Value):Bool:=
 (match de t z.cells.toList with
  |some (cs,[])=>cs.all isZ
  |_=>false)&&zOk t z
def ady (P:Program)(T:List gZ)(r:gZ):Bool:=
 match P.info? r.id,P.underlying r.id with
 |some i,some d=>Nat.beq i.size r.ty.size&&Nat.beq i.bytes r.bytes&&(match i.zero with |some z=>ae7 r.ty z |none=>false)&&Za P T r r.ty d
 |_,_=>false
theorem agM {T:List gZ}{t:TypeId}{r:gZ}(h:km T t=some r):r∈T∧r.id=t:=by
 induction T with
 |nil=>cases h
 |cons x xs ih=>
  simp only[km] at h;cases hb:Nat.beq x.id t with
  |true=>simp only[hb,cond_true,Option.some.injEq] at h;subst h;exact⟨by simp,(beq_iff _ _).1 hb⟩
  |false=>simp only[hb,cond_false] at h;exact⟨by simp[(ih h).1],(ih h).2⟩
theorem agN {P:Program}{T:List gZ}{r:gZ}(h:ady P T r=true):TOk P T r:=by
 unfold ady at h;split at h
 ·rename_i i d hi hd;simp only[Bool.and_eq_true] at h;obtain⟨⟨⟨h1,h2⟩,h3⟩,h4⟩:=h;have aqT:(∀u,r.ty≠ .st u)→r.rU=[]:=by
   intro hn;unfold Za at h4;split at h4
   ·simp only[Bool.and_eq_true] at h4;simpa using h4.2
   ·simpa using h4
   ·simpa using h4
   ·simp only[Bool.and_eq_true] at h4;simpa using h4.1.2
   ·rename_i u fs ht;exact absurd ht (hn u)
   ·rename_i u n e ht;exact absurd ht (hn u)
   ·simpa using h4
   ·simpa using h4
   ·simpa using h4
   ·cases h4
  refine⟨?_, ?_,aqT⟩
  ·split at h3
   ·rename_i z hz;simp only[ae7,Bool.and_eq_true] at h3;obtain⟨h5,h6⟩:=h3;refine⟨i,z,hi,(beq_iff _ _).1 h1,(beq_iff _ _).1 h2,hz,fun V=> ?_, ?_,fun u hu=> ?_⟩
    ·split at h5
     ·rename_i cs hl;obtain⟨l1,e1,h7⟩:=jP (V:=V) hl;rw[e1,List.append_nil];refine jL ?_;have:=wX hl h5;rw[this] at h7;exact h7
     ·cases h5
    ·exact ajz h6
    ·rw[hu] at h6;exact XT h6
   ·cases h3
  ·unfold Za at h4;split at h4
   ·rename_i k k' ht;rw[ht];simp only[Bool.and_eq_true,decide_eq_true_eq] at h4;show P.underlying r.id=_;rw[h4.1];exact hd
   ·rename_i ht;rw[ht];exact hd
   ·rename_i ht;rw[ht];exact hd
   ·rename_i u e ht;rw[ht];simp only[Bool.and_eq_true] at h4;have he:=(beq_iff _ _).1 h4.1.1;subst he;refine⟨hd, ?_⟩;have h5:=h4.2;split at h5
    ·rename_i re Ts;exact⟨re,Ts,GN h5⟩
    ·cases h5
   ·rename_i u fs ht;rw[ht];simp only[Bool.and_eq_true,Bool.not_eq_true'] at h4;obtain⟨ha,h4⟩:=h4;left;split at h4
    ·rename_i l hl;simp only[Bool.and_eq_true] at h4;have hle:=Ky h4.1;subst hle;refine⟨ha,fs,hd,XR hl,fun f off size hf=> ?_⟩;obtain⟨fd,j,h5,h6,h7,h8⟩:=Vf hl f off size hf;have h9:=List.all_eq_true.1 h4.2 (off,size) (List.mem_of_getElem? hf);simp only[Bool.and_eq_true] at h9;have h10:0+1≤size:=Nat.le_of_ble_eq_true h9.1;have h11:=Nat.le_of_ble_eq_true h9.2;exact⟨fd,j,by simpa using h5,h6,h7,h8,by omega,h11⟩
    ·cases h4
   ·rename_i u n e ht;rw[ht];simp only[Bool.and_eq_true] at h4;obtain⟨ha,h4⟩:=h4;right;split at h4
    ·rename_i j hj;simp only[Bool.and_eq_true] at h4;have hle:=Ky h4.1.1;have h10:0+1≤j.size:=Nat.le_of_ble_eq_true h4.1.2;exact⟨ha,n,e,j,hd,hj,hle.symm,by omega,(beq_iff _ _).1 h4.2⟩
    ·cases h4
   ·rename_i h e ht;rw[ht];exact⟨_,hd⟩
   ·rename_i h k e ht;rw[ht];exact⟨_,_,hd⟩
   ·rename_i a b c ht;rw[ht];exact⟨_,_,_,hd⟩
   ·cases h4
 ·cases h
theorem aoL {P:Program}{T:List gZ}(h:T.all (ady P T)=true):jO P T:=fun t r hr=>by obtain⟨h1,h2⟩:=agM hr;exact⟨h2,agN (List.all_eq_true.1 h r h1)⟩
def ae8 (P:Program)(ht:HT):Bool:=match P.info? ht.e with
 |some j=>Nat.beq j.size ht.t.size&&match j.zero with
  |some z=>(match de ht.t z.cells.toList with
   |some (cs,[])=>cs.all isZ
   |_=>false)
  |none=>false
 |none=>false
theorem ajA {P:Program}{T:dc}(h:T.af.all (ae8 P)=true):EU P T:=fun i ht hi=>by
 have h1:=List.all_eq_true.1 h ht (List.mem_of_getElem? hi);unfold ae8 at h1;split at h1
 ·rename_i j hj;simp only[Bool.and_eq_true] at h1;obtain⟨h2,h3⟩:=h1;split at h3
  ·rename_i z hz;refine⟨j,z,hj,(beq_iff _ _).1 h2,hz,fun V=> ?_⟩;split at h3
   ·rename_i cs hl;obtain⟨l1,e1,h7⟩:=jP (V:=V) hl;rw[e1,List.append_nil];refine jL ?_;have:=wX hl h3;rw[this] at h7;exact h7
   ·cases h3
  ·cases h3
 ·cases h1
def amj (P:Program)(g:TypeId→Ty→Bool):Ty→Nat→List Field→Bool
 | .unit,_,[]=>true
 | .pair a b,off,f::fs=>f.name != "_" &&Nat.beq f.offset off&&(match P.info? f.type with |some i=>Nat.beq i.size a.size |none=>false)&&g f.type a&&amj P g b (off+a.size) fs
 |_,_,_=>false
def adz (P:Program):Nat→TypeId→Ty→Bool
 |0,_,_=>false
 |d+1,t,ty=>match ty,P.underlying t with
  | .int _,some (.int _)=>true
  | .bool,some .bool=>true
  | .str,some .string=>true
  | .st u,some (.struct fs)=> !(P.stoodInHeld t)&&amj P (adz P d) u 0 fs.toList
  |_,_=>false
theorem abx {P:Program}{V:View}{d:Nat}{t:TypeId}{a:Ty}{x:a.den}{pre ys post:List Value}{w:World}(h:adz P d t a=true)(hs:(match P.info? t with |some i=>Nat.beq i.size a.size |none=>false)=true)(hr:Rel V a x ys):
  (part t (pre++(ys++post)).toArray pre.length).run P w= .ok (wrap a ys) w:=by
 have hlen:=hr.length;have aoM:(isAgg t).run P w= .ok false w→a.size=1→wrap a ys=ys.headD undef→(part t (pre++(ys++post)).toArray pre.length).run P w= .ok (wrap a ys) w:=fun h1 h2 h3=>by
  rw[h2] at hlen
  match ys,hlen with
  | [v],_=>rw[h3];simp[part,h1]
 cases d with
 |zero=>cases h
 |succ d=>
  unfold adz at h;split at h
  ·rename_i hu;exact aoM (by simp[isAgg,run_underlying hu]) rfl rfl
  ·rename_i hu;exact aoM (by simp[isAgg,run_underlying hu]) rfl rfl
  ·rename_i hu;exact aoM (by simp[isAgg,run_underlying hu]) rfl rfl
  ·rename_i u fs hu;split at hs
   ·rename_i i hi;have hsz:=(beq_iff _ _).1 hs;have e1:(isAgg t).run P w= .ok true w:=by simp[isAgg,run_underlying hu]
    have e2:(sizeOf t).run P w= .ok (Ty.st u).size w:=by
     have:(sizeOf t).run P w= .ok i.size w:=by simp[sizeOf,typeInfo,hi]
     rw[this,hsz]
    simp only[part,Sem.run_bind,e1,Result.andThen_ok,if_true,e2,Sem.run_pure];rw[←hlen];simp[wrap]
   ·cases hs
  ·cases h
theorem ae9 {P:Program}:∀(d:Nat) (t:TypeId) (ty:Ty),adz P d t ty=true→∀(V:View) (x y:ty.den) (vs us:List Value) (w:World),Rel V ty x vs→Rel V ty y us→(Op.equalIn d t (wrap ty vs) (wrap ty us)).run P w= .ok (CU ty x y) w
 |0,t,ty,h=>by cases h
 |d+1,t,ty,h=>by
  intro V x y vs us w hx hy;unfold adz at h;split at h
  ·rename_i k k' hu;have e1:vs=[.int k x]:=hx;have e2:us=[.int k y]:=hy;subst e1 e2;exact run_equalIn_int w d t k k' x y hu
  ·rename_i hu;have e1:vs=[.bool x]:=hx;have e2:us=[.bool y]:=hy;subst e1 e2;exact run_equalIn_bool' w d t x y hu
  ·rename_i hu;have e1:vs=[.string x]:=hx;have e2:us=[.string y]:=hy;subst e1 e2;exact run_equalIn_string w d t x y hu
  ·rename_i u fs hu;simp only[Bool.and_eq_true,Bool.not_eq_true'] at h;have hf:P.fieldsOf t=fs:=by simp[Program.fieldsOf,hu]
   show (Op.equalIn (d+1) t (.agg vs.toArray) (.agg us.toArray)).run P w=_;rw[run_equalIn_struct w d t _ _ (by rw[hf];exact hu) h.1,hf];have key:∀(u:Ty) (fs:List Field) (x y:u.den) (p1 p2 c1 c2:List Value),amj P (adz P d) u p1.length fs=true→p1.length=p2.length→Rel V u x c1→Rel V u y c2→
     (Op.eqFields d (p1++c1).toArray (p2++c2).toArray fs).run P w= .ok (CU u x y) w:=by
    intro u;induction u with
    |unit=>
     intro fs x y p1 p2 c1 c2 h1 h2 h3 h4;cases fs with
     |nil=>rfl
     |cons f fs=>cases h1
    |pair a b _ Yz=>
     intro fs x y p1 p2 c1 c2 h1 h2 h3 h4;cases fs with
     |nil=>cases h1
     |cons f fs=>
      simp only[amj,Bool.and_eq_true] at h1;obtain⟨⟨⟨⟨g1,g2⟩,g3⟩,g4⟩,g5⟩:=h1;obtain⟨a1,b1,rfl,r1,r2⟩:=h3;obtain⟨a2,b2,rfl,r3,r4⟩:=h4;have hoff:=(beq_iff _ _).1 g2;have hl1:=r1.length;have hl2:=r3.length;have hp1:=abx (P:=P) (pre:=p1) (post:=b1) (w:=w) g4 g3 r1;have hp2:=abx (P:=P) (pre:=p2) (post:=b2) (w:=w) g4 g3 r3;have heq:=ae9 d f.type a g4 V x.1 y.1 a1 a2 w r1 r3;have ih:=Yz fs x.2 y.2 (p1++a1) (p2++a2) b1 b2 (by rw[List.length_append,hl1];exact g5) (by simp[h2,hl1,hl2]) r2 r4;have hne:f.name≠ "_" :=by simpa using g1
      simp only[Op.eqFields,hne,ne_eq,not_false_eq_true,if_true,Sem.run_bind];rw[hoff,hp1];simp only[Result.andThen_ok];rw[h2,hp2];simp only[Result.andThen_ok];rw[heq];simp only[Result.andThen_ok,CU];cases hb:CU a x.1 y.1 with
      |false=>simp
      |true=>simpa [List.append_assoc] using ih
    |_=>intro fs x y p1 p2 c1 c2 h1;cases fs<;>cases h1
   exact key u fs.toList x y [] [] vs us h.2 rfl hx hy
  ·cases h
def anH (P:Program)(T:List gZ)(t:TypeId):Bool:= !(P.eqGuardType P.depth t)&&match km T t with
 |some r=>match r.ty with
  | .st u=>adz P 10000 t (.st u)
  |_=>true
 |none=>true
theorem aoN {P:Program}{T:dc}(h:T.eqs.all (anH P T.rows)=true):aiB P T:=fun t ht r u hr rK V x y vs us w op ox oy hx hy=>by obtain⟨t',hm,he⟩:=List.any_eq_true.1 ht;have:=(beq_iff _ _).1 he;subst this;have h1:=List.all_eq_true.1 h t hm;simp only[anH,Bool.and_eq_true,Bool.not_eq_true'] at h1;obtain⟨h2,h3⟩:=h1;rw[hr] at h3;simp only[rK] at h3;exact⟨run_eqGuard_agg w op t ox oy _ _ h2,ae9 10000 t (.st u) h3 V x y vs us w hx hy⟩
theorem amk {T:dc}{l:List (Nat×JZ)}(h:l.all (fun p=>I7 T p.2)=true)(hT:∀v,T.sig v=(look l v).getD ⟨[],[],none,[],none⟩):UG T:=fun v=>by
 rw[hT v];cases hl:look l v with
 |none=>rfl
 |some s=>have hm:=Av hl;exact List.all_eq_true.1 h (v,s) hm
def aqU (P:Program)(T:dc):List (Nat×Func)→Prop
 | []=>True
 |p::r=>(P.funcs[T.real p.1]? =some p.2∧(p.2.name== "runtime.NumGoroutine")=false)∧aqU P T r
theorem Vg {P:Program}{T:dc}:∀{l:List (Nat×Func)},aqU P T l→ae6 P T (look l)
 | [],h,f,fn,hl=>by cases hl
 | (k,g)::r,h,f,fn,hl=>by
   simp only[look] at hl;cases hb:Nat.beq k f with
   |true=>simp only[hb,cond_true,Option.some.injEq] at hl;have:=(beq_iff _ _).1 hb;subst this hl;exact h.1
   |false=>simp only[hb,cond_false] at hl;exact Vg h.2 f fn hl
section
variable {α β:Type}
def Conv (u:Nat→Option α)(v:Option α):Prop:=
 (∀y,v=some y→∃n,∀m,n≤m→u m=some y)∧∀n y,u n=some y→v=some y
theorem Conv.const (v:Option α):Conv (fun _=>v) v:=⟨fun y h=>⟨0,fun _ _=>h⟩,fun _ _ h=>h⟩
theorem Conv.bind {u:Nat→Option α}{v:Option α}{g:Nat→α→Option β}{G:α→Option β}(h:Conv u v)(hg:∀y,Conv (fun n=>g n y) (G y)):
  Conv (fun n=>(u n).bind (g n)) (v.bind G):=by
 constructor
 ·intro z hz;obtain⟨y,hy,hz⟩:=Option.bind_eq_some_iff.1 hz;obtain⟨n1,h1⟩:=h.1 y hy;obtain⟨n2,h2⟩:=(hg y).1 z hz;exact⟨max n1 n2,fun m hm=>by show (u m).bind (g m)=some z;rw[h1 m (by omega)];exact h2 m (by omega)⟩
 ·intro n z hz;obtain⟨y,hy,hz⟩:=Option.bind_eq_some_iff.1 hz;rw[h.2 n y hy];exact(hg y).2 n z hz
theorem Conv.shift {u:Nat→Option α}{v:Option α}(h:Conv u v):Conv (fun n=>u (n+1)) v:=
 ⟨fun y hy=>let ⟨n,hn⟩:=h.1 y hy;⟨n,fun m hm=>hn (m+1) (by omega)⟩,fun n y hy=>h.2 (n+1) y hy⟩
open Classical in
noncomputable def lim (u:Nat→Option α):Option α:=if h:∃y,∃n,∀m,n≤m→u m=some y then some h.choose else none
theorem Conv.lim_eq {u:Nat→Option α}{v:Option α}(h:Conv u v):lim u=v:=by
 unfold lim;cases v with
 |none=>rw[dif_neg];rintro ⟨y,n,hn⟩;have:=h.2 n y (hn n (Nat.le_refl _));cases this
 |some y=>
  have hex:∃y,∃n,∀m,n≤m→u m=some y:=⟨y,h.1 y rfl⟩
  rw[dif_pos hex];obtain⟨n,hn⟩:=hex.choose_spec;exact(h.2 n _ (hn n (Nat.le_refl _))).symm
theorem anI {u:Nat→Option α}(hm:∀n y,u n=some y→u (n+1)=some y){n m:Nat}(h:n≤m){y:α}(hy:u n=some y):u m=some y:=by
 induction h with
 |refl=>exact hy
 |step _ ih=>exact hm _ _ ih
theorem Vh {u:Nat→Option α}(hm:∀n y,u n=some y→u (n+1)=some y):Conv u (lim u):=by
 have key:∀n y,u n=some y→lim u=some y:=fun n y hy=>by
  have hex:∃y,∃n,∀m,n≤m→u m=some y:=⟨y,n,fun m h=>anI hm h hy⟩
  unfold lim;rw[dif_pos hex];obtain⟨k,hk⟩:=hex.choose_spec;have h1:=hk (max n k) (by omega);have h2:=anI hm (show n≤max n k by omega) hy;rw[h1] at h2;exact h2
 refine⟨fun y hy=> ?_,key⟩;unfold lim at hy;split at hy
 ·rename_i hex;obtain⟨k,hk⟩:=hex.choose_spec;refine⟨k,fun m hm'=> ?_⟩;rw[hk m hm'];exact hy
 ·cases hy
theorem ajB {u:Nat→Option α}{y:α}(h:lim u=some y):∃n,u n=some y:=by
 unfold lim at h;split at h
 ·rename_i hex;obtain⟨k,hk⟩:=hex.choose_spec;exact⟨k,by rw[hk k (Nat.le_refl _)];exact h⟩
 ·cases h
end
section
variable {R:Type}{T:dc}
theorem Q.ajC {α:Type}{Φ:Nat→cj T}{GO:cj T}(PG:∀v x,Conv (fun n=>Φ n v x) (GO v x)){k:Nat→nx→α→Option R}{K:nx→α→Option R}(hk:∀c s,Conv (fun n=>k n c s) (K c s)):
  ∀(q:Q T α) (σ:AS) (c:nx),Conv (fun n=>q.run (Φ n) σ c (k n)) (q.run GO σ c K):=by
 intro q;induction q with
 |ret a=>intro σ c;exact hk _ _
 |fail=>intro σ c;exact Conv.const _
 |opt o q ih=>intro σ c;exact Conv.bind (Conv.const o) fun y=>ih y σ c
 |gr b q ih=>intro σ c;cases b<;>simp only[Q.run,cond_true,cond_false]<;>first |exact ih σ c |exact Conv.const _
 |ite b x y Ml JA=>intro σ c;cases b<;>simp only[Q.run,cond_true,cond_false]<;>first |exact Ml σ c |exact JA σ c
 |row r q ih=>
  intro σ c;simp only[Q.run];cases look σ.rows r with
  |none=>exact Conv.const _
  |some x=>exact ih _ σ _
 |len r q ih=>
  intro σ c;simp only[Q.run];cases look σ.rows r with
  |none=>exact Conv.const _
  |some x=>exact ih _ σ _
 |box r q ih=>
  intro σ c;simp only[Q.run];cases look σ.boxes r with
  |none=>exact Conv.const _
  |some x=>exact ih _ σ _
 |heap r q ih=>
  intro σ c;simp only[Q.run];cases σ.af[r]? with
  |none=>exact Conv.const _
  |some x=>exact ih _ σ _
 |rH r q ih=>
  intro σ c;simp only[Q.run];cases look σ.rows r with
  |none=>exact ih σ _
  |some x=>exact Conv.const _
 |rI r q ih=>
  intro σ c;simp only[Q.run];cases look σ.boxes r with
  |none=>exact ih σ _
  |some x=>exact Conv.const _
 |call v x q ih=>intro σ c;exact Conv.bind (PG v x) fun y=>ih y σ c
 |all q ih=>intro σ c;exact ih σ σ _
 |on ah q ih=>intro σ c;exact ih ah _
theorem XU {Φ:Nat→cj T}{GO:cj T}(PG:∀f x,Conv (fun n=>Φ n f x) (GO f x))(σ:AS)(o:Oper){k:Nat→nx→AS→Option R}{K:nx→AS→Option R}
  (hk:∀c s,Conv (fun n=>k n c s) (K c s)):Conv (fun n=>Mm T (Φ n) σ o (k n)) (Mm T GO σ o K):=by
 simp only[LN];refine Q.ajC (α:=cP) (k:=fun n c (r:cP)=>match r.2 with
  | .nu us=>k n (c.wr (aal us)) ((σ.app us).jX o.dst r.1)
  | .set ah=>k n .X (ah.jX o.dst r.1)) (K:=fun c (r:cP)=>match r.2 with
  | .nu us=>K (c.wr (aal us)) ((σ.app us).jX o.dst r.1)
  | .set ah=>K .X (ah.jX o.dst r.1)) PG (fun c r=> ?_) _ _ _
 obtain⟨z,e⟩:=r;cases e with
 |nu us=>exact hk _ _
 |set ah=>exact hk _ _
theorem agO {Φ:Nat→cj T}{GO:cj T}(PG:∀f x,Conv (fun n=>Φ n f x) (GO f x))(ops:Array Oper)(σ:AS)(o:Oper){k:Nat→nx→AS→Option R}{K:nx→AS→Option R}
  (hk:∀c s,Conv (fun n=>k n c s) (K c s)):Conv (fun n=>J9 T (Φ n) ops σ o (k n)) (J9 T GO ops σ o K):=by
 cases hg:o.guard with
 |none=>simp only[J9,hg];exact XU PG σ o hk
 |some p=>
  obtain⟨j,want⟩:=p;cases ht:(ops[j]?).bind (·.dst) with
  |none=>simp only[J9,hg,ht];exact Conv.const _
  |some t=>
   simp only[J9,hg,ht];split
   ·rename_i b hb;cases b<;>cases want<;>simp only[cond_true,cond_false]<;>first |exact hk _ _ |exact XU PG _ o hk
   ·exact hk _ _
   ·exact Conv.const _
theorem Vi {Φ:Nat→cj T}{GO:cj T}(PG:∀f x,Conv (fun n=>Φ n f x) (GO f x))(ops:Array Oper):∀(l:List Oper) (σ:AS) (cs:List nx) {k:Nat→List nx→AS→Option R} {K:List nx→AS→Option R}
  (hk:∀c s,Conv (fun n=>k n c s) (K c s)),Conv (fun n=>W8 T (Φ n) ops l σ cs (k n)) (W8 T GO ops l σ cs K)
 | [],σ,cs,k,K,hk=>hk _ _
 |o::r,σ,cs,k,K,hk=>by simp only[W8];exact agO PG ops σ o fun c s=>Vi PG ops r s (c::cs) hk
theorem No {Φ:Nat→cj T}{GO:cj T}(PG:∀f x,Conv (fun n=>Φ n f x) (GO f x))(ops:Array Oper)(draw:Bool)(σ:AS){k:Nat→AS→Option R}{K:AS→Option R}
  (hk:∀s,Conv (fun n=>k n s) (K s)):Conv (fun n=>wQ T (Φ n) ops draw σ (k n)) (wQ T GO ops draw σ K):=by
 unfold wQ;refine Vi PG ops _ _ _ fun c s=> ?_;cases draw with
 |false=>exact hk s
 |true=>
  cases (Kb 0 ops.toList&&Ka ops 0 (ops.toList.zip c.reverse) (Mn ops.toList [])) with
  |true=>simp only[cond_true];exact hk s
  |false=>simp only[cond_true,cond_false];exact Conv.const _
noncomputable def yA (h:List (Nat×Bool))(body:AS→(Ex→AS→Option R)→Option R)(k:Ex→AS→Option R)(σ:AS):Option R:=lim fun m=>mQ h body k m σ
noncomputable def aW (T:dc)(Φ:cj T):Code→List (List (Nat×Bool))→AS→(Ex→AS→Option R)→Option R
 | .skip,_,σ,k=>k .normal σ
 | .region _ ops draw,_,σ,k=>wQ T Φ ops draw σ (k .normal)
 | .seq a b,hs,σ,k=>aW T Φ a hs σ fun e ah=>match e with
   | .normal=>aW T Φ b (hs.drop (loops a)) ah k
   | .exit i=>k (.exit i) ah
   | .ret=>k .ret ah
 | .cond c a b,hs,σ,k=>match c with
   | .tmp t=>match nth σ.tmps t with
     | .rv (.cv ⟨.bool,x⟩)=>bif x then aW T Φ a hs (σ.NU t true) k else aW T Φ b (hs.drop (loops a)) (σ.NU t false) k
     |_=>none
   | .const (.bool x)=>bif x then aW T Φ a hs σ k else aW T Φ b (hs.drop (loops a)) σ k
   |_=>none
 | .block id c,hs,σ,k=>aW T Φ c hs σ fun e ah=>match e with
   | .normal=>k .normal ah
   | .exit i=>bif Nat.beq i id then k .normal ah else k (.exit i) ah
   | .ret=>k .ret ah
 | .loop c,hs,σ,k=>match hs with
   |h::hs'=>yA h (fun σ k'=>aW T Φ c hs' σ k') k (σ.forget h)
   | []=>none
 | .rangeFunc f ps a b,hs,σ,k=>match hs,σ.cR,σ.trace with
   |h::hs',[],⟨.unit,_⟩=>wR T Φ σ (σ.av f) fun r bs=>
     bif y9 ((σ.kM bs).forget h) then
      yA h (jN ps.toList (fun σ k'=>aW T Φ a hs' σ k') (fun σ k'=>aW T Φ b (hs'.drop (loops a)) σ k')) (gF k)
       {(((σ.kM bs).forget h)) with cR:=[r]}.save
     else none
   |_,_,_=>none
 | .exit i,_,σ,k=>k (.exit i) σ
 | .ret,_,σ,k=>k .ret σ
 |_,_,_,_=>none
def Le {α:Type}(a b:Option α):Prop:=∀y,a=some y→b=some y
theorem Le.JE {α:Type}(a:Option α):Le a a:=fun _ h=>h
theorem TZ {α:Type}{a b:Option α}(h:Le a b):Conv (fun n=>bif Nat.ble n 0 then a else b) b:=by
 refine⟨fun y hy=>⟨1,fun m hm=> ?_⟩,fun n y hy=> ?_⟩
 ·have:Nat.ble m 0=false:=by cases m with
   |zero=>omega
   |succ m=>rfl
  show (bif Nat.ble m 0 then a else b)=some y;rw[this];exact hy
 ·have hy':(bif Nat.ble n 0 then a else b)=some y:=hy;cases hb:Nat.ble n 0 with
  |true=>rw[hb] at hy';exact h y hy'
  |false=>rw[hb] at hy';exact hy'
theorem afa {α:Type}{u:Nat→Option α}{b:Option α}(h:Conv u b):Le (u 0) b:=fun y hy=>h.2 0 y hy
theorem Kz {h:List (Nat×Bool)}{body body':AS→(Ex→AS→Option R)→Option R}(hb:∀σ k k',(∀e s,Le (k e s) (k' e s))→Le (body σ k) (body' σ k'))
  {k k':Ex→AS→Option R} (hk:∀e s,Le (k e s) (k' e s)):∀m m' σ,m≤m'→Le (mQ h body k m σ) (mQ h body' k' m' σ)
 |0,m',σ,_=>fun y hy=>by cases hy
 |m+1,0,σ,hm=>by omega
 |m+1,m'+1,σ,hm=>by
  simp only[mQ];refine hb σ _ _ fun e s=> ?_;cases e with
  |normal=>exact Kz hb hk m m' _ (by omega)
  |exit i=>exact hk _ _
  |ret=>exact hk _ _
theorem PS {Φ:Nat→cj T}{GO:cj T}(PG:∀f x,Conv (fun n=>Φ n f x) (GO f x))(σ:AS)(f:AV){k:Nat→Rng→List Nat→Option R}{K:Rng→List Nat→Option R}(hk:∀r bs,Conv (fun n=>k n r bs) (K r bs)):
  Conv (fun n=>wR T (Φ n) σ f (k n)) (wR T GO σ f K):=by
 unfold wR;split
 ·rename_i g aX;split
  ·rename_i v _ _;split
   ·rename_i x _;split
    ·rename_i xh _;refine Conv.bind (PG v xh) fun yh=> ?_;cases (yw (bA aX)&&(T.sig v).af.isEmpty&&Nat.beq (T.real v) g) with
     |false=>exact Conv.const _
     |true=>
      simp only[cond_true];have key:∀(s:JZ) (y:NQ s),Conv (fun n=>match s,y with
       | ⟨_,_,_,_,some ts⟩,y=>k n ⟨ts,y⟩ (bA aX)
       |_,_=>none) (match s,y with
       | ⟨_,_,_,_,some ts⟩,y=>K ⟨ts,y⟩ (bA aX)
       |_,_=>none)
       | ⟨_,_,_,_,some ts⟩,y=>hk _ _
       | ⟨_,_,none,_,none⟩,y=>Conv.const _
       | ⟨_,_,some _,_,none⟩,y=>Conv.const _
      exact key _ _
    ·exact Conv.const _
   ·exact Conv.const _
  ·exact Conv.const _
 ·exact Conv.const _
theorem adA {Φ GO:cj T}(PG:∀f x,Le (Φ f x) (GO f x))(σ:AS)(f:AV){k k':Rng→List Nat→Option R}(hk:∀r bs,Le (k r bs) (k' r bs)):Le (wR T Φ σ f k) (wR T GO σ f k'):=
 afa (PS (Φ:=fun n f x=>bif Nat.ble n 0 then Φ f x else GO f x) (GO:=GO) (fun f x=>TZ (PG f x)) σ f (k:=fun n r bs=>bif Nat.ble n 0 then k r bs else k' r bs) (K:=k') (fun r bs=>TZ (hk r bs)))
theorem SK {ps:List Tmp}{Tl body:Nat→AS→(Ex→AS→Option R)→Option R}{aqV anJ:AS→(Ex→AS→Option R)→Option R}
  (ha:∀σ {k:Nat→Ex→AS→Option R} {K:Ex→AS→Option R},(∀e s,Conv (fun n=>k n e s) (K e s))→Conv (fun n=>Tl n σ (k n)) (aqV σ K))
  (hb:∀σ {k:Nat→Ex→AS→Option R} {K:Ex→AS→Option R},(∀e s,Conv (fun n=>k n e s) (K e s))→Conv (fun n=>body n σ (k n)) (anJ σ K))
  (σ:AS) {k:Nat→Ex→AS→Option R} {K:Ex→AS→Option R} (hk:∀e s,Conv (fun n=>k n e s) (K e s)):Conv (fun n=>jN ps (Tl n) (body n) σ (k n)) (jN ps aqV anJ σ K):=by
 unfold jN;split
 ·exact Conv.const _
 ·rename_i r rs _;obtain⟨ts,xs⟩:=r;cases xs with
  |nil=>exact hk _ _
  |cons x xs=>
   simp only;split
   ·refine ha _ (k:=fun n e dL=>match e with
     | .normal=>body n dL fun e nv=>match e with
       | .normal=>k n .normal nv.back
       |_=>none
     |_=>none) fun e s=> ?_
    cases e with
    |normal=>
     refine hb _ (k:=fun n e nv=>match e with
      | .normal=>k n .normal nv.back
      |_=>none) fun e s=> ?_
     cases e with
     |normal=>exact hk _ _
     |_=>exact Conv.const _
    |_=>exact Conv.const _
   ·exact Conv.const _
theorem Ro {ps:List Tmp}{Tl body aqW body':AS→(Ex→AS→Option R)→Option R}(ha:∀σ k k',(∀e s,Le (k e s) (k' e s))→Le (Tl σ k) (aqW σ k'))(hb:∀σ k k',(∀e s,Le (k e s) (k' e s))→Le (body σ k) (body' σ k'))
  (σ:AS) (k k':Ex→AS→Option R) (hk:∀e s,Le (k e s) (k' e s)):Le (jN ps Tl body σ k) (jN ps aqW body' σ k'):=by
 unfold jN;split
 ·exact Le.JE _
 ·rename_i r rs _;obtain⟨ts,xs⟩:=r;cases xs with
  |nil=>exact hk _ _
  |cons x xs=>
   simp only;split
   ·refine ha _ _ _ fun e s=> ?_;cases e with
    |normal=>
     refine hb _ _ _ fun e s=> ?_;cases e with
     |normal=>exact hk _ _
     |_=>exact Le.JE _
    |_=>exact Le.JE _
   ·exact Le.JE _
theorem Vj {k:Nat→Ex→AS→Option R}{K:Ex→AS→Option R}(hk:∀e s,Conv (fun n=>k n e s) (K e s))(e:Ex)(s:AS):Conv (fun n=>gF (k n) e s) (gF K e s):=by
 cases e with
 |exit i=>exact hk _ _
 |_=>exact Conv.const _
theorem Zb {k k':Ex→AS→Option R}(hk:∀e s,Le (k e s) (k' e s))(e:Ex)(s:AS):Le (gF k e s) (gF k' e s):=by
 cases e with
 |exit i=>exact hk _ _
 |_=>exact Le.JE _
theorem GP {Φ GO:cj T}(PG:∀f x,Le (Φ f x) (GO f x)){n n':Nat}(hn:n≤n'):∀(c:Code) (hs:List (List (Nat×Bool))) (σ:AS) (k k':Ex→AS→Option R) (hk:∀e s,Le (k e s) (k' e s)),
  Le (aM T Φ n c hs σ k) (aM T GO n' c hs σ k'):=by
 intro c;induction c with
 |skip=>intro hs σ k k' hk;exact hk _ _
 |region id ops draw=>intro hs σ k k' hk;have:=No (Φ:=fun n f x=>bif Nat.ble n 0 then Φ f x else GO f x) (GO:=GO) (fun f x=>TZ (PG f x)) ops draw σ (k:=fun n s=>bif Nat.ble n 0 then k .normal s else k' .normal s) (K:=k' .normal) (fun s=>TZ (hk _ _));exact afa this
 |seq a b iha Yz=>
  intro hs σ k k' hk;simp only[aM];refine iha _ _ _ _ fun e s=> ?_;cases e with
  |normal=>exact Yz _ _ _ _ hk
  |exit i=>exact hk _ _
  |ret=>exact hk _ _
 |cond c a b iha Yz=>
  intro hs σ k k' hk;simp only[aM];split
  ·split
   ·rename_i x _;cases x
    ·exact Yz _ _ _ _ hk
    ·exact iha _ _ _ _ hk
   ·exact Le.JE _
  ·rename_i x;cases x
   ·exact Yz _ _ _ _ hk
   ·exact iha _ _ _ _ hk
  ·exact Le.JE _
 |block id c ih=>
  intro hs σ k k' hk;simp only[aM];refine ih _ _ _ _ fun e s=> ?_;cases e with
  |normal=>exact hk _ _
  |exit i=>cases hb:Nat.beq i id<;>simp only[hb,cond_true,cond_false]<;>exact hk _ _
  |ret=>exact hk _ _
 |loop c ih=>
  intro hs σ k k' hk;simp only[aM];cases hs with
  |nil=>exact Le.JE _
  |cons h hs'=>exact Kz (body:=fun σ k'=>aM T Φ n c hs' σ k') (body':=fun σ k'=>aM T GO n' c hs' σ k') (fun σ k k' hk=>ih hs' σ k k' hk) hk _ _ _ hn
 |rangeFunc f ps a b iha Yz=>
  intro hs σ k k' hk;simp only[aM];split
  ·refine adA PG σ _ fun r bs=> ?_;rename_i h hs' _ _ _
   ·cases y9 ((σ.kM bs).forget h) with
    |false=>exact Le.JE _
    |true=>simp only[cond_true];exact Kz (fun σ k k' hk=>Ro (fun σ k k' hk=>iha _ σ k k' hk) (fun σ k k' hk=>Yz _ σ k k' hk) σ k k' hk) (Zb hk) _ _ _ hn
  ·exact Le.JE _
 |exit i=>intro hs σ k k' hk;exact hk _ _
 |ret=>intro hs σ k k' hk;exact hk _ _
 |_=>intro hs σ k k' hk;exact Le.JE _
theorem aby {h:List (Nat×Bool)}{body:AS→(Ex→AS→Option R)→Option R}(hb:∀σ k k',(∀e s,Le (k e s) (k' e s))→Le (body σ k) (body σ k'))
  (k:Ex→AS→Option R) (σ:AS):∀n y,mQ h body k n σ=some y→mQ h body k (n+1) σ=some y:=
 fun n y hy=>Kz hb (fun e s=>Le.JE _) n (n+1) σ (by omega) y hy
theorem XV {h:List (Nat×Bool)}{bn:Nat→AS→(Ex→AS→Option R)→Option R}{bI:AS→(Ex→AS→Option R)→Option R}
  (hc:∀σ {k:Nat→Ex→AS→Option R} {K:Ex→AS→Option R},(∀e s,Conv (fun n=>k n e s) (K e s))→Conv (fun n=>bn n σ (k n)) (bI σ K))
  (hbn:∀n σ (k k':Ex→AS→Option R),(∀e s,Le (k e s) (k' e s))→Le (bn n σ k) (bn n σ k'))
  {k:Nat→Ex→AS→Option R} {K:Ex→AS→Option R} (hk:∀e s,Conv (fun n=>k n e s) (K e s)) (σ:AS):Conv (fun n=>mQ h (bn n) (k n) n σ) (yA h bI K σ):=by
 have hbI:∀σ (k k':Ex→AS→Option R),(∀e s,Le (k e s) (k' e s))→Le (bI σ k) (bI σ k'):=fun σ k k' hkk y hy=>by obtain⟨n,hn⟩:=(hc σ (k:=fun _=>k) (K:=k) (fun e s=>Conv.const _)).1 y hy;exact(hc σ (k:=fun _=>k') (K:=k') (fun e s=>Conv.const _)).2 n y (hbn n σ k k' hkk y (hn n (Nat.le_refl _)))
 have hm:∀m σ,Conv (fun n=>mQ h (bn n) (k n) m σ) (mQ h bI K m σ):=by
  intro m;induction m with
  |zero=>intro σ;exact Conv.const _
  |succ m ihm=>
   intro σ;simp only[mQ];refine hc σ (k:=fun n e ah=>match e with
    | .normal=>mQ h (bn n) (k n) m (ah.forget h)
    | .exit i=>k n (.exit i) ah
    | .ret=>k n .ret ah) fun e s=> ?_
   cases e with
   |normal=>exact ihm _
   |exit i=>exact hk _ _
   |ret=>exact hk _ _
 have hlim:∀σ,Conv (fun m=>mQ h bI K m σ) (yA h bI K σ):=fun σ=>Vh (aby hbI K σ);constructor
 ·intro y hy;obtain⟨m,h1⟩:=(hlim _).1 y hy;obtain⟨n,h2⟩:=(hm m _).1 y (h1 m (Nat.le_refl _));refine⟨max n m,fun i hi=> ?_⟩;exact Kz (hbn i) (fun e s=>Le.JE _) m i _ (by omega) y (h2 i (by omega))
 ·intro n y hy;exact(hlim _).2 n y ((hm n _).2 n y hy)
theorem AD {Φ:Nat→cj T}{GO:cj T}(PG:∀f x,Conv (fun n=>Φ n f x) (GO f x)):∀(c:Code) (hs:List (List (Nat×Bool))) (σ:AS) {k:Nat→Ex→AS→Option R} {K:Ex→AS→Option R}
  (hk:∀e s,Conv (fun n=>k n e s) (K e s)),Conv (fun n=>aM T (Φ n) n c hs σ (k n)) (aW T GO c hs σ K):=by
 intro c;induction c with
 |skip=>intro hs σ k K hk;exact hk _ _
 |region id ops draw=>intro hs σ k K hk;exact No PG ops draw σ fun s=>hk _ _
 |seq a b iha Yz=>
  intro hs σ k K hk;simp only[aM,aW];refine iha hs σ (k:=fun n e ah=>match e with
   | .normal=>aM T (Φ n) n b (hs.drop (loops a)) ah (k n)
   | .exit i=>k n (.exit i) ah
   | .ret=>k n .ret ah) fun e s=> ?_
  cases e with
  |normal=>exact Yz _ _ hk
  |exit i=>exact hk _ _
  |ret=>exact hk _ _
 |cond c a b iha Yz=>
  intro hs σ k K hk;simp only[aM,aW];cases c with
  |tmp t=>
   simp only;generalize nth σ.tmps t=v;cases v with
   |rv x=>
    cases x with
    |cv d=>
     obtain⟨ty,x⟩:=d;cases ty with
     |bool=>
      cases x
      ·exact Yz _ _ hk
      ·exact iha _ _ hk
     |_=>exact Conv.const _
    |_=>exact Conv.const _
   |_=>exact Conv.const _
  |const v=>
   cases v with
   |bool x=>
    cases x
    ·exact Yz _ _ hk
    ·exact iha _ _ hk
   |_=>exact Conv.const _
  |_=>exact Conv.const _
 |block id c ih=>
  intro hs σ k K hk;simp only[aM,aW];refine ih hs σ (k:=fun n e ah=>match e with
   | .normal=>k n .normal ah
   | .exit i=>bif Nat.beq i id then k n .normal ah else k n (.exit i) ah
   | .ret=>k n .ret ah) fun e s=> ?_
  cases e with
  |normal=>exact hk _ _
  |exit i=>cases hb:Nat.beq i id<;>simp only[hb,cond_true,cond_false]<;>exact hk _ _
  |ret=>exact hk _ _
 |loop c ih=>
  intro hs σ k K hk;simp only[aM,aW];cases hs with
  |nil=>exact Conv.const _
  |cons h hs'=>exact XV (bn:=fun n σ k'=>aM T (Φ n) n c hs' σ k') (bI:=fun σ k'=>aW T GO c hs' σ k') (fun σ {k K} hk=>ih hs' σ hk) (fun n σ k k' hkk=>GP (T:=T) (fun f x=>Le.JE _) (Nat.le_refl n) c hs' σ k k' hkk) hk _
 |rangeFunc f ps a b iha Yz=>
  intro hs σ k K hk;simp only[aM,aW];cases hs with
  |nil=>exact Conv.const _
  |cons h hs'=>
   generalize σ.cR=rn;generalize σ.trace=tr;obtain⟨ty,x⟩:=tr;cases rn with
   |cons _ _=>exact Conv.const _
   |nil=>
    cases ty with
    |unit=>
     simp only;refine PS PG σ _ (k:=fun n r bs=>bif y9 ((σ.kM bs).forget h) then
       mQ h (jN ps.toList (fun σ k'=>aM T (Φ n) n a hs' σ k') (fun σ k'=>aM T (Φ n) n b (hs'.drop (loops a)) σ k')) (gF (k n)) n
        {(((σ.kM bs).forget h)) with cR:=[r]}.save
      else none) fun r bs=> ?_
     cases y9 ((σ.kM bs).forget h) with
     |false=>exact Conv.const _
     |true=>
      simp only[cond_true];exact XV (bn:=fun n=>jN ps.toList (fun σ k'=>aM T (Φ n) n a hs' σ k') (fun σ k'=>aM T (Φ n) n b (hs'.drop (loops a)) σ k')) (bI:=jN ps.toList (fun σ k'=>aW T GO a hs' σ k') (fun σ k'=>aW T GO b (hs'.drop (loops a)) σ k'))
       (fun σ {k K} hk=>SK (Tl:=fun n σ k'=>aM T (Φ n) n a hs' σ k') (body:=fun n σ k'=>aM T (Φ n) n b (hs'.drop (loops a)) σ k') (fun σ {k K} hk=>iha hs' σ hk) (fun σ {k K} hk=>Yz _ σ hk) σ hk)
       (fun n σ k k' hkk=>Ro (fun σ k k' hkk=>GP (T:=T) (fun f x=>Le.JE _) (Nat.le_refl n) a hs' σ k k' hkk) (fun σ k k' hkk=>GP (T:=T) (fun f x=>Le.JE _) (Nat.le_refl n) b _ σ k k' hkk) σ k k' hkk)
       (Vj hk) _
    |_=>exact Conv.const _
 |exit i=>intro hs σ k K hk;exact hk _ _
 |ret=>intro hs σ k K hk;exact hk _ _
 |_=>intro hs σ k K hk;exact Conv.const _
theorem Iq {Φ:cj T}(c:Code)(hs:List (List (Nat×Bool)))(σ:AS)(k k':Ex→AS→Option R)(hk:∀e s,Le (k e s) (k' e s)):Le (aW T Φ c hs σ k) (aW T Φ c hs σ k'):=fun y hy=>by obtain⟨n,hn⟩:=(AD (T:=T) (Φ:=fun _=>Φ) (GO:=Φ) (fun f x=>Conv.const _) c hs σ (k:=fun _=>k) (K:=k) (fun e s=>Conv.const _)).1 y hy;have h2:=GP (T:=T) (Φ:=Φ) (GO:=Φ) (fun f x=>Le.JE _) (Nat.le_refl n) c hs σ k k' hk y (hn n (Nat.le_refl _));exact(AD (T:=T) (Φ:=fun _=>Φ) (GO:=Φ) (fun f x=>Conv.const _) c hs σ (k:=fun _=>k') (K:=k') (fun e s=>Conv.const _)).2 n y h2
theorem Ir {Φ:cj T}(c:Code)(hs:List (List (Nat×Bool)))(σ:AS){k:Nat→Ex→AS→Option R}{K:Ex→AS→Option R}(hk:∀e s,Conv (fun n=>k n e s) (K e s)):Conv (fun n=>aW T Φ c hs σ (k n)) (aW T Φ c hs σ K):=by
 constructor
 ·intro y hy;have h3:=AD (T:=T) (Φ:=fun _=>Φ) (GO:=Φ) (fun f x=>Conv.const _) c hs σ (k:=k) (K:=K) hk;obtain⟨n,hn⟩:=h3.1 y hy;exact⟨n,fun m hm=>(AD (T:=T) (Φ:=fun _=>Φ) (GO:=Φ) (fun f x=>Conv.const _) c hs σ (k:=fun _=>k m) (K:=k m) (fun e s=>Conv.const _)).2 m y (hn m hm)⟩
 ·intro m y hy;exact Iq c hs σ _ _ (fun e s y hy=>(hk e s).2 m y hy) y hy
theorem Vk {h:List (Nat×Bool)}{bI:AS→(Ex→AS→Option R)→Option R}(hle:∀σ (k k':Ex→AS→Option R),(∀e s,Le (k e s) (k' e s))→Le (bI σ k) (bI σ k'))
  (hc:∀σ {k:Nat→Ex→AS→Option R} {K:Ex→AS→Option R},(∀e s,Conv (fun n=>k n e s) (K e s))→Conv (fun n=>bI σ (k n)) (bI σ K)) (k:Ex→AS→Option R) (σ:AS):
  yA h bI k σ=bI σ fun e ah=>match e with
   | .normal=>yA h bI k (ah.forget h)
   | .exit i=>k (.exit i) ah
   | .ret=>k .ret ah:=by
 have hlim:∀σ,Conv (fun m=>mQ h bI k m σ) (yA h bI k σ):=fun σ=>Vh (aby hle k σ);have h1:=(hlim σ).shift;have h2:Conv (fun m=>mQ h bI k (m+1) σ) (bI σ fun e ah=>match e with
   | .normal=>yA h bI k (ah.forget h)
   | .exit i=>k (.exit i) ah
   | .ret=>k .ret ah):=by
  simp only[mQ];refine hc σ (k:=fun m e ah=>match e with
   | .normal=>mQ h bI k m (ah.forget h)
   | .exit i=>k (.exit i) ah
   | .ret=>k .ret ah) fun e s=> ?_
  cases e with
  |normal=>exact hlim _
  |exit i=>exact Conv.const _
  |ret=>exact Conv.const _
 rw[←h2.lim_eq,h1.lim_eq]
theorem ajD (T:dc)(Φ:cj T)(h:List (Nat×Bool))(c:Code)(hs:List (List (Nat×Bool)))(k:Ex→AS→Option R)(σ:AS):
  yA h (fun σ k'=>aW T Φ c hs σ k') k σ=aW T Φ c hs σ fun e ah=>match e with
   | .normal=>yA h (fun σ k'=>aW T Φ c hs σ k') k (ah.forget h)
   | .exit i=>k (.exit i) ah
   | .ret=>k .ret ah:=Vk (fun σ k k' hk=>Iq c hs σ k k' hk) (fun σ {k K} hk=>Ir c hs σ hk) k σ
theorem agP (T:dc)(Φ:cj T)(h:List (Nat×Bool))(ps:List Tmp)(a b:Code)(hs1 hs2:List (List (Nat×Bool)))(k:Ex→AS→Option R)(σ:AS):
  yA h (jN ps (fun σ k'=>aW T Φ a hs1 σ k') (fun σ k'=>aW T Φ b hs2 σ k')) k σ=jN ps (fun σ k'=>aW T Φ a hs1 σ k') (fun σ k'=>aW T Φ b hs2 σ k') σ fun e ah=>match e with
   | .normal=>yA h (jN ps (fun σ k'=>aW T Φ a hs1 σ k') (fun σ k'=>aW T Φ b hs2 σ k')) k (ah.forget h)
   | .exit i=>k (.exit i) ah
   | .ret=>k .ret ah:=Vk (fun σ k k' hk=>Ro (fun σ k k' hk=>Iq a _ σ k k' hk) (fun σ k k' hk=>Iq b _ σ k k' hk) σ k k' hk)
  (fun σ {k K} hk=>SK (Tl:=fun _ σ k'=>aW T Φ a hs1 σ k') (body:=fun _ σ k'=>aW T Φ b hs2 σ k') (fun σ {k K} hk=>Ir a _ σ hk) (fun σ {k K} hk=>Ir b _ σ hk) σ hk) k σ
end
noncomputable def Zc (T:dc)(fn:Func)(c:Code)(Φ:cj T)(v:Nat)(x:CS T v):Option (wN T v):=
 aW T Φ c (T.hint v) (Po T fn v x) (Mo T fn v)
noncomputable def dB (T:dc)(B:NV T)(fns:Nat→Option Func)(v:Nat)(x:CS T v):Option (wN T v):=lim fun n=>JB T B fns n v x
theorem afb (T:dc)(B:NV T)(fns:Nat→Option Func):∀n v x y,JB T B fns n v x=some y→JB T B fns (n+1) v x=some y
 |0,v,x,y,h=>by cases h
 |n+1,v,x,y,h=>by
  rw[JB] at h ⊢;revert h;cases B v with
  |some g=>exact id
  |none=>
   simp only;cases fns v with
   |none=>exact id
   |some fn=>
    simp only;cases fn.body with
    |none=>exact id
    |some c=>simp only[Ke];exact GP (T:=T) (fun f x y hy=>afb T B fns n f x y hy) (by omega) c _ _ _ _ (fun e s=>Le.JE _) y
theorem Vl (T:dc)(B:NV T)(fns:Nat→Option Func)(v:Nat)(x:CS T v):Conv (fun n=>JB T B fns n v x) (dB T B fns v x):=Vh fun n y=>afb T B fns n v x y
theorem aoO {T:dc}{B:NV T}{fns:Nat→Option Func}{v:Nat}{fn:Func}{c:Code}(hB:B v=none)(hf:fns v=some fn)(hc:fn.body=some c)(x:CS T v):
  dB T B fns v x=Zc T fn c (dB T B fns) v x:=by
 have h1:=(Vl T B fns v x).shift;have h2:Conv (fun n=>JB T B fns (n+1) v x) (Zc T fn c (dB T B fns) v x):=by
  have e:(fun n=>JB T B fns (n+1) v x)=fun n=>aM T (JB T B fns n) n c (T.hint v) (Po T fn v x) (Mo T fn v):=by funext n;rw[JB,hB];simp only;rw[hf];simp only[hc];rfl
  rw[e];exact AD (T:=T) (fun f x=>Vl T B fns f x) c _ _ (k:=fun _=>Mo T fn v) fun e s=>Conv.const _
 rw[←h2.lim_eq,h1.lim_eq]
theorem ajE {T:dc}{B:NV T}{fns:Nat→Option Func}{v:Nat}{g:CS T v→Option (wN T v)}(hB:B v=some g)(x:CS T v):dB T B fns v x=g x:=by
 have h1:=(Vl T B fns v x).shift;have e:(fun n=>JB T B fns (n+1) v x)=fun _=>g x:=by funext n;rw[JB,hB]
 rw[e] at h1;rw[←h1.lim_eq,(Conv.const (g x)).lim_eq]
theorem agQ {P:Program}{T:dc}{B:NV T}{fns:Nat→Option Func}(hP:N4 P T)(hB:adx P T B)(hF:ae6 P T fns):aaU P T (dB T B fns):=fun v xh yh h=>by obtain⟨n,hn⟩:=ajB h;exact(abw hP hB hF n).1 v xh yh hn
def Rp {α β:Type}(a:Option α)(b:Option β):Option (α×β):=match a,b with
 |some x,some y=>some (x,y)
 |_,_=>none
def bs (l:List Nat):ByteArray:=⟨(l.map UInt8.ofNat).toArray⟩
inductive Frm where
 |seq (b:Code) (hs:List (List (Nat×Bool)))
 |blk (id:Nat)
 |lp (h:List (Nat×Bool)) (c:Code) (hs:List (List (Nat×Bool)))
 |rg (h:List (Nat×Bool)) (ps:List Tmp) (a b:Code) (hs1 hs2:List (List (Nat×Bool)))
section
variable {R:Type}
noncomputable def Zd (T:dc)(Φ:cj T):List Frm→(Ex→AS→Option R)→Ex→AS→Option R
 | [],k=>k
 | .seq b hs::fr,k=>fun e ah=>match e with
   | .normal=>aW T Φ b hs ah (Zd T Φ fr k)
   | .exit i=>Zd T Φ fr k (.exit i) ah
   | .ret=>Zd T Φ fr k .ret ah
 | .blk id::fr,k=>fun e ah=>match e with
   | .normal=>Zd T Φ fr k .normal ah
   | .exit i=>bif Nat.beq i id then Zd T Φ fr k .normal ah else Zd T Φ fr k (.exit i) ah
   | .ret=>Zd T Φ fr k .ret ah
 | .lp h c hs::fr,k=>fun e ah=>match e with
   | .normal=>yA h (fun σ k'=>aW T Φ c hs σ k') (Zd T Φ fr k) (ah.forget h)
   | .exit i=>Zd T Φ fr k (.exit i) ah
   | .ret=>Zd T Φ fr k .ret ah
 | .rg h ps a b hs1 hs2::fr,k=>fun e ah=>match e with
   | .normal=>yA h (jN ps (fun σ k'=>aW T Φ a hs1 σ k') (fun σ k'=>aW T Φ b hs2 σ k')) (gF (Zd T Φ fr k)) (ah.back.forget h)
   |_=>none
end
inductive atv where
 |lp (h:List (Nat×Bool)) (c:Code) (hs:List (List (Nat×Bool))) (fr:List Frm)
 |rg (h:List (Nat×Bool)) (ps:List Tmp) (a b:Code) (hs1 hs2:List (List (Nat×Bool))) (fr:List Frm)
def Is:Code→List (List (Nat×Bool))→List Frm→Nat→Option atv
 | .seq a b,hs,fr,i=>bif Nat.blt i (loops a) then Is a hs (.seq b (hs.drop (loops a))::fr) i else Is b (hs.drop (loops a)) fr (i - loops a)
 | .cond _ a b,hs,fr,i=>bif Nat.blt i (loops a) then Is a hs fr i else Is b (hs.drop (loops a)) fr (i - loops a)
 | .block id c,hs,fr,i=>Is c hs (.blk id::fr) i
 | .loop c,h::hs,fr,0=>some (.lp h c hs fr)
 | .loop c,h::hs,fr,i+1=>Is c hs (.lp h c hs::fr) i
 | .rangeFunc f ps a b,h::hs,fr,0=>some (.rg h ps.toList a b hs (hs.drop (loops a)) fr)
 | .rangeFunc f ps a b,h::hs,fr,i+1=>bif Nat.blt i (loops a) then none else Is b (hs.drop (loops a)) (.rg h ps.toList a b hs (hs.drop (loops a))::fr) (i - loops a)
 |_,_,_,_=>none
noncomputable def LL (T:dc)(B:NV T)(fns:Nat→Option Func)(v:Nat)(i:Nat)(σ:AS):Option (wN T v):=
 match fns v with
 |some fn=>match fn.body with
  |some c=>match Is c (T.hint v) [] i with
   |some (.lp h c hs fr)=>yA h (fun σ k'=>aW T (dB T B fns) c hs σ k') (Zd T (dB T B fns) fr (Mo T fn v)) σ
   |some (.rg h ps a b hs1 hs2 fr)=>yA h (jN ps (fun σ k'=>aW T (dB T B fns) a hs1 σ k') (fun σ k'=>aW T (dB T B fns) b hs2 σ k')) (gF (Zd T (dB T B fns) fr (Mo T fn v))) σ
   |none=>none
  |none=>none
 |none=>none
noncomputable def LL1 (T:dc)(B:NV T)(fns:Nat→Option Func)(v:Nat)(i:Nat)(σ:AS):Option (wN T v):=
 match fns v with
 |some fn=>match fn.body with
  |some c=>match Is c (T.hint v) [] i with
   |some (.lp h c hs fr)=>aW T (dB T B fns) c hs σ fun e ah=>match e with
    | .normal=>yA h (fun σ k'=>aW T (dB T B fns) c hs σ k') (Zd T (dB T B fns) fr (Mo T fn v)) (ah.forget h)
    | .exit i=>Zd T (dB T B fns) fr (Mo T fn v) (.exit i) ah
    | .ret=>Zd T (dB T B fns) fr (Mo T fn v) .ret ah
   |some (.rg h ps a b hs1 hs2 fr)=>jN ps (fun σ k'=>aW T (dB T B fns) a hs1 σ k') (fun σ k'=>aW T (dB T B fns) b hs2 σ k') σ fun e ah=>match e with
    | .normal=>yA h (jN ps (fun σ k'=>aW T (dB T B fns) a hs1 σ k') (fun σ k'=>aW T (dB T B fns) b hs2 σ k')) (gF (Zd T (dB T B fns) fr (Mo T fn v))) (ah.forget h)
    | .exit i=>gF (Zd T (dB T B fns) fr (Mo T fn v)) (.exit i) ah
    | .ret=>gF (Zd T (dB T B fns) fr (Mo T fn v)) .ret ah
   |none=>none
  |none=>none
 |none=>none
theorem aqX (T:dc)(B:NV T)(fns:Nat→Option Func)(v:Nat)(i:Nat)(σ:AS):LL T B fns v i σ=LL1 T B fns v i σ:=by
 unfold LL LL1;split
 ·split
  ·split
   ·exact ajD T (dB T B fns) _ _ _ _ _
   ·exact agP T (dB T B fns) _ _ _ _ _ _ _ _
   ·rfl
  ·rfl
 ·rfl
noncomputable def aoP (T:dc)(B:NV T)(fns:Nat→Option Func)(v:Nat)(x:CS T v):Option (wN T v):=
 match B v with
 |some g=>g x
 |none=>match fns v with
  |some fn=>match fn.body with
   |some c=>Zc T fn c (dB T B fns) v x
   |none=>none
  |none=>none
theorem Fa (T:dc)(B:NV T)(fns:Nat→Option Func)(v:Nat)(x:CS T v):dB T B fns v x=aoP T B fns v x:=by
 unfold aoP;split
 ·rename_i g hg;exact ajE hg x
 ·rename_i hB;split
  ·rename_i fn hf;split
   ·rename_i c hc;exact aoO hB hf hc x
   ·rename_i hc;refine Conv.lim_eq ?_;refine⟨fun y hy=>(by cases hy),fun n y hy=> ?_⟩;cases n with
    |zero=>cases hy
    |succ n=>simp only[JB,hB,hf,hc] at hy;cases hy
  ·rename_i hf;refine Conv.lim_eq ?_;refine⟨fun y hy=>(by cases hy),fun n y hy=> ?_⟩;cases n with
   |zero=>cases hy
   |succ n=>simp only[JB,hB,hf] at hy;cases hy
section
variable {P:Program}{T:dc}{V0:View}{w:World}
def aml (T:dc)(V0:View)(w:World):Env where
 V0:=V0
 w0:=w
 X:=fun _=>False
 J:=lj
 XS:=fun i=> .pointer (some ⟨i - 1000000000,0,none⟩)
 Y:= .nilFunc
 ro:=fun _=>none
 h0:=c8 T
 n0:=fun _ _=> .nilFunc
 M:=fun _=>False
 base:=w
 CB:=fun _=>False
 Om:=fun _=>False
 acc:=fun _=>True
 XH:=fun _ _=>False
theorem amm (h:∀ad v,V0 (.cell ad) v→w.cell? ad=some v):aI (aml T V0 w):=
 ⟨fun ad v hv=>⟨h ad v hv,id⟩,fun tr O w w' C hJ _ _=>hJ⟩
theorem agR (h:∀ad v,V0 (.cell ad) v→w.cell? ad=some v)(hG:YY T (fun key v=>∃ad:Addr,key= .cell ad∧V0 (.cell ad) v)):N1 T (aml T V0 w):=by
 refine⟨fun g=> ?_,fun i x hx=> ?_⟩
 ·show Value.pointer (some ⟨gk g - 1000000000,0,none⟩)=_;unfold gk;rw[show 1000000000+g - 1000000000=g by omega]
 ·obtain⟨g,cs,h1,h2,h3⟩:=hG i x hx;exact⟨g,cs,h1,h2,h3.of fun key u ⟨ad,e,hv⟩=>⟨ad,e,Ii (h ad u hv),hv⟩⟩
theorem agS:St (aml T V0 w) (aK (c8 T)) ⟨#[],[]⟩ w (fun _=> .nilFunc) (fun _=>False):=by
 have pj:∀m,(aK (c8 T)).obj m=none:=fun m=>by
  cases m with
  |row q=>rfl
  |box q=>rfl
  |hp i n=>
   simp only[AS.obj,aK];cases n with
   |zero=>rfl
   |succ n=>
    simp only[pj];split
    ·rename_i hr hhr;rw[zh i hr hhr];rfl
    ·rfl
 have hno:∀m k,¬Own (aK (c8 T)) (fun _=> .nilFunc) m k:=fun m k h=>by have:=h.1;rw[pj m] at this;cases this
 refine⟨Grow.refl _ _,(fun d hd=>by cases hd),⟨rfl,(fun i x e=>by cases e),(fun i x e=>by cases e)⟩,fun m o ho=> ?_,fun m m' k h1 h2=>absurd h1 (hno m k),fun m k hm=>absurd hm (hno m k),fun m k hm=>absurd hm (hno m k),⟨rfl,fun _ hf=>hf.elim⟩,fun i hr n e h1 h2=> ?_,(fun i hr e=>by cases e),⟨rfl,fun i hr e=>⟨hr,e,BN.refl _,Nat.le_refl _⟩,fun i n h1 h2=>rfl⟩,fun _ hf=>hf.elim,Grow.refl _ _,fun m k hm=>absurd hm (hno m k),fun _ hf=>hf.elim,List.nodup_nil⟩
 ·rw[pj m] at ho;cases ho
 ·rw[zh i hr e] at h2;simp at h2;omega
theorem ajF {V:View}{σ:AS}{ν:Nm→Value}{Y:Value}{d:Nat}{s:JZ}{args:List ph}{hs:List (Nat×Bool)}(hres:s=⟨args,[(.bool,none)],none,hs,none⟩){y:NQ s}(hy:HEq y true){r:Value}(h:ak V σ ν Y (aaT d s y) r):r= .bool true:=by subst hres;have hy':y=true:=eq_of_heq hy;subst hy';have:cg V ⟨.bool,true⟩ r:=h;have h2: [r]=[.bool true]:=this;simpa using h2
theorem ajG {A:Type}{hs:List Nat}(h:hs=[])(y:Pk T A hs):HEq (wJ hs y) y:=by subst h;rfl
theorem aqY {v:Nat}{xh:CS T v}{yh:wN T v}(hF:N3 P T v xh yh){as:List ph}(hs:T.sig v=⟨as,[(.bool,none)],none,[],none⟩)(hy:HEq yh true)(hV0:∀ad u,V0 (.cell ad) u→w.cell? ad=some u)
  (hG:YY T (fun key u=>∃ad:Addr,key= .cell ad∧V0 (.cell ad) u)) {args:Array Value} (hargs:nZ (fun key u=>∃ad:Addr,key= .cell ad∧V0 (.cell ad) u) (T.sig v).args (wJ _ xh) args.toList):
  Calls P (T.real v) args w fun e w'=>e= .returned (.bool true)∧Below w.heap.size w w':=by
 have hhe:(T.sig v).af.isEmpty=true:=by rw[hs];rfl
 have hst:aO T v xh=c8 T:=E0 hhe;have hin:(T.sig v).hin=[]:=by rw[hs];rfl
 have hout:(T.sig v).hout=[]:=by rw[hs];rfl
 refine Calls.mono (hF.2 (aml T V0 w) (fun _=> .nilFunc) args 0 (amm hV0) (agR hV0 hG) ⟨rfl,fun _ h=>h,fun _ h=>h,fun _=>trivial,fun _ _ _ h=>h,fun i=>by rw[hin];rfl⟩ (by rw[hst];exact agS) (hargs.mono fun key u ⟨ad,e,hv⟩=>by
  subst e;exact .inl ⟨Ii (hV0 ad u hv),hv⟩)) ?_
 rintro e w' ⟨r,aN,rfl,hend,hr⟩;have hk:Grow (fun _=>False) w w':=hend.keep;refine⟨?_,hk.below⟩;rw[ajF hs ((ajG hout yh).trans hy) hr]
end
open Go.ChangeShapes
mutual
def lays (P:Program):Ty→TypeId→Bool
 | .int k,t=>match P.underlying t with |some (.int k')=>decide (k'=k) |_=>false
 | .bool,t=>match P.underlying t with |some .bool=>true |_=>false
 | .str,t=>match P.underlying t with |some .string=>true |_=>false
 | .slice e',t=>match P.underlying t with
   |some (.slice e)=>lays P e' e&&decide (P.cellsOf e=e'.size)&&Nat.ble 1 (P.bytesOf e)
   |_=>false
 | .st f,t=>match P.underlying t with
   |some (.struct fs)=>Da P f fs.toList 0&&decide (P.cellsOf t=f.size)
   |_=>false
 |_,_=>false
def Da (P:Program):Ty→List Field→Nat→Bool
 | .unit,[],_=>true
 | .pair a b,f::r,off=>lays P a f.type&&decide (f.offset=off)&&decide (P.cellsOf f.type=a.size)&&Da P b r (off+a.size)
 |_,_,_=>false
end
def Bnd:(t:Ty)→t.den→Prop
 | .int k,n=>(Lit.int k n).wf=true
 | .str,s=>ByteArray.size s≤140737488351232
 | .slice t,xs=>List.length xs≤140737488351232∧∀x:t.den,List.Mem x xs→Bnd t x
 | .pair a b,x=>Bnd a x.1∧Bnd b x.2
 | .st t,x=>Bnd t x
 |_,_=>True
def wv (W:World):View:=fun key u=>∃ad:Addr,key= .cell ad∧W.cell? ad=some u
theorem build {α β:Type}{R:α→β→Prop}{Q:Nat→β→Prop}{B:α→Prop}:∀n:Nat,(∀i,i<n→∃x c,R x c∧Q i c∧B x)→
  ∃(xs:List α) (cs:List β),xs.length=n∧aF R xs cs∧(∀i c,cs[i]? =some c→Q i c)∧∀x,List.Mem x xs→B x
 |0,_=>⟨[],[],rfl,trivial,fun i c h=>by simp at h,fun x h=>by cases h⟩
 |n+1,h=>by
  obtain⟨xs,cs,h1,h2,h3,h4⟩:=build n fun i hi=>h i (by omega);obtain⟨x,c,g1,g2,g3⟩:=h n (by omega);have hl:cs.length=n:=by rw[←h2.length,h1]
  refine⟨xs++[x],cs++[c],by simp[h1],aF.append h2 ⟨g1,trivial⟩,fun i d hd=> ?_,fun y hy=> ?_⟩
  ·by_cases hi:i<n
   ·rw[List.getElem?_append_left (by omega)] at hd;exact h3 i d hd
   ·rw[List.getElem?_append_right (by omega)] at hd;by_cases e:i=n
    ·subst e;rw[hl,Nat.sub_self] at hd;simp at hd;subst hd;exact g2
    ·rw[List.getElem?_eq_none (by simp;omega)] at hd;cases hd
  ·rcases List.mem_append.1 (show y∈xs++[x] from hy) with h |h
   ·exact h4 y h
   ·rw[List.mem_singleton.1 h];exact g3
theorem SL {s:Nat}:∀{bG:List (List Value)},(∀c∈bG,c.length=s)→∀{j:Nat} {u:Value},bG.flatten[j]? =some u→∃i k c,bG[i]? =some c∧c[k]? =some u∧j=i*s+k∧k<s
 | [],_,j,u,h=>by simp at h
 |c::r,hl,j,u,h=>by
  have hc:=hl c (by simp);rw[List.flatten_cons] at h;by_cases hj:j<s
  ·rw[List.getElem?_append_left (by omega)] at h;exact⟨0,j,c,rfl,h,by omega,hj⟩
  ·rw[List.getElem?_append_right (by omega)] at h;obtain⟨i,k,d,h1,h2,h3,h4⟩:=SL (fun c hc=>hl c (by simp[hc])) h;exact⟨i+1,k,d,by simpa using h1,h2,by rw[Nat.succ_mul];omega,h4⟩
theorem abz {α β:Type}{R:α→β→Prop}:∀{xs:List α} {ys:List β},aF R xs ys→∀y∈ys,∃x,R x y
 |x::xs,y::ys,h,z,hz=>by
  rcases List.mem_cons.1 hz with rfl |hz
  ·exact⟨x,h.1⟩
  ·exact abz h.2 z hz
 | [],[],_,z,hz=>by cases hz
theorem SM {H:Type}{P:Program}{e:TypeId}{d:DataW H}:∀{l:List (DataW H)},d∈l→∀n∈d.weights P e,n∈DataW.weightsAll P e l
 |c::r,h,n,hn=>by
  simp only[DataW.weightsAll,List.mem_append];rcases List.mem_cons.1 h with rfl |h
  ·exact .inl hn
  ·exact .inr (SM h n hn)
section
variable {H:Type}{enc:TypeId×Value→H}{P:Program}{W:World}
def OkW (P:Program)(t:TypeId)(d:DataW H):Prop:=∀n∈d.weights P t,n≤140737488351232
theorem agT:∀ty:Ty,
  (∀(t:TypeId) (fuel:Nat) (cs:List Value) (x:DataW H×List MemPlace),lays P ty t=true→DataW.trod enc P W 0 (fun _=>true) true fuel t cs=some x→OkW P t x.1→∃y:ty.den,Rel (wv W) ty y cs∧Bnd ty y)∧
  (∀(fs:List Field) (off n:Nat) (cs:List Value) (xs:List (DataW H×List MemPlace)),Da P ty fs off=true→xs.length=fs.length→
   (∀(i:Nat) (f:Field),fs[i]? =some f→DataW.trod enc P W 0 (fun _=>true) true n f.type ((cs.drop f.offset).take (P.cellsOf f.type))=xs[i]?)→
   (∀(i:Nat) (f:Field) x,fs[i]? =some f→xs[i]? =some x→OkW P f.type x.1)→cs.length=off+ty.size→∃y:ty.den,Rel (wv W) ty y (cs.drop off)∧Bnd ty y):=by
 intro ty;induction ty with
 |int k=>
  refine⟨fun t fuel cs x hf h hw=> ?_,fun fs off n cs xs hf=>by simp[Da] at hf⟩;simp only[lays] at hf;split at hf
  ·rename_i k' hu;obtain rfl:=of_decide_eq_true hf;obtain⟨m,rfl,rfl,hwf⟩:=DataW.trod_int hu h;exact⟨m,rfl,hwf⟩
  ·cases hf
 |bool=>
  refine⟨fun t fuel cs x hf h hw=> ?_,fun fs off n cs xs hf=>by simp[Da] at hf⟩;simp only[lays] at hf;split at hf
  ·rename_i hu;obtain⟨b,rfl,rfl⟩:=DataW.trod_bool hu h;exact⟨b,rfl,trivial⟩
  ·cases hf
 |str=>
  refine⟨fun t fuel cs x hf h hw=> ?_,fun fs off n cs xs hf=>by simp[Da] at hf⟩;simp only[lays] at hf;split at hf
  ·rename_i hu;obtain⟨s,rfl,rfl,hs⟩:=DataW.trod_string hu h;refine⟨s,rfl, ?_⟩;have:=hw s.data.toList.length (by simp[DataW.weights]);rw[Array.length_toList] at this;exact this
  ·cases hf
 |slice e' ih=>
  refine⟨fun t fuel cs x hf h hw=> ?_,fun fs off n cs xs hf=>by simp[Da] at hf⟩;simp only[lays] at hf;split at hf
  ·rename_i e hu;simp only[Bool.and_eq_true,decide_eq_true_eq] at hf;obtain⟨⟨hfe,hce⟩,hbe⟩:=hf;have hbe:=Nat.le_of_ble_eq_true hbe;rcases DataW.trod_slice hu h with ⟨rfl,_⟩ | ⟨a,len,cap,elems,rest,n,_,rfl,rfl,_,hl,hm,hlen,hel,hsp,_⟩
   ·exact⟨[],⟨none,0,[],rfl,Nat.le_refl _,trivial,fun _=>rfl,fun j u hj=>by simp at hj⟩,by simp,fun x hx=>by cases hx⟩
   ·have hws:∀y∈elems,OkW P e y.1:=fun y hy m hm'=>hw m (by
     simp only[DataW.weights,hu,List.mem_cons,List.mem_append];exact .inr (.inl (SM (List.mem_map_of_mem hy) m hm')))
    have hlw:len≤140737488351232:=by
     have:=hw ((elems.map (·.1)).length*P.bytesOf e+(rest.map (·.1)).length*P.bytesOf e) (by
      simp only[DataW.weights,hu,List.mem_cons];exact .inl (by rw[Nat.add_mul]))
     rw[List.length_map,hlen] at this;have h2:len*1≤len*P.bytesOf e:=Nat.mul_le_mul_left _ hbe;omega
    obtain⟨xs,bG,h1,h2,h3,h4⟩:=build (R:=Rel (wv W) e') (Q:=fun i c=>∀k,k<e'.size→W.cell? ((a.add (i*e'.size)).add k)=c[k]?) (B:=Bnd e') len fun i hi=>by
     have:=hel i hi;have hi':i<elems.length:=by omega
     rw[List.getElem?_eq_getElem hi',Option.bind_eq_some_iff] at this;obtain⟨c,hc,hc2⟩:=this;obtain⟨y,hy1,hy2⟩:=ih.1 e n c _ hfe hc2 (hws _ (List.getElem_mem hi'));obtain⟨_,_,hcell⟩:=World.cells?_some hc;rw[hce] at hcell;exact⟨y,c,hy1,hcell,hy2⟩
    have abA:∀c∈bG,c.length=e'.size:=fun c hc=>by obtain⟨x,hx⟩:=abz h2 c hc;exact Rel.length hx
    refine⟨xs,⟨some a,cap,bG,by rw[h1],by omega,h2,(fun e=>by cases e),fun j u hj=>⟨a,rfl, ?_⟩⟩,by omega,h4⟩;obtain⟨i,k,c,g1,g2,rfl,g4⟩:=SL abA hj;have:=h3 i c g1 k g4;rw[add_add,g2] at this;exact⟨_,rfl,this⟩
  ·cases hf
 |unit=>
  refine⟨fun t fuel cs x hf h hw=>by simp[lays] at hf,fun fs off n cs xs hf hl hx hw hc=> ?_⟩;refine⟨(), ?_,trivial⟩;show cs.drop off=[]
  rw[List.drop_eq_nil_of_le];have:Ty.unit.size=0:=rfl;omega
 |pair a b iha Yz=>
  refine⟨fun t fuel cs x hf h hw=>by simp[lays] at hf,fun fs off n cs xs hf hl hx hw hc=> ?_⟩;cases fs with
  |nil=>simp[Da] at hf
  |cons f r=>
   simp only[Da,Bool.and_eq_true,decide_eq_true_eq] at hf;obtain⟨⟨⟨f1,f2⟩,f3⟩,f4⟩:=hf;have hsz:(Ty.pair a b).size=a.size+b.size:=rfl;cases xs with
   |nil=>simp at hl
   |cons x xr=>have h0:=hx 0 f rfl;obtain⟨y1,r1,b1⟩:=iha.1 f.type n _ x f1 h0 (hw 0 f x rfl rfl);obtain⟨y2,r2,b2⟩:=Yz.2 r (off+a.size) n cs xr f4 (by simpa using hl) (fun i g hg=>hx (i+1) g (by simpa using hg)) (fun i g z hg hz=>hw (i+1) g z (by simpa using hg) (by simpa using hz)) (by omega);refine⟨(y1,y2),⟨_,_, ?_,r1,r2⟩,b1,b2⟩;rw[f2,f3, ←List.drop_drop,List.take_append_drop]
 |st f ih=>
  refine⟨fun t fuel cs x hf h hw=> ?_,fun fs off n cs xs hf=>by simp[Da] at hf⟩;simp only[lays] at hf;split at hf
  ·rename_i fs hu;simp only[Bool.and_eq_true,decide_eq_true_eq] at hf;obtain⟨xs,n,_,rfl,hl,hlen,hx⟩:=DataW.trod_struct hu h;obtain⟨y,h1,h2⟩:=ih.2 fs.toList 0 n cs xs hf.1 (by simpa using hlen) (fun i g hg=>hx i g (by simpa using hg)) (fun i g x hg hxi m hm=>hw m (by
    simp only[DataW.weights,hu];exact DataW.weights_mem_each (j:=i) (t:=g.type) (d:=x.1) (by rw[List.getElem?_map,hg];rfl) (by rw[List.getElem?_map,hxi];rfl) m hm)) (by rw[hl,hf.2];omega)
   rw[List.drop_zero] at h1;exact⟨y,h1,h2⟩
  ·cases hf
 |ref h=>exact⟨fun t fuel cs x hf=>by simp[lays] at hf,fun fs off n cs xs hf=>by simp[Da] at hf⟩
 |ptr h=>exact⟨fun t fuel cs x hf=>by simp[lays] at hf,fun fs off n cs xs hf=>by simp[Da] at hf⟩
 |qG h=>exact⟨fun t fuel cs x hf=>by simp[lays] at hf,fun fs off n cs xs hf=>by simp[Da] at hf⟩
 |mp h=>exact⟨fun t fuel cs x hf=>by simp[lays] at hf,fun fs off n cs xs hf=>by simp[Da] at hf⟩
 |fn=>exact⟨fun t fuel cs x hf=>by simp[lays] at hf,fun fs off n cs xs hf=>by simp[Da] at hf⟩
theorem aoQ {ty:Ty}{t:TypeId}{v:Value}{d:DataW H}{ps:List MemPlace}(hf:lays P ty t=true)(h:DataW.Trod enc P W 0 (fun _=>true) true t v d ps){ts:List TypeId}{ds:List (DataW H)}(hw:(DataW.weightsEach P ts ds).all (· ≤reachBytes)=true){j:Nat}(ht:ts[j]? =some t)(hd:ds[j]? =some d):
  ∃y:ty.den,Rel (wv W) ty y v.cells.toList∧Bnd ty y:=by
 obtain⟨fuel,h⟩:=h;refine(agT ty).1 t fuel _ _ hf h fun n hn=> ?_;have:=List.all_eq_true.1 hw n (DataW.weights_mem_each ht hd n hn);exact of_decide_eq_true this
theorem aoR {f:Ty}{x:(Ty.st f).den}{l:Array Value}(h:Rel (wv W) (.st f) x l.toList):yr (wv W) (.st f) x (.agg l):=⟨l.toList,by simp,h⟩
end
end Go.Abs
