/- YtofjebmoebhiiaaGreatDoorKc: a part of the proof (AbsC2, AbsC3, AbsC4 ..). No condition. -/
import Derived.Test.YtofjebmoebhiiaaGreatDoorKb
import Derived.RangeFuncNested
import Derived.SliceStrings
import Derived.SizedLaws
set_option linter.unusedVariables false
set_option linter.unusedSimpArgs false
set_option maxRecDepth 100000
set_option exponentiation.threshold 2000
namespace Go.Abs
open Go.RowKit Go.Lib
def Post {R:Type}(E:Env)(σ:AS)(k:Ex→AS→Option R)(r:R):Exit→Act→World→Prop
 | .normal,a,w=>∃σ',k .normal σ'=some r∧Fr σ σ'∧To E σ' a w
 | .exit id,a,w=>∃σ',k (.exit id) σ'=some r∧Fr σ σ'∧To E σ' a w
 | .ret,a,w=>∃σ',k .ret σ'=some r∧Fr σ σ'∧To E σ' a w
 |_,_,_=>False
theorem exists_least {p:Nat→Prop}(h:∃m,p m):∃m,p m∧∀k,p k→m≤k:=by
 obtain⟨m,hm⟩:=h
 induction m using Nat.strongRecOn with
 |_ m ih=>
  by_cases hk:∃k,k<m∧p k
  ·obtain⟨k,h1,h2⟩:=hk;exact ih k h1 h2
  ·exact⟨m,hm,fun k hk'=>Nat.le_of_not_lt fun hlt=>hk ⟨k,hlt,hk'⟩⟩
open Classical in
noncomputable def least (p:Nat→Prop):Nat:=if h:∃m,p m then (exists_least h).choose else 0
theorem SD {p:Nat→Prop}(h:∃m,p m):p (least p)∧∀k,p k→least p≤k:=by
 unfold least
 rw[dif_pos h]
 exact(exists_least h).choose_spec
section
variable {P:Program}{T:cm}{E:Env}{σ σ1 σ2 σe:AS}{a:Act}{w w':World}{ν ν':Nm→Value}{O:Nat→Prop}{Φ:bF T}{F:Fence}{nn:Nat}
theorem ad2 {c:Code}{Q:Exit→Act→World→Prop}(J:Nat→Act→World→Prop){m:Nat}(h0:J m a w)
  (round:∀m a w,J m a w→c.wpIn F nn P (Exit.then (fun a' w'=>∃m',m'<m∧J m' a' w') Q) a w):(Code.loop c).wpIn F nn P Q a w:=by
 refine wpIn_loop (fun a w=>∃m,J m a w) (fun a w=>least fun m=>J m a w) ⟨m,h0⟩ (fun a w hI=> ?_)
 obtain⟨h1,h2⟩:=SD hI
 refine wpIn_mono (round _ a w h1) (fun e a' w' he=> ?_)
 cases e with
 |normal=>
  obtain⟨m',h3,h4⟩:=he
  exact⟨⟨m',h4⟩,Nat.lt_of_le_of_lt ((SD ⟨m',h4⟩).2 m' h4) h3⟩
 |_=>exact he
def Sound (P:Program)(T:cm)(Φ:bF T)(n:Nat)(c:Code):Prop:=∀{R:Type} {r:R} (E:Env) (_:Ctx P T Φ E) (_:xZ E) (rr:Option Nat) (hs:List (List (Nat×Bool))) (σ:AS) (k:Ex→AS→Option R) (a:Act) (w:World) (ν:Nm→Value) (O:Nat→Prop),
 aH T Φ n c hs σ k=some r→St E σ a w ν O→(rr.isSome=true→σ.b7≠ [])→(∀e σ',k e σ'=some r→Fr σ σ'→E.acc σ'.trace)→c.wpIn (FW rr) 0 P (Post E σ k r) a w
theorem Post.agF {R:Type}{r:R}{k:Ex→AS→Option R}(hf:Fr σ σ1){e:Exit}{a:Act}{w:World}(h:Post E σ1 k r e a w):Post E σ k r e a w:=by
 cases e with
 |normal=>obtain⟨σ',h1,h2,h3⟩:=h;exact⟨σ',h1,hf.trans h2,h3⟩
 |exit i=>obtain⟨σ',h1,h2,h3⟩:=h;exact⟨σ',h1,hf.trans h2,h3⟩
 |ret=>obtain⟨σ',h1,h2,h3⟩:=h;exact⟨σ',h1,hf.trans h2,h3⟩
 |_=>exact h
theorem SE {n:Nat}(hm:P.follows .mixedOrders=true)(hR:∀f ps x y,Sound P T Φ n x→Sound P T Φ n y→Sound P T Φ n (.rangeFunc f ps x y)):∀(c:Code),Sound P T Φ n c:=by
 intro c
 induction c with
 |skip=>intro R r E C hD rr hs σ k a w ν O he h XT hk;exact wpIn_skip ⟨σ,he,Fr.refl _,ν,O,h⟩
 |region id ops draw=>
  intro R r E C hD rr hs σ k a w ν O he h XT hk
  exact WI C hD hm h he (fun σ' h1 h2=>hk _ _ h1 h2) (fun σ' a' w' h1 h2 h3=>⟨σ',h1,h2,h3⟩)
 |seq x y Kj Hy=>
  intro R r E C hD rr hs σ k a w ν O he h XT hk
  simp only[aH] at he
  refine wpIn_seq (wpIn_mono (Kj E C hD rr _ _ _ a w ν O he h XT (fun e σ' h1 h2=> ?_)) (fun e a' w' hp=> ?_))
  ·cases e with
   |normal=>
    obtain⟨e',σ'',h3,h4⟩:=SC _ _ _ _ h1
    exact hD _ _ h4.tr (hk _ _ h3 (h2.trans h4))
   |exit i=>exact hk _ _ h1 h2
   |ret=>exact hk _ _ h1 h2
  ·cases e with
   |normal=>
    obtain⟨σ',h1,h2,ν',O',h3⟩:=hp
    refine wpIn_mono (Hy E C hD rr _ _ _ a' w' ν' O' h1 h3 (fun h4=>by rw[h2.b7];exact XT h4) (fun e σ'' h4 h5=>hk _ _ h4 (h2.trans h5))) (fun e a2 w2 hp=>hp.agF h2)
   |exit id=>exact hp
   |ret=>exact hp
   |_=>exact hp.elim
 |cond x y z Hy ihz=>
  intro R r E C hD rr hs σ k a w ν O he h XT hk
  simp only[aH] at he
  split at he
  ·rename_i t
   split at he
   ·rename_i b hb
    have hx:a.eval (.tmp t)= .bool b:=by
     have:=h.av C.QX.1 (.tmp t)
     simp only[AS.av,eT.av] at this
     rw[hb] at this
     exact Nh this rfl
    have main:∀b:Bool,nth σ.tmps t= .rv (.cv ⟨.bool,b⟩)→(bif b then aH T Φ n y hs (σ.LR t true) k else aH T Φ n z (hs.drop (loops y)) (σ.LR t false) k)=some r→
      (if b then y else z).wpIn (FW rr) 0 P (Post E σ k r) a w:=fun b hb he=>by
     cases b
     ·rw[WH hb] at he;exact ihz E C hD rr _ _ _ a w ν O he h XT hk
     ·rw[WH hb] at he;exact Hy E C hD rr _ _ _ a w ν O he h XT hk
    exact wpIn_cond hx (main b hb he)
   ·cases he
  ·rename_i b
   refine wpIn_cond (t:=b) rfl ?_
   cases b
   ·exact ihz E C hD rr _ _ _ a w ν O he h XT hk
   ·exact Hy E C hD rr _ _ _ a w ν O he h XT hk
  ·cases he
 |block id c ih=>
  intro R r E C hD rr hs σ k a w ν O he h XT hk
  simp only[aH] at he
  refine wpIn_block (wpIn_mono (ih E C hD rr _ _ _ a w ν O he h XT (fun e σ' h1 h2=> ?_)) (fun e a' w' hp=> ?_))
  ·cases e with
   |normal=>exact hk _ _ h1 h2
   |exit i=>
    cases hb:Nat.beq i id with
    |true=>simp only[hb,cond_true] at h1;exact hk _ _ h1 h2
    |false=>simp only[hb,cond_false] at h1;exact hk _ _ h1 h2
   |ret=>exact hk _ _ h1 h2
  ·cases e with
   |normal=>exact hp
   |exit i=>
    obtain⟨σ',h1,h2⟩:=hp
    simp only[Exit.inBlock]
    cases hb:Nat.beq i id with
    |true=>
     have:=(beq_iff _ _).1 hb;subst this
     simp only[hb,cond_true] at h1
     rw[if_pos rfl]
     exact⟨σ',h1,h2⟩
    |false=>
     have:=rD.1 hb
     simp only[hb,cond_false] at h1
     rw[if_neg this]
     exact⟨σ',h1,h2⟩
   |ret=>exact hp
   |_=>exact hp.elim
 |loop c ih=>
  intro R r E C hD rr hs σ k a w ν O he h XT hk
  simp only[aH] at he
  split at he
  ·rename_i hd hs'
   refine ad2 (fun m a w=>∃σ1,lq hd (fun σ k'=>aH T Φ n c hs' σ k') k m σ1=some r∧Fr σ σ1∧To E σ1 a w) ⟨_,he,mH hd σ,ν,O,h.forget C.env hd⟩ (fun m a w hJ=> ?_)
   obtain⟨σ1,h1,hf,ν,O,h2⟩:=hJ
   cases m with
   |zero=>cases h1
   |succ m=>
    simp only[lq] at h1
    refine wpIn_mono (ih E C hD rr _ _ _ a w ν O h1 h2 (fun h4=>by rw[hf.b7];exact XT h4) (fun e σ' h3 h4=> ?_)) (fun e a' w' hp=> ?_)
    ·cases e with
     |normal=>
      obtain⟨e2,σ3,h8,h9⟩:=J5 (I:=Fr σ') (fun σ' h=>h.trans (mH hd σ')) (fun σ' k' hi hb=>by
       obtain⟨e,σ'',h1,h2⟩:=SC _ _ _ _ hb
       exact⟨e,σ'',h1,hi.trans h2⟩) m _ (mH hd σ') h3
      exact hD _ _ h9.tr (hk _ _ h8 ((hf.trans h4).trans h9))
     |exit i=>exact hk _ _ h3 (hf.trans h4)
     |ret=>exact hk _ _ h3 (hf.trans h4)
    ·cases e with
     |normal=>
      obtain⟨σ',h3,h4,ν',O',h5⟩:=hp
      exact⟨m,Nat.lt_succ_self m,_,h3,(hf.trans h4).trans (mH hd _),ν',O',h5.forget C.env hd⟩
     |exit i=>exact hp.agF hf
     |ret=>exact hp.agF hf
     |_=>exact hp.elim
  ·cases he
 |rangeFunc f ps x y Kj Hy=>exact hR f ps x y Kj Hy
 |exit i=>intro R r E C hD rr hs σ k a w ν O he h XT hk;exact wpIn_exit ⟨σ,he,Fr.refl _,ν,O,h⟩
 |ret=>intro R r E C hD rr hs σ k a w ν O he h XT hk;exact wpIn_ret ⟨σ,he,Fr.refl _,ν,O,h⟩
 |_=>intros;intro R r E C hD rr hs σ k a w ν O he h XT hk;cases he
end
end Go.Abs
namespace Go.Abs
open Go.RowKit Go.Lib
section
variable {P:Program}{T:cm}{E:Env}{σ σ1 σ2 σe σ':AS}{a a':Act}{w w':World}{ν ν':Nm→Value}{O O':Nat→Prop}{Φ:bF T}
theorem St.Pb (h:St E σ a w ν O){m:Nm}{k:Nat}(hm:Own σ ν m k):∃cur e,w.heap[k]? =some (.cells cur e (0,0)):=by
 obtain⟨o,ho⟩:=Option.isSome_iff_exists.1 hm.1
 have b8:=h.AT m o ho
 have hblk:=hm.2
 cases o with
 |row row=>
  obtain⟨bm,⟨_,h5⟩,_⟩:=b8
  rcases h5 with ⟨h5,_⟩ | ⟨g,cap,cur,h5,_,h6,_⟩
  ·rw[h5] at hblk;cases hblk
  ·rw[h5] at hblk;simp only[cD,Option.some.injEq] at hblk;subst hblk;exact⟨_,_,h6⟩
 |box x=>
  obtain⟨g,h5,h6⟩:=b8
  rw[h5] at hblk;simp only[cD,Option.some.injEq] at hblk;subst hblk
  cases x with
  |cells cs=>obtain⟨cur,e,h7,_⟩:=h6;exact⟨_,_,h7⟩
  |own q=>obtain⟨e,h7,_⟩:=h6;exact⟨_,_,h7⟩
  |nil=>obtain⟨u,e,h7⟩:=h6;exact⟨_,_,h7⟩
 |hp k row=>
  match k,b8 with
  |0,⟨_,bm,⟨_,h5⟩,_⟩=>
   rcases h5 with ⟨h5,_⟩ | ⟨g,cap,cur,h5,_,h6,_⟩
   ·rw[h5] at hblk;cases hblk
   ·rw[h5] at hblk;simp only[cD,Option.some.injEq] at hblk;subst hblk;exact⟨_,_,h6⟩
  |1,⟨g,cur,ys,x,h5,h6,_⟩=>rw[h5] at hblk;simp only[cD,Option.some.injEq] at hblk;subst hblk;exact⟨_,_,h6⟩
theorem St.aiZ (hE:aC E)(hJ:E.J=jX)(h:St E σ a w ν O){C:Nat→Prop}(hg:Grow C w w')(hC:∀k,C k→O k∧(E.CB k∨E.base.heap.size≤k))(hO:∀k,O k→O' k)(hO':∀k,O' k→O k∨(w.heap.size≤k∧k<w'.heap.size)):
  St E σ a w' ν O':=by
 have hV:∀key u,view E σ ν O w key u→view E σ ν O' w' key u:=fun key u hu=>EI hg (HSub.refl _ _) (fun k h1 h2 h3 h4=>⟨h3,fun h5=>by
  rcases hO' k h5 with h6 |h6
  ·exact h4 h6
  ·omega,fun h5=>h4 (hC k h5).1⟩) hu
 have hblk:∀r o,w.heap[r]? =some o→¬O r→w'.heap[r]? =some o∧¬O' r:=fun r o h1 h2=>by
  have hlt:=(Array.getElem?_eq_some_iff.1 h1).1
  refine⟨by rw[hg.block r hlt (fun hc=>h2 (hC r hc).1)];exact h1,fun h3=> ?_⟩
  rcases hO' r h3 with h4 |h4
  ·exact h2 h4
  ·omega
 have htr:σ.trace=⟨.unit,()⟩:=by have:=h.out.1;rw[hJ] at this;exact this
 refine⟨h.keep.trans hg (fun k hk hc=>(h.out.2 k (hC k hc).1).2 hk),fun d hd=> ?_,h.slots.mono (ah.mono hV (Sub.refl _ _)),fun m o ho=> ?_,h.inj,fun m k hm=> ?_,h.new,⟨?_,fun k hk=> ?_⟩,h.nn,h.ro,h.kept,fun r hr=> ?_,h.uU.trans hg (fun k hk hc=> ?_),h.wF,fun k hk=>hO k (h.Nb k hk),h.nd⟩
 ·obtain⟨r,h1,h2,h3,h4⟩:=h.marks d hd
  obtain⟨h5,h6⟩:=hblk r _ h3 h4
  exact⟨r,h1,h2,h5,h6⟩
 ·exact(h.AT m o ho).mono hV (fun k hk=>hg.block k (h.yD m k ⟨aX ho,hk⟩).2.1 (fun hc=>(h.yD m k ⟨aX ho,hk⟩).2.2 (hC k hc).1)) (fun r _ hr=>⟨rfl,hr⟩)
 ·obtain⟨h1,h2,h3⟩:=h.yD m k hm
  refine⟨h1,Nat.lt_of_lt_of_le h2 hg.size,fun h4=> ?_⟩
  rcases hO' k h4 with h5 |h5
  ·exact h3 h5
  ·omega
 ·rw[hJ];exact htr
 ·rcases hO' k hk with h5 |h5
  ·exact⟨Nat.lt_of_lt_of_le (h.out.2 k h5).1 hg.size,(h.out.2 k h5).2⟩
  ·exact⟨h5.2,fun h6=>by have:=h.keep.size;omega⟩
 ·obtain⟨h1,h2⟩:=h.waits r hr
  exact hblk r _ h1 h2
 ·rcases (hC k hc).2 with h1 |h1
  ·exact h1
  ·omega
theorem St.frame (h:St E σ a w ν O):St E σ ⟨a.tmps,[]⟩ w ν O:=
 ⟨h.keep,(fun d hd=>by cases hd),h.slots,h.AT,h.inj,h.yD,h.new,h.out,h.nn,h.ro,h.kept,h.waits,h.uU,h.wF,h.Nb,List.nodup_nil⟩
def Env.xw (E:Env)(σ:AS)(ν:Nm→Value)(O:Nat→Prop)(w:World):Env:={E with base:=w,CB:=fun k=>∃m,Own σ ν m k∧¬E.wA m,Om:=O}
theorem aC.xw (hE:aC E):aC (E.xw σ ν O w):=⟨hE.cell,hE.stay⟩
theorem St.xw (h:St E σ a w ν O):St (E.xw σ ν O w) σ a w ν O:=
 ⟨h.keep,h.marks,h.slots,h.AT,h.inj,h.yD,h.new,h.out,h.nn,h.ro,h.kept,h.waits,Grow.refl _ _,fun m k hm=>by
   by_cases hr:E.wA m
   ·exact .inl hr
   ·exact .inr (.inl ⟨m,hm,hr⟩),fun k hk=>hk,h.nd⟩
theorem St.agG (h:St E σ a w ν O)(g:St (E.xw σ ν O w) σ' a' w' ν' O'):
  St E σ' a' w' ν' O'∧Grow (fun k=>∃m,Own σ ν m k∧¬E.wA m) w w'∧(∀k,O k→O' k)∧∀m k,Own σ' ν' m k→E.wA m∨(∃m',Own σ ν m' k∧¬E.wA m')∨w.heap.size≤k:=by
 have hgr:Grow (fun k=>∃m,Own σ ν m k∧¬E.wA m) w w':=g.uU
 refine⟨⟨g.keep,g.marks,g.slots,g.AT,g.inj,g.yD,g.new,g.out,g.nn,g.ro,g.kept,g.waits,h.uU.trans hgr (fun k hk ⟨m,hm,hr⟩=> ?_),fun m k hm=> ?_,fun k hk=>g.Nb k (h.Nb k hk),g.nd⟩,hgr,g.Nb,g.wF⟩
 ·rcases h.wF m k hm with h1 |h1 |h1
  ·exact absurd h1 hr
  ·exact h1
  ·omega
 ·rcases g.wF m k hm with h1 | ⟨m',h1,h2⟩ |h1
  ·exact .inl h1
  ·rcases h.wF m' k h1 with h3 |h3
   ·exact absurd h3 h2
   ·exact .inr h3
  ·exact .inr (.inr (Nat.le_trans h.uU.size h1))
end
end Go.Abs
namespace Go.Abs
open Go.RowKit Go.Lib
def aaU:(s:HY)→LN s→CV
 | ⟨_,_,_,_,some ts⟩,y=>⟨.slice (jw ts),y⟩
 |_,_=>⟨.unit,()⟩
def Nz (T:cm)(v:Nat)(yh:xe T v):CV:=aaU (T.sig v) (uO _ yh)
def s9 (T:cm)(v:Nat)(xh:A9 T v):AS:=⟨⟨0,[],[]⟩,[],c9 (T.sig v).args (uO _ xh) 0,aI T v xh,C6 (T.sig v),[],[]⟩
def Ro (V:View)(ν:Nm→Value)(Y:Value)(i:Nat):(p:nr)→p.den→Value→Prop
 | .bx t,x,v=>v=ν (.box i)
 | .K4,_,v=>v=Y
 |p,x,v=>ArgRel V p x v
def Qe (V:View)(ν:Nm→Value)(Y:Value):Nat→(ps:List nr)→F0 ps→List Value→Prop
 |_,[],_,vs=>vs=[]
 |i,[p],x,vs=>∃v,vs=[v]∧Ro V ν Y i p x v
 |i,p::q::ps,x,vs=>∃v r,vs=v::r∧Ro V ν Y i p x.1 v∧Qe V ν Y (i+1) (q::ps) x.2 r
def YU (P:Program)(T:cm)(Φ:bF T):Prop:=∀v xh yh,Φ v xh=some yh→(T.sig v).gen.isSome=true→(∃fn,P.funcs[T.real v]? =some fn∧fn.body.isSome=true∧(fn.name== "runtime.NumGoroutine")=false)∧
 ∀(E:Env) (ν:Nm→Value) (args:Array Value) (O:Nat→Prop),aC E→L3 T E→Gi P E→xZ E→(∀O w,¬E.J ⟨.unit,()⟩ O w)→E.acc (Nz T v yh)→St E (s9 T v xh) ⟨#[],[]⟩ E.w0 ν O→
  Qe (view E (s9 T v xh) ν O E.w0) ν E.Y 0 (T.sig v).args (uO _ xh) args.toList→Calls P (T.real v) args E.w0 fun e w'=>∃r O',e= .returned r∧E.J (Nz T v yh) O' w'
section
variable {P:Program}{T:cm}{E:Env}{σ σ1 σ2 σe σ':AS}{a a':Act}{w w':World}{ν ν':Nm→Value}{O O':Nat→Prop}{Φ:bF T}{V V':View}
theorem Ld {boxes:List (Nat×BX)}:∀{ps:List nr} {aN:List G2} {x:F0 ps} (i:Nat),ay boxes ps aN=some x→
  (∀c∈aN,∃b,c= .box b)∧ps.length=aN.length∧∀(j:Nat) bx,look (c9 ps x i) j=some bx→∃b t y,i≤j∧(bh aN)[j - i]? =some b∧bx= .cells (flat t y)∧nr.bx t∈ps∧look boxes b=some (.cells (flat t y))
 | [],[],x,i,h=>⟨fun c hc=>by simp at hc,rfl,fun j bx hj=>by simp[c9,look] at hj⟩
 | [.bx t],[.box b],x,i,h=>by
   simp only[ay] at h
   split at h
   ·rename_i cs hb
    have:=p9 h
    subst this
    refine⟨fun c hc=>⟨b,by simpa using hc⟩,rfl,fun j bx hj=> ?_⟩
    simp only[c9,c9.one,look] at hj
    cases hij:Nat.beq i j with
    |true=>
     have:=(beq_iff _ _).1 hij;subst this
     rw[hij] at hj
     simp only[cond_true,Option.some.injEq] at hj
     exact⟨b,t,x,Nat.le_refl _,by simp[bh],hj.symm,by simp,hb⟩
    |false=>rw[hij] at hj;cases hj
   ·cases h
 | .bx t::q::ps, .box b::cs,x,i,h=>by
   simp only[ay] at h
   split at h
   ·rename_i l hb
    split at h
    ·rename_i x1 hx1
     split at h
     ·rename_i y hy
      simp only[Option.some.injEq] at h
      subst h
      have:=p9 hx1
      subst this
      obtain⟨h1,h2,h3⟩:=Ld (ps:=q::ps) (i+1) hy
      refine⟨fun c hc=> ?_,by simp[h2],fun j bx hj=> ?_⟩
      ·rcases List.mem_cons.1 hc with e |hc
       ·exact⟨b,e⟩
       ·exact h1 c hc
      ·simp only[c9,c9.one,List.cons_append,List.nil_append,look] at hj
       cases hij:Nat.beq i j with
       |true=>
        have:=(beq_iff _ _).1 hij;subst this
        rw[hij] at hj
        simp only[cond_true,Option.some.injEq] at hj
        exact⟨b,t,x1,Nat.le_refl _,by simp[bh],hj.symm,by simp,hb⟩
       |false=>
        rw[hij] at hj
        simp only[cond_false] at hj
        obtain⟨b',t',y',h4,h5,h6,h7,h8⟩:=h3 j bx hj
        refine⟨b',t',y',by omega, ?_,h6,List.mem_cons_of_mem _ h7,h8⟩
        have e:j - i=(j - (i+1))+1:=by omega
        rw[e]
        simpa [bh] using h5
     ·cases h
    ·cases h
   ·cases h
 | [.v _],_,_,_,h=>by simp[ay] at h
 | [.fn _ _],_,_,_,h=>by simp[ay] at h
 | [.c _],_,_,_,h=>by simp[ay] at h
 | [.rp _],_,_,_,h=>by simp[ay] at h
 | [.K4],_,_,_,h=>by simp[ay] at h
 | [.bx _],[],_,_,h=>by simp[ay] at h
 | [.bx _],[.oR _],_,_,h=>by simp[ay] at h
 | [.bx _], .box _::_::_,_,_,h=>by simp[ay] at h
 | [.bx _], .oR _::_::_,_,_,h=>by simp[ay] at h
 | .v _::_::_,_,_,_,h=>by simp[ay] at h
 | .fn _ _::_::_,_,_,_,h=>by simp[ay] at h
 | .c _::_::_,_,_,_,h=>by simp[ay] at h
 | .rp _::_::_,_,_,_,h=>by simp[ay] at h
 | .K4::_::_,_,_,_,h=>by simp[ay] at h
 | .bx _::_::_,[],_,_,h=>by simp[ay] at h
 | .bx _::_::_, .oR _::_,_,_,h=>by simp[ay] at h
 | [],_::_,_,_,h=>by simp[ay] at h
end
end Go.Abs
namespace Go.Abs
open Go.RowKit Go.Lib
section
variable {P:Program}{T:cm}{E:Env}{σ σ1 σ2 σe σ':AS}{a a':Act}{w w':World}{ν ν':Nm→Value}{O O':Nat→Prop}{Φ:bF T}{V V':View}
theorem St.ajc (hE:aC E)(hJ:E.J=jX)(h:St E σ a w ν O)(d:Nat):St E (σ.dI d) a w ν (fun k=>O k∨Own σ ν (.box d) k):=by
 have hne:∀k,k≠d→look (σ.dI d).boxes k=look σ.boxes k:=fun k hk=>by rw[nA,if_neg (Ne.symm hk)]
 have hd:look (σ.dI d).boxes d=none:=by rw[nA,if_pos rfl]
 have hob:∀m o,(σ.dI d).obj m=some o→σ.obj m=some o∧m≠ .box d:=fun m o ho=>by
  cases m with
  |row r=>exact⟨ho,fun e=>by cases e⟩
  |box b=>
   by_cases e:b=d
   ·subst e;simp only[AS.obj,hd] at ho;cases ho
   ·simp only[AS.obj,hne b e] at ho ⊢;exact⟨ho,fun e'=>e (by injection e')⟩
  |hp i n=>exact⟨ho,fun e=>by cases e⟩
 have hown:∀m k,Own (σ.dI d) ν m k→Own σ ν m k∧m≠ .box d:=fun m k ⟨h1,h2⟩=>by
  obtain⟨o,ho⟩:=Option.isSome_iff_exists.1 h1
  obtain⟨h3,h4⟩:=hob m o ho
  exact⟨⟨aX h3,h2⟩,h4⟩
 have hV:∀key u,view E σ ν O w key u→view E (σ.dI d) ν (fun k=>O k∨Own σ ν (.box d) k) w key u:=fun key u hu=>EI (σ:=σ) (σ':=σ.dI d) (Grow.refl (fun _=>False) w) (HSub.of_eq rfl (fun _ _=>rfl)) (fun k h1 h2 h3 h4=>⟨fun⟨m,hm⟩=>h3 ⟨m,(hown m k hm).1⟩,fun h5=>by
  rcases h5 with h5 |h5
  ·exact h4 h5
  ·exact h3 ⟨_,h5⟩,fun h5=>h5⟩) hu
 have hcell:∀r ds,w.heap[r]? =some (.deferred ds)→¬Own σ ν (.box d) r:=fun r ds h1 h2=>by
  obtain⟨cur,e,h3⟩:=h.Pb h2
  rw[h3] at h1;cases h1
 have htr:σ.trace=⟨.unit,()⟩:=by have:=h.out.1;rw[hJ] at this;exact this
 refine⟨h.keep,fun d' XR=> ?_,JT (fun x v hx=> ?_) h.slots,fun m o ho=> ?_,fun m m' k h1 h2=>h.inj m m' k (hown _ _ h1).1 (hown _ _ h2).1,fun m k hm=> ?_,fun r k hk=>h.new r k (hown _ _ hk).1,⟨?_,fun k hk=> ?_⟩,h.nn,h.ro,h.kept,fun r hr=> ?_,h.uU,fun m k hm=>h.wF m k (hown _ _ hm).1,fun k hk=> .inl (h.Nb k hk),h.nd⟩
 ·obtain⟨r,h1,h2,h3,h4⟩:=h.marks d' XR
  exact⟨r,h1,h2,h3,fun h5=>h5.elim h4 (hcell r _ h3)⟩
 ·unfold AV.dI
  cases hk:x.ln d with
  |true=>trivial
  |false=>exact ah.keep (σ:=σ) (σ':=σ.dI d) hV (HSub.of_eq rfl (fun _ _=>rfl)) x v (fun _ _ row hrow=>⟨rfl,row,hrow,rfl⟩) (fun b hb hs=>⟨rfl,by rw[hne b (fun e=>by rw[e,hk] at hb;cases hb)];exact hs⟩) hx
 ·exact(h.AT m o (hob m o ho).1).mono hV (fun k hk=>rfl) (fun r _ hr=>⟨rfl,hr⟩)
 ·obtain⟨h1,h2⟩:=hown m k hm
  obtain⟨h3,h4,h5⟩:=h.yD m k h1
  exact⟨h3,h4,fun h6=>h6.elim h5 (fun h7=>h2 (h.inj _ _ k h1 h7))⟩
 ·show E.J σ.trace _ w;rw[hJ];exact htr
 ·rcases hk with h5 |h5
  ·exact h.out.2 k h5
  ·obtain⟨h3,h4,_⟩:=h.yD _ k h5
   refine⟨h4,fun h6=> ?_⟩
   rcases h3 with h3 |h3 |h3
   ·omega
   ·exact h3
   ·exact absurd h3 LU
 ·obtain⟨h1,h2⟩:=h.waits r hr
  exact⟨h1,fun h5=>h5.elim h2 (hcell r _ h1)⟩
theorem St.agH (hE:aC E)(hJ:E.J=jX):∀(bs:List Nat) (σ:AS) (O:Nat→Prop),St E σ a w ν O→∃O',St E (σ.jx bs) a w ν O'∧(∀k,O k→O' k)∧(∀b∈bs,∀k,Own σ ν (.box b) k→O' k)∧∀k,O' k→O k∨∃b∈bs,Own σ ν (.box b) k
 | [],σ,O,h=>⟨O,h,fun _ h=>h,fun b hb=>by simp at hb,fun _ h=> .inl h⟩
 |d::bs,σ,O,h=>by
  obtain⟨O',h1,h2,h3,h4⟩:=St.agH hE hJ bs _ _ (h.ajc hE hJ d)
  have hown:∀b k,b≠d→Own σ ν (.box b) k→Own (σ.dI d) ν (.box b) k:=fun b k hb ⟨e1,e2⟩=>⟨by simp only[AS.obj,nA,if_neg (Ne.symm hb)];exact e1,e2⟩
  have ans:∀b k,Own (σ.dI d) ν (.box b) k→Own σ ν (.box b) k:=fun b k ⟨e1,e2⟩=>⟨by
   simp only[AS.obj,nA,Option.isSome_map] at e1 ⊢
   split at e1
   ·cases e1
   ·exact e1,e2⟩
  refine⟨O',h1,fun k hk=>h2 k (.inl hk),fun b hb k hk=> ?_,fun k hk=> ?_⟩
  ·by_cases e:b=d
   ·subst e;exact h2 k (.inr hk)
   ·exact h3 b ((List.mem_cons.1 hb).resolve_left e) k (hown b k e hk)
  ·rcases h4 k hk with (h5 |h5) | ⟨b,hb,h5⟩
   ·exact .inl h5
   ·exact .inr ⟨d,by simp,h5⟩
   ·exact .inr ⟨b,by simp[hb],ans b k h5⟩
end
end Go.Abs
namespace Go.Abs
open Go.RowKit Go.Lib
section
variable {P:Program}{T:cm}{E:Env}{σ σ1 σ2 σe σ':AS}{a a':Act}{w w':World}{ν ν':Nm→Value}{O O':Nat→Prop}{Φ:bF T}{V V':View}
theorem Qf {α:Type}:∀{l m:List (Nat×α)} {i:Nat} {x:α},look (l++m) i=some x→look l i=some x∨look m i=some x
 | [],m,i,x,h=> .inr h
 | (k,u)::l,m,i,x,h=>by
   simp only[List.cons_append,look] at h ⊢
   cases hb:Nat.beq k i with
   |true=>rw[hb] at h;exact .inl h
   |false=>rw[hb] at h;exact Qf h
theorem SG {α:Type}(c:Nat):∀{l:List (Nat×α)} {i:Nat} {x:α},look (l.map fun p=>(p.1+c,p.2)) i=some x→∃t,i=t+c∧look l t=some x
 | [],i,x,h=>by cases h
 | (k,u)::l,i,x,h=>by
   simp only[List.map_cons,look] at h
   cases hb:Nat.beq (k+c) i with
   |true=>
    have:=(beq_iff _ _).1 hb
    subst this
    rw[hb] at h
    exact⟨k,rfl,by simp only[look,beq_refl];exact h⟩
   |false=>
    rw[hb] at h
    obtain⟨t,h1,h2⟩:=SG c (l:=l) h
    refine⟨t,h1, ?_⟩
    simp only[look]
    rw[lS (fun e=>(rD.1 hb) (by rw[e,h1]))]
    exact h2
theorem NA {α:Type}(c:Nat):∀{l:List (Nat×α)} {i:Nat} {x:α},(∀p∈l,c≤p.1)→look (l.map fun p=>(p.1 - c,p.2)) i=some x→look l (i+c)=some x
 | [],i,x,_,h=>by cases h
 | (k,u)::l,i,x,hc,h=>by
   have hk:=hc (k,u) (by simp)
   simp only at hk
   simp only[List.map_cons,look] at h ⊢
   by_cases e:k=i+c
   ·subst e
    have:i+c - c=i:=by omega
    rw[this,beq_refl] at h
    rw[beq_refl];exact h
   ·rw[lS (fun e'=>e (by omega))] at h
    rw[lS e]
    exact NA c (fun p hp=>hc p (by simp[hp])) h
def Env.ix (E:Env)(a:Act)(mk:Nat):Env:={E with XS:=fun i=>if i<1000000000 then a.tmps.toList.getD (i - 10000) undef else E.XS i,M:=fun r=>E.M r∨r=mk∨(⟨.collected r, #[]⟩:Deferred)∈a.defers}
theorem YV {a:Act}{mk i t:Nat}(h:i<1000000000)(ht:i - 10000=t):(E.ix a mk).XS i=a.tmps.toList.getD t undef:=by
 subst ht;exact if_pos h
theorem SH {a:Act}{mk i:Nat}(h:1000000000≤i):(E.ix a mk).XS i=E.XS i:=if_neg (Nat.not_lt.2 h)
theorem aC.ix (hE:aC E)(a:Act)(mk:Nat):aC (E.ix a mk):=⟨hE.cell,hE.stay⟩
theorem L3.ix (hG:L3 T E)(a:Act)(mk:Nat):L3 T (E.ix a mk):=by
 refine⟨fun g=> ?_,hG.2⟩
 rw[SH (by unfold gk;omega)]
 exact hG.1 g
theorem St.saved (h:St E σ a w ν O)(hok:xg σ=true){mk:Nat}(hmk:w.heap[mk]? =some (.deferred (some []))∧¬O mk)(g:Rng):St (E.ix a mk) ({σ with b7:=[g]}:AS).save ⟨a.tmps,[]⟩ w ν O:=by
 simp only[xg,Bool.and_eq_true,List.all_eq_true] at hok
 have Rk:∀x v,ah (view E σ ν O w) σ ν E.Y x v→ah (view E σ ν O w) ({σ with b7:=[g]}:AS).save ν E.Y x v:=fun x v hx=>
  ah.mono (σ:=σ) (σ':=({σ with b7:=[g]}:AS).save) (fun _ _ h=>h) ⟨HSub.of_eq rfl (fun _ _=>rfl),fun r row hr=>⟨rfl,row,hr,rfl⟩,fun b hb=>⟨rfl,hb⟩⟩ x v hx
 refine⟨h.keep,(fun d hd=>by cases hd),⟨h.slots.1,fun i x hx=>Rk _ _ (h.slots.2.1 i x hx),fun i x hx=> ?_⟩,fun m o ho=> ?_, ?_, ?_, ?_,h.out,h.nn,h.ro,h.kept,fun r hr=> ?_,h.uU, ?_,h.Nb,List.nodup_nil⟩
 ·have hx':look ((σ.tmps.l.map fun p=>(p.1+10000*1,p.2))++σ.tmps.s) i=some x:=hx
  rcases Qf hx' with h1 |h1
  ·obtain⟨t,rfl,h2⟩:=SG (10000*1) h1
   have h3:=hok.1 _ (yB h2)
   rw[sT] at h3
   have h4:(E.ix a mk).XS (t+10000*1)=a.tmps.toList.getD t undef:=YV (by simp only at h3;omega) (by omega)
   rw[h4]
   exact Rk _ _ (h.slots.2.1 t x h2)
  ·have h3:=hok.2 _ (yB h1)
   rw[Nat.ble_eq] at h3
   have h4:(E.ix a mk).XS i=E.XS i:=SH h3
   rw[h4]
   exact Rk _ _ (h.slots.2.2 i x h1)
 ·have ho':σ.obj m=some o:=by cases m<;>exact ho
  exact(h.AT m o ho').mono (fun _ _ h=>h) (fun _ _=>rfl) (fun r _ hr=>⟨rfl,hr⟩)
 ·intro m m' k h1 h2
  exact h.inj m m' k (by cases m<;>exact h1) (by cases m'<;>exact h2)
 ·intro m k hm
  exact h.yD m k (by cases m<;>exact hm)
 ·intro m k hk;exact h.new m k (by cases m<;>exact hk)
 ·rcases hr with h1 |rfl |h1
  ·exact h.waits r h1
  ·exact hmk
  ·obtain⟨r',h2,h3,h4,h5⟩:=h.marks _ h1
   injection h2 with h2
   injection h2 with h2
   subst h2
   exact⟨h4,h5⟩
 ·intro m k hm
  exact h.wF m k (by cases m<;>exact hm)
theorem St.ajd {mk:Nat}(h:St (E.ix a mk) σ ⟨a.tmps,[]⟩ w ν O)(hks:∀i x,look σ.Ba.tmps.s i=some x→1000000000≤i)(hmk:E.w0.heap.size≤mk)(hdf:∀d∈a.defers,∃r,d=⟨.collected r, #[]⟩∧E.w0.heap.size≤r)(hnd:([{target:= .collected mk,args:= #[]}]++a.defers:List Deferred).Nodup):
  St E ({σ.Ba with b7:=σ.b7.tail}:AS) ⟨a.tmps,[{target:= .collected mk,args:= #[]}]++a.defers⟩ w ν O:=by
 have Rk:∀x v,ah (view E σ ν O w) σ ν E.Y x v→ah (view E σ ν O w) ({σ.Ba with b7:=σ.b7.tail}:AS) ν E.Y x v:=fun x v hx=>
  ah.mono (σ:=σ) (σ':=({σ.Ba with b7:=σ.b7.tail}:AS)) (fun _ _ h=>h) ⟨HSub.of_eq rfl (fun _ _=>rfl),fun r row hr=>⟨rfl,row,hr,rfl⟩,fun b hb=>⟨rfl,hb⟩⟩ x v hx
 refine⟨h.keep,fun d hd=> ?_,⟨h.slots.1,fun i x hx=>Rk _ _ (h.slots.2.1 i x hx),fun i x hx=> ?_⟩,fun m o ho=> ?_, ?_, ?_, ?_,h.out,h.nn,h.ro,h.kept,fun r hr=>h.waits r (.inl hr),h.uU, ?_,h.Nb,hnd⟩
 ·rcases List.mem_append.1 hd with h1 |h1
  ·simp only[List.mem_singleton] at h1
   subst h1
   obtain⟨h2,h3⟩:=h.waits mk (.inr (.inl rfl))
   exact⟨mk,rfl,hmk,h2,h3⟩
  ·obtain⟨r,rfl,h2⟩:=hdf d h1
   obtain⟨h3,h4⟩:=h.waits r (.inr (.inr h1))
   exact⟨r,rfl,h2,h3,h4⟩
 ·have hx':look σ.Ba.tmps.s i=some x:=hx
  have h1:=hks i x hx'
  have h2:look σ.tmps.s i=some x:=by
   unfold AS.Ba at hx'
   rw[yA σ.tmps.s (fun k=> !(kl σ.b7.length k)) i] at hx'
   split at hx'
   ·exact hx'
   ·cases hx'
  have h3:=h.slots.2.2 i x h2
  have h4:(E.ix a mk).XS i=E.XS i:=SH h1
  rw[h4] at h3
  exact Rk _ _ h3
 ·have ho':σ.obj m=some o:=by cases m<;>exact ho
  exact(h.AT m o ho').mono (fun _ _ h=>h) (fun _ _=>rfl) (fun r _ hr=>⟨rfl,hr⟩)
 ·intro m m' k h1 h2
  exact h.inj m m' k (by cases m<;>exact h1) (by cases m'<;>exact h2)
 ·intro m k hm
  exact h.yD m k (by cases m<;>exact hm)
 ·intro m k hk;exact h.new m k (by cases m<;>exact hk)
 ·intro m k hm
  exact h.wF m k (by cases m<;>exact hm)
theorem St.alh {E':Env}{a0:Act}{mk:Nat}(hXS:E'.XS=(E.ix a0 mk).XS)(hn:a0.tmps.size=σ.tmps.n)(hr:∃g,σ.b7=[g])(h:St E' σ a w ν O):St E' σ.back ⟨a0.tmps,[]⟩ w ν O:=by
 have Rk:∀x v,ah (view E' σ ν O w) σ ν E'.Y x v→ah (view E' σ ν O w) σ.back ν E'.Y x v:=fun x v hx=>
  ah.mono (σ:=σ) (σ':=σ.back) (fun _ _ h=>h) ⟨HSub.of_eq rfl (fun _ _=>rfl),fun r row hr=>⟨rfl,row,hr,rfl⟩,fun b hb=>⟨rfl,hb⟩⟩ x v hx
 obtain⟨g,hg⟩:=hr
 refine⟨h.keep,(fun d hd=>by cases hd),⟨(show σ.tmps.n=a0.tmps.toList.length by simpa using hn.symm),fun i x hx=> ?_,fun i x hx=>Rk _ _ (h.slots.2.2 i x hx)⟩,fun m o ho=> ?_, ?_, ?_, ?_,h.out,h.nn,h.ro,h.kept,h.waits,h.uU, ?_,h.Nb,List.nodup_nil⟩
 ·have hx':look ((σ.tmps.s.filter fun p=>kl σ.b7.length p.1).map fun p=>(p.1 - 10000*σ.b7.length,p.2)) i=some x:=hx
  rw[hg] at hx'
  have h1:=NA (10000*1) (fun p hp=>by
   have:=(List.mem_filter.1 hp).2
   simp only[kl,Bool.and_eq_true,Nat.ble_eq] at this
   exact this.1) hx'
  rw[yA σ.tmps.s (fun k=>kl [g].length k) (i+10000*1)] at h1
  split at h1
  ·rename_i hd
   have h2:=h.slots.2.2 _ x h1
   simp only[kl,Bool.and_eq_true,sT,List.length_singleton] at hd
   have h4:E'.XS (i+10000*1)=a0.tmps.toList.getD i undef:=by
    rw[hXS]
    exact YV (by omega) (by omega)
   rw[h4] at h2
   exact Rk _ _ h2
  ·cases h1
 ·have ho':σ.obj m=some o:=by cases m<;>exact ho
  exact(h.AT m o ho').mono (fun _ _ h=>h) (fun _ _=>rfl) (fun r _ hr=>⟨rfl,hr⟩)
 ·intro m m' k h1 h2
  exact h.inj m m' k (by cases m<;>exact h1) (by cases m'<;>exact h2)
 ·intro m k hm
  exact h.yD m k (by cases m<;>exact hm)
 ·intro m k hk;exact h.new m k (by cases m<;>exact hk)
 ·intro m k hm
  exact h.wF m k (by cases m<;>exact hm)
end
end Go.Abs
namespace Go.Abs
open Go.RowKit Go.Lib
structure RgD (T:cm) (Φ:bF T) (R:Type) where
 E:Env
 a:Act
 mb:Nat
 l:Nat
 uY:Loop
 ts:List Ty
 ys:List (jw ts).den
 σ0:AS
 hd:List (Nat×Bool)
 RB:AS→(Ex→AS→Option R)→Option R
 k:Ex→AS→Option R
 r:R
 w2:World
 Xg:Nat→Prop
 Bx:Nat→Prop
section
variable {P:Program}{T:cm}{Φ:bF T}{R:Type}
def RgD.len (D:RgD T Φ R)(k:Nat):Prop:=D.Bx k∨D.w2.heap.size≤k
structure ant (D:RgD T Φ R) (xs rest:List (jw D.ts).den) (Og:Nat→Prop) (w:World) (σ1:AS) (ν1:Nm→Value) (Oc:Nat→Prop) (m:Nat):Prop where
 ys:D.ys=xs++rest
 b7:σ1.b7=[⟨D.ts,rest⟩]
 loop:lq D.hd D.RB (fj D.k) m σ1=some D.r
 fr:FrX D.σ0 σ1
 st:St (D.E.ix D.a D.mb) σ1 ⟨D.a.tmps,[]⟩ w ν1 Oc
 YW:w.heap[D.l]? =some (Go.Obj.loop D.uY)
 ol:Og D.l
 cl:Oc D.l
 own:∀m k,Own σ1 ν1 m k→¬D.E.wA m→Og k
 cover:∀k,k<w.heap.size→(D.w2.heap.size≤k∨D.Xg k)→Og k∨(Oc k∧D.len k)
 size:D.w2.heap.size≤w.heap.size
 ogl:∀k,Og k→k<w.heap.size
def JG (D:RgD T Φ R):CV→(Nat→Prop)→World→Prop:=fun tr Og w=>∃xs rest σ1 ν1 Oc m,tr=⟨.slice (jw D.ts),xs⟩∧ant D xs rest Og w σ1 ν1 Oc m
theorem JG.stay {D:RgD T Φ R}(hE:aC D.E)(hJ:D.E.J=jX)(hlen:∀k,D.len k→D.E.CB k∨D.E.base.heap.size≤k){tr:CV}{Og:Nat→Prop}{w w':World}{C:Nat→Prop}(h:JG D tr Og w)(hg:Grow C w w')
  (hC:∀k,C k→¬Og k∧(k<D.w2.heap.size→D.Xg k)):JG D tr Og w':=by
 obtain⟨xs,rest,σ1,ν1,Oc,m,rfl,j⟩:=h
 have hCl:∀k,k<w.heap.size→C k→Oc k∧D.len k:=fun k hk hc=>by
  obtain⟨h1,h2⟩:=hC k hc
  by_cases h3:D.w2.heap.size≤k
  ·exact(j.cover k hk (.inl h3)).resolve_left h1
  ·exact(j.cover k hk (.inr (h2 (by omega)))).resolve_left h1
 have hg':Grow (fun k=>Oc k∧D.len k) w w':=hg.mono hCl
 refine⟨xs,rest,σ1,ν1,fun k=>Oc k∨(w.heap.size≤k∧k<w'.heap.size),m,rfl,j.ys,j.b7,j.loop,j.fr, ?_, ?_,j.ol, .inl j.cl,j.own,fun k hk hx=> ?_,Nat.le_trans j.size hg.size,fun k hk=>Nat.lt_of_lt_of_le (j.ogl k hk) hg.size⟩
 ·exact j.st.aiZ (hE.ix D.a D.mb) hJ hg' (fun k hk=>⟨hk.1,hlen k hk.2⟩) (fun k hk=> .inl hk) (fun k hk=>hk)
 ·rw[hg.block D.l (Array.getElem?_eq_some_iff.1 j.YW).1 (fun hc=>(hC _ hc).1 j.ol)]
  exact j.YW
 ·by_cases hlt:k<w.heap.size
  ·exact(j.cover k hlt hx).imp id (fun h=>⟨.inl h.1,h.2⟩)
  ·exact .inr ⟨.inr ⟨by omega,hk⟩, .inr (Nat.le_trans j.size (by omega))⟩
end
end Go.Abs
namespace Go.Abs
open Go.RowKit Go.Lib
section
variable {V:View}{σ:AS}{ν:Nm→Value}{Y:Value}
theorem J7 {t:Ty}{x:t.den}{v:Value}(h:wB V t x v):ah V σ ν Y (afL t x) v:=by
 cases t with
 |st t=>obtain⟨cs,h1,h2⟩:=h;exact⟨cs,h1,il h2⟩
 |_=>exact h
theorem Vl {X:Nat→Value}:∀{ps:List Tmp} {ts:List Ty} {s s':eT} {x:(jw ts).den} {vs ys:List Value},G5 s ps ts x=some s'→HA (ah V σ ν Y) s ys X→Ug V (jw ts) x vs→
  vs.length=ps.length∧HA (ah V σ ν Y) s' ((ps.zip vs).foldl (fun l p=>l.set p.1 p.2) ys) X
 | [],[],s,s',x,vs,ys,h,hs,hy=>by
   simp only[G5,Option.some.injEq] at h
   subst h
   have:vs=[]:=hy
   subst this
   exact⟨rfl,hs⟩
 |p::ps,t::ts,s,s',x,vs,ys,h,hs,hy=>by
  simp only[G5] at h
  obtain⟨v,r,rfl,h1,h2⟩:=hy
  obtain⟨h3,h4⟩:=Vl h (X6 hs (J7 h1)) h2
  exact⟨by simp[h3],by simpa using h4⟩
 | [],_::_,_,_,_,_,_,h,_,_=>by simp[G5] at h
 |_::_,[],_,_,_,_,_,h,_,_=>by simp[G5] at h
theorem ad3 (tmps:Array Value)(ps:Array Tmp)(vs:Array Value):((ps.zip vs).foldl (fun tmps (p:Tmp×Value)=>tmps.setIfInBounds p.1 p.2) tmps).toList=(ps.toList.zip vs.toList).foldl (fun l p=>l.set p.1 p.2) tmps.toList:=by
 rw[←Array.foldl_toList,Array.toList_zip]
 generalize ps.toList.zip vs.toList=l
 induction l generalizing tmps with
 |nil=>rfl
 |cons p l ih=>simp only[List.foldl_cons];rw[ih];simp
end
end Go.Abs
namespace Go.Abs
open Go.RowKit Go.Lib
section
variable {P:Program}{T:cm}{Φ:bF T}{R:Type}{E:Env}{σ σ':AS}{a a':Act}{w w':World}{ν ν':Nm→Value}{O O':Nat→Prop}
theorem Ctx.ix (C:Ctx P T Φ E)(hJ:E.J=jX)(a:Act)(mb:Nat):Ctx P T Φ (E.ix a mb):=
 ⟨C.env.ix a mb,C.QX.ix a mb,C.tab,C.hps,C.eqs,C.sigs,C.fns,C.num,D7 hJ,fun _ _ _=>hJ⟩
theorem Ctx.xw (C:Ctx P T Φ E)(hJ:E.J=jX):Ctx P T Φ (E.xw σ ν O w):=
 ⟨C.env.xw,C.QX,C.tab,C.hps,C.eqs,C.sigs,C.fns,C.num,D7 hJ,fun _ _ _=>hJ⟩
theorem L4 {t:CV}(h:oK ⟨.unit,()⟩ t):t=⟨.unit,()⟩:=by
 rcases h with h | ⟨t',xs,ys,e,_⟩
 ·exact h
 ·injection e with e;cases e
theorem St.WK (hE:aC E)(hJ:E.J=jX)(h:St E σ a w ν O){l:Nat}{r:Loop}(hl:w.heap[l]? =some (.loop r))(hO:O l)(hc:E.CB l∨E.base.heap.size≤l)(r':Loop):St E σ a (w.putObj l (.loop r')) ν O∧(w.putObj l (.loop r')).heap[l]? =some (.loop r')∧(w.putObj l (.loop r')).heap.size=w.heap.size:=by
 have hlt:=(Array.getElem?_eq_some_iff.1 hl).1
 have hsz:(w.putObj l (.loop r')).heap.size=w.heap.size:=by simp[World.putObj]
 refine⟨h.aiZ hE hJ (C:=fun k=>k=l) ⟨rfl,rfl,rfl,by rw[hsz];exact Nat.le_refl _,fun k hk hn=> ?_⟩ (fun k e=>by subst e;exact⟨hO,hc⟩) (fun k hk=>hk) (fun k hk=> .inl hk), ?_,hsz⟩
 ·simp only[World.putObj]
  rw[Array.getElem?_setIfInBounds_ne (fun e=>hn e.symm)]
 ·simp only[World.putObj]
  rw[Array.getElem?_setIfInBounds_self_of_lt hlt]
end
end Go.Abs
namespace Go.Abs
open Go.RowKit Go.Lib
section
variable {P:Program}{T:cm}{Φ:bF T}{R:Type}
theorem IB {w:World}{l:Nat}{o:Go.Obj}:Grow (fun k=>k=l) w (w.putObj l o):=
 ⟨rfl,rfl,rfl,by simp[World.putObj],fun k hk hn=>by
  simp only[World.putObj]
  rw[Array.getElem?_setIfInBounds_ne (fun e=>hn e.symm)]⟩
structure Sh (σ σ':AS):Prop where
 rows:∀r,(look σ'.rows r).isSome=true→(look σ.rows r).isSome=true
 boxes:∀r,(look σ'.boxes r).isSome=true→(look σ.boxes r).isSome=true
 ae:σ'.ae=σ.ae
theorem Sh.refl (σ:AS):Sh σ σ:=⟨fun _ h=>h,fun _ h=>h,rfl⟩
theorem Sh.trans {a b c:AS}(h:Sh a b)(g:Sh b c):Sh a c:=⟨fun r hr=>h.rows r (g.rows r hr),fun r hr=>h.boxes r (g.boxes r hr),g.ae.trans h.ae⟩
theorem Sh.own {σ σ':AS}{ν:Nm→Value}{m:Nm}{k:Nat}(h:Sh σ σ')(hm:Own σ' ν m k):Own σ ν m k:=by
 refine⟨?_,hm.2⟩
 have h1:=hm.1
 cases m with
 |row r=>simp only[AS.obj,Option.isSome_map] at h1 ⊢;exact h.rows r h1
 |box r=>simp only[AS.obj,Option.isSome_map] at h1 ⊢;exact h.boxes r h1
 |hp i n=>simp only[AS.obj,h.ae] at h1 ⊢;exact h1
theorem ali {σ:AS}(x:Operand):Sh σ (σ.frz x):=by
 unfold AS.frz
 split
 ·refine⟨fun k hk=> ?_,fun k hk=>by rw[No] at hk;exact hk,by unfold AS.freeze;split<;>rfl⟩
  rw[Da] at hk
  split at hk
  ·cases hk
  ·exact hk
 ·exact Sh.refl _
theorem SJ:∀(hs:List (Nat×Bool)) (σ:AS),Sh σ (σ.share hs)
 | [],σ=>Sh.refl _
 | (j,true)::h,σ=>(ali _).trans (SJ h _)
 | (j,false)::h,σ=>SJ h σ
theorem AX {α:Type}:∀{l:List (Nat×α)} {p:Nat×α→Bool} {i:Nat},(look (l.filter p) i).isSome=true→(look l i).isSome=true
 | [],p,i,h=>by cases h
 | (k,u)::l,p,i,h=>by
   simp only[look]
   cases hb:Nat.beq k i with
   |true=>rfl
   |false=>
    simp only[List.filter_cons] at h
    split at h
    ·simp only[look,hb,cond_false] at h
     exact AX h
    ·exact AX h
theorem Vm (hs:List (Nat×Bool))(σ:AS):Sh σ (σ.forget hs):=by
 refine(SJ hs σ).trans ?_
 unfold AS.forget
 exact⟨fun r hr=>AX hr,fun r hr=>AX hr,rfl⟩
theorem JG.round {D:RgD T Φ R}{n:Nat}{QS body:Code}{ps:Array Tmp}{fn:FuncId}{hs1 hs2:List (List (Nat×Bool))}(hRB:D.RB=ir ps.toList (fun σ k'=>aH T Φ n QS hs1 σ k') (fun σ k'=>aH T Φ n body hs2 σ k'))
  (WL:D.uY={state:= .ready,pending:=none,fn,tmps:=D.a.tmps,params:=ps,assign:=QS,body,defers:=D.mb}) (C:Ctx P T Φ D.E) (hD:xZ D.E) (hJ:D.E.J=jX) (hacc:D.E.acc ⟨.unit,()⟩) (hlen:∀k,D.len k→D.E.CB k∨D.E.base.heap.size≤k)
  (Sx:Sound P T Φ n QS) (Sy:Sound P T Φ n body) (hn:D.a.tmps.size=D.σ0.tmps.n) {xs rest:List (jw D.ts).den} {x:(jw D.ts).den} {Og Oc:Nat→Prop} {w:World} {σ1:AS} {ν1:Nm→Value} {m:Nat} (j:ant D xs (x::rest) Og w σ1 ν1 Oc m) (hlB:D.len D.l)
  {vs:List Value} (hv:∀V,Ug V (jw D.ts) x vs) (rr:Option Nat):
  ∃tmps,(Instr.yield D.l vs.toArray).run P w= .ok (.round D.l fn tmps QS body) w∧RoundIn (FW rr) 0 P D.l fn tmps QS body w fun e w'=>e= .returned (.bool true)∧∃O',JG D ⟨.slice (jw D.ts),xs++[x]⟩ O' w'∧Grow Og w w'∧(∀k,Og k→O' k)∧∀k,O' k→Og k∨(w.heap.size≤k∧k<w'.heap.size):=by
 have hl:=j.loop
 cases m with
 |zero=>cases hl
 |succ m=>
  simp only[lq] at hl
  rw[hRB] at hl
  unfold ir at hl
  rw[j.b7] at hl
  dsimp only at hl
  split at hl
  ·rename_i s hs
   have alk:σ1.trace=⟨.unit,()⟩:=by have:=j.st.out.1;rw[show (D.E.ix D.a D.mb).J=jX from hJ] at this;exact this
   obtain⟨h1,h2⟩:=Vl hs j.st.slots (hv _)
   have hsz:vs.toArray.size=D.uY.params.size:=by rw[WL];simpa using h1
   have hy:=run_yield (P:=P) j.YW hsz
   rw[WL] at hy
   refine⟨_,hy, ?_⟩
   -- HZ assignments
   have alm:St (D.E.ix D.a D.mb) {σ1 with tmps:=s,b7:=[⟨D.ts,rest⟩]} ⟨(ps.zip vs.toArray).foldl (fun tmps (t,a)=>tmps.setIfInBounds t a) D.a.tmps,[]⟩ w ν1 Oc:=by
    refine j.st.aat (σ':={σ1 with tmps:=s,b7:=[⟨D.ts,rest⟩]}) (a':=⟨(ps.zip vs.toArray).foldl (fun tmps (t,a)=>tmps.setIfInBounds t a) D.a.tmps,[]⟩) ⟨rfl,rfl,rfl,rfl⟩ rfl ?_
    rw[show ((ps.zip vs.toArray).foldl (fun tmps (t,a)=>tmps.setIfInBounds t a) D.a.tmps).toList=_ from ad3 D.a.tmps ps vs.toArray]
    exact h2
   have hk1:∀e σ',(match e with
     |Ex.normal=>aH T Φ n body hs2 σ' fun e σ2=>match e with
      | .normal=>lq D.hd D.RB (fj D.k) m (σ2.back.forget D.hd)
      |_=>none
     |_=>none)=some D.r→Fr {σ1 with tmps:=s,b7:=[⟨D.ts,rest⟩]} σ'→D.E.acc σ'.trace:=fun e σ' _ hf=>by
    have:=hf.tr
    rw[show ({σ1 with tmps:=s,b7:=[⟨D.ts,rest⟩]}:AS).trace=σ1.trace from rfl,alk] at this
    rw[L4 this];exact hacc
   have hDr:∀(σ:AS) (ν:Nm→Value) (O:Nat→Prop) (w:World),xZ ((D.E.ix D.a D.mb).xw σ ν O w):=fun _ _ _ _=>hD
   have hCr:∀(σ:AS) (ν:Nm→Value) (O:Nat→Prop) (w:World),Ctx P T Φ ((D.E.ix D.a D.mb).xw σ ν O w):=fun _ _ _ _=>(C.ix hJ D.a D.mb).xw hJ
   have adA:∀m,(D.E.ix D.a D.mb).wA m↔D.E.wA m:=fun m=>Iff.rfl
   refine roundIn_of_wpIn trivial ?_
   refine wpIn_mono (Sx _ (hCr _ _ _ _) (hDr _ _ _ _) (some D.l) hs1 _ _ _ w _ _ hl alm.xw (fun _=>by simp) (fun e σ' h3 h4=> ?_)) (fun e a1 w1 hp=> ?_)
   ·have:=h4.tr
    rw[show ({σ1 with tmps:=s,b7:=[⟨D.ts,rest⟩]}:AS).trace=σ1.trace from rfl,alk] at this
    show D.E.acc σ'.trace
    rw[L4 this];exact hacc
   ·cases e with
    |normal=>
     obtain⟨σ2,h3,h4,ν2,O2,h5⟩:=hp
     dsimp only at h3
     obtain⟨u1,u2,u3,u4⟩:=alm.agG h5
     have hnl:∀{σ:AS} {ν:Nm→Value} {O:Nat→Prop} {a:Act} {w:World} {r:Loop},St (D.E.ix D.a D.mb) σ a w ν O→w.heap[D.l]? =some (Go.Obj.loop r)→¬∃m,Own σ ν m D.l∧¬(D.E.ix D.a D.mb).wA m:=fun hst hr ⟨m,hm,_⟩=>by
      obtain⟨cur,e,hc⟩:=hst.Pb hm
      rw[hc] at hr;cases hr
     have OE:w1.heap[D.l]? =some (Go.Obj.loop D.uY):=by
      rw[u2.block D.l (Array.getElem?_eq_some_iff.1 j.YW).1 (hnl alm j.YW)];exact j.YW
     have apD:D.uY.state= .ready:=by rw[WL]
     have hOl:O2 D.l:=u3 _ j.cl
     obtain⟨p1,p2,p3⟩:=St.WK (E:=D.E.ix D.a D.mb) (C.env.ix D.a D.mb) hJ u1 OE hOl (hlen _ hlB) {D.uY with state:= .busy}
     refine⟨_,run_beginRound OE apD, ?_⟩
     refine wpIn_mono (Sy _ (hCr _ _ _ _) (hDr _ _ _ _) (some D.l) hs2 _ _ _ _ _ _ h3 p1.xw (fun _=>by rw[h4.b7];simp) (fun e σ' h6 h7=> ?_)) (fun e a2 w2 hp2=> ?_)
     ·have:=(h4.trans h7).tr
      rw[show ({σ1 with tmps:=s,b7:=[⟨D.ts,rest⟩]}:AS).trace=σ1.trace from rfl,alk] at this
      show D.E.acc σ'.trace
      rw[L4 this];exact hacc
     ·cases e with
      |normal=>
       obtain⟨σ3,h6,h7,ν3,O3,h8⟩:=hp2
       dsimp only at h6
       obtain⟨v1,v2,v3,v4⟩:=p1.agG h8
       have G7:w2.heap[D.l]? =some (Go.Obj.loop {D.uY with state:= .busy}):=by
        rw[v2.block D.l (Array.getElem?_eq_some_iff.1 p2).1 (hnl p1 p2)];exact p2
       obtain⟨q1,q2,q3⟩:=St.WK (E:=D.E.ix D.a D.mb) (C.env.ix D.a D.mb) hJ v1 G7 (v3 _ hOl) (hlen _ hlB) {({D.uY with state:= .busy}:Loop) with state:=if (none:Option Code).isNone then .ready else .done,pending:=none}
       refine⟨_,_,run_endRound none G7,rfl, ?_⟩
       have g1:Grow Og w w1:=u2.mono (fun k _ ⟨m,hm,hr⟩=>j.own m k (by cases m<;>exact hm) hr)
       have g2:=g1.trans (IB (w:=w1) (l:=D.l) (o:= .loop {D.uY with state:= .busy})) (fun i _ e=>by rw[e];exact j.ol)
       have g3:Grow Og w w2:=g2.trans v2 (fun i hi ⟨m,hm,hr⟩=>by
        rcases u4 m i hm with h9 | ⟨m',h9,h10⟩ |h9
        ·exact absurd h9 hr
        ·exact j.own m' i (by cases m'<;>exact h9) h10
        ·omega)
       have g4:=g3.trans (IB (w:=w2) (l:=D.l) (o:= .loop {({D.uY with state:= .busy}:Loop) with state:=if (none:Option Code).isNone then .ready else .done,pending:=none})) (fun i _ e=>by rw[e];exact j.ol)
       have US:Fr {σ1 with tmps:=s,b7:=[⟨D.ts,rest⟩]} σ3:=h4.trans h7
       have hbk:St (D.E.ix D.a D.mb) σ3.back ⟨D.a.tmps,[]⟩ _ ν3 O3:=St.alh (E:=D.E) rfl (by rw[hn, ←j.fr.s];exact(US.s.trans (J6 hs).1).symm) ⟨_,US.b7⟩ q1
       have aaV:=hbk.forget (C.env.ix D.a D.mb) D.hd
       have hfx:FrX D.σ0 σ3.back:=⟨⟨_,US.b7⟩,US.sites.trans j.fr.sites,(US.s.trans (J6 hs).1).trans j.fr.s,j.fr.tr.trans US.tr,by
        show ∃ls:List Nat,σ3.tmps.s.map (·.1)=_∧_
        rw[US.ks]
        show ∃ls:List Nat,s.s.map (·.1)=_∧_
        rw[(J6 hs).2];exact j.fr.ks⟩
       have anu:({({D.uY with state:= .busy}:Loop) with state:=if (none:Option Code).isNone then .ready else .done,pending:=none}:Loop)=D.uY:=by rw[WL];rfl
       refine⟨fun k=>Og k∨(w.heap.size≤k∧k<_),⟨xs++[x],rest,σ3.back.forget D.hd,ν3,O3,m,rfl, ?_⟩,g4,fun k hk=> .inl hk,fun k hk=>hk⟩
       refine⟨by rw[j.ys];simp,by rw[(mH D.hd σ3.back).b7];exact US.b7,by rw[hRB];exact h6,hfx.fr (mH _ _),aaV,by rw[←anu];exact q2, .inl j.ol,v3 _ hOl,fun m' k hm hr=> ?_,fun k hk hx=> ?_,Nat.le_trans j.size g4.size,fun k hk=> ?_⟩
       ·rcases (aaV.yD m' k hm) with ⟨_,h10,_⟩
        by_cases hk:w.heap.size≤k
        ·exact .inr ⟨hk,h10⟩
        ·left
         have o3:Own σ3 ν3 m' k:=by have:=(Vm D.hd σ3.back).own hm;cases m'<;>exact this
         rcases v4 m' k o3 with h11 | ⟨m2,h11,h12⟩ |h11
         ·exact absurd h11 hr
         ·rcases u4 m2 k h11 with h13 | ⟨m3,h13,h14⟩ |h13
          ·exact absurd h13 h12
          ·exact j.own m3 k (by cases m3<;>exact h13) h14
          ·omega
         ·have:=g2.size;omega
       ·by_cases hlt:k<w.heap.size
        ·exact(j.cover k hlt hx).imp .inl (fun h=>⟨v3 _ (u3 _ h.1),h.2⟩)
        ·exact .inl (.inr ⟨by omega,hk⟩)
       ·rcases hk with hk |hk
        ·exact Nat.lt_of_lt_of_le (j.ogl k hk) g4.size
        ·exact hk.2
      |_=>first |exact hp2.elim | (obtain⟨σ3,h6,_⟩:=hp2;cases h6)
    |_=>first |exact hp.elim | (obtain⟨σ2,h3,_⟩:=hp;cases h3)
  ·cases hl
end
end Go.Abs
namespace Go.Abs
open Go.RowKit Go.Lib
section
variable {P:Program}{T:cm}{Φ:bF T}{R:Type}
def RgD.YX (D:RgD T Φ R)(V0:View)(h0:List aT):Env where
 V0:=V0
 w0:=D.w2
 X:=D.Xg
 J:=JG D
 XS:=D.E.XS
 Y:= .func (.yield D.l) #[] #[]
 ro:=fun _=>none
 h0:=h0
 n0:=fun _ _=> .nilFunc
 M:=fun _=>False
 base:=D.w2
 CB:=D.Xg
 Om:=fun _=>False
 acc:=fun tr=>oK tr ⟨.slice (jw D.ts),D.ys⟩
 XH:=fun _ _=>False
theorem ad4 (D:RgD T Φ R)(V0:View)(h0:List aT):xZ (D.YX V0 h0):=fun tr tr' h1 h2=>h1.trans h2
theorem YY {D:RgD T Φ R}{V0:View}{h0:List aT}{n:Nat}{QS body:Code}{ps:Array Tmp}{fn:FuncId}{hs1 hs2:List (List (Nat×Bool))}(hRB:D.RB=ir ps.toList (fun σ k'=>aH T Φ n QS hs1 σ k') (fun σ k'=>aH T Φ n body hs2 σ k'))
  (WL:D.uY={state:= .ready,pending:=none,fn,tmps:=D.a.tmps,params:=ps,assign:=QS,body,defers:=D.mb}) (C:Ctx P T Φ D.E) (hD:xZ D.E) (hJ:D.E.J=jX) (hacc:D.E.acc ⟨.unit,()⟩) (hlen:∀k,D.len k→D.E.CB k∨D.E.base.heap.size≤k)
  (Sx:Sound P T Φ n QS) (Sy:Sound P T Φ n body) (hn:D.a.tmps.size=D.σ0.tmps.n) (hlB:D.len D.l):Gi P (D.YX V0 h0):=by
 intro rr t xs x vs O w hJG hac hv
 refine⟨⟨rfl,fun k hk=>hk⟩, ?_⟩
 obtain⟨xs',rest,σ1,ν1,Oc,m,e,j⟩:=hJG
 injection e with e1 e2
 injection e1 with e1
 subst e1
 simp only[heq_eq_eq] at e2
 subst e2
 have R1:∃more,rest=x::more:=by
  have apF:oK ⟨.slice (jw D.ts),xs++[x]⟩ ⟨.slice (jw D.ts),D.ys⟩:=hac
  have hys:=j.ys
  rcases apF with h1 | ⟨t',ys1,ys2,h1,h2⟩
  ·injection h1 with _ h1
   try simp only[heq_eq_eq] at h1
   rw[h1] at hys
   exact⟨[],(List.append_cancel_left hys).symm⟩
  ·injection h1 with h3 h4
   injection h3 with h3
   subst h3
   simp only[heq_eq_eq] at h4
   subst h4
   injection h2 with _ h2
   try simp only[heq_eq_eq] at h2
   rw[h2,List.append_assoc] at hys
   exact⟨ys2,(List.append_cancel_left hys).symm⟩
 obtain⟨more,rfl⟩:=R1
 obtain⟨tmps,h1,h2⟩:=JG.round hRB WL C hD hJ hacc hlen Sx Sy hn j hlB hv rr
 exact⟨D.l,fn,tmps,QS,body,rfl,h1,h2⟩
end
end Go.Abs
namespace Go.Abs
open Go.RowKit Go.Lib
section
variable {P:Program}{T:cm}{Φ:bF T}{R:Type}{E:Env}{σ σ':AS}{a a':Act}{w w':World}{ν ν':Nm→Value}{O O':Nat→Prop}
theorem SK:∀(bs:List Nat) (σ:AS),Sh σ (σ.jx bs)∧∀b∈bs,look (σ.jx bs).boxes b=none
 | [],σ=>⟨Sh.refl _,fun b hb=>by simp at hb⟩
 |d::bs,σ=>by
  obtain⟨h1,h2⟩:=SK bs (σ.dI d)
  have h0:Sh σ (σ.dI d):=⟨fun r hr=>hr,fun r hr=>by
   rw[nA] at hr;split at hr
   ·cases hr
   ·exact hr,rfl⟩
  refine⟨h0.trans h1,fun b hb=> ?_⟩
  rcases List.mem_cons.1 hb with rfl |hb
  ·cases hl:look (((σ.dI b).jx bs).boxes) b with
   |none=>exact hl
   |some x=>
    have:=h1.boxes b (by rw[hl];rfl)
    rw[nA,if_pos rfl] at this;cases this
  ·exact h2 b hb
def dB (w:World)(r:Loop):World:=(w.alloc (.deferred (some []))).alloc (.loop r)
theorem so (w:World)(r:Loop):Below w.heap.size w (dB w r)∧(dB w r).heap.size=w.heap.size+2∧(dB w r).heap[w.heap.size]? =some (Go.Obj.deferred (some []))∧(dB w r).heap[w.heap.size+1]? =some (Go.Obj.loop r):=by
 have h1:=heap_alloc_new w (.deferred (some []))
 have h2:=heap_alloc_new (w.alloc (.deferred (some []))) (.loop r)
 have hs:(w.alloc (.deferred (some []))).heap.size=w.heap.size+1:=by simp
 refine⟨⟨rfl,rfl,rfl,by unfold dB;simp;omega,fun k hk=> ?_⟩,by unfold dB;simp, ?_, ?_⟩
 ·unfold dB
  rw[heap_alloc_old (w.alloc (.deferred (some []))) _ (r:=k) (by rw[hs];omega),heap_alloc_old w _ (r:=k) hk]
 ·unfold dB
  rw[heap_alloc_old (w.alloc (.deferred (some []))) _ (by rw[hs];omega)];exact h1
 ·unfold dB
  rw[hs] at h2;exact h2
end
end Go.Abs
namespace Go.Abs
open Go.RowKit Go.Lib
section
variable {P:Program}{T:cm}{Φ:bF T}{R:Type}{E:Env}{σ σ':AS}{a a':Act}{w w':World}{ν ν':Nm→Value}{O O':Nat→Prop}
def Gk (σ:AS)(ν:Nm→Value)(bs:List Nat)(k:Nat):Prop:=∃b∈bs,Own σ ν (.box b) k
theorem YZ (hE:aC E)(hJ:E.J=jX)(h:St E σ a w ν O)(bs:List Nat)(hd:List (Nat×Bool))(hok:xg ((σ.jx bs).forget hd)=true)(g:Rng)(r:Loop):
  ∃Oc,St (E.ix a w.heap.size) ({((σ.jx bs).forget hd) with b7:=[g]}:AS).save ⟨a.tmps,[]⟩ (dB w r) ν Oc∧(∀k,O k→Oc k)∧(∀k,Gk σ ν bs k→Oc k)∧Oc (w.heap.size+1)∧∀k,Oc k→O k∨Gk σ ν bs k∨k=w.heap.size+1:=by
 obtain⟨O1,s1,h1,h2,h3⟩:=h.agH hE hJ bs
 obtain⟨e1,e2,e3,e4⟩:=so w r
 have hO1:∀k,O1 k→k<w.heap.size:=fun k hk=>(s1.out.2 k hk).1
 have s4:St E ((σ.jx bs).forget hd) a (dB w r) ν (fun k=>O1 k∨k=w.heap.size+1):=
  (s1.forget hE hd).aiZ hE hJ (C:=fun _=>False) (Grow.Bh e1) (fun k hk=>hk.elim) (fun k hk=> .inl hk) (fun k hk=>hk.imp id (fun e=>by subst e;omega))
 refine⟨_,s4.saved hok ⟨e3,fun h5=> ?_⟩ g,fun k hk=> .inl (h1 k hk),fun k ⟨b,hb,hk⟩=> .inl (h2 b hb k hk), .inr rfl,fun k hk=> ?_⟩
 ·rcases h5 with h5 |h5
  ·have:=hO1 _ h5;omega
  ·omega
 ·rcases hk with hk |hk
  ·rcases h3 k hk with h4 | ⟨b,hb,h4⟩
   ·exact .inl h4
   ·exact .inr (.inl ⟨b,hb,h4⟩)
  ·exact .inr (.inr hk)
end
end Go.Abs
namespace Go.Abs
open Go.RowKit Go.Lib
section
variable {P:Program}{T:cm}{Φ:bF T}{R:Type}{E:Env}{σ σ':AS}{a a':Act}{w w':World}{ν ν':Nm→Value}{O O':Nat→Prop}
def ad5 (E:Env)(σ:AS)(ν:Nm→Value)(O:Nat→Prop)(w:World):View:=fun key u=>∃ad:Addr,key= .cell ad∧view E σ ν O w (.cell ad) u
def aaW (E:Env)(σ:AS)(ν:Nm→Value)(O:Nat→Prop)(w:World)(k:Nat):Prop:=(∃m,Own σ ν m k∧¬E.wA m)∨O k∨k=w.heap.size+1
theorem ad6 (hE:aC E)(h:St E σ a w ν O)(r:Loop){ad:Addr}{u:Value}(hv:view E σ ν O w (.cell ad) u):(dB w r).cell? ad=some u∧¬aaW E σ ν O w ad.block:=by
 have h1:=xi hE h.keep hv
 have hlt:=Gh h1
 obtain⟨e1,_⟩:=so w r
 refine⟨by rw[World.cell?_of_block (e1.block _ hlt)];exact h1,fun hx=> ?_⟩
 rcases hv with ⟨h2,h3⟩ | ⟨h2,h3,h4,_⟩
 ·have h5:=(hE.cell _ _ h3).2
  rcases hx with ⟨m,hm,hr⟩ |ho |hk
  ·rcases (h.yD m _ hm).1 with h6 |h6 |h6
   ·omega
   ·exact h5 h6
   ·exact hr h6
  ·exact h5 ((h.out.2 _ ho).2 h2)
  ·omega
 ·rcases hx with ⟨m,hm,hr⟩ |ho |hk
  ·exact h3 ⟨m,hm⟩
  ·exact h4 ho
  ·omega
theorem aje {D:RgD T Φ R}{r:Loop}(hE:aC E)(h:St E σ a w ν O)(hDE:D.E=E)(hX:D.Xg=aaW E σ ν O w)(hw:D.w2=dB w r)(hJ:E.J=jX)(hlen:∀k,D.len k→E.CB k∨E.base.heap.size≤k)(h0:List aT):aC (D.YX (ad5 E σ ν O w) h0):=by
 refine⟨fun ad u hv=> ?_,fun tr O1 w1 w1' C hJG hg hC=> ?_⟩
 ·obtain⟨OR,e,hv⟩:=hv
  injection e with e
  subst e
  obtain⟨h1,h2⟩:=ad6 hE h r hv
  exact⟨by show D.w2.cell? ad=_;rw[hw];exact h1,by show ¬D.Xg ad.block;rw[hX];exact h2⟩
 ·exact JG.stay (by rw[hDE];exact hE) (by rw[hDE];exact hJ) (by rw[hDE];exact hlen) hJG hg hC
end
end Go.Abs
namespace Go.Abs
open Go.RowKit Go.Lib
section
variable {P:Program}{T:cm}{Φ:bF T}{R:Type}{E:Env}{σ σ':AS}{a a':Act}{w w':World}{ν ν':Nm→Value}{O O':Nat→Prop}
def ad7 (E:Env)(σ:AS)(ν:Nm→Value)(O:Nat→Prop)(w:World)(bs:List Nat)(k:Nat):Prop:=aaW E σ ν O w k∧¬Gk σ ν bs k
theorem agI {D:RgD T Φ R}{r:Loop}{bs:List Nat}(hE:aC E)(h:St E σ a w ν O)(hDE:D.E=E)(hDa:D.a=a)(hmb:D.mb=w.heap.size)(hDl:D.l=w.heap.size+1)(hr:D.uY=r)(hw:D.w2=dB w r)(hX:D.Xg=aaW E σ ν O w)
  (hB:D.Bx=fun k=>Gk σ ν bs k∨k=w.heap.size+1) (hσ:D.σ0=σ) (hJ:E.J=jX) (hok:xg ((σ.jx bs).forget D.hd)=true) (hfx:FrX σ ({((σ.jx bs).forget D.hd) with b7:=[⟨D.ts,D.ys⟩]}:AS).save)
  {m:Nat} (hl:lq D.hd D.RB (fj D.k) m ({((σ.jx bs).forget D.hd) with b7:=[⟨D.ts,D.ys⟩]}:AS).save=some D.r):JG D ⟨.slice (jw D.ts),[]⟩ (ad7 E σ ν O w bs) (dB w r):=by
 obtain⟨Oc,s1,o1,o2,o3,o4⟩:=YZ hE hJ h bs D.hd hok ⟨D.ts,D.ys⟩ r
 obtain⟨e1,e2,e3,e4⟩:=so w r
 have alo:∀k,Gk σ ν bs k→k<w.heap.size:=fun k ⟨b,hb,ho⟩=>(h.yD _ _ ho).2.1
 have apH:∀k,aaW E σ ν O w k→k<w.heap.size+2:=fun k hk=>by
  rcases hk with ⟨m,hm,_⟩ |hk |hk
  ·have:=(h.yD _ _ hm).2.1;omega
  ·have:=(h.out.2 _ hk).1;omega
  ·omega
 have hl0:ad7 E σ ν O w bs (w.heap.size+1):=⟨.inr (.inr rfl),fun hb=>by have:=alo _ hb;omega⟩
 refine⟨[],D.ys,_,ν,Oc,m,rfl,⟨rfl,rfl,hl,by rw[hσ];exact hfx,by rw[hDE,hDa,hmb];exact s1,by rw[hDl,hr];exact e4,by rw[hDl];exact hl0,by rw[hDl];exact o3,fun m' k hm hro=> ?_,fun k hk hx=> ?_,by rw[hw];exact Nat.le_refl _,fun k hk=> ?_⟩⟩
 ·rw[hDE] at hro
  have hm2:Own ((σ.jx bs).forget D.hd) ν m' k:=by cases m'<;>exact hm
  have hm3:=(Vm D.hd (σ.jx bs)).own hm2
  have hm4:=(SK bs σ).1.own hm3
  refine⟨.inl ⟨m',hm4,hro⟩,fun⟨b,hb,ho⟩=> ?_⟩
  have:=h.inj _ _ k hm4 ho
  subst this
  have h9:=(SK bs σ).2 b hb
  have h10:=hm3.1
  simp only[AS.obj,h9] at h10
  cases h10
 ·rw[hw] at hx
  rcases hx with hx |hx
  ·omega
  ·rw[hX] at hx
   by_cases hb:Gk σ ν bs k
   ·exact .inr ⟨o2 k hb, .inl (by rw[hB];exact .inl hb)⟩
   ·exact .inl ⟨hx,hb⟩
 ·have:=apH k hk.1;omega
end
end Go.Abs
namespace Go.Abs
open Go.RowKit Go.Lib
section
variable {P:Program}{T:cm}{Φ:bF T}{R:Type}{E:Env}{σ σ':AS}{a a':Act}{w w':World}{ν ν':Nm→Value}{O O':Nat→Prop}
def Qg (ν:Nm→Value)(ks:List Nat):Nm→Value
 | .box (j+1)=>match ks[j]? with
   |some b=>ν (.box b)
   |none=> .nilFunc
 |_=> .nilFunc
theorem Pc:∀{l:List Nat},wE l=true→∀(i j b:Nat),l[i]? =some b→l[j]? =some b→i=j
 | [],_,i,j,b,h1,h2=>by simp at h1
 |x::l,h,i,j,b,h1,h2=>by
  simp only[wE,Bool.and_eq_true,Bool.not_eq_true'] at h
  have hx:∀k,l[k]? ≠some x:=fun k hk=>by
   have:l.any (Nat.beq x)=true:=km.2 (List.mem_of_getElem? hk)
   rw[h.1] at this;cases this
  cases i with
  |zero=>
   cases j with
   |zero=>rfl
   |succ j=>
    simp at h1 h2
    subst h1
    exact absurd h2 (hx j)
  |succ i=>
   cases j with
   |zero=>
    simp at h1 h2
    subst h2
    exact absurd h1 (hx i)
   |succ j=>rw[Pc h.2 i j b (by simpa using h1) (by simpa using h2)]
end
end Go.Abs
namespace Go.Abs
open Go.RowKit Go.Lib
section
variable {P:Program}{T:cm}{Φ:bF T}{R:Type}{E:Env}{σ σ':AS}{a a':Act}{w w':World}{ν ν':Nm→Value}{O O':Nat→Prop}
theorem ad8 {boxes:List (Nat×BX)}{args:List nr}{aN:List G2}{x:F0 args}(h:F4 boxes args aN=some x):∀(j:Nat) bx,look (c9 args x 0) j=some bx→∃i b t y,j=i+1∧(bh aN)[i]? =some b∧bx= .cells (flat t y)∧nr.bx t∈args∧look boxes b=some (.cells (flat t y)):=by
 intro j bx hj
 unfold F4 at h
 split at h
 ·simp[c9,c9.one,look] at hj
 ·split at h
  ·rename_i q ps cs y hy
   simp only[Option.some.injEq] at h
   subst h
   simp only[c9,c9.one,List.nil_append] at hj
   obtain⟨_,_,h3⟩:=Ld 1 hy
   obtain⟨b,t,z,h4,h5,h6,h7,h8⟩:=h3 j bx hj
   exact⟨j - 1,b,t,z,by omega,h5,h6,List.mem_cons_of_mem _ h7,h8⟩
  ·cases h
 ·cases h
end
end Go.Abs
namespace Go.Abs
open Go.RowKit Go.Lib
section
variable {P:Program}{T:cm}{Φ:bF T}{R:Type}{E:Env}{σ σ':AS}{a a':Act}{w w':World}{ν ν':Nm→Value}{O O':Nat→Prop}
theorem Dh {v:Nat}{xh:A9 T v}(hh:(T.sig v).ae.isEmpty=true):aI T v xh=cj T:=by
 have h1:(T.sig v).hin=[]:=by
  have:(T.sig v).ae=[]:=by simpa using hh
  simp[HY.hin,this]
 have key:∀(hs:List Nat) (x:D4 T hs),hs=[]→p8 T (T.sig v).hout hs x (cj T)=cj T:=fun hs x e=>by subst e;rfl
 exact key _ _ h1
theorem ad9 {D:RgD T Φ R}{r:Loop}{bs:List Nat}(hE:aC E)(h:St E σ a w ν O)(hDE:D.E=E)(hw:D.w2=dB w r)(hX:D.Xg=aaW E σ ν O w)(hJ:E.J=jX)
  {v:Nat} {xh:A9 T v} (hh:(T.sig v).ae.isEmpty=true) (hs:G4 T (T.sig v)=true) (htr:C6 (T.sig v)=⟨.slice (jw D.ts),([]:List (jw D.ts).den)⟩) {aN:List G2} (hx:F4 σ.boxes (T.sig v).args aN=some (uO _ xh)) (hnd:wE (bh aN)=true) (hbs:bs=bh aN)
  (hJG:JG D ⟨.slice (jw D.ts),[]⟩ (ad7 E σ ν O w bs) (dB w r)):
  St (D.YX (ad5 E σ ν O w) (cj T)) (s9 T v xh) ⟨#[],[]⟩ (dB w r) (Qg ν bs) (ad7 E σ ν O w bs):=by
 obtain⟨e1,e2,e3,e4⟩:=so w r
 have hsh:(s9 T v xh).ae=cj T:=Dh hh
 have ns:∀m o,(s9 T v xh).obj m=some o→∃i b t y,m= .box (i+1)∧bs[i]? =some b∧o= .box (.cells (flat t y))∧nr.bx t∈(T.sig v).args∧look σ.boxes b=some (.cells (flat t y)):=fun m o ho=>by
  cases m with
  |row q=>simp[AS.obj,s9,look] at ho
  |box j=>
   simp only[AS.obj,Option.map_eq_some_iff] at ho
   obtain⟨bx,h1,rfl⟩:=ho
   obtain⟨i,b,t,y,rfl,h3,rfl,h5,h6⟩:=ad8 hx j bx h1
   exact⟨i,b,t,y,rfl,by rw[hbs];exact h3,rfl,h5,h6⟩
  |hp i n=>
   simp only[AS.obj,hsh] at ho
   cases n with
   |zero=>cases ho
   |succ n=>
    simp only[ns] at ho
    split at ho
    ·rename_i hr hhr
     rw[xp i hr hhr] at ho
     simp[G6] at ho
    ·cases ho
 have hown:∀m k,Own (s9 T v xh) (Qg ν bs) m k→∃i b,m= .box (i+1)∧bs[i]? =some b∧b∈bs∧Own σ ν (.box b) k:=fun m k ⟨h1,h2⟩=>by
  obtain⟨o,ho⟩:=Option.isSome_iff_exists.1 h1
  obtain⟨i,b,t,y,rfl,h3,rfl,h5,h6⟩:=ns m o ho
  refine⟨i,b,rfl,h3,List.mem_of_getElem? h3,by simp[AS.obj,h6], ?_⟩
  have:Qg ν bs (.box (i+1))=ν (.box b):=by simp only[Qg,h3]
  rw[←this];exact h2
 have hin:(T.sig v).hin=[]:=by
  have:(T.sig v).ae=[]:=by simpa using hh
  simp[HY.hin,this]
 have apI:∀t,nr.bx t∈(T.sig v).args→dZ [] t=true:=fun t ht=>by
  simp only[G4,Bool.and_eq_true] at hs
  have:=List.all_eq_true.1 hs.1.1 _ ht
  rw[hin] at this;exact this
 have hO:∀k,ad7 E σ ν O w bs k→k<(dB w r).heap.size:=fun k hk=>by
  rw[e2]
  rcases hk.1 with ⟨m,hm,_⟩ |hk |hk
  ·have:=(h.yD _ _ hm).2.1;omega
  ·have:=(h.out.2 _ hk).1;omega
  ·omega
 refine⟨?_,(fun d hd=>by cases hd),⟨rfl,(fun i x e=>by cases e),(fun i x e=>by cases e)⟩,fun m o ho=> ?_,fun m m' k h1 h2=> ?_,fun m k hm=> ?_,fun q k hk=> ?_,⟨?_,fun k hk=>⟨hO k hk,fun _=>by show D.Xg k;rw[hX];exact hk.1⟩⟩, ?_,(fun i hr e=>by cases e), ?_,(fun _ hf=>hf.elim), ?_,fun m k hm=> ?_,(fun _ hf=>hf.elim),List.nodup_nil⟩
 ·show Grow _ D.w2 (dB w r);rw[hw];exact Grow.refl _ _
 ·obtain⟨i,b,t,y,rfl,h3,rfl,h5,h6⟩:=ns m o ho
  obtain⟨g,g1,cur,e,g2,g3⟩:=h.box h6
  have hlt:=(Array.getElem?_eq_some_iff.1 g2).1
  refine⟨g,by simp only[Qg,h3];exact g1,cur,e,by rw[e1.block g hlt];exact g2, ?_⟩
  refine il (Rel.tr (hs:=[]) (fun ad u hv=> ?_) (fun i hi=>by simp at hi) _ _ _ (apI t h5) (im g3))
  exact .inl ⟨by show ad.block<D.w2.heap.size;rw[hw,e2];have:=Gh (xi hE h.keep hv);omega,ad,rfl,hv⟩
 ·obtain⟨i,b,rfl,h3,_,h4⟩:=hown m k h1
  obtain⟨i',b',rfl,h3',_,h4'⟩:=hown m' k h2
  have:=h.inj _ _ k h4 h4'
  injection this with this
  subst this
  rw[Pc (by rw[hbs];exact hnd) i i' b h3 h3']
 ·obtain⟨i,b,rfl,h3,hb,h4⟩:=hown m k hm
  have hlt:=(h.yD _ k h4).2.1
  refine⟨.inr (.inl (by show D.Xg k;rw[hX];exact .inl ⟨_,h4,LU⟩)),by rw[e2];omega,fun hg=>hg.2 ⟨b,hb,h4⟩⟩
 ·obtain⟨i,b,e,_⟩:=hown _ k hk;subst e;exact .inr trivial
 ·show JG D (C6 (T.sig v)) _ _
  rw[htr];exact hJG
 ·intro i hr n e h1 h2
  have e':(s9 T v xh).ae[i]? =some hr:=e
  rw[hsh] at e'
  rw[xp i hr e'] at h2;simp at h2;omega
 ·rw[hsh]
  exact⟨rfl,fun i hr e=>⟨hr,e,Aa.refl _,Nat.le_refl _⟩,fun i n h1 h2=>rfl⟩
 ·show Grow _ D.w2 (dB w r);rw[hw];exact Grow.refl _ _
 ·obtain⟨i,b,rfl,h3,hb,h4⟩:=hown m k hm
  exact .inr (.inl (by show D.Xg k;rw[hX];exact .inl ⟨_,h4,LU⟩))
end
end Go.Abs
namespace Go.Abs
open Go.RowKit Go.Lib
section
variable {P:Program}{T:cm}{Φ:bF T}{E:Env}{σ σ':AS}{a a':Act}{w w':World}{ν ν':Nm→Value}{O O':Nat→Prop}
theorem aea {R:Type}{r:R}(k:Rng→List Nat→Option R)(bs:List Nat):∀(s:HY) (y:LN s),(match s,y with
  | ⟨_,_,_,_,some ts⟩,y=>k ⟨ts,y⟩ bs
  |_,_=>none)=some r→∃ts ys,s.gen.isSome=true∧aaU s y=⟨.slice (jw ts),ys⟩∧C6 s=⟨.slice (jw ts),([]:List (jw ts).den)⟩∧k ⟨ts,ys⟩ bs=some r
 | ⟨_,_,_,_,some ts⟩,y,h=>⟨ts,y,rfl,rfl,rfl,h⟩
 | ⟨_,_,none,_,none⟩,y,h=>by cases h
 | ⟨_,_,some _,_,none⟩,y,h=>by cases h
theorem WM {f:AV}{R:Type}{k:Rng→List Nat→Option R}{r:R}(h:uT T Φ σ f k=some r):∃g aN v xh yh ts ys,f= .fn g aN∧F4 σ.boxes (T.sig v).args aN=some (uO _ xh)∧Φ v xh=some yh∧
  wE (bh aN)=true∧(T.sig v).ae.isEmpty=true∧T.real v=g∧(T.sig v).gen.isSome=true∧Nz T v yh=⟨.slice (jw ts),ys⟩∧C6 (T.sig v)=⟨.slice (jw ts),([]:List (jw ts).den)⟩∧k ⟨ts,ys⟩ (bh aN)=some r:=by
 unfold uT at h
 split at h
 ·rename_i g aN
  split at h
  ·rename_i v _ _
   split at h
   ·rename_i x hx
    split at h
    ·rename_i xh hxh
     simp only[Option.bind_eq_some_iff] at h
     obtain⟨yh,hy,h⟩:=h
     cases hb:(wE (bh aN)&&(T.sig v).ae.isEmpty&&Nat.beq (T.real v) g) with
     |false=>rw[hb] at h;cases h
     |true=>
      rw[hb,cond_true] at h
      simp only[Bool.and_eq_true,beq_iff] at hb
      obtain⟨ts,ys,h1,h2,h3,h4⟩:=aea k (bh aN) _ _ h
      refine⟨g,aN,v,xh,yh,ts,ys,rfl, ?_,hy,hb.1.1,hb.1.2,hb.2,h1,h2,h3,h4⟩
      cases hg:LO T σ.ae (T.sig v).hin with
      |none=>
       have hin:(T.sig v).hin=[]:=by
        have:(T.sig v).ae=[]:=by simpa using hb.1.2
        simp[HY.hin,this]
       exfalso
       have:∀hs,hs=[]→LO T σ.ae hs≠none:=fun hs e=>by subst e;simp[LO]
       exact this _ hin hg
      |some hh=>rw[hg] at hxh;rw[(Yv hxh).1];exact hx
    ·cases h
   ·cases h
  ·cases h
 ·cases h
theorem Lf {V V':View}{boxes:List (Nat×BX)}{νg:Nm→Value}{Y:Value}:∀{ps:List nr} {aN:List G2} {x:F0 ps} (i:Nat) {vs:List Value},ay boxes ps aN=some x→aA (rE V σ ν) aN vs→
  (∀(j b:Nat),(bh aN)[j]? =some b→νg (.box (i+j))=ν (.box b))→Qe V' νg Y i ps x vs
 | [],[],x,i,vs,h,ha,hn=>by
   cases vs with
   |nil=>rfl
   |cons _ _=>exact ha.elim
 | [.bx t],[.box b],x,i,vs,h,ha,hn=>by
   match vs,ha with
   | [v],ha=>
     obtain⟨⟨_,g,h1,h2⟩,_⟩:=ha
     exact⟨v,rfl,by show v=νg (.box i);rw[show νg (.box i)=ν (.box b) from hn 0 b rfl,h1,h2]⟩
 | .bx t::q::ps, .box b::cs,x,i,vs,h,ha,hn=>by
   match vs,ha with
   |v::vs,ha=>
    obtain⟨⟨_,g,h1,h2⟩,ha⟩:=ha
    simp only[ay] at h
    split at h
    ·split at h
     ·split at h
      ·rename_i y hy
       simp only[Option.some.injEq] at h
       subst h
       refine⟨v,vs,rfl,by show v=νg (.box i);rw[show νg (.box i)=ν (.box b) from hn 0 b rfl,h1,h2],Lf (i+1) hy ha (fun j c hj=> ?_)⟩
       have:=hn (j+1) c (by simpa [bh] using hj)
       rw[←this];congr 2;omega
      ·cases h
     ·cases h
    ·cases h
 | [.v _],[],_,_,_,h,_,_=>by simp[ay] at h
 | [.v _],_::_,_,_,_,h,_,_=>by simp[ay] at h
 | [.fn _ _],[],_,_,_,h,_,_=>by simp[ay] at h
 | [.fn _ _],_::_,_,_,_,h,_,_=>by simp[ay] at h
 | [.c _],[],_,_,_,h,_,_=>by simp[ay] at h
 | [.c _],_::_,_,_,_,h,_,_=>by simp[ay] at h
 | [.rp _],[],_,_,_,h,_,_=>by simp[ay] at h
 | [.rp _],_::_,_,_,_,h,_,_=>by simp[ay] at h
 | [.K4],[],_,_,_,h,_,_=>by simp[ay] at h
 | [.K4],_::_,_,_,_,h,_,_=>by simp[ay] at h
 | [.bx _],[],_,_,_,h,_,_=>by simp[ay] at h
 | [.bx _],[.oR _],_,_,_,h,_,_=>by simp[ay] at h
 | [.bx _], .box _::_::_,_,_,_,h,_,_=>by simp[ay] at h
 | [.bx _], .oR _::_::_,_,_,_,h,_,_=>by simp[ay] at h
 | .v _::_::_,_,_,_,_,h,_,_=>by simp[ay] at h
 | .fn _ _::_::_,_,_,_,_,h,_,_=>by simp[ay] at h
 | .c _::_::_,_,_,_,_,h,_,_=>by simp[ay] at h
 | .rp _::_::_,_,_,_,_,h,_,_=>by simp[ay] at h
 | .K4::_::_,_,_,_,_,h,_,_=>by simp[ay] at h
 | .bx _::_::_,[],_,_,_,h,_,_=>by simp[ay] at h
 | .bx _::_::_, .oR _::_,_,_,_,h,_,_=>by simp[ay] at h
 | [],_::_,_,_,_,h,_,_=>by simp[ay] at h
theorem agJ {V V':View}{boxes:List (Nat×BX)}{Y:Value}{args:List nr}{aN:List G2}{x:F0 args}{vs:List Value}(h:F4 boxes args aN=some x)(ha:aA (rE V σ ν) aN vs):Qe V' (Qg ν (bh aN)) Y 0 args x (Y::vs):=by
 unfold F4 at h
 split at h
 ·cases vs with
  |nil=>exact⟨Y,rfl,rfl⟩
  |cons _ _=>exact ha.elim
 ·split at h
  ·rename_i q ps cs y hy
   simp only[Option.some.injEq] at h
   subst h
   refine⟨Y,vs,rfl,rfl,Lf 1 hy ha (fun j b hj=> ?_)⟩
   rw[show (0+1+j)=j+1 by omega]
   simp only[Qg,hj]
  ·cases h
 ·cases h
theorem Qh {n:Nat}(hG:YU P T Φ){f:Operand}{ps:Array Tmp}{x y:Code}(Sx:Sound P T Φ n x)(Sy:Sound P T Φ n y):Sound P T Φ n (.rangeFunc f ps x y):=by
 intro R r E C hD rr hs σ k a w ν O he h XT hk
 have akk:E.acc σ.trace:=by
  obtain⟨e,σ',h1,h2⟩:=SC _ _ _ _ he
  exact hD _ _ h2.tr (hk _ _ h1 h2)
 simp only[aH] at he
 split at he
 ·rename_i hd hs' u hrn htr
  have apJ:rr=none:=by
   cases rr with
   |none=>rfl
   |some l=>exact absurd hrn (XT rfl)
  subst apJ
  have hE:=C.env
  have hJ:E.J=jX:=C.jj O w (by have:=h.out.1;rw[htr] at this;exact this)
  have hacc:E.acc ⟨.unit,()⟩:=by rw[htr] at akk;exact akk
  obtain⟨g,aN,v,xh,yh,ts,ys,e1,e2,e3,e4,e5,e6,e7,e8,e9,Y0⟩:=WM he
  cases hok:xg ((σ.jx (bh aN)).forget hd) with
  |false=>rw[hok] at Y0;cases Y0
  |true=>
   rw[hok,cond_true] at Y0
   have f1:Fr σ ((σ.jx (bh aN)).forget hd):=(SA _ σ).trans (mH hd _)
   have YT:=hok
   simp only[xg,Bool.and_eq_true,List.all_eq_true] at YT
   have hfx:FrX σ ({((σ.jx (bh aN)).forget hd) with b7:=[⟨ts,ys⟩]}:AS).save:=⟨⟨_,rfl⟩,f1.sites,f1.s,f1.tr,by
    refine⟨((σ.jx (bh aN)).forget hd).tmps.l.map fun p=>p.1+10000, ?_,fun i hi=> ?_⟩
    ·show (List.map _ _++_).map _=_
     rw[List.map_append,List.map_map, ←f1.ks]
     rfl
    ·obtain⟨p,hp,rfl⟩:=List.mem_map.1 hi
     have:=YT.1 p hp
     rw[sT] at this
     simp only[kl,Bool.and_eq_true,Nat.ble_eq,sT]
     omega⟩
   refine wpIn_rangeFunc (fun fn hfn=> ?_)
   rw[show (FW none).round=none from rfl]
   let uY:Loop:={state:= .ready,pending:=none,fn,tmps:=a.tmps,params:=ps,assign:=x,body:=y,defers:=w.heap.size}
   let D:RgD T Φ R:={E:=E,a:=a,mb:=w.heap.size,l:=w.heap.size+1,uY:=uY,ts:=ts,ys:=ys,σ0:=σ,hd:=hd,RB:=ir ps.toList (fun σ k'=>aH T Φ n x hs' σ k') (fun σ k'=>aH T Φ n y (hs'.drop (loops x)) σ k'),k:=k,r:=r,w2:=dB w uY,Xg:=aaW E σ ν O w,Bx:=fun k=>Gk σ ν (bh aN) k∨k=w.heap.size+1}
   obtain⟨n1,n2,n3,n4⟩:=so w uY
   have hlen:∀k,D.len k→D.E.CB k∨D.E.base.heap.size≤k:=fun k hk=>by
    have hb:=h.uU.size
    rcases hk with (⟨b,hb1,ho⟩ |hk) |hk
    ·rcases h.wF _ _ ho with h1 |h1
     ·exact absurd h1 LU
     ·exact h1
    ·exact .inr (by show E.base.heap.size≤k;omega)
    ·refine .inr ?_
     have hk':(dB w uY).heap.size≤k:=hk
     show E.base.heap.size≤k;omega
   have apK:JG D ⟨.slice (jw D.ts),[]⟩ (ad7 E σ ν O w (bh aN)) (dB w uY):=agI (D:=D) (bs:=bh aN) hE h rfl rfl rfl rfl rfl rfl rfl rfl rfl hJ hok hfx Y0
   have hEg:aC (D.YX (ad5 E σ ν O w) (cj T)):=aje hE h rfl rfl rfl hJ hlen _
   have hTg:L3 T (D.YX (ad5 E σ ν O w) (cj T)):=⟨C.QX.1,fun i x hx=>by
    obtain⟨g,cs,h1,h2,h3⟩:=C.QX.2 i x hx
    refine⟨g,cs,h1,h2,h3.of fun key u ⟨ad,e,hlt,hv⟩=>⟨ad,e, ?_,ad,rfl, .inl ⟨hlt,hv⟩⟩⟩
    show ad.block<(dB w uY).heap.size
    have:=h.keep.size;omega⟩
   have hYg:Gi P (D.YX (ad5 E σ ν O w) (cj T)):=YY (D:=D) rfl rfl C hD hJ hacc hlen Sx Sy (by have:=h.slots.1;simpa using this.symm) (.inl (.inr rfl))
   have anw:=ad9 (D:=D) (xh:=xh) hE h rfl rfl rfl hJ e5 (C.sigs v) e9 e2 e4 rfl apK
   obtain⟨⟨fd,hfd,hbody,hname⟩,Bn⟩:=hG v xh yh e3 e7
   have hf:ah (view E σ ν O w) σ ν E.Y (σ.av f) (a.eval f):=h.av C.QX.1 f
   rw[e1] at hf
   obtain⟨vs,hf1,hf2⟩:=hf
   have U3:=Bn (D.YX (ad5 E σ ν O w) (cj T)) (Qg ν (bh aN)) (#[.func (.yield (w.heap.size+1)) #[] #[]]++vs.toArray) _ hEg hTg hYg (ad4 D _ _) (fun O2 w2 hj=>by
    obtain⟨_,_,_,_,_,_,e,_⟩:=hj
    injection e with e;cases e) (by rw[e8];exact .inl rfl) anw (by
     have:(#[.func (.yield (w.heap.size+1)) #[] #[]]++vs.toArray:Array Value).toList= .func (.yield (w.heap.size+1)) #[] #[]::vs:=by simp
     rw[this]
     exact agJ e2 hf2)
   rw[e6] at hfd U3
   have alp:Calls P g (#[.func (.yield (w.heap.size+1)) #[] #[]]++vs.toArray) (dB w uY) (fun e w'=>∃r O',e= .returned r∧JG D (Nz T v yh) O' w'):=U3
   clear U3 Bn anw hYg hTg hEg
   have hb:fd.body.isNone=false:=by cases hfb:fd.body<;>simp_all
   have hn1:¬fd.name= "runtime.NumGoroutine" :=by simpa using hname
   have hb1:¬fd.body=none:=by intro e;rw[e] at hb;cases hb
   refine⟨w.heap.size+1,[{target:= .collected w.heap.size,args:= #[]}],dB w uY,{target:= .fn (.func g) vs.toArray,args:= #[.func (.yield (w.heap.size+1)) #[] #[]]},dB w uY,g,
    #[.func (.yield (w.heap.size+1)) #[] #[]]++vs.toArray,dB w uY,run_enterLoop_outer _ _ _ _ _, ?_,fun _ _=>trivial, ?_,fun e=>(by cases e), ?_⟩
   ·simp only[resolve,hf1]
    simp[go_sem]
   ·simp[invoke,callFunc,hfd,hn1,hb1,go_sem]
   ·refine Sc (Calls.mono (R:=fun e w'=>∃r O',e= .returned r∧JG D (Nz T v yh) O' w') alp ?_)
    rintro e w3 ⟨rv,Og,rfl,xs,rest,σ1,ν1,Oc,m,Uh,j⟩
    rw[e8] at Uh
    injection Uh with _ Uh
    try simp only[heq_eq_eq] at Uh
    subst Uh
    have R1:rest=[]:=by
     have:=j.ys
     exact(List.append_cancel_left (as:=ys) (by rw[List.append_nil];exact this)).symm
    subst R1
    have hl:=j.loop
    cases m with
    |zero=>cases hl
    |succ m=>
     simp only[lq] at hl
     have hRB:D.RB=ir ps.toList (fun σ k'=>aH T Φ n x hs' σ k') (fun σ k'=>aH T Φ n y (hs'.drop (loops x)) σ k'):=rfl
     rw[hRB] at hl
     unfold ir at hl
     rw[j.b7] at hl
     dsimp only at hl
     have hl':k .normal {σ1.Ba with b7:=σ1.b7.tail}=some r:=hl
     have hrun:=run_endLoop (P:=P) j.YW (by show uY.state≠_;simp[uY])
     obtain⟨q1,q2,q3⟩:=St.WK (E:=E.ix a w.heap.size) (hE.ix _ _) hJ j.st j.YW j.cl (hlen _ (.inl (.inr rfl))) {uY with state:= .exhausted}
     have hks:=Vk j.fr (fun i hi=>by
      have hi:i∈σ.tmps.s.map (·.1):=hi
      rw[←f1.ks] at hi
      obtain⟨p,hp,rfl⟩:=List.mem_map.1 hi
      have:=YT.2 p hp
      rw[Nat.ble_eq] at this
      simp only[kl,Bool.and_eq_false_iff]
      exact .inr (by cases hb:Nat.blt p.1 (10000*(1+1)) with
       |false=>rfl
       |true=>rw[sT] at hb;omega))
     have aaV:=q1.ajd (fun i x hx=>by
      have h1:=yB hx
      have h2:i∈σ1.Ba.tmps.s.map (·.1):=List.mem_map_of_mem (f:=(·.1)) h1
      rw[hks] at h2
      have h2:i∈σ.tmps.s.map (·.1):=h2
      rw[←f1.ks] at h2
      obtain⟨p,hp,rfl⟩:=List.mem_map.1 h2
      have:=YT.2 p hp
      rwa [Nat.ble_eq] at this) h.keep.size (fun d hd=>by
       obtain⟨r',g1,g2,_⟩:=h.marks d hd
       exact⟨r',g1,g2⟩) (List.nodup_cons.2 ⟨fun hm=>by
       obtain⟨r',g1,_,g2,_⟩:=h.marks _ hm
       injection g1 with g1
       injection g1 with g1
       have:=(Array.getElem?_eq_some_iff.1 g2).1
       omega,h.nd⟩)
     refine⟨none,_,hrun,⟨_,hl',⟨?_,j.fr.sites,j.fr.s,j.fr.tr,hks⟩,ν1,Oc,aaV⟩⟩
     show σ1.b7.tail=_
     rw[j.b7,hrn];rfl
 ·cases he
end
end Go.Abs
namespace Go.Abs
open Go.RowKit Go.Lib
section
variable {P:Program}{T:cm}{Φ:bF T}{E:Env}{σ σ':AS}{a a':Act}{w w':World}{ν ν':Nm→Value}{O O':Nat→Prop}{V V':View}{Y:Value}
theorem ArgRel.g:∀{p:nr} {x:p.den} {v:Value} (i:Nat),ArgRel V p x v→Ro V ν Y i p x v
 | .v _,_,_,_,h=>h
 | .fn _ _,_,_,_,h=>h
 | .c _,_,_,_,h=>h
 | .rp _,_,_,_,h=>h
 | .bx _,_,_,_,h=>h.elim
 | .K4,_,_,_,h=>h.elim
theorem mo.g:∀{ps:List nr} {x:F0 ps} {vs:List Value} (i:Nat),mo V ps x vs→Qe V ν Y i ps x vs∧c9 ps x i=[]
 | [],x,vs,i,h=>⟨h,rfl⟩
 | [p],x,vs,i,h=>by
   obtain⟨v,rfl,h1⟩:=h
   refine⟨⟨v,rfl,h1.g i⟩, ?_⟩
   cases p<;>first |rfl |exact h1.elim
 |p::q::ps,x,vs,i,h=>by
  obtain⟨v,r,rfl,h1,h2⟩:=h
  obtain⟨h3,h4⟩:=mo.g (i+1) h2
  refine⟨⟨v,r,rfl,h1.g i,h3⟩, ?_⟩
  show c9.one p x.1 i++c9 (q::ps) x.2 (i+1)=[]
  rw[h4]
  cases p<;>first |rfl |exact h1.elim
theorem Vo:∀{ts:List Ty} {x:rB ts} {vs:List Value},Dd V ts x vs→aA (rE V σ ν) (RI.aas ts x) vs
 | [],x,vs,h=>by have:vs=[]:=h;subst this;trivial
 | [t],x,vs,h=>by obtain⟨v,rfl,h1⟩:=h;exact⟨h1,trivial⟩
 |t::u::ts,x,vs,h=>by
  obtain⟨v,r,rfl,h1,h2⟩:=h
  exact⟨h1,Vo h2⟩
theorem acs {p:nr}{x:p.den}{v:Value}{i:Nat}(h:Ro V ν Y i p x v)(hb:∀t,p= .bx t→Bf σ ν i 0 (ν (.box i))):ah V σ ν Y (RI.one p x i) v:=by
 cases p with
 |v t=>exact J7 h
 |fn f ts=>obtain⟨vs,h1,h2⟩:=h;exact⟨vs,h1,Vo h2⟩
 |c cs=>exact h
 |rp t=>exact h
 |bx t=>have h':v=ν (.box i):=h;subst h';exact hb t rfl
 |K4=>exact h
theorem NB:∀{ps:List nr} {x:F0 ps} {i k:Nat} {t:Ty},ps[k]? =some (.bx t)→(look (c9 ps x i) (i+k)).isSome=true
 | [],x,i,k,t,h=>by simp at h
 | [p],x,i,0,t,h=>by
   simp only[List.getElem?_cons_zero,Option.some.injEq] at h
   subst h
   simp[c9,c9.one,look]
 | [p],x,i,k+1,t,h=>by simp at h
 |p::q::ps,x,i,0,t,h=>by
  simp only[List.getElem?_cons_zero,Option.some.injEq] at h
  subst h
  simp[c9,c9.one,look]
 |p::q::ps,x,i,k+1,t,h=>by
  have ih:=NB (ps:=q::ps) (x:=x.2) (i:=i+1) (k:=k) (by simpa using h)
  rw[show i+(k+1)=i+1+k by omega]
  show (look (c9.one p x.1 i++c9 (q::ps) x.2 (i+1)) _).isSome=true
  cases p with
  |bx u=>
   simp only[c9.one,List.cons_append,List.nil_append,look]
   cases hb:Nat.beq i (i+1+k) with
   |true=>rfl
   |false=>exact ih
  |_=>exact ih
theorem SL:∀{ps:List nr} {x:F0 ps} {vs:List Value} {i:Nat},Qe V ν Y i ps x vs→(∀(k:Nat) t,ps[k]? =some (.bx t)→Bf σ ν (i+k) 0 (ν (.box (i+k))))→aA (ah V σ ν Y) (RI ps x i) vs∧vs.length=ps.length
 | [],x,vs,i,h,hb=>by have:vs=[]:=h;subst this;exact⟨trivial,rfl⟩
 | [p],x,vs,i,h,hb=>by
   obtain⟨v,rfl,h1⟩:=h
   exact⟨⟨acs h1 (fun t e=>hb 0 t (by simp[e])),trivial⟩,rfl⟩
 |p::q::ps,x,vs,i,h,hb=>by
  obtain⟨v,r,rfl,h1,h2⟩:=h
  obtain⟨h3,h4⟩:=SL (i:=i+1) h2 (fun k t e=>by
   have:=hb (k+1) t (by simpa using e)
   rw[show i+(k+1)=i+1+k by omega] at this;exact this)
  exact⟨⟨acs h1 (fun t e=>hb 0 t (by simp[e])),h3⟩,by simp[h4]⟩
theorem Vp {R:AV→Value→Prop}{g:Nat→Value}:∀{l:List AV} {vs:List Value} {acc:List (Nat×AV)} {i:Nat},aA R l vs→(∀j x,look acc j=some x→R x (g j))→
  (∀k v,vs[k]? =some v→g (i+k)=v)→∀j x,look (afB i l acc) j=some x→R x (g j)
 | [],[],acc,i,_,ha,_,j,x,h=>ha j x h
 |y::l,v::vs,acc,i,h,ha,hg,j,x,hx=>by
  refine Vp (i:=i+1) (acc:=(i,y)::acc) h.2 (fun j z hz=> ?_) (fun k u hu=> ?_) j x hx
  ·simp only[look] at hz
   cases hb:Nat.beq i j with
   |true=>
    have:=(beq_iff _ _).1 hb;subst this
    rw[hb] at hz
    obtain rfl:y=z:=by simpa using hz
    have:=hg 0 v rfl
    rw[Nat.add_zero] at this
    rw[this];exact h.1
   |false=>rw[hb] at hz;exact ha j z hz
  ·rw[Nat.add_assoc,Nat.add_comm 1 k];exact hg (k+1) u (by simpa using hu)
 | [],_::_,_,_,h,_,_,_,_,_=>h.elim
 |_::_,[],_,_,h,_,_,_,_,_=>h.elim
theorem O0 {R:AV→Value→Prop}{l:List AV}{vs:List Value}{X:Nat→Value}(h:aA R l vs)(m:Nat){s:List (Nat×AV)}(hs:∀i x,look s i=some x→R x (X i)):HA R (eT.of l m s) (vs++List.replicate m undef) X:=by
 refine⟨by simp[eT.of,h.length],fun j x hx=> ?_,hs⟩
 refine Vp (g:=fun j=>(vs++List.replicate m undef).getD j undef) h (fun j x hx=>by cases hx) (fun k v hv=> ?_) j x hx
 have hk:=(List.getElem?_eq_some_iff.1 hv).1
 simp[List.getD,List.getElem?_append_left hk,hv]
theorem St.begin {fn:Func}{v:Nat}{xh:A9 T v}{vals:Array Value}(hG:L3 T E)(h:St E (s9 T v xh) ⟨#[],[]⟩ E.w0 ν O)
  (ha:Qe (view E (s9 T v xh) ν O E.w0) ν E.Y 0 (T.sig v).args (uO _ xh) vals.toList):
  St E (Na T fn v xh) {tmps:=vals++Array.replicate (fn.ntmps - vals.size) undef,defers:=[]} E.w0 ν O:=by
 obtain⟨h1,h2⟩:=SL (σ:=s9 T v xh) ha (fun k t e=>by
  have h3:=NB (x:=uO _ xh) (i:=0) e
  obtain⟨bx,h4⟩:=Option.isSome_iff_exists.1 h3
  obtain⟨g,h5,_⟩:=h.box (b:=0+k) h4
  exact⟨h3,g,h5,h5⟩)
 refine h.aat (σ':=Na T fn v xh) ⟨rfl,rfl,rfl,rfl⟩ rfl ?_
 have e:(vals++Array.replicate (fn.ntmps - vals.size) undef).toList=vals.toList++List.replicate (fn.ntmps - (T.sig v).args.length) undef:=by
  rw[Array.toList_append,Array.toList_replicate, ←h2];simp
 show HA _ _ (vals++Array.replicate (fn.ntmps - vals.size) undef).toList _
 rw[e]
 refine O0 h1 _ (fun i x hx=> ?_)
 obtain⟨g,cs,rfl,rfl,h3⟩:=hG.2 i x hx
 rw[hG.1 g]
 exact h3.mono fun key u ⟨ad,e,hlt,hv⟩=>by subst e;exact .inl ⟨hlt,hv⟩
theorem St.alq {tmps:Array Value}{d:Deferred}{ds:List Deferred}(hE:aC E)(h:St E σ ⟨tmps,d::ds⟩ w ν O)(hM:∀r,E.M r→r<E.w0.heap.size)(hb:E.base.heap.size≤E.w0.heap.size):
  ∃r,d=⟨.collected r, #[]⟩∧w.heap[r]? =some (.deferred (some []))∧St E σ ⟨tmps,ds⟩ (w.putObj r (.deferred none)) ν O:=by
 obtain⟨r,hd,h1,h2,h3⟩:=h.marks d (by simp)
 refine⟨r,hd,h2, ?_⟩
 have hg:Grow (fun k=>k=r) w (w.putObj r (.deferred none)):=IB
 have hne:∀m,¬Own σ ν m r:=fun m hm=>by
  obtain⟨cur,e,h4⟩:=h.Pb hm
  rw[h2] at h4;cases h4
 have hblk:∀k o,w.heap[k]? =some o→k≠r→(w.putObj r (.deferred none)).heap[k]? =some o:=fun k o h4 h5=>by
  rw[hg.block k (Array.getElem?_eq_some_iff.1 h4).1 h5];exact h4
 have hV:∀key u,view E σ ν O w key u→view E σ ν O (w.putObj r (.deferred none)) key u:=fun key u hu=>by
  cases key with
  |cell ad=>
   rcases hu with hu | ⟨h4,h5,h6,h7⟩
   ·exact .inl hu
   ·have h8:ad.block≠r:=fun e=>by
     unfold World.cell? at h7
     rw[e,h2] at h7;cases h7
    exact .inr ⟨h4,h5,h6,by rw[World.cell?_of_block (hg.block _ (Gh h7) h8)];exact h7⟩
  |ref i n=>exact hu
 refine⟨h.keep.trans hg (fun k hk e=>by subst e;omega),fun d' XR=> ?_,h.slots.mono (ah.mono hV (Sub.refl _ _)),fun m o ho=> ?_,h.inj,fun m k hm=> ?_,h.new,⟨hE.stay _ _ _ _ _ h.out.1 hg (fun k e=>by subst e;exact⟨h3,fun hlt=>by omega⟩),fun k hk=>⟨Nat.lt_of_lt_of_le (h.out.2 k hk).1 hg.size,(h.out.2 k hk).2⟩⟩,h.nn,h.ro,h.kept,fun r' hr'=> ?_,h.uU.trans hg (fun k hk e=>by subst e;omega),h.wF,h.Nb, ?_⟩
 ·obtain⟨r',h4,h5,h6,h7⟩:=h.marks d' (by simp[XR])
  refine⟨r',h4,h5,hblk r' _ h6 (fun e=> ?_),h7⟩
  subst e
  have:=h.nd
  rw[List.nodup_cons] at this
  rw[hd, ←h4] at this
  exact this.1 XR
 ·exact(h.AT m o ho).mono hV (fun k hk=>hg.block k (h.yD m k ⟨aX ho,hk⟩).2.1 (fun e=>by subst e;exact hne m ⟨aX ho,hk⟩)) (fun r' _ hr'=>⟨rfl,hr'⟩)
 ·obtain⟨h4,h5,h6⟩:=h.yD m k hm
  exact⟨h4,Nat.lt_of_lt_of_le h5 hg.size,h6⟩
 ·obtain⟨h4,h5⟩:=h.waits r' hr'
  exact⟨hblk r' _ h4 (fun e=>by subst e;have:=hM _ hr';omega),h5⟩
 ·have:=h.nd
  rw[List.nodup_cons] at this
  exact this.2
theorem Gl {F:Fence}{n:Nat}{fn:Func}{tmps:Array Value}{R:Ending→World→Prop}(hE:aC E)(hM:∀r,E.M r→r<E.w0.heap.size)(hb:E.base.heap.size≤E.w0.heap.size)
  (hend:∀w',St E σ ⟨tmps,[]⟩ w' ν O→∃v,(results fn tmps).run P w'= .ok v w'∧R (.returned v) w'):∀(ds:List Deferred) (w:World),St E σ ⟨tmps,ds⟩ w ν O→LeavesInM F n P fn tmps R ds .returning w
 | [],w,h=>hend w h
 |d::ds,w,h=>by
  obtain⟨r,h1,h2,h3⟩:=h.alq hE hM hb
  refine⟨(by intro e;cases e), .inl ⟨r,_,by rw[h1],run_takeDeferred h2,Gl hE hM hb hend ds _ h3⟩⟩
theorem St.alr (hJ:E.J=jX)(hOm:∀k,¬E.Om k)(h:St E σ a w ν O):St E σ a w ν (fun _=>False):=by
 have hV:∀key u,view E σ ν O w key u→view E σ ν (fun _=>False) w key u:=fun key u hu=>by
  cases key with
  |cell ad=>exact hu.imp id (fun⟨h1,h2,h3,h4⟩=>⟨h1,h2,id,h4⟩)
  |ref i n=>exact hu
 refine⟨h.keep,fun d hd=> ?_,h.slots.mono (ah.mono hV (Sub.refl _ _)),fun m o ho=>(h.AT m o ho).mono hV (fun _ _=>rfl) (fun r _ hr=>⟨rfl,hr⟩),h.inj,fun m k hm=> ?_,h.new,⟨?_,fun _ hf=>hf.elim⟩,h.nn,h.ro,h.kept,fun r hr=>⟨(h.waits r hr).1,id⟩,h.uU,h.wF,fun k hk=>hOm k hk,h.nd⟩
 ·obtain⟨r,h1,h2,h3,_⟩:=h.marks d hd
  exact⟨r,h1,h2,h3,id⟩
 ·obtain⟨h1,h2,_⟩:=h.yD m k hm
  exact⟨h1,h2,id⟩
 ·have:=h.out.1
  rw[hJ] at this ⊢;exact this
def IC (tmps:Array Value):ResultVar→Sem Value
 | .tmp t=>pure (tmps.getD t undef)
 | .cell x t=>do loadVar t (←asAddr (tmps.getD x undef))
theorem Gm (hT:iu P T.rows)(h:St E σ a w ν O){rv:ResultVar}{av:AV}(he:F5 T.rows σ rv=some av):
  ∃v,(IC a.tmps rv).run P w= .ok v w∧ah (view E σ ν O w) σ ν E.Y av v:=by
 cases rv with
 |tmp t=>
  simp only[F5,Option.some.injEq] at he
  subst he
  refine⟨a.tmps.getD t undef,rfl, ?_⟩
  have:=Nc (fun v=>by trivial) h.slots t
  simpa using this
 |cell x t=>
  simp only[F5] at he
  split at he
  ·rename_i b off r hb hr
   obtain⟨rfl,hr'⟩:=hT t r hr
   have hx:=Nc (fun v=>by trivial) h.slots x
   rw[hb] at hx
   obtain⟨_,g,hg,hu⟩:=hx
   have hu':a.tmps.getD x undef= .pointer (some ⟨g,off,none⟩):=by simpa using hu
   split at he
   ·rename_i cs hcs
    obtain⟨g',e1,cur,e,hgc,b8⟩:=h.box hcs
    rw[hg] at e1
    simp only[Value.pointer.injEq,Option.some.injEq,Addr.mk.injEq,and_true] at e1
    subst e1
    have hc:∀j u,(cur.toList.drop off)[j]? =some u→w.cell? ((⟨g,off,none⟩:Addr).add j)=some u:=by
     intro j u hj
     rw[UK,cell_of_row w _ _ cur e (0,0) hgc]
     simpa using Iq hj
    obtain⟨v',h1,h2⟩:=Yb (P:=P) hr' hc (b8.drop off) he (σ:=σ) (ν:=ν) (Y:=E.Y)
    refine⟨v', ?_,h2⟩
    simp only[IC,hu',asAddr,Sem.run_bind,Sem.run_pure,Result.andThen_ok,h1]
   ·rename_i q hq
    obtain⟨g',e1,e,hgc,hql⟩:=h.box hq
    rw[hg] at e1
    simp only[Value.pointer.injEq,Option.some.injEq,Addr.mk.injEq,and_true] at e1
    subst e1
    split at he
    ·rename_i ut pV
     cases h0:Nat.beq off 0 with
     |false=>rw[h0] at he;cases he
     |true=>
      rw[h0] at he
      simp only[cond_true,Option.some.injEq] at he
      subst he
      have:=(beq_iff _ _).1 h0
      subst this
      refine⟨ν (.row q), ?_,rfl,hql⟩
      have hc:w.cell? ⟨g,0,none⟩=some (ν (.row q)):=by rw[cell_of_row w _ _ _ e (0,0) hgc];rfl
      have ha:=JU hr' w
      rw[pV] at ha
      simp only[IC,hu',asAddr,Sem.run_bind,Sem.run_pure,Result.andThen_ok]
      simp[loadVar,ha,hc]
    ·cases he
   ·cases he
  ·cases he
theorem ID {fn:Func}{vs:List Value}(h:(fn.results.toList.mapM (IC a.tmps)).run P w= .ok vs w):
  (results fn a.tmps).run P w= .ok (match vs with | [v]=>v |l=> .tuple l.toArray) w:=by
 have e:results fn a.tmps=(do
   let vs ←fn.results.mapM (IC a.tmps)
   pure (if h:vs.size=1 then vs[0] else .tuple vs)):=by
  unfold results
  have:(fun rv=>(match rv with |ResultVar.tmp t=>pure (a.tmps.getD t undef) | .cell x t=>do loadVar t (←asAddr (a.tmps.getD x undef)):Sem Value))=IC a.tmps:=by
   funext rv;cases rv<;>rfl
  rw[←this];rfl
 rw[e,Array.mapM_eq_mapM_toList]
 simp only[Sem.run_bind,Sem.run_map,h,Result.andThen_ok,Sem.run_pure]
 match vs with
 | []=>rfl
 | [v]=>rfl
 |v::u::r=>simp
end
end Go.Abs
namespace Go.Abs
open Go.RowKit Go.Lib
section
variable {P:Program}{T:cm}{Φ:bF T}{E:Env}{σ σ' es:AS}{a a':Act}{w w':World}{ν ν':Nm→Value}{O O':Nat→Prop}{V V':View}{Y:Value}{fr fb:Nat→Nat}{hin:List Nat}
def Y1 (fr fb:Nat→Nat):Nm→Nm
 | .row k=> .row (fr k)
 | .box k=> .box (fb k)
 | .hp i n=> .hp i n
def Ui (fr fb:Nat→Nat)(ν:Nm→Value)(m:Nm):Value:=ν (Y1 fr fb m)
def acu (hin:List Nat):Obj→Prop
 | .row row=>dZ hin row.t=true
 | .box (.cells cs)=>∃(t:Ty) (y:t.den),cs=flat t y∧dZ hin t=true
 | .box _=>False
 | .hp _ row=>dZ hin row.t=true
theorem acv (m:Nm):E.wA (Y1 fr fb m)→E.wA m:=fun h=>by
 cases m with
 |row k=>exact absurd h OO
 |box k=>exact absurd h LU
 |hp i n=>exact h
theorem agK (m:Nm)(k:Nat):E.UH (Y1 fr fb m) k→E.UH m k:=fun h=>by
 cases m<;>exact h
structure EP (E:Env) (σ es:AS) (ν:Nm→Value) (fr fb:Nat→Nat) (hin:List Nat):Prop where
 obj:∀m o,es.obj m=some o→σ.obj (Y1 fr fb m)=some o∧acu hin o
 inj:∀m m',(es.obj m).isSome=true→(es.obj m').isSome=true→Y1 fr fb m=Y1 fr fb m'→m=m'
 hp:∀i,i∈hin→es.ae[i]? =σ.ae[i]?
 em:∀i hr,i∉hin→es.ae[i]? =some hr→hr.xs=[]
 kept:HK E.h0 E.n0 es.ae ν
 tr:es.trace=⟨.unit,()⟩
 tm:es.tmps=⟨0,[],[]⟩
 ro:∀i hr,E.ro i=some hr→es.ae[i]? =some hr
theorem EP.own (g:EP E σ es ν fr fb hin){m:Nm}{k:Nat}(h:Own es (Ui fr fb ν) m k):Own σ ν (Y1 fr fb m) k:=by
 obtain⟨o,ho⟩:=Option.isSome_iff_exists.1 h.1
 exact⟨by rw[(g.obj m o ho).1];rfl,h.2⟩
theorem EP.cell (g:EP E σ es ν fr fb hin)(ad:Addr)(u:Value)(hv:view E σ ν O w (.cell ad) u):view E es (Ui fr fb ν) O w (.cell ad) u:=by
 rcases hv with hv | ⟨h1,h2,h3,h4⟩
 ·exact .inl hv
 ·exact .inr ⟨h1,fun⟨m,hm⟩=>h2 ⟨_,g.own hm⟩,h3,h4⟩
theorem EP.ref (g:EP E σ es ν fr fb hin)(i:Nat)(hi:hin.any (Nat.beq i)=true)(n:Nat)(u:Value)(hv:view E σ ν O w (.ref i n) u):view E es (Ui fr fb ν) O w (.ref i n) u:=by
 obtain⟨h1,h2,h3⟩:=hv
 refine⟨h1, ?_,h3⟩
 unfold hlen at h2 ⊢
 rw[g.hp i (km.1 hi)];exact h2
theorem St.finish (h:St E σ a w ν (fun _=>False))(hJ:E.J=jX)(g:EP E σ es ν fr fb hin):St E es ⟨#[],[]⟩ w (Ui fr fb ν) (fun _=>False):=by
 have b8:∀t x cs,dZ hin t=true→Rel (view E σ ν (fun _=>False) w) t x cs→Rel (view E es (Ui fr fb ν) (fun _=>False) w) t x cs:=fun t x cs hr=>Rel.tr g.cell g.ref t x cs hr
 refine⟨h.keep,(fun d hd=>by cases hd),⟨by rw[g.tm];rfl,(fun i x e=>by rw[g.tm] at e;cases e),(fun i x e=>by rw[g.tm] at e;cases e)⟩,fun m o ho=> ?_,fun m m' k h1 h2=>g.inj m m' h1.1 h2.1 (h.inj _ _ k (g.own h1) (g.own h2)),fun m k hm=> ?_,fun m k hm=>(h.new _ k (g.own hm)).imp id (agK m k),⟨?_,fun _ hf=>hf.elim⟩,fun i hr n e h1 h2=> ?_,fun i hr e=>⟨g.ro i hr e,(h.ro i hr e).2⟩,⟨g.kept.num,g.kept.row,g.kept.nm⟩,h.waits,h.uU,fun m k hm=>(h.wF _ k (g.own hm)).imp (acv m) id,h.Nb,List.nodup_nil⟩
 ·obtain⟨h1,h2⟩:=g.obj m o ho
  have h3:=h.AT _ o h1
  show F6 _ es _ w (ν (Y1 fr fb m)) o
  cases o with
  |row row=>
   obtain⟨bm,h4,h5⟩:=h3
   exact⟨bm,h4,h5.mono fun x cs=>b8 _ x cs h2⟩
  |box x=>
   cases x with
   |cells cs=>
    obtain⟨t,y,rfl,h2⟩:=h2
    obtain⟨gb,h4,cur,e,h5,h6⟩:=h3
    exact⟨gb,h4,cur,e,h5,il (b8 t y _ h2 (im h6))⟩
   |own q=>exact h2.elim
   |nil=>exact h2.elim
  |hp k row=>
   match k,h3 with
   |0,⟨h4,bm,h5,h6⟩=>exact⟨h4,bm,h5,h6.mono fun x cs=>b8 _ x cs h2⟩
   |1,⟨gb,cur,ys,x,h4,h5,h6,h7,h8⟩=>exact⟨gb,cur,ys,x,h4,h5,h6,h7,b8 _ _ _ h2 h8⟩
 ·obtain⟨h1,h2,h3⟩:=h.yD _ k (g.own hm)
  exact⟨h1.imp id (Or.imp id (acv m)),h2,h3⟩
 ·have:=h.out.1
  rw[hJ] at this ⊢
  exact g.tr
 ·by_cases hi:i∈hin
  ·rw[g.hp i hi] at e;exact h.nn i hr n e h1 h2
  ·rw[g.em i hr hi e] at h2;simp at h2;omega
theorem SM (wr:List Nat):∀(hs:List Nat) (x:D4 T hs) (l:List aT) (i:Nat),i∈hs→i<l.length→∃hr:aT,(p8 T wr hs x l)[i]? =some hr∧hr.e=(T.ht i).e∧hr.t=(T.ht i).t∧hr.k=(T.ht i).k∧hr.w=wr.any (Nat.beq i)
 | [],_,l,i,h,_=>by simp at h
 | [h],x,l,i,hm,hl=>by
   simp only[List.mem_singleton] at hm
   subst hm
   simp only[p8,sj]
   rw[List.getElem?_set_self hl]
   exact⟨_,rfl,rfl,rfl,rfl,rfl⟩
 |h::j::r,x,l,i,hm,hl=>by
  by_cases hm2:i∈j::r
  ·simp only[p8]
   exact SM wr (j::r) x.2 _ i hm2 (by simpa [sj] using hl)
  ·have:i=h:=by
    rcases List.mem_cons.1 hm with e |e
    ·exact e
    ·exact absurd e hm2
   subst this
   simp only[p8]
   rw[jV wr _ _ _ i hm2]
   simp only[sj]
   rw[List.getElem?_set_self hl]
   exact⟨_,rfl,rfl,rfl,rfl,rfl⟩
theorem Y2 {s t:Ty}(h:s=t)(xs:List (Option (List s.den)))(e:TypeId)(k:Nat)(w:Bool):(⟨e,t,k,w,PX h xs⟩:aT)=⟨e,s,k,w,xs⟩:=UW e k w h xs
theorem Y3 (wr:List Nat){ae:List aT}:∀(hs:List Nat) (x:D4 T hs) (l:List aT) (i:Nat),LO T ae hs=some x→i∈hs→i<l.length→∃hr:aT,ae[i]? =some hr∧hr.t=(T.ht i).t∧(p8 T wr hs x l)[i]? =some ⟨(T.ht i).e,hr.t,(T.ht i).k,wr.any (Nat.beq i),hr.xs⟩
 | [],_,l,i,_,h,_=>by simp at h
 | [h],x,l,i,hx,hm,hl=>by
   simp only[List.mem_singleton] at hm
   subst hm
   simp only[LO,abW] at hx
   split at hx
   ·rename_i hr e
    split at hx
    ·rename_i et
     simp only[Option.some.injEq] at hx
     subst hx
     refine⟨hr,e,et, ?_⟩
     simp only[p8,sj]
     rw[List.getElem?_set_self hl]
     exact congrArg some (Y2 et hr.xs _ _ _)
    ·cases hx
   ·cases hx
 |h::j::r,x,l,i,hx,hm,hl=>by
  simp only[LO] at hx
  split at hx
  ·rename_i y hy
   split at hx
   ·rename_i z hz
    simp only[Option.some.injEq] at hx
    subst hx
    by_cases hm2:i∈j::r
    ·simp only[p8]
     exact Y3 wr (j::r) z _ i hz hm2 (by simpa [sj] using hl)
    ·have:i=h:=by
      rcases List.mem_cons.1 hm with e |e
      ·exact e
      ·exact absurd e hm2
     subst this
     simp only[abW] at hy
     split at hy
     ·rename_i hr e
      split at hy
      ·rename_i et
       simp only[Option.some.injEq] at hy
       subst hy
       refine⟨hr,e,et, ?_⟩
       simp only[p8]
       rw[jV wr _ _ _ i hm2]
       simp only[sj]
       rw[List.getElem?_set_self hl]
       exact congrArg some (Y2 et hr.xs _ _ _)
      ·cases hy
     ·cases hy
   ·cases hx
  ·cases hx
theorem aeb {v:Nat}{xh:A9 T v}{yh:xe T v}{ν0:Nm→Value}(hC:Callee T E v xh)(hk0:HK E.h0 E.n0 (aI T v xh) ν0)(h:St E σ a w ν O)(hy:LO T σ.ae (T.sig v).hout=some (D5 _ yh))(hro:∀i hr,E.ro i=some hr→σ.ae[i]? =some hr):
  (∀i,i∈(T.sig v).hin→(qf T v xh yh)[i]? =σ.ae[i]?)∧(∀i hr,i∉(T.sig v).hin→(qf T v xh yh)[i]? =some hr→hr.xs=[])∧HK E.h0 E.n0 (qf T v xh yh) ν∧(∀i hr,E.ro i=some hr→(qf T v xh yh)[i]? =some hr)∧∀i hr,i∈(T.sig v).hin→σ.ae[i]? =some hr→hr.t=(T.ht i).t:=by
 have agL:(aI T v xh).length=T.ae.length:=by unfold aI;rw[yI,qe]
 have akm:σ.ae.length=T.ae.length:=by rw[h.kept.num, ←hk0.num,agL]
 have same:∀i hr,(aI T v xh)[i]? =some hr→∃hr',σ.ae[i]? =some hr'∧Aa hr hr':=fun i hr e=>by
  have hlt:=(List.getElem?_eq_some_iff.1 e).1
  rw[hk0.num] at hlt
  obtain⟨OE,h1,h2,_⟩:=hk0.row i _ (List.getElem?_eq_getElem hlt)
  obtain⟨G7,h3,h4,_⟩:=h.kept.row i _ (List.getElem?_eq_getElem hlt)
  rw[e] at h1
  obtain rfl:hr=OE:=by simpa using h1
  exact⟨G7,h3,⟨h4.e.trans h2.e.symm,h4.t.trans h2.t.symm,h4.k.trans h2.k.symm,h4.w.trans h2.w.symm⟩⟩
 have hsub:∀i,i∈(T.sig v).hout→i∈(T.sig v).hin:=fun i hi=>Nt (s:=T.sig v) (km.2 hi)
 have hEq:∀i,i∉(T.sig v).hout→(qf T v xh yh)[i]? =(aI T v xh)[i]? :=fun i hi=>jV _ _ _ _ i hi
 have anx:∀i,i∈(T.sig v).hin→(qf T v xh yh)[i]? =σ.ae[i]? :=fun i hi=>by
  by_cases hlt:i<T.ae.length
  ·obtain⟨hs,s1,s2,s3,s4,s5⟩:=SM (T:=T) (T.sig v).hout (T.sig v).hin (D5 _ xh) (cj T) i hi (by rw[qe];exact hlt)
   obtain⟨hr',h1,h2⟩:=same i hs s1
   by_cases ho:i∈(T.sig v).hout
   ·obtain⟨hr,g1,g2,g3⟩:=Y3 (T:=T) (T.sig v).hout (T.sig v).hout (D5 _ yh) (aI T v xh) i hy ho (by rw[agL];exact hlt)
    rw[h1] at g1
    obtain rfl:hr'=hr:=by simpa using g1
    show (p8 T _ _ _ _)[i]? =_
    rw[g3,h1]
    have e1:hr'.e=(T.ht i).e:=h2.e.trans s2
    have e2:hr'.k=(T.ht i).k:=h2.k.trans s4
    have e3:hr'.w=(T.sig v).hout.any (Nat.beq i):=h2.w.trans s5
    rw[←e1, ←e2, ←e3]
   ·have s1':(aI T v xh)[i]? =some hs:=s1
    rw[hEq i ho,s1']
    have Yo:=hC.ro i
    have hf:(T.sig v).hout.any (Nat.beq i)=false:=eq_false_of_ne_true (fun h=>ho (km.1 h))
    rw[km.2 hi,hf] at Yo
    have OE:E.ro i=(aI T v xh)[i]? :=Yo
    rw[s1'] at OE
    exact(hro i hs OE).symm
  ·rw[List.getElem?_eq_none (by unfold qf;rw[yI,agL];omega),List.getElem?_eq_none (by rw[akm];omega)]
 have hEm:∀i hr,i∉(T.sig v).hin→(qf T v xh yh)[i]? =some hr→(aI T v xh)[i]? =some hr∧hr.xs=[]:=fun i hr hi e=>by
  rw[hEq i (fun ho=>hi (hsub i ho))] at e
  refine⟨e, ?_⟩
  unfold aI at e
  rw[jV _ _ _ _ i hi] at e
  exact xp i hr e
 refine⟨anx,fun i hr hi e=>(hEm i hr hi e).2,⟨?_,fun i hr e=> ?_,fun i n h1 h2=>h.kept.nm i n h1 h2⟩,fun i hr e=> ?_,fun i hr hi e=> ?_⟩
 ·show (qf T v xh yh).length=_
  unfold qf;rw[yI];exact hk0.num
 ·by_cases hi:i∈(T.sig v).hin
  ·rw[anx i hi];exact h.kept.row i hr e
  ·have hlt:=(List.getElem?_eq_some_iff.1 e).1
   rw[←hk0.num] at hlt
   have e2:(aI T v xh)[i]? =some (aI T v xh)[i]:=List.getElem?_eq_getElem hlt
   obtain⟨OE,h1,h2,h3⟩:=hk0.row i hr e
   refine⟨OE, ?_,h2,h3⟩
   rw[hEq i (fun ho=>hi (hsub i ho))];exact h1
 ·have h1:=hC.ro i
  rw[e] at h1
  cases hb:((T.sig v).hin.any (Nat.beq i)&& !((T.sig v).hout.any (Nat.beq i))) with
  |false=>rw[hb] at h1;cases h1
  |true=>
   rw[hb,cond_true] at h1
   simp only[Bool.and_eq_true,Bool.not_eq_true'] at hb
   rw[hEq i (fun ho=>by rw[km.2 ho] at hb;cases hb.2)]
   exact h1.symm
 ·have hlt:=(List.getElem?_eq_some_iff.1 e).1
  rw[akm] at hlt
  obtain⟨hs,s1,s2,s3,s4,s5⟩:=SM (T:=T) (T.sig v).hout (T.sig v).hin (D5 _ xh) (cj T) i hi (by rw[qe];exact hlt)
  obtain⟨hr',h1,h2⟩:=same i hs s1
  rw[e] at h1
  obtain rfl:hr=hr':=by simpa using h1
  exact h2.t.trans s3
end
end Go.Abs
namespace Go.Abs
open Go.RowKit Go.Lib
section
variable {P:Program}{T:cm}{Φ:bF T}{E:Env}{σ σ' es:AS}{a a':Act}{w w':World}{ν ν':Nm→Value}{O O':Nat→Prop}{V V':View}{Y:Value}{fr fb:Nat→Nat}{hin:List Nat}
def rowAt (T:List fE)(σ:AS)(rv:ResultVar):Option Nat:=
 match F5 T σ rv with
 |some (.rv (.own r))=>some r
 |_=>none
theorem IE {T:List fE}:∀(l:List ResultVar) (p r:Nat),(l[p]?).bind (rowAt T σ)=some r→r∈sS T σ l
 | [],p,r,h=>by simp at h
 |v::l,0,r,h=>by
  simp only[List.getElem?_cons_zero,Option.bind_some,rowAt] at h
  simp only[sS]
  split at h
  ·rename_i r' hr
   simp only[Option.some.injEq] at h
   subst h
   rw[hr];simp
  ·cases h
 |v::l,p+1,r,h=>by
  have:=IE l p r (by simpa using h)
  simp only[sS]
  split
  ·simp[this]
  ·exact this
theorem SN {T:List fE}:∀(l:List ResultVar),wE (sS T σ l)=true→∀(p q r:Nat),(l[p]?).bind (rowAt T σ)=some r→(l[q]?).bind (rowAt T σ)=some r→p=q
 | [],h,p,q,r,hp,hq=>by simp at hp
 |v::l,h,p,q,r,hp,hq=>by
  have agM:wE (sS T σ l)=true∧∀r',rowAt T σ v=some r'→r'∉sS T σ l:=by
   simp only[sS] at h
   split at h
   ·rename_i r' hr
    simp only[wE,Bool.and_eq_true,Bool.not_eq_true',List.any_eq_false] at h
    refine⟨h.2,fun r2 h2 hm=> ?_⟩
    simp only[rowAt,hr,Option.some.injEq] at h2
    subst h2
    exact h.1 r' hm (beq_refl r')
   ·rename_i hn
    refine⟨h,fun r2 h2=> ?_⟩
    simp only[rowAt] at h2
    cases h2
  cases p with
  |zero=>
   cases q with
   |zero=>rfl
   |succ q=>exact absurd (IE l q r (by simpa using hq)) (agM.2 r (by simpa using hp))
  |succ p=>
   cases q with
   |zero=>exact absurd (IE l p r (by simpa using hp)) (agM.2 r (by simpa using hq))
   |succ q=>rw[SN l agM.1 p q r (by simpa using hp) (by simpa using hq)]
theorem Gn {t:Ty}{e:TypeId}{av:AV}{x:t.den}(h:Im σ hin (t,some e) av=some x):∃r row,av= .rv (.own r)∧look σ.rows r=some row∧ownRow t e x=some row∧t= .slice row.t:=by
 have EN:(∃r,av= .rv (.own r))∨Im σ hin (t,some e) av=none:=by
  cases av with
  |rv x=>cases x<;>first |exact .inl ⟨_,rfl⟩ |exact .inr rfl
  |_=>exact .inr rfl
 rcases EN with ⟨r,rfl⟩ |EN
 ·simp only[Im] at h
  split at h
  ·rename_i row hrow
   cases hb:Nat.beq row.e e with
   |false=>simp[hb] at h
   |true=>
    simp only[hb,cond_true] at h
    have hbe:=(beq_iff _ _).1 hb
    have hc:=C9 h
    refine⟨r,row,rfl,hrow, ?_⟩
    obtain⟨re,rt,rxs⟩:=row
    simp only at hbe hc
    subst hbe
    cases hc
    exact⟨rfl,rfl⟩
  ·cases h
 ·rw[EN] at h;cases h
theorem agN (h:St E σ a w ν (fun _=>False))(g:EP E σ es ν fr fb hin)(hX:∀i k,i∉hin→¬E.XH i k)(hR:∀i hr,i∉hin→E.ro i≠some hr):
  ∀(i n:Nat) (hr:aT) (l:List hr.t.den) (v:Value),(Wn σ.ae hin)[i]? =some hr→ag hr.xs n=some l→bC (view E σ ν (fun _=>False) w) ⟨.ref i,n⟩ v→Src (view E σ ν (fun _=>False) w) (view E es (Ui fr fb ν) (fun _=>False) w) hr.t l v:=by
 intro i n hr l v e hg hv
 unfold Wn at e
 simp only[List.getElem?_map,Option.map_eq_some_iff] at e
 obtain⟨p,hp,e⟩:=e
 rw[List.getElem?_zipIdx] at hp
 simp only[Option.map_eq_some_iff,Nat.zero_add] at hp
 obtain⟨Yo,hp1,rfl⟩:=hp
 dsimp only at e
 cases hi:hin.any (Nat.beq i) with
 |true=>
  rw[hi,cond_true] at e
  subst e
  cases n with
  |zero=>
   simp only[ag,Option.some.injEq] at hg
   subst hg
   have: [v]=[_]:=hv
   simp only[List.cons.injEq,and_true] at this
   exact⟨none,0,[],this,Nat.le_refl _,trivial,fun _=>rfl,fun j u hj=>by simp at hj⟩
  |succ m=>simp[ag] at hg
 |false=>
  rw[hi,cond_false] at e
  subst e
  have hni:i∉hin:=fun hm=>by rw[km.2 hm] at hi;cases hi
  obtain⟨h2,h3,_⟩:=h.JZ hp1 hg hv
  obtain⟨A,c,bm,e1,e2,e3,e4,e5⟩:=Rm h2
  refine⟨A,c,bm,e1,e2,e3,e4,fun j u hj=> ?_⟩
  obtain⟨ad,rfl,hc⟩:=e5 j u hj
  refine⟨ad,rfl, ?_⟩
  have hown:=h3 ad.block (by rw[e1];rfl)
  refine .inr ⟨by rw[xq];exact(h.new _ _ hown).resolve_right (hX i _ hni),fun⟨m,hm⟩=> ?_,id,hc⟩
  rw[xq] at hm
  have h7:=h.inj _ _ _ hown (g.own hm)
  cases m with
  |row k=>cases h7
  |box k=>cases h7
  |hp i' n'=>
   injection h7 with h7 h8
   subst h7 h8
   have h9:=hm.1
   cases n with
   |zero=>cases h9
   |succ n=>
    simp only[AS.obj,ns] at h9
    split at h9
    ·rename_i G7 e6
     rw[g.em i G7 hni e6] at h9
     simp[G6] at h9
    ·cases h9
theorem NC (h:St E σ a w ν (fun _=>False))(g:EP E σ es ν fr fb hin)(hX:∀i k,i∉hin→¬E.XH i k)(hR:∀i hr,i∉hin→E.ro i≠some hr){t:Ty}{av:AV}{x:t.den}{v:Value}
  (hi:dZ hin t=true) (hu:∀r,av= .rv (.own r)→∀k,(look es.rows k).isSome=true→fr k≠r) (he:Im σ hin (t,none) av=some x) (hv:ah (view E σ ν (fun _=>False) w) σ ν Y av v):
  wB (view E es (Ui fr fb ν) (fun _=>False) w) t x v:=by
 have EN:(∃r,av= .rv (.own r))∨Im σ hin (t,none) av=(bif OL av then typed (Wn σ.ae hin) t av else typed [] t av):=by
  cases av with
  |rv x=>cases x<;>first |exact .inl ⟨_,rfl⟩ |exact .inr rfl
  |_=>exact .inr rfl
 rcases EN with ⟨r,rfl⟩ |EN
 ·simp only[Im] at he
  obtain⟨rfl,hlk⟩:=hv
  split at he
  ·rename_i row hrow
   have hc:=C9 he
   obtain⟨A,c,bm,e1,e2,e3,e4,e5⟩:=Rm (h.row hrow)
   have hsrc:Src (view E σ ν (fun _=>False) w) (view E es (Ui fr fb ν) (fun _=>False) w) row.t row.xs (ν (.row r)):=by
    refine⟨A,c,bm,e1,e2,e3,e4,fun j u hj=> ?_⟩
    obtain⟨ad,rfl,hcell⟩:=e5 j u hj
    refine⟨ad,rfl, ?_⟩
    have hown:Own σ ν (.row r) ad.block:=⟨by simp[AS.obj,hrow],by rw[e1];rfl⟩
    refine .inr ⟨by rw[xq];exact(h.new _ _ hown).resolve_right id,fun⟨m,hm⟩=> ?_,id,hcell⟩
    rw[xq] at hm
    have h7:=h.inj _ _ _ (g.own hm) hown
    cases m with
    |row k=>
     injection h7 with h7
     exact hu r rfl k (by have:=hm.1;simpa [AS.obj] using this) h7
    |box k=>cases h7
    |hp i' n'=>cases h7
   have hri:dZ hin row.t=true:=by
    have:t= .slice row.t:=by cases hc;rfl
    rw[this] at hi;exact hi
   have hlr:=hsrc.tr g.cell g.ref hri
   rw[hc] at hlr
   refine wB.O0 (fun u e=> ?_) hlr
   subst e;cases hc
  ·cases he
 ·rw[EN] at he
  cases hb:OL av with
  |true=>rw[hb,cond_true] at he;exact J0 g.cell g.ref (agN h g hX hR) hi he hv
  |false=>rw[hb,cond_false] at he;exact J0 (ae:=[]) g.cell g.ref (fun i n hr l v e=>by simp at e) hi he hv
theorem Y4:∀{vars:List ResultVar} {ts:List LM} {y:rB (ts.map (·.1))} {d:Nat},rC T.rows σ hin vars ts=some y→∀u∈jW d ts y,∃j r row t e,u= .row (d+j) row∧(vars[j]?).bind (rowAt T.rows σ)=some r∧look σ.rows r=some row∧ts[j]? =some (t,some e)∧t= .slice row.t
 | [],[],y,d,h,u,hu=>by simp[jW] at hu
 | [v],[(t,none)],y,d,h,u,hu=>by simp[jW] at hu
 | [v],[(t,some e)],y,d,h,u,hu=>by
   simp only[rC] at h
   obtain⟨av,pW,h⟩:=Option.bind_eq_some_iff.1 h
   obtain⟨r,row,rfl,h1,h2,h3⟩:=Gn h
   simp only[jW] at hu
   rw[h2] at hu
   simp only[List.mem_singleton] at hu
   exact⟨0,r,row,t,e,hu,by simp[rowAt,pW],h1,rfl,h3⟩
 |v::vs,(t,o)::q::ps,y,d,h,u,hu=>by
  simp only[rC] at h
  split at h
  ·rename_i x1 y1 hx hy
   simp only[Option.some.injEq] at h
   subst h
   have ih:=fun u hu=>Y4 (d:=d+1) hy u hu
   have tail:∀u∈jW (d+1) (q::ps) y1,∃j r row t' e,u= .row (d+j) row∧((v::vs)[j]?).bind (rowAt T.rows σ)=some r∧look σ.rows r=some row∧((t,o)::q::ps)[j]? =some (t',some e)∧t'= .slice row.t:=fun u hu=>by
    obtain⟨j,r,row,t',e,h1,h2,h3,h4,h5⟩:=ih u hu
    exact⟨j+1,r,row,t',e,by rw[h1];congr 1;omega,by simpa using h2,h3,by simpa using h4,h5⟩
   cases o with
   |none=>exact tail u hu
   |some e=>
    obtain⟨av,pW,hx⟩:=Option.bind_eq_some_iff.1 hx
    obtain⟨r,row,rfl,h1,h2,h3⟩:=Gn hx
    simp only[jW] at hu
    rw[show ownRow t e ((x1,y1):rB (((t,some e)::q::ps).map (·.1))).1=some row from h2] at hu
    rcases List.mem_cons.1 hu with hu |hu
    ·exact⟨0,r,row,t,e,hu,by simp[rowAt,pW],h1,rfl,h3⟩
    ·exact tail u hu
  ·cases h
 | [],_::_,y,d,h,u,hu=>by simp[rC] at h
 |_::_,[],y,d,h,u,hu=>by simp[rC] at h
 |_::_::_,[_],y,d,h,u,hu=>by simp[rC] at h
theorem acw {us:List TU}(h:L0 us)(σ:AS):(∀k,((look σ.rows k).isSome=true∨∃row,TU.row k row∈us)→(look (σ.app us).rows k).isSome=true)∧∀k,((look σ.boxes k).isSome=true∨∃x,TU.box k x∈us)→(look (σ.app us).boxes k).isSome=true:=by
 induction us generalizing σ with
 |nil=>exact⟨fun k hk=>hk.elim id (fun⟨row,e⟩=>by simp at e),fun k hk=>hk.elim id (fun⟨row,e⟩=>by simp at e)⟩
 |cons u us ih=>
  obtain⟨h1,h2⟩:=ih (fun x hx=>h x (by simp[hx])) (σ.one u)
  refine⟨fun k hk=>h1 k ?_,fun k hk=>h2 k ?_⟩
  ·rcases hk with hk | ⟨row,hk⟩
   ·left
    rcases h u (by simp) with ⟨j,r0,rfl⟩ | ⟨j,x0,rfl⟩
    ·show (look (put _ _ _) k).isSome=true
     rw[aB];split
     ·rfl
     ·exact hk
    ·exact hk
   ·rcases List.mem_cons.1 hk with hk |hk
    ·left;subst hk
     show (look (put _ _ _) k).isSome=true
     rw[aB,if_pos rfl];rfl
    ·exact .inr ⟨row,hk⟩
  ·rcases hk with hk | ⟨row,hk⟩
   ·left
    rcases h u (by simp) with ⟨j,r0,rfl⟩ | ⟨j,x0,rfl⟩
    ·exact hk
    ·show (look (put _ _ _) k).isSome=true
     rw[aB];split
     ·rfl
     ·exact hk
   ·rcases List.mem_cons.1 hk with hk |hk
    ·left;subst hk
     show (look (put _ _ _) k).isSome=true
     rw[aB,if_pos rfl];rfl
    ·exact .inr ⟨row,hk⟩
theorem SO (hT:iu P T.rows)(h:St E σ a w ν (fun _=>False))(g:EP E σ es ν fr fb hin)(hX:∀i k,i∉hin→¬E.XH i k)(hR:∀i hr,i∉hin→E.ro i≠some hr):
  ∀{vars:List ResultVar} {ts:List LM} {y:rB (ts.map (·.1))} {d:Nat},rC T.rows σ hin vars ts=some y→(ts.all fun p=>dZ hin p.1)=true→(∀(j r:Nat),(vars[j]?).bind (rowAt T.rows σ)=some r→∀t e,ts[j]? =some (t,some e)→fr (d+j)=r)→
   (∀(j r:Nat) t,(vars[j]?).bind (rowAt T.rows σ)=some r→ts[j]? =some (t,none)→∀k,(look es.rows k).isSome=true→fr k≠r)→(∀u∈jW d ts y,∀k row,u= .row k row→(look es.rows k).isSome=true)→
   ∃vs,(vars.mapM (IC a.tmps)).run P w= .ok vs w∧aA (rh (view E es (Ui fr fb ν) (fun _=>False) w) es (Ui fr fb ν)) (z7 d ts y) vs
 | [],[],y,d,he,hi,h1,h2,h3=>⟨[],rfl,trivial⟩
 | [rv],[(t,none)],y,d,he,hi,h1,h2,h3=>by
   simp only[rC] at he
   obtain⟨av,pW,he⟩:=Option.bind_eq_some_iff.1 he
   obtain⟨v,hrun,hv⟩:=Gm hT h pW
   simp only[List.all_cons,List.all_nil,Bool.and_true] at hi
   have hp:=NC h g hX hR hi (fun r e k hk=>h2 0 r t (by simp[rowAt,pW,e]) rfl k hk) he hv
   refine⟨[v],by simp[hrun], ?_⟩
   have:=J7 (σ:=es) (ν:=Ui fr fb ν) (Y:=E.Y) hp
   cases t<;>exact⟨this,trivial⟩
 | [rv],[(t,some e)],y,d,he,hi,h1,h2,h3=>by
   simp only[rC] at he
   obtain⟨av,pW,he⟩:=Option.bind_eq_some_iff.1 he
   obtain⟨v,hrun,hv⟩:=Gm hT h pW
   obtain⟨r,row,rfl,g1,g2,g3⟩:=Gn he
   obtain⟨rfl,_⟩:=hv
   refine⟨[ν (.row r)],by simp[hrun], ?_⟩
   have US:=h1 0 r (by simp[rowAt,pW]) t e rfl
   have hm:TU.row d row∈jW d [(t,some e)] y:=by
    have e9:jW d [(t,some e)] y=[TU.row d row]:=by
     show (match ownRow t e y with |some row=>[TU.row d row] |none=>[])=_
     rw[g2]
    rw[e9];simp
   have hsome:=h3 _ hm d row rfl
   have:rh (view E es (Ui fr fb ν) (fun _=>False) w) es (Ui fr fb ν) (.own d) (ν (.row r)):=⟨by show _=ν (.row (fr d));rw[show fr d=r from US],hsome⟩
   cases t<;>exact⟨this,trivial⟩
 |rv::vs,(t,o)::q::ps,y,d,he,hi,h1,h2,h3=>by
  simp only[rC] at he
  split at he
  ·rename_i x1 y1 hx hy
   simp only[Option.some.injEq] at he
   subst he
   rw[List.all_cons,Bool.and_eq_true] at hi
   have hsub:∀u∈jW (d+1) (q::ps) y1,u∈jW d ((t,o)::q::ps) (x1,y1):=fun u hu=>by
    cases o with
    |none=>exact hu
    |some e=>
     simp only[jW]
     split
     ·exact List.mem_cons_of_mem _ hu
     ·exact hu
   obtain⟨us,e1,e2⟩:=SO hT h g hX hR (d:=d+1) hy hi.2 (fun j r hj t' e he=>by
     have:=h1 (j+1) r (by simpa using hj) t' e (by simpa using he)
     rw[show d+(j+1)=d+1+j by omega] at this;exact this) (fun j r t' hj he k hk=>h2 (j+1) r t' (by simpa using hj) (by simpa using he) k hk) (fun u hu k row e=>h3 u (hsub u hu) k row e)
   obtain⟨av,pW,hx⟩:=Option.bind_eq_some_iff.1 hx
   obtain⟨v,hrun,hv⟩:=Gm hT h pW
   have fin:rh (view E es (Ui fr fb ν) (fun _=>False) w) es (Ui fr fb ν) (match o with |some _=> .own d |none=>match t,x1 with | .st t,x=> .agg (flat t x) |t,x=> .cv ⟨t,x⟩) v→∃vs',((rv::vs).mapM (IC a.tmps)).run P w= .ok vs' w∧aA (rh (view E es (Ui fr fb ν) (fun _=>False) w) es (Ui fr fb ν)) (z7 d ((t,o)::q::ps) (x1,y1)) vs':=fun hr=>by
    refine⟨v::us, ?_, ?_⟩
    ·rw[List.mapM_cons]
     simp[hrun,e1]
    ·cases o with
     |none=>cases t<;>exact⟨hr,e2⟩
     |some e=>cases t<;>exact⟨hr,e2⟩
   cases o with
   |none=>
    have hp:=NC h g hX hR hi.1 (fun r e k hk=>h2 0 r t (by simp[rowAt,pW,e]) rfl k hk) hx hv
    have:=J7 (σ:=es) (ν:=Ui fr fb ν) (Y:=E.Y) hp
    refine fin ?_
    cases t<;>exact this
   |some e=>
    obtain⟨r,row,rfl,g1,g2,g3⟩:=Gn hx
    obtain⟨rfl,_⟩:=hv
    have US:=h1 0 r (by simp[rowAt,pW]) t e rfl
    have hm:TU.row d row∈jW d ((t,some e)::q::ps) (x1,y1):=by
     simp only[jW]
     rw[show ownRow t e ((x1,y1):rB (((t,some e)::q::ps).map (·.1))).1=some row from g2];simp
    have hsome:=h3 _ hm d row rfl
    exact fin ⟨by show _=ν (.row (fr d));rw[show fr d=r from US],hsome⟩
  ·cases he
 | [],_::_,y,d,he,hi,h1,h2,h3=>by simp[rC] at he
 |_::_,[],y,d,he,hi,h1,h2,h3=>by simp[rC] at he
 |_::_::_,[_],y,d,he,hi,h1,h2,h3=>by simp[rC] at he
end
end Go.Abs
namespace Go.Abs
open Go.RowKit Go.Lib
section
variable {P:Program}{T:cm}{Φ:bF T}{E:Env}{σ σ' es:AS}{a a':Act}{w w':World}{ν ν':Nm→Value}{O O':Nat→Prop}{V V':View}{Y:Value}{fr fb:Nat→Nat}{hin:List Nat}
theorem IF {boxes:List (Nat×BX)}:∀{ts:List Ty} {aN:List G2} {y:rB ts} {d:Nat},kO boxes ts aN=some y→∀u∈yJ d ts y,∃j b t z,u= .box (d+j) (.cells (flat t z))∧(bh aN)[j]? =some b∧look boxes b=some (.cells (flat t z))∧t∈ts
 | [],[],y,d,h,u,hu=>by simp[yJ] at hu
 | [t],[.box b],y,d,h,u,hu=>by
   simp only[kO] at h
   split at h
   ·rename_i cs hb
    have:=p9 h
    subst this
    simp only[yJ,List.mem_singleton] at hu
    exact⟨0,b,t,y,hu,by simp[bh],hb,by simp⟩
   ·cases h
 |t::t2::ts, .box b::cs,y,d,h,u,hu=>by
  simp only[kO] at h
  split at h
  ·rename_i l hb
   split at h
   ·rename_i x1 hx1
    split at h
    ·rename_i y1 hy
     simp only[Option.some.injEq] at h
     subst h
     have:=p9 hx1
     subst this
     simp only[yJ,List.mem_cons] at hu
     rcases hu with hu |hu
     ·exact⟨0,b,t,x1,hu,by simp[bh],hb,by simp⟩
     ·obtain⟨j,b',t',z,h1,h2,h3,h4⟩:=IF (d:=d+1) hy u hu
      exact⟨j+1,b',t',z,by rw[h1];congr 1;omega,by simpa [bh] using h2,h3,List.mem_cons_of_mem _ h4⟩
    ·cases h
   ·cases h
  ·cases h
 | [],_::_,y,d,h,u,hu=>by simp[kO] at h
 | [_],[],y,d,h,u,hu=>by simp[kO] at h
 | [_],[.oR _],y,d,h,u,hu=>by simp[kO] at h
 | [_], .box _::_::_,y,d,h,u,hu=>by simp[kO] at h
 | [_], .oR _::_::_,y,d,h,u,hu=>by simp[kO] at h
 |_::_::_,[],y,d,h,u,hu=>by simp[kO] at h
 |_::_::_, .oR _::_,y,d,h,u,hu=>by simp[kO] at h
theorem SP {boxes:List (Nat×BX)}:∀{ts:List Ty} {aN:List G2} {y:rB ts} {d:Nat} {us:List Value},kO boxes ts aN=some y→aA (rE V σ ν) aN us→(∀(j b:Nat),(bh aN)[j]? =some b→fb (d+j)=b)→
  (∀u∈yJ d ts y,∀k x,u= .box k x→(look es.boxes k).isSome=true)→aA (rE V' es (Ui fr fb ν)) (P6 d ts) us
 | [],[],y,d,us,h,ha,hf,hb=>by
   cases us with
   |nil=>trivial
   |cons _ _=>exact ha.elim
 | [t],[.box b],y,d,us,h,ha,hf,hb=>by
   match us,ha with
   | [v],ha=>
     obtain⟨⟨_,g,h1,h2⟩,_⟩:=ha
     have hfb:fb d=b:=hf 0 b rfl
     exact⟨⟨hb (.box d (.cells (flat t y))) (by simp[yJ]) _ _ rfl,g,by show ν (.box (fb d))=_;rw[hfb];exact h1,h2⟩,trivial⟩
 |t::t2::ts, .box b::cs,y,d,us,h,ha,hf,hb=>by
  match us,ha with
  |v::us,ha=>
   obtain⟨⟨_,g,h1,h2⟩,ha⟩:=ha
   simp only[kO] at h
   split at h
   ·split at h
    ·rename_i x1 hx1
     split at h
     ·rename_i y1 hy
      simp only[Option.some.injEq] at h
      subst h
      have hfb:fb d=b:=hf 0 b rfl
      refine⟨⟨hb (.box d (.cells (flat t x1))) (by simp[yJ]) _ _ rfl,g,by show ν (.box (fb d))=_;rw[hfb];exact h1,h2⟩,SP (d:=d+1) hy ha (fun j c hj=> ?_) (fun u hu k x e=>hb u (by simp only[yJ];exact List.mem_cons_of_mem _ hu) k x e)⟩
      have:=hf (j+1) c (by simpa [bh] using hj)
      rw[←this];congr 1;omega
     ·cases h
    ·cases h
   ·cases h
 | [],_::_,y,d,us,h,_,_,_=>by simp[kO] at h
 | [_],[],y,d,us,h,_,_,_=>by simp[kO] at h
 | [_],[.oR _],y,d,us,h,_,_,_=>by simp[kO] at h
 | [_], .box _::_::_,y,d,us,h,_,_,_=>by simp[kO] at h
 | [_], .oR _::_::_,y,d,us,h,_,_,_=>by simp[kO] at h
 |_::_::_,[],y,d,us,h,_,_,_=>by simp[kO] at h
 |_::_::_, .oR _::_,y,d,us,h,_,_,_=>by simp[kO] at h
theorem aaX:∀(ts:List LM) (d:Nat) (y:rB (ts.map (·.1))),L0 (jW d ts y):=fun ts d y u hu=>by
 obtain⟨k,row,t,e,rfl,_⟩:=xu ts d y u hu
 exact .inl ⟨k,row,rfl⟩
theorem SQ:∀(ts:List Ty) (d:Nat) (y:rB ts),L0 (yJ d ts y)
 | [],d,y,u,hu=>by simp[yJ] at hu
 | [t],d,y,u,hu=>by simp only[yJ,List.mem_singleton] at hu;exact .inr ⟨_,_,hu⟩
 |t::t2::ts,d,y,u,hu=>by
  simp only[yJ,List.mem_cons] at hu
  rcases hu with hu |hu
  ·exact .inr ⟨_,_,hu⟩
  ·exact SQ (t2::ts) (d+1) y.2 u hu
theorem ajf (hT:iu P T.rows)(h:St E σ a w ν (fun _=>False)){s:HY}{y:LN s}{fn:Func}{ae:List aT}{d:Nat}(Bn:s.gen=none)(hs:G4 T s=true)(hf:T6 T.rows fn.results.toList s σ=some y)
  (hX:∀i k,i∉s.hin→¬E.XH i k) (hR:∀i hr,i∉s.hin→E.ro i≠some hr) (h1:∀i,i∈s.hin→ae[i]? =σ.ae[i]?) (h2:∀i hr,i∉s.hin→ae[i]? =some hr→hr.xs=[]) (h3:HK E.h0 E.n0 ae ν) (h4:∀i hr,E.ro i=some hr→ae[i]? =some hr)
  (h5:∀i hr,i∈s.hin→σ.ae[i]? =some hr→hr.t=(T.ht i).t):∃fr fb val,EP E σ ((aF ae).app (Ko d s y)) ν fr fb s.hin∧(results fn a.tmps).run P w= .ok val w∧
   ah (view E ((aF ae).app (Ko d s y)) (Ui fr fb ν) (fun _=>False) w) ((aF ae).app (Ko d s y)) (Ui fr fb ν) E.Y (Yt d s y) val:=by
 -- HZ ae
 have hhp:∀{es:AS},es.ae=ae→∀i n o,es.obj (.hp i n)=some o→σ.obj (.hp i n)=some o∧acu s.hin o:=fun {es} e i n o ho=>by
  simp only[AS.obj,e] at ho ⊢
  cases n with
  |zero=>cases ho
  |succ n=>
   simp only[ns] at ho ⊢
   split at ho
   ·rename_i hr hhr
    by_cases hi:i∈s.hin
    ·have e1:=h1 i hi
     rw[hhr] at e1
     rw[←e1]
     refine⟨ho, ?_⟩
     unfold G6 at ho
     split at ho
     ·simp only[Option.some.injEq] at ho
      subst ho
      show dZ s.hin hr.t=true
      rw[h5 i hr hi e1.symm]
      simp only[G4,Bool.and_eq_true] at hs
      exact List.all_eq_true.1 hs.1.2 i hi
     ·cases ho
    ·rw[h2 i hr hi hhr] at ho
     simp[G6] at ho
   ·cases ho
 obtain⟨args,res,clo,hps,gen⟩:=s
 simp only at Bn
 subst Bn
 cases clo with
 |none=>
  have hf':(bif wE (sS T.rows σ fn.results.toList)|| !(RJ res) then rC T.rows σ (hps.map (·.1)) fn.results.toList res else none)=some y:=hf
  cases hc:(wE (sS T.rows σ fn.results.toList)|| !(RJ res)) with
  |false=>rw[hc] at hf';cases hf'
  |true=>
   rw[hc,cond_true] at hf'
   have XU:=aaX res d y
   generalize hes:(aF ae).app (jW d res y)=es
   obtain⟨a1,a2,a3,_,_⟩:=Sa XU (aF ae)
   rw[hes] at a1 a2 a3
   have hrows:∀k row,look es.rows k=some row→∃j r t e,k=d+j∧(fn.results.toList[j]?).bind (rowAt T.rows σ)=some r∧look σ.rows r=some row∧res[j]? =some (t,some e)∧t= .slice row.t:=fun k row hk=>by
    rw[←hes] at hk
    rcases (yK XU (aF ae) k).1 row hk with g1 |g1
    ·cases g1
    ·obtain⟨j,r,row',t,e,g2,g3,g4,g5,g6⟩:=Y4 hf' _ g1
     injection g2 with g2 g7
     subst g7
     exact⟨j,r,t,e,g2,g3,g4,g5,g6⟩
   have Pd:∀k x,look es.boxes k=some x→False:=fun k x hk=>by
    rw[←hes] at hk
    rcases (yK XU (aF ae) k).2 x hk with g1 |g1
    ·cases g1
    ·obtain⟨_,_,_,_,g2,_⟩:=xu _ _ _ _ g1
     cases g2
   let fr:Nat→Nat:=fun k=>((fn.results.toList[k - d]?).bind (rowAt T.rows σ)).getD 0
   have US:∀(j r:Nat),(fn.results.toList[j]?).bind (rowAt T.rows σ)=some r→fr (d+j)=r:=fun j r hj=>by
    show ((fn.results.toList[d+j - d]?).bind (rowAt T.rows σ)).getD 0=r
    rw[show d+j - d=j by omega,hj];rfl
   have akn:∀(p q r:Nat),(fn.results.toList[p]?).bind (rowAt T.rows σ)=some r→(fn.results.toList[q]?).bind (rowAt T.rows σ)=some r→(∃t e,res[q]? =some (t,some e))→p=q:=fun p q r g1 g2 ⟨t,e,g3⟩=>by
    rw[Bool.or_eq_true] at hc
    rcases hc with hc |hc
    ·exact SN _ hc p q r g1 g2
    ·exfalso
     have:RJ res=true:=by
      unfold RJ;rw[List.any_eq_true];exact⟨(t,some e),List.mem_of_getElem? g3,rfl⟩
     rw[this] at hc;cases hc
   have g:EP E σ es ν fr (fun _=>0) (hps.map (·.1)):=by
    refine⟨fun m o ho=> ?_,fun m m' g1 g2 g3=> ?_,fun i hi=>by rw[a2];exact h1 i hi,fun i hr hi e=>by rw[a2] at e;exact h2 i hr hi e,by rw[a2];exact h3,a3,a1,fun i hr e=>by rw[a2];exact h4 i hr e⟩
    ·cases m with
     |row k=>
      simp only[AS.obj,Option.map_eq_some_iff] at ho
      obtain⟨row,g1,rfl⟩:=ho
      obtain⟨j,r,t,e,rfl,g3,g4,g5,g6⟩:=hrows k row g1
      refine⟨?_, ?_⟩
      ·show (look σ.rows (fr (d+j))).map _=_
       rw[US j r g3,g4];rfl
      ·simp only[G4,Bool.and_eq_true] at hs
       have:=List.all_eq_true.1 hs.2.1.1 _ (List.mem_of_getElem? g5)
       rw[g6] at this
       exact this
     |box k=>
      simp only[AS.obj,Option.map_eq_some_iff] at ho
      obtain⟨x,g1,_⟩:=ho
      exact(Pd k x g1).elim
     |hp i n=>exact hhp a2 i n o ho
    ·have hsb:∀k,(es.obj (.box k)).isSome=true→False:=fun k hk=>by
      simp only[AS.obj,Option.isSome_map] at hk
      obtain⟨x,e⟩:=Option.isSome_iff_exists.1 hk
      exact Pd k x e
     cases m with
     |row k=>
      cases m' with
      |row k'=>
       simp only[AS.obj,Option.isSome_map] at g1 g2
       obtain⟨row,e1⟩:=Option.isSome_iff_exists.1 g1
       obtain⟨row',e2⟩:=Option.isSome_iff_exists.1 g2
       obtain⟨j,r,t,e,rfl,k3,k4,k5,k6⟩:=hrows k row e1
       obtain⟨j',r',t',e',rfl,k3',k4',k5',k6'⟩:=hrows k' row' e2
       have g3':fr (d+j)=fr (d+j'):=by injection g3
       rw[US j r k3,US j' r' k3'] at g3'
       subst g3'
       rw[akn j j' r k3 k3' ⟨_,_,k5'⟩]
      |box k'=>exact(hsb k' g2).elim
      |hp i n=>cases g3
     |box k=>exact(hsb k g1).elim
     |hp i n=>
      cases m' with
      |row k'=>cases g3
      |box k'=>exact(hsb k' g2).elim
      |hp i' n'=>exact g3
   have hres:(res.all fun p=>dZ (hps.map (·.1)) p.1)=true:=by
    simp only[G4,Bool.and_eq_true] at hs
    exact hs.2.1.1
   obtain⟨vs,r1,r2⟩:=SO (d:=d) hT h g hX hR hf' hres (fun j r hj t e he=>US j r hj) (fun j r t hj he k hk=>by
     obtain⟨row,e1⟩:=Option.isSome_iff_exists.1 hk
     obtain⟨j',r',t',e',rfl,k3',k4',k5',k6'⟩:=hrows k row e1
     intro e2
     rw[US j' r' k3'] at e2
     subst e2
     have:=akn j j' r' hj k3' ⟨_,_,k5'⟩
     subst this
     rw[he] at k5';cases k5') (fun u hu k row e=>by
     subst e
     rw[←hes]
     exact(acw XU (aF ae)).1 k (.inr ⟨row,hu⟩))
   rw[show (aF ae).app (Ko d {args:=args,res:=res,clo:=none,ae:=hps,gen:=none} y)=es from hes]
   refine⟨fr,fun _=>0,_,g,ID r1, ?_⟩
   show ah _ _ _ _ (X0 (z7 d res y)) _
   generalize z7 d res y=rvs at r2
   match rvs,vs,r2 with
   | [],[],_=>exact⟨[],rfl,trivial⟩
   | [x],[v],r2=>exact r2.1
   |x::x2::xs,v::v2::vs,r2=>exact⟨_,rfl,r2⟩
   | [],_::_,r2=>exact r2.elim
   | [_],[],r2=>exact r2.elim
   | [_],_::_::_,r2=>exact r2.2.elim
   |_::_::_,[],r2=>exact r2.elim
   |_::_::_,[_],r2=>exact r2.2.elim
 |some fc=>
  obtain⟨f,ts⟩:=fc
  have hf':(match fn.results.toList with
   | [v]=>match F5 T.rows σ v with
     |some (.fn g aN)=>bif Nat.beq g f&&wE (bh aN) then kO σ.boxes ts aN else none
     |_=>none
   |_=>none)=some y:=hf
  split at hf'
  ·rename_i rv hrv
   split at hf'
   ·rename_i g0 aN pW
    cases hc:(Nat.beq g0 f&&wE (bh aN)) with
    |false=>rw[hc] at hf';cases hf'
    |true=>
     rw[hc,cond_true] at hf'
     simp only[Bool.and_eq_true,beq_iff] at hc
     obtain⟨rfl,hnd⟩:=hc
     have XU:=SQ ts d y
     generalize hes:(aF ae).app (yJ d ts y)=es
     obtain⟨a1,a2,a3,_,_⟩:=Sa XU (aF ae)
     rw[hes] at a1 a2 a3
     have hrows:∀k row,look es.rows k=some row→False:=fun k row hk=>by
      rw[←hes] at hk
      rcases (yK XU (aF ae) k).1 row hk with g1 |g1
      ·cases g1
      ·obtain⟨_,_,_,_,g2,_⟩:=IF hf' _ g1
       cases g2
     have Pd:∀k x,look es.boxes k=some x→∃j b t z,k=d+j∧x= .cells (flat t z)∧(bh aN)[j]? =some b∧look σ.boxes b=some (.cells (flat t z))∧t∈ts:=fun k x hk=>by
      rw[←hes] at hk
      rcases (yK XU (aF ae) k).2 x hk with g1 |g1
      ·cases g1
      ·obtain⟨j,b,t,z,g2,g3,g4,g5⟩:=IF hf' _ g1
       injection g2 with g2 g7
       exact⟨j,b,t,z,g2,g7,g3,g4,g5⟩
     let fb:Nat→Nat:=fun k=>((bh aN)[k - d]?).getD 0
     have hfb:∀(j b:Nat),(bh aN)[j]? =some b→fb (d+j)=b:=fun j b hj=>by
      show ((bh aN)[d+j - d]?).getD 0=b
      rw[show d+j - d=j by omega,hj];rfl
     have g:EP E σ es ν (fun _=>0) fb (hps.map (·.1)):=by
      refine⟨fun m o ho=> ?_,fun m m' g1 g2 g3=> ?_,fun i hi=>by rw[a2];exact h1 i hi,fun i hr hi e=>by rw[a2] at e;exact h2 i hr hi e,by rw[a2];exact h3,a3,a1,fun i hr e=>by rw[a2];exact h4 i hr e⟩
      ·cases m with
       |box k=>
        simp only[AS.obj,Option.map_eq_some_iff] at ho
        obtain⟨x,g1,rfl⟩:=ho
        obtain⟨j,b,t,z,rfl,rfl,g3,g4,g5⟩:=Pd k x g1
        refine⟨?_,t,z,rfl, ?_⟩
        ·show (look σ.boxes (fb (d+j))).map _=_
         rw[hfb j b g3,g4];rfl
        ·simp only[G4,Bool.and_eq_true] at hs
         exact List.all_eq_true.1 hs.2.1.2 _ g5
       |row k=>
        simp only[AS.obj,Option.map_eq_some_iff] at ho
        obtain⟨x,g1,_⟩:=ho
        exact(hrows k x g1).elim
       |hp i n=>exact hhp a2 i n o ho
      ·have hsb:∀k,(es.obj (.row k)).isSome=true→False:=fun k hk=>by
        simp only[AS.obj,Option.isSome_map] at hk
        obtain⟨x,e⟩:=Option.isSome_iff_exists.1 hk
        exact hrows k x e
       cases m with
       |box k=>
        cases m' with
        |box k'=>
         simp only[AS.obj,Option.isSome_map] at g1 g2
         obtain⟨x,e1⟩:=Option.isSome_iff_exists.1 g1
         obtain⟨x',e2⟩:=Option.isSome_iff_exists.1 g2
         obtain⟨j,b,t,z,rfl,_,k3,k4,k5⟩:=Pd k x e1
         obtain⟨j',b',t',z',rfl,_,k3',k4',k5'⟩:=Pd k' x' e2
         have g3':fb (d+j)=fb (d+j'):=by injection g3
         rw[hfb j b k3,hfb j' b' k3'] at g3'
         subst g3'
         rw[Pc hnd j j' b k3 k3']
        |row k'=>exact(hsb k' g2).elim
        |hp i n=>cases g3
       |row k=>exact(hsb k g1).elim
       |hp i n=>
        cases m' with
        |box k'=>cases g3
        |row k'=>exact(hsb k' g2).elim
        |hp i' n'=>exact g3
     obtain⟨v,hrun,hv⟩:=Gm hT h pW
     obtain⟨us,e1,e2⟩:=hv
     rw[show (aF ae).app (Ko d {args:=args,res:=res,clo:=some (g0,ts),ae:=hps,gen:=none} y)=es from hes]
     refine⟨fun _=>0,fb,v,g, ?_,us,e1, ?_⟩
     ·have:=ID (P:=P) (fn:=fn) (a:=a) (w:=w) (vs:=[v]) (by rw[hrv];simp[hrun])
      exact this
     ·exact SP hf' e2 hfb (fun u hu k x e=>by
       subst e
       rw[←hes]
       exact(acw XU (aF ae)).2 k (.inr ⟨x,hu⟩))
   ·cases hf'
  ·cases hf'
end
end Go.Abs
namespace Go.Abs
open Go.RowKit Go.Lib
section
variable {P:Program}{T:cm}{Φ:bF T}{E:Env}{σ σ' es:AS}{a a':Act}{w w':World}{ν ν':Nm→Value}{O O':Nat→Prop}
theorem Qi {f:FuncId}{args:Array Value}{w:World}{R:Ending→World→Prop}(h:CallsIn (FW none) 0 P f args w R):Calls P f args w R:=fun cs=>
 let ⟨e,w',fr,q,s,x⟩:=h.2 cs (room_wide _);⟨e,w',fr,q,(comesIn_wide (P:=P)).1 s,x⟩
theorem aec {A:Type}{x:A}:∀{hs:List Nat} {o:Option (D4 T hs)} {y:M6 T A hs},Ia x hs o=some y→uO hs y=x∧(o=some (D5 hs y)∨hs=[])
 | [],o,y,e=>by simp only[Ia,Option.some.injEq] at e;exact⟨e.symm, .inr rfl⟩
 |_::_,some h,y,e=>by simp only[Ia,Option.some.injEq] at e;subst e;exact⟨rfl, .inl rfl⟩
 |_::_,none,y,e=>by cases e
theorem aed {A:Type}{ae:List aT}{x:A}{hs:List Nat}{y:M6 T A hs}(h:Ia x hs (LO T ae hs)=some y):uO hs y=x∧LO T ae hs=some (D5 hs y):=by
 obtain⟨h1,h2⟩:=aec h
 refine⟨h1,h2.elim id (fun e=> ?_)⟩
 subst e;rfl
theorem Y5 {fn:Func}{v:Nat}{e:Ex}{yh:xe T v}(h:Km T fn v e σ=some yh):T6 T.rows fn.results.toList (T.sig v) σ=some (uO _ yh)∧LO T σ.ae (T.sig v).hout=some (D5 _ yh):=by
 have main:(match T6 T.rows fn.results.toList (T.sig v) σ with
  |some y=>Ia y (T.sig v).hout (LO T σ.ae (T.sig v).hout)
  |none=>none)=some yh→T6 T.rows fn.results.toList (T.sig v) σ=some (uO _ yh)∧LO T σ.ae (T.sig v).hout=some (D5 _ yh):=fun h=>by
  split at h
  ·rename_i y hy
   obtain⟨h1,h2⟩:=aed h
   exact⟨by rw[hy,h1],h2⟩
  ·cases h
 cases e with
 |exit i=>cases h
 |normal=>exact main h
 |ret=>exact main h
def L5 (P:Program)(T:cm)(v:Nat)(xh:A9 T v)(yh:xe T v):Prop:=(∃fn,P.funcs[T.real v]? =some fn∧fn.body.isSome=true∧(fn.name== "runtime.NumGoroutine")=false)∧
 ∀(E:Env) (ν:Nm→Value) (args:Array Value) (d:Nat),aC E→L3 T E→Callee T E v xh→St E (aF (aI T v xh)) ⟨#[],[]⟩ E.w0 ν (fun _=>False)→
  mo (view E (aF (aI T v xh)) ν (fun _=>False) E.w0) (T.sig v).args (uO _ xh) args.toList→Calls P (T.real v) args E.w0 (Left T E v xh yh d)
structure L6 (P:Program) (T:cm):Prop where
 mixed:P.follows .mixedOrders=true
 tab:iu P T.rows
 hps:Db P T
 eqs:afR P T
 sigs:Sb T
theorem L6.ctx (hP:L6 P T)(hΦ:Yu P T Φ)(hE:aC E)(hG:L3 T E)(Bm:E.h0.length=T.ae.length)(hY:Gi P E)(hj:∀O w,E.J ⟨.unit,()⟩ O w→E.J=jX):Ctx P T Φ E:=
 ⟨hE,hG,hP.tab,hP.hps,hP.eqs,hP.sigs,hΦ,Bm,hY,hj⟩
theorem Vq {v:Nat}{xh:A9 T v}:(aI T v xh).length=T.ae.length:=by unfold aI;rw[yI,qe]
theorem SR (hP:L6 P T)(hΦ:Yu P T Φ)(hΓ:YU P T Φ){v n:Nat}{xh:A9 T v}{yh:xe T v}{fn:Func}{c:Code}(hf:P.funcs[T.real v]? =some fn)(hb:fn.body=some c)(hname:(fn.name== "runtime.NumGoroutine")=false)(Bn:(T.sig v).gen=none)
  (he:Io T fn c Φ n v xh=some yh):L5 P T v xh yh:=by
 refine⟨⟨fn,hf,by rw[hb];rfl,hname⟩,fun E ν args d hE hG hC hst hargs=> ?_⟩
 obtain⟨hag,hbx⟩:=mo.g (ν:=ν) (Y:=E.Y) 0 hargs
 have e0:s9 T v xh=aF (aI T v xh):=by
  unfold s9 aF
  rw[hbx]
  have:C6 (T.sig v)=⟨.unit,()⟩:=by unfold C6;rw[Bn]
  rw[this]
 have h0:=St.begin (fn:=fn) (vals:=args) hG (xh:=xh) (by rw[e0];exact hst) (by rw[e0];exact hag)
 have alv:=hP.ctx hΦ hE hG (by rw[←hst.kept.num];exact Vq) (D7 hC.j) (fun _ _ _=>hC.j)
 have hM:∀r,E.M r→r<E.w0.heap.size:=fun r hr=>absurd hr (hC.m r)
 have hRo:∀i hr,i∉(T.sig v).hin→E.ro i≠some hr:=fun i hr hi e=>by
  have h1:=hC.ro i
  have hf:(T.sig v).hin.any (Nat.beq i)=false:=eq_false_of_ne_true (fun h=>hi (km.1 h))
  rw[hf,e] at h1;cases h1
 refine Qi (callsIn_of_wp_marks hf hb trivial ?_)
 refine wpIn_mono (SE hP.mixed (fun f ps x y Sx Sy=>Qh hΓ Sx Sy) c E alv (fun tr tr' _ _=>hC.acc tr) none _ _ _ _ E.w0 ν _ he h0 (fun h=>by cases h) (fun e σ' _ _=>hC.acc _)) (fun e a' w' hp=> ?_)
 have fin:∀(ex:Ex) (σ':AS) (a':Act) (w':World),Km T fn v ex σ'=some yh→To E σ' a' w'→LeavesInM (FW none) 0 P fn a'.tmps (Left T E v xh yh d) a'.defers .returning w':=by
  rintro ex σ' ⟨tmps,ds⟩ w' hk ⟨ν',O',h⟩
  obtain⟨k1,k2⟩:=Y5 hk
  refine Gl hE hM hst.uU.size (fun w2 h2=> ?_) ds w' h
  have h3:=h2.alr hC.j hC.om
  obtain⟨q1,q2,q3,q4,q5⟩:=aeb hC hst.kept h3 k2 (fun i hr e=>(h3.ro i hr e).1)
  obtain⟨fr,fb,val,g,g1,g2⟩:=ajf (d:=d) hP.tab h3 Bn (hP.sigs v) k1 hC.hx hRo q1 q2 q3 q4 q5
  exact⟨val,g1,val,_,rfl,h3.finish hC.j g,g2⟩
 cases e with
 |normal=>obtain⟨σ',h1,_,h2⟩:=hp;exact fin _ σ' a' w' h1 h2
 |ret=>obtain⟨σ',h1,_,h2⟩:=hp;exact fin _ σ' a' w' h1 h2
 |exit id=>obtain⟨σ',h1,_,_⟩:=hp;cases h1
 |_=>exact hp.elim
theorem agO:∀{s:HY} {y:LN s} {vars:List ResultVar},s.gen.isSome=true→T6 T.rows vars s σ=some y→vars=[]∧σ.trace=aaU s y
 | ⟨_,_,_,_,some ts⟩,y,[],_,h=>⟨rfl,C9 h⟩
 | ⟨_,_,_,_,some ts⟩,y,_::_,_,h=>by cases h
theorem agP (hP:L6 P T)(hΦ:Yu P T Φ)(hΓ:YU P T Φ){v n:Nat}{xh:A9 T v}{yh:xe T v}{fn:Func}{c:Code}(hf:P.funcs[T.real v]? =some fn)(hb:fn.body=some c)(Bn:(T.sig v).gen.isSome=true)
  (he:Io T fn c Φ n v xh=some yh) (E:Env) (ν:Nm→Value) (args:Array Value) (O:Nat→Prop) (hE:aC E) (hG:L3 T E) (hY:Gi P E) (hD:xZ E) (hnj:∀O w,¬E.J ⟨.unit,()⟩ O w) (hacc:E.acc (Nz T v yh))
  (hst:St E (s9 T v xh) ⟨#[],[]⟩ E.w0 ν O) (hargs:Qe (view E (s9 T v xh) ν O E.w0) ν E.Y 0 (T.sig v).args (uO _ xh) args.toList):
  Calls P (T.real v) args E.w0 fun e w'=>∃r O',e= .returned r∧E.J (Nz T v yh) O' w':=by
 have h0:=St.begin (fn:=fn) (vals:=args) hG (xh:=xh) hst hargs
 have alv:=hP.ctx hΦ hE hG (by rw[←hst.kept.num];exact Vq) hY (fun O w h=>absurd h (hnj O w))
 have hM:∀r,E.M r→r<E.w0.heap.size:=fun r hr=>(Array.getElem?_eq_some_iff.1 (hst.waits r hr).1).1
 have htr:∀(ex:Ex) (σ':AS),Km T fn v ex σ'=some yh→σ'.trace=Nz T v yh∧fn.results.toList=[]:=fun ex σ' hk=>by
  obtain⟨k1,_⟩:=Y5 hk
  obtain⟨k2,k3⟩:=agO Bn k1
  exact⟨k3,k2⟩
 refine Qi (callsIn_of_wp_marks hf hb trivial ?_)
 refine wpIn_mono (SE hP.mixed (fun f ps x y Sx Sy=>Qh hΓ Sx Sy) c E alv hD none _ _ _ _ E.w0 ν _ he h0 (fun h=>by cases h) (fun e σ' h1 _=>by rw[(htr e σ' h1).1];exact hacc)) (fun e a' w' hp=> ?_)
 have fin:∀(ex:Ex) (σ':AS) (a':Act) (w':World),Km T fn v ex σ'=some yh→To E σ' a' w'→LeavesInM (FW none) 0 P fn a'.tmps (fun e w'=>∃r O',e= .returned r∧E.J (Nz T v yh) O' w') a'.defers .returning w':=by
  rintro ex σ' ⟨tmps,ds⟩ w' hk ⟨ν',O',h⟩
  obtain⟨k1,k2⟩:=htr ex σ' hk
  refine Gl hE hM hst.uU.size (fun w2 h2=> ?_) ds w' h
  refine⟨_,ID (P:=P) (fn:=fn) (a:=⟨tmps,[]⟩) (w:=w2) (vs:=[]) (by rw[k2];rfl),_,O',rfl, ?_⟩
  rw[←k1];exact h2.out.1
 cases e with
 |normal=>obtain⟨σ',h1,_,h2⟩:=hp;exact fin _ σ' a' w' h1 h2
 |ret=>obtain⟨σ',h1,_,h2⟩:=hp;exact fin _ σ' a' w' h1 h2
 |exit id=>obtain⟨σ',h1,_,_⟩:=hp;cases h1
 |_=>exact hp.elim
def aaY (P:Program)(T:cm)(B:LS T):Prop:=∀v g,B v=some g→(T.sig v).gen=none∧∀xh yh,g xh=some yh→L5 P T v xh yh
def acx (P:Program)(T:cm)(fns:Nat→Option Func):Prop:=∀v fn,fns v=some fn→P.funcs[T.real v]? =some fn∧(fn.name== "runtime.NumGoroutine")=false
theorem Y6 {B:LS T}{fns:Nat→Option Func}(hP:L6 P T)(hB:aaY P T B)(hF:acx P T fns):∀n,Yu P T (Hz T B fns n)∧YU P T (Hz T B fns n)
 |0=>⟨(fun v x y h=>by cases h),(fun v x y h=>by cases h)⟩
 |n+1=>by
  obtain⟨ih1,ih2⟩:=Y6 hP hB hF n
  refine⟨fun v xh yh h Bn=> ?_,fun v xh yh h Bn=> ?_⟩
  ·simp only[Hz] at h
   split at h
   ·rename_i g hg
    exact(hB v g hg).2 xh yh h
   ·split at h
    ·rename_i fn hfn
     obtain⟨h1,h2⟩:=hF v fn hfn
     split at h
     ·rename_i c hc
      exact SR hP ih1 ih2 h1 hc h2 Bn h
     ·cases h
    ·cases h
  ·simp only[Hz] at h
   split at h
   ·rename_i g hg
    have:=(hB v g hg).1
    rw[this] at Bn;cases Bn
   ·split at h
    ·rename_i fn hfn
     obtain⟨h1,h2⟩:=hF v fn hfn
     split at h
     ·rename_i c hc
      exact⟨⟨fn,h1,by rw[hc];rfl,h2⟩,fun E ν args O hE hG hY hD hnj hacc hst hargs=>agP hP ih1 ih2 h1 hc Bn h E ν args O hE hG hY hD hnj hacc hst hargs⟩
     ·cases h
    ·cases h
end
end Go.Abs
namespace Go.Abs
open Go.RowKit Go.Lib
def isZ:CV→Bool
 | ⟨.int _,n⟩=>decide (n=(0:Int))
 | ⟨.bool,b⟩=> !b
 | ⟨.str,s⟩=>match s with | ⟨⟨[]⟩⟩=>true |_=>false
 | ⟨.slice t,xs⟩=>match (xs:List t.den) with | []=>true |_=>false
 | ⟨.ref _,n⟩=>Nat.beq n 0
 | ⟨.ptr _,n⟩=>Nat.beq n 0
 | ⟨.mp _,n⟩=>Nat.beq n 0
 | ⟨.fn,n⟩=>Nat.beq n 0
 | ⟨.o6 t,o⟩=>match (o:Option (List t.den)) with |none=>true |_=>false
 |_=>false
theorem uZ:∀{t:Ty} {l:List Value} {cs:List CV} {r:List Value},cq t l=some (cs,r)→cs.all isZ=true→cs=Wg t
 | .unit,l,cs,r,h,hz=>by simp only[cq,Option.some.injEq,Prod.mk.injEq] at h;exact h.1.symm
 | .pair a b,l,cs,r,h,hz=>by
   simp only[cq] at h
   split at h
   ·rename_i x l' h1
    split at h
    ·rename_i y l'' h2
     simp only[Option.some.injEq,Prod.mk.injEq] at h
     obtain⟨rfl,rfl⟩:=h
     rw[List.all_append,Bool.and_eq_true] at hz
     rw[uZ h1 hz.1,uZ h2 hz.2]
     rfl
    ·cases h
   ·cases h
 | .st t,l,cs,r,h,hz=>uZ (t:=t) h hz
 | .int k, .int k' n::l,cs,r,h,hz=>by
   simp only[cq] at h
   split at h
   ·simp only[Option.some.injEq,Prod.mk.injEq] at h
    obtain⟨rfl,rfl⟩:=h
    simp[isZ] at hz
    subst hz;rfl
   ·cases h
 | .bool, .bool b::l,cs,r,h,hz=>by
   simp only[cq,Option.some.injEq,Prod.mk.injEq] at h
   obtain⟨rfl,rfl⟩:=h
   simp[isZ] at hz
   subst hz;rfl
 | .str, .string s::l,cs,r,h,hz=>by
   simp only[cq,Option.some.injEq,Prod.mk.injEq] at h
   obtain⟨rfl,rfl⟩:=h
   simp only[List.all_cons,List.all_nil,Bool.and_true,isZ] at hz
   split at hz
   ·rfl
   ·cases hz
 | .slice t, .slice none 0 0::l,cs,r,h,hz=>by
   simp only[cq,Option.some.injEq,Prod.mk.injEq] at h
   obtain⟨rfl,rfl⟩:=h
   rfl
 | .ref _, .slice none 0 0::l,cs,r,h,hz=>by
   simp only[cq,Option.some.injEq,Prod.mk.injEq] at h
   obtain⟨rfl,rfl⟩:=h
   rfl
 | .ptr _, .pointer none::l,cs,r,h,hz=>by
   simp only[cq,Option.some.injEq,Prod.mk.injEq] at h
   obtain⟨rfl,rfl⟩:=h
   rfl
 | .mp _, .map none::l,cs,r,h,hz=>by
   simp only[cq,Option.some.injEq,Prod.mk.injEq] at h
   obtain⟨rfl,rfl⟩:=h
   rfl
 | .o6 _, .slice none 0 0::l,cs,r,h,hz=>by
   simp only[cq,Option.some.injEq,Prod.mk.injEq] at h
   obtain⟨rfl,rfl⟩:=h
   rfl
 | .fn, .nilFunc::l,cs,r,h,hz=>by
   simp only[cq,Option.some.injEq,Prod.mk.injEq] at h
   obtain⟨rfl,rfl⟩:=h
   rfl
def ND:Ty→Ty→Bool
 | .int a, .int b=>decide (a=b)
 | .bool, .bool=>true
 | .str, .str=>true
 | .slice a, .slice b=>ND a b
 | .unit, .unit=>true
 | .pair a b, .pair c d=>ND a c&&ND b d
 | .st a, .st b=>ND a b
 | .o6 a, .o6 b=>ND a b
 | .ref a, .ref b=>Nat.beq a b
 | .ptr a, .ptr b=>Nat.beq a b
 | .mp a, .mp b=>Nat.beq a b
 | .fn, .fn=>true
 |_,_=>false
theorem ER:∀{a b:Ty},ND a b=true→a=b
 | .int a, .int b,h=>by simp[ND] at h;rw[h]
 | .bool, .bool,_=>rfl
 | .str, .str,_=>rfl
 | .slice a, .slice b,h=>by rw[ER (a:=a) (b:=b) h]
 | .unit, .unit,_=>rfl
 | .pair a b, .pair c d,h=>by
   simp only[ND,Bool.and_eq_true] at h
   rw[ER h.1,ER h.2]
 | .st a, .st b,h=>by rw[ER (a:=a) (b:=b) h]
 | .o6 a, .o6 b,h=>by rw[ER (a:=a) (b:=b) h]
 | .ref a, .ref b,h=>by rw[(beq_iff _ _).1 h]
 | .ptr a, .ptr b,h=>by rw[(beq_iff _ _).1 h]
 | .mp a, .mp b,h=>by rw[(beq_iff _ _).1 h]
 | .fn, .fn,_=>rfl
def IG (P:Program):List Field→Option (List (Nat×Nat))
 | []=>some []
 |f::fs=>match P.info? f.type with
  |some i=>match IG P fs with
   |some r=>some ((f.offset,i.size)::r)
   |none=>none
  |none=>none
theorem Vs {P:Program}:∀{fs:List Field} {r:List (Nat×Nat)},IG P fs=some r→fs.mapM (fun f=>(P.info? f.type).map fun i=>(f.offset,i.size))=some r
 | [],r,h=>by simp[IG] at h;subst h;rfl
 |f::fs,r,h=>by
  simp only[IG] at h
  split at h
  ·rename_i i hi
   split at h
   ·rename_i r' hr
    simp only[Option.some.injEq] at h
    subst h
    rw[List.mapM_cons,Vs hr]
    simp[hi]
   ·cases h
  ·cases h
theorem SU {P:Program}:∀{fs:List Field} {r:List (Nat×Nat)},IG P fs=some r→∀(k off size:Nat),r[k]? =some (off,size)→∃(fd:Field) (j:TypeInfo),fs[k]? =some fd∧fd.offset=off∧P.info? fd.type=some j∧j.size=size
 | [],r,h,k,off,size,hk=>by simp[IG] at h;subst h;simp at hk
 |f::fs,r,h,k,off,size,hk=>by
  simp only[IG] at h
  split at h
  ·rename_i i hi
   split at h
   ·rename_i r' hr
    simp only[Option.some.injEq] at h
    subst h
    cases k with
    |zero=>simp at hk;exact⟨f,i,by simp,hk.1,hi,hk.2⟩
    |succ k=>
     obtain⟨fd,j,h1,h2⟩:=SU hr k off size (by simpa using hk)
     exact⟨fd,j,by simpa using h1,h2⟩
   ·cases h
  ·cases h
def Bp:List (Nat×Nat)→List (Nat×Nat)→Bool
 | [],[]=>true
 | (a,b)::r,(c,d)::s=>Nat.beq a c&&Nat.beq b d&&Bp r s
 |_,_=>false
theorem IH:∀{a b:List (Nat×Nat)},Bp a b=true→a=b
 | [],[],_=>rfl
 | (a,b)::r,(c,d)::s,h=>by
   simp only[Bp,Bool.and_eq_true] at h
   rw[(beq_iff _ _).1 h.1.1,(beq_iff _ _).1 h.1.2,IH h.2]
 | [],_::_,h=>by simp[Bp] at h
 |_::_,[],h=>by simp[Bp] at h
def WN (P:Program)(T:List fE)(r:fE):Ty→TypeDesc→Bool
 | .int k, .int k'=>decide (k=k')&&r.qa.isEmpty
 | .bool, .bool=>r.qa.isEmpty
 | .str, .string=>r.qa.isEmpty
 | .slice u, .slice e=>Nat.beq e r.elem&&r.qa.isEmpty&&match jb T e with
   |some re=>ND re.ty u
   |none=>false
 | .st u, .struct fs=> !r.arr&&match IG P fs.toList with
   |some l=>Bp l r.qa&&l.all fun p=>Nat.blt 0 p.2&&Nat.ble (p.1+p.2) u.size
   |none=>false
 | .st u, .array n e=>r.arr&&match P.info? e with
   |some j=>Bp ((List.range n).map fun i=>(i*j.size,j.size)) r.qa&&Nat.blt 0 j.size&&Nat.beq u.size (n*j.size)
   |none=>false
 | .ptr _, .pointer _=>r.qa.isEmpty
 | .mp _, .map _ _=>r.qa.isEmpty
 | .fn, .func _ _ _=>r.qa.isEmpty
 |_,_=>false
def zOk (t:Ty)(z:Value):Bool:=match t,z with
 | .st _, .agg _=>true
 | .st _,_=>false
 | .slice _, .slice none 0 0=>true
 | .slice _,_=>false
 |_, .agg _=>false
 |_,_=>true
theorem Vt {u:Ty}{z:Value}(h:zOk (.slice u) z=true):z= .slice none 0 0:=by
 unfold zOk at h
 split at h<;>first |rfl | (rename_i e _;cases e;done) | (rename_i e;cases e;done) | (cases h;done) |skip
 all_goals simp_all
theorem agQ {t:Ty}{z:Value}(h:zOk t z=true):z=wrap t z.cells.toList:=by
 cases t with
 |st u=>
  cases z with
  |agg cs=>simp[wrap,Value.cells]
  |_=>cases h
 |slice u=>rw[Vt h];rfl
 |_=>
  cases z with
  |agg cs=>cases h
  |_=>rfl
def acy (t:Ty)(z:Value):Bool:=
 (match cq t z.cells.toList with
  |some (cs,[])=>cs.all isZ
  |_=>false)&&zOk t z
def aaZ (P:Program)(T:List fE)(r:fE):Bool:=
 match P.info? r.id,P.underlying r.id with
 |some i,some d=>Nat.beq i.size r.ty.size&&Nat.beq i.bytes r.bytes&&(match i.zero with |some z=>acy r.ty z |none=>false)&&WN P T r r.ty d
 |_,_=>false
theorem aee {T:List fE}{t:TypeId}{r:fE}(h:jb T t=some r):r∈T∧r.id=t:=by
 induction T with
 |nil=>cases h
 |cons x xs ih=>
  simp only[jb] at h
  cases hb:Nat.beq x.id t with
  |true=>
   simp only[hb,cond_true,Option.some.injEq] at h
   subst h
   exact⟨by simp,(beq_iff _ _).1 hb⟩
  |false=>
   simp only[hb,cond_false] at h
   exact⟨by simp[(ih h).1],(ih h).2⟩
theorem aef {P:Program}{T:List fE}{r:fE}(h:aaZ P T r=true):X9 P T r:=by
 unfold aaZ at h
 split at h
 ·rename_i i d hi hd
  simp only[Bool.and_eq_true] at h
  obtain⟨⟨⟨h1,h2⟩,h3⟩,h4⟩:=h
  have anA:(∀u,r.ty≠ .st u)→r.qa=[]:=by
   intro hn
   unfold WN at h4
   split at h4
   ·simp only[Bool.and_eq_true] at h4;simpa using h4.2
   ·simpa using h4
   ·simpa using h4
   ·simp only[Bool.and_eq_true] at h4;simpa using h4.1.2
   ·rename_i u fs ht;exact absurd ht (hn u)
   ·rename_i u n e ht;exact absurd ht (hn u)
   ·simpa using h4
   ·simpa using h4
   ·simpa using h4
   ·cases h4
  refine⟨?_, ?_,anA⟩
  ·split at h3
   ·rename_i z hz
    simp only[acy,Bool.and_eq_true] at h3
    obtain⟨h5,h6⟩:=h3
    refine⟨i,z,hi,(beq_iff _ _).1 h1,(beq_iff _ _).1 h2,hz,fun V=> ?_, ?_,fun u hu=> ?_⟩
    ·split at h5
     ·rename_i cs hl
      obtain⟨l1,e1,h7⟩:=iw (V:=V) hl
      rw[e1,List.append_nil]
      refine im ?_
      have:=uZ hl h5
      rw[this] at h7
      exact h7
     ·cases h5
    ·exact agQ h6
    ·rw[hu] at h6;exact Vt h6
   ·cases h3
  ·unfold WN at h4
   split at h4
   ·rename_i k k' ht
    rw[ht]
    simp only[Bool.and_eq_true,decide_eq_true_eq] at h4
    show P.underlying r.id=_
    rw[h4.1];exact hd
   ·rename_i ht;rw[ht];exact hd
   ·rename_i ht;rw[ht];exact hd
   ·rename_i u e ht
    rw[ht]
    simp only[Bool.and_eq_true] at h4
    have he:=(beq_iff _ _).1 h4.1.1
    subst he
    refine⟨hd, ?_⟩
    have h5:=h4.2
    split at h5
    ·rename_i re QW;exact⟨re,QW,ER h5⟩
    ·cases h5
   ·rename_i u fs ht
    rw[ht]
    simp only[Bool.and_eq_true,Bool.not_eq_true'] at h4
    obtain⟨ha,h4⟩:=h4
    left
    split at h4
    ·rename_i l hl
     simp only[Bool.and_eq_true] at h4
     have hle:=IH h4.1
     subst hle
     refine⟨ha,fs,hd,Vs hl,fun f off size hf=> ?_⟩
     obtain⟨fd,j,h5,h6,h7,h8⟩:=SU hl f off size hf
     have h9:=List.all_eq_true.1 h4.2 (off,size) (List.mem_of_getElem? hf)
     simp only[Bool.and_eq_true] at h9
     have h10:0+1≤size:=Nat.le_of_ble_eq_true h9.1
     have h11:=Nat.le_of_ble_eq_true h9.2
     exact⟨fd,j,by simpa using h5,h6,h7,h8,by omega,h11⟩
    ·cases h4
   ·rename_i u n e ht
    rw[ht]
    simp only[Bool.and_eq_true] at h4
    obtain⟨ha,h4⟩:=h4
    right
    split at h4
    ·rename_i j hj
     simp only[Bool.and_eq_true] at h4
     have hle:=IH h4.1.1
     have h10:0+1≤j.size:=Nat.le_of_ble_eq_true h4.1.2
     exact⟨ha,n,e,j,hd,hj,hle.symm,by omega,(beq_iff _ _).1 h4.2⟩
    ·cases h4
   ·rename_i h e ht;rw[ht];exact⟨_,hd⟩
   ·rename_i h k e ht;rw[ht];exact⟨_,_,hd⟩
   ·rename_i a b c ht;rw[ht];exact⟨_,_,_,hd⟩
   ·cases h4
 ·cases h
theorem alw {P:Program}{T:List fE}(h:T.all (aaZ P T)=true):iu P T:=fun t r hr=>by
 obtain⟨h1,h2⟩:=aee hr
 exact⟨h2,aef (List.all_eq_true.1 h r h1)⟩
def acz (P:Program)(ht:HT):Bool:=match P.info? ht.e with
 |some j=>Nat.beq j.size ht.t.size&&match j.zero with
  |some z=>(match cq ht.t z.cells.toList with
   |some (cs,[])=>cs.all isZ
   |_=>false)
  |none=>false
 |none=>false
theorem agR {P:Program}{T:cm}(h:T.ae.all (acz P)=true):Db P T:=fun i ht hi=>by
 have h1:=List.all_eq_true.1 h ht (List.mem_of_getElem? hi)
 unfold acz at h1
 split at h1
 ·rename_i j hj
  simp only[Bool.and_eq_true] at h1
  obtain⟨h2,h3⟩:=h1
  split at h3
  ·rename_i z hz
   refine⟨j,z,hj,(beq_iff _ _).1 h2,hz,fun V=> ?_⟩
   split at h3
   ·rename_i cs hl
    obtain⟨l1,e1,h7⟩:=iw (V:=V) hl
    rw[e1,List.append_nil]
    refine im ?_
    have:=uZ hl h3
    rw[this] at h7
    exact h7
   ·cases h3
  ·cases h3
 ·cases h1
def ajg (P:Program)(g:TypeId→Ty→Bool):Ty→Nat→List Field→Bool
 | .unit,_,[]=>true
 | .pair a b,off,f::fs=>f.name != "_" &&Nat.beq f.offset off&&(match P.info? f.type with |some i=>Nat.beq i.size a.size |none=>false)&&g f.type a&&ajg P g b (off+a.size) fs
 |_,_,_=>false
def aa0 (P:Program):Nat→TypeId→Ty→Bool
 |0,_,_=>false
 |d+1,t,ty=>match ty,P.underlying t with
  | .int _,some (.int _)=>true
  | .bool,some .bool=>true
  | .str,some .string=>true
  | .st u,some (.struct fs)=> !(P.stoodInHeld t)&&ajg P (aa0 P d) u 0 fs.toList
  |_,_=>false
theorem Y7 {P:Program}{V:View}{d:Nat}{t:TypeId}{a:Ty}{x:a.den}{pre ys post:List Value}{w:World}(h:aa0 P d t a=true)(hs:(match P.info? t with |some i=>Nat.beq i.size a.size |none=>false)=true)(hr:Rel V a x ys):
  (part t (pre++(ys++post)).toArray pre.length).run P w= .ok (wrap a ys) w:=by
 have hlen:=hr.length
 have alx:(isAgg t).run P w= .ok false w→a.size=1→wrap a ys=ys.headD undef→(part t (pre++(ys++post)).toArray pre.length).run P w= .ok (wrap a ys) w:=fun h1 h2 h3=>by
  rw[h2] at hlen
  match ys,hlen with
  | [v],_=>
    rw[h3]
    simp[part,h1]
 cases d with
 |zero=>cases h
 |succ d=>
  unfold aa0 at h
  split at h
  ·rename_i hu;exact alx (by simp[isAgg,run_underlying hu]) rfl rfl
  ·rename_i hu;exact alx (by simp[isAgg,run_underlying hu]) rfl rfl
  ·rename_i hu;exact alx (by simp[isAgg,run_underlying hu]) rfl rfl
  ·rename_i u fs hu
   split at hs
   ·rename_i i hi
    have hsz:=(beq_iff _ _).1 hs
    have e1:(isAgg t).run P w= .ok true w:=by simp[isAgg,run_underlying hu]
    have e2:(sizeOf t).run P w= .ok (Ty.st u).size w:=by
     have:(sizeOf t).run P w= .ok i.size w:=by simp[sizeOf,typeInfo,hi]
     rw[this,hsz]
    simp only[part,Sem.run_bind,e1,Result.andThen_ok,if_true,e2,Sem.run_pure]
    rw[←hlen]
    simp[wrap]
   ·cases hs
  ·cases h
theorem acA {P:Program}:∀(d:Nat) (t:TypeId) (ty:Ty),aa0 P d t ty=true→∀(V:View) (x y:ty.den) (vs us:List Value) (w:World),Rel V ty x vs→Rel V ty y us→(Op.equalIn d t (wrap ty vs) (wrap ty us)).run P w= .ok (Bb ty x y) w
 |0,t,ty,h=>by cases h
 |d+1,t,ty,h=>by
  intro V x y vs us w hx hy
  unfold aa0 at h
  split at h
  ·rename_i k k' hu
   have e1:vs=[.int k x]:=hx
   have e2:us=[.int k y]:=hy
   subst e1 e2
   exact run_equalIn_int w d t k k' x y hu
  ·rename_i hu
   have e1:vs=[.bool x]:=hx
   have e2:us=[.bool y]:=hy
   subst e1 e2
   exact run_equalIn_bool' w d t x y hu
  ·rename_i hu
   have e1:vs=[.string x]:=hx
   have e2:us=[.string y]:=hy
   subst e1 e2
   exact run_equalIn_string w d t x y hu
  ·rename_i u fs hu
   simp only[Bool.and_eq_true,Bool.not_eq_true'] at h
   have hf:P.fieldsOf t=fs:=by simp[Program.fieldsOf,hu]
   show (Op.equalIn (d+1) t (.agg vs.toArray) (.agg us.toArray)).run P w=_
   rw[run_equalIn_struct w d t _ _ (by rw[hf];exact hu) h.1,hf]
   have key:∀(u:Ty) (fs:List Field) (x y:u.den) (p1 p2 c1 c2:List Value),ajg P (aa0 P d) u p1.length fs=true→p1.length=p2.length→Rel V u x c1→Rel V u y c2→
     (Op.eqFields d (p1++c1).toArray (p2++c2).toArray fs).run P w= .ok (Bb u x y) w:=by
    intro u
    induction u with
    |unit=>
     intro fs x y p1 p2 c1 c2 h1 h2 h3 h4
     cases fs with
     |nil=>rfl
     |cons f fs=>cases h1
    |pair a b _ Wd=>
     intro fs x y p1 p2 c1 c2 h1 h2 h3 h4
     cases fs with
     |nil=>cases h1
     |cons f fs=>
      simp only[ajg,Bool.and_eq_true] at h1
      obtain⟨⟨⟨⟨g1,g2⟩,g3⟩,g4⟩,g5⟩:=h1
      obtain⟨a1,b1,rfl,r1,r2⟩:=h3
      obtain⟨a2,b2,rfl,r3,r4⟩:=h4
      have hoff:=(beq_iff _ _).1 g2
      have hl1:=r1.length
      have hl2:=r3.length
      have hp1:=Y7 (P:=P) (pre:=p1) (post:=b1) (w:=w) g4 g3 r1
      have hp2:=Y7 (P:=P) (pre:=p2) (post:=b2) (w:=w) g4 g3 r3
      have heq:=acA d f.type a g4 V x.1 y.1 a1 a2 w r1 r3
      have ih:=Wd fs x.2 y.2 (p1++a1) (p2++a2) b1 b2 (by rw[List.length_append,hl1];exact g5) (by simp[h2,hl1,hl2]) r2 r4
      have hne:f.name≠ "_" :=by simpa using g1
      simp only[Op.eqFields,hne,ne_eq,not_false_eq_true,if_true,Sem.run_bind]
      rw[hoff,hp1]
      simp only[Result.andThen_ok]
      rw[h2,hp2]
      simp only[Result.andThen_ok]
      rw[heq]
      simp only[Result.andThen_ok,Bb]
      cases hb:Bb a x.1 y.1 with
      |false=>simp
      |true=>simpa [List.append_assoc] using ih
    |_=>intro fs x y p1 p2 c1 c2 h1;cases fs<;>cases h1
   exact key u fs.toList x y [] [] vs us h.2 rfl hx hy
  ·cases h
def akp (P:Program)(T:List fE)(t:TypeId):Bool:= !(P.eqGuardType P.depth t)&&match jb T t with
 |some r=>match r.ty with
  | .st u=>aa0 P 10000 t (.st u)
  |_=>true
 |none=>true
theorem aly {P:Program}{T:cm}(h:T.eqs.all (akp P T.rows)=true):afR P T:=fun t ht r u hr pV V x y vs us w op ox oy hx hy=>by
 obtain⟨t',hm,he⟩:=List.any_eq_true.1 ht
 have:=(beq_iff _ _).1 he
 subst this
 have h1:=List.all_eq_true.1 h t hm
 simp only[akp,Bool.and_eq_true,Bool.not_eq_true'] at h1
 obtain⟨h2,h3⟩:=h1
 rw[hr] at h3
 simp only[pV] at h3
 exact⟨run_eqGuard_agg w op t ox oy _ _ h2,acA 10000 t (.st u) h3 V x y vs us w hx hy⟩
theorem ajh {T:cm}{l:List (Nat×HY)}(h:l.all (fun p=>G4 T p.2)=true)(hT:∀v,T.sig v=(look l v).getD ⟨[],[],none,[],none⟩):Sb T:=fun v=>by
 rw[hT v]
 cases hl:look l v with
 |none=>rfl
 |some s=>
  have hm:=yB hl
  exact List.all_eq_true.1 h (v,s) hm
def anB (P:Program)(T:cm):List (Nat×Func)→Prop
 | []=>True
 |p::r=>(P.funcs[T.real p.1]? =some p.2∧(p.2.name== "runtime.NumGoroutine")=false)∧anB P T r
theorem SV {P:Program}{T:cm}:∀{l:List (Nat×Func)},anB P T l→acx P T (look l)
 | [],h,f,fn,hl=>by cases hl
 | (k,g)::r,h,f,fn,hl=>by
   simp only[look] at hl
   cases hb:Nat.beq k f with
   |true=>
    simp only[hb,cond_true,Option.some.injEq] at hl
    have:=(beq_iff _ _).1 hb
    subst this hl
    exact h.1
   |false=>
    simp only[hb,cond_false] at hl
    exact SV h.2 f fn hl
end Go.Abs
namespace Go.Abs
section
variable {α β:Type}
def Conv (u:Nat→Option α)(v:Option α):Prop:=
 (∀y,v=some y→∃n,∀m,n≤m→u m=some y)∧∀n y,u n=some y→v=some y
theorem Conv.const (v:Option α):Conv (fun _=>v) v:=⟨fun y h=>⟨0,fun _ _=>h⟩,fun _ _ h=>h⟩
theorem Conv.bind {u:Nat→Option α}{v:Option α}{g:Nat→α→Option β}{G:α→Option β}(h:Conv u v)(hg:∀y,Conv (fun n=>g n y) (G y)):
  Conv (fun n=>(u n).bind (g n)) (v.bind G):=by
 constructor
 ·intro z hz
  obtain⟨y,hy,hz⟩:=Option.bind_eq_some_iff.1 hz
  obtain⟨n1,h1⟩:=h.1 y hy
  obtain⟨n2,h2⟩:=(hg y).1 z hz
  exact⟨max n1 n2,fun m hm=>by show (u m).bind (g m)=some z;rw[h1 m (by omega)];exact h2 m (by omega)⟩
 ·intro n z hz
  obtain⟨y,hy,hz⟩:=Option.bind_eq_some_iff.1 hz
  rw[h.2 n y hy]
  exact(hg y).2 n z hz
theorem Conv.shift {u:Nat→Option α}{v:Option α}(h:Conv u v):Conv (fun n=>u (n+1)) v:=
 ⟨fun y hy=>let ⟨n,hn⟩:=h.1 y hy;⟨n,fun m hm=>hn (m+1) (by omega)⟩,fun n y hy=>h.2 (n+1) y hy⟩
open Classical in
noncomputable def lim (u:Nat→Option α):Option α:=if h:∃y,∃n,∀m,n≤m→u m=some y then some h.choose else none
theorem Conv.lim_eq {u:Nat→Option α}{v:Option α}(h:Conv u v):lim u=v:=by
 unfold lim
 cases v with
 |none=>
  rw[dif_neg]
  rintro ⟨y,n,hn⟩
  have:=h.2 n y (hn n (Nat.le_refl _))
  cases this
 |some y=>
  have hex:∃y,∃n,∀m,n≤m→u m=some y:=⟨y,h.1 y rfl⟩
  rw[dif_pos hex]
  obtain⟨n,hn⟩:=hex.choose_spec
  exact(h.2 n _ (hn n (Nat.le_refl _))).symm
theorem akq {u:Nat→Option α}(hm:∀n y,u n=some y→u (n+1)=some y){n m:Nat}(h:n≤m){y:α}(hy:u n=some y):u m=some y:=by
 induction h with
 |refl=>exact hy
 |step _ ih=>exact hm _ _ ih
theorem SX {u:Nat→Option α}(hm:∀n y,u n=some y→u (n+1)=some y):Conv u (lim u):=by
 have key:∀n y,u n=some y→lim u=some y:=fun n y hy=>by
  have hex:∃y,∃n,∀m,n≤m→u m=some y:=⟨y,n,fun m h=>akq hm h hy⟩
  unfold lim
  rw[dif_pos hex]
  obtain⟨k,hk⟩:=hex.choose_spec
  have h1:=hk (max n k) (by omega)
  have h2:=akq hm (show n≤max n k by omega) hy
  rw[h1] at h2
  exact h2
 refine⟨fun y hy=> ?_,key⟩
 unfold lim at hy
 split at hy
 ·rename_i hex
  obtain⟨k,hk⟩:=hex.choose_spec
  refine⟨k,fun m hm'=> ?_⟩
  rw[hk m hm']
  exact hy
 ·cases hy
theorem agS {u:Nat→Option α}{y:α}(h:lim u=some y):∃n,u n=some y:=by
 unfold lim at h
 split at h
 ·rename_i hex
  obtain⟨k,hk⟩:=hex.choose_spec
  exact⟨k,by rw[hk k (Nat.le_refl _)];exact h⟩
 ·cases h
end
section
variable {R:Type}{T:cm}
theorem Q.agT {α:Type}{Φ:Nat→bF T}{Φ':bF T}(hΦ:∀v x,Conv (fun n=>Φ n v x) (Φ' v x)){k:Nat→lR→α→Option R}{K:lR→α→Option R}(hk:∀c s,Conv (fun n=>k n c s) (K c s)):
  ∀(q:Q T α) (σ:AS) (c:lR),Conv (fun n=>q.run (Φ n) σ c (k n)) (q.run Φ' σ c K):=by
 intro q
 induction q with
 |ret a=>intro σ c;exact hk _ _
 |fail=>intro σ c;exact Conv.const _
 |opt o q ih=>intro σ c;exact Conv.bind (Conv.const o) fun y=>ih y σ c
 |fi b q ih=>intro σ c;cases b<;>simp only[Q.run,cond_true,cond_false]<;>first |exact ih σ c |exact Conv.const _
 |ite b x y Kj Hy=>intro σ c;cases b<;>simp only[Q.run,cond_true,cond_false]<;>first |exact Kj σ c |exact Hy σ c
 |row r q ih=>
  intro σ c
  simp only[Q.run]
  cases look σ.rows r with
  |none=>exact Conv.const _
  |some x=>exact ih _ σ _
 |len r q ih=>
  intro σ c
  simp only[Q.run]
  cases look σ.rows r with
  |none=>exact Conv.const _
  |some x=>exact ih _ σ _
 |box r q ih=>
  intro σ c
  simp only[Q.run]
  cases look σ.boxes r with
  |none=>exact Conv.const _
  |some x=>exact ih _ σ _
 |heap r q ih=>
  intro σ c
  simp only[Q.run]
  cases σ.ae[r]? with
  |none=>exact Conv.const _
  |some x=>exact ih _ σ _
 |pS r q ih=>
  intro σ c
  simp only[Q.run]
  cases look σ.rows r with
  |none=>exact ih σ _
  |some x=>exact Conv.const _
 |pT r q ih=>
  intro σ c
  simp only[Q.run]
  cases look σ.boxes r with
  |none=>exact ih σ _
  |some x=>exact Conv.const _
 |call v x q ih=>intro σ c;exact Conv.bind (hΦ v x) fun y=>ih y σ c
 |all q ih=>intro σ c;exact ih σ σ _
 |on σ' q ih=>intro σ c;exact ih σ' _
theorem Vu {Φ:Nat→bF T}{Φ':bF T}(hΦ:∀f x,Conv (fun n=>Φ n f x) (Φ' f x))(σ:AS)(o:Oper){k:Nat→lR→AS→Option R}{K:lR→AS→Option R}
  (hk:∀c s,Conv (fun n=>k n c s) (K c s)):Conv (fun n=>Kk T (Φ n) σ o (k n)) (Kk T Φ' σ o K):=by
 simp only[JR]
 refine Q.agT (α:=b6) (k:=fun n c (r:b6)=>match r.2 with
  | .mh us=>k n (c.wr (XY us)) ((σ.app us).iH o.dst r.1)
  | .set σ'=>k n .X (σ'.iH o.dst r.1)) (K:=fun c (r:b6)=>match r.2 with
  | .mh us=>K (c.wr (XY us)) ((σ.app us).iH o.dst r.1)
  | .set σ'=>K .X (σ'.iH o.dst r.1)) hΦ (fun c r=> ?_) _ _ _
 obtain⟨z,e⟩:=r
 cases e with
 |mh us=>exact hk _ _
 |set σ'=>exact hk _ _
theorem aeg {Φ:Nat→bF T}{Φ':bF T}(hΦ:∀f x,Conv (fun n=>Φ n f x) (Φ' f x))(ops:Array Oper)(σ:AS)(o:Oper){k:Nat→lR→AS→Option R}{K:lR→AS→Option R}
  (hk:∀c s,Conv (fun n=>k n c s) (K c s)):Conv (fun n=>Ij T (Φ n) ops σ o (k n)) (Ij T Φ' ops σ o K):=by
 cases hg:o.guard with
 |none=>simp only[Ij,hg];exact Vu hΦ σ o hk
 |some p=>
  obtain⟨j,want⟩:=p
  cases ht:(ops[j]?).bind (·.dst) with
  |none=>simp only[Ij,hg,ht];exact Conv.const _
  |some t=>
   simp only[Ij,hg,ht]
   split
   ·rename_i b hb
    cases b<;>cases want<;>simp only[cond_true,cond_false]<;>first |exact hk _ _ |exact Vu hΦ _ o hk
   ·exact hk _ _
   ·exact Conv.const _
theorem SY {Φ:Nat→bF T}{Φ':bF T}(hΦ:∀f x,Conv (fun n=>Φ n f x) (Φ' f x))(ops:Array Oper):∀(l:List Oper) (σ:AS) (cs:List lR) {k:Nat→List lR→AS→Option R} {K:List lR→AS→Option R}
  (hk:∀c s,Conv (fun n=>k n c s) (K c s)),Conv (fun n=>UF T (Φ n) ops l σ cs (k n)) (UF T Φ' ops l σ cs K)
 | [],σ,cs,k,K,hk=>hk _ _
 |o::r,σ,cs,k,K,hk=>by
  simp only[UF]
  exact aeg hΦ ops σ o fun c s=>SY hΦ ops r s (c::cs) hk
theorem Lg {Φ:Nat→bF T}{Φ':bF T}(hΦ:∀f x,Conv (fun n=>Φ n f x) (Φ' f x))(ops:Array Oper)(draw:Bool)(σ:AS){k:Nat→AS→Option R}{K:AS→Option R}
  (hk:∀s,Conv (fun n=>k n s) (K s)):Conv (fun n=>uS T (Φ n) ops draw σ (k n)) (uS T Φ' ops draw σ K):=by
 unfold uS
 refine SY hΦ ops _ _ _ fun c s=> ?_
 cases draw with
 |false=>exact hk s
 |true=>
  cases (Il 0 ops.toList&&Ik ops 0 (ops.toList.zip c.reverse) (Kl ops.toList [])) with
  |true=>simp only[cond_true];exact hk s
  |false=>simp only[cond_true,cond_false];exact Conv.const _
noncomputable def wI (h:List (Nat×Bool))(body:AS→(Ex→AS→Option R)→Option R)(k:Ex→AS→Option R)(σ:AS):Option R:=lim fun m=>lq h body k m σ
noncomputable def aM (T:cm)(Φ:bF T):Code→List (List (Nat×Bool))→AS→(Ex→AS→Option R)→Option R
 | .skip,_,σ,k=>k .normal σ
 | .region _ ops draw,_,σ,k=>uS T Φ ops draw σ (k .normal)
 | .seq a b,hs,σ,k=>aM T Φ a hs σ fun e σ'=>match e with
   | .normal=>aM T Φ b (hs.drop (loops a)) σ' k
   | .exit i=>k (.exit i) σ'
   | .ret=>k .ret σ'
 | .cond c a b,hs,σ,k=>match c with
   | .tmp t=>match nth σ.tmps t with
     | .rv (.cv ⟨.bool,x⟩)=>bif x then aM T Φ a hs (σ.LR t true) k else aM T Φ b (hs.drop (loops a)) (σ.LR t false) k
     |_=>none
   | .const (.bool x)=>bif x then aM T Φ a hs σ k else aM T Φ b (hs.drop (loops a)) σ k
   |_=>none
 | .block id c,hs,σ,k=>aM T Φ c hs σ fun e σ'=>match e with
   | .normal=>k .normal σ'
   | .exit i=>bif Nat.beq i id then k .normal σ' else k (.exit i) σ'
   | .ret=>k .ret σ'
 | .loop c,hs,σ,k=>match hs with
   |h::hs'=>wI h (fun σ k'=>aM T Φ c hs' σ k') k (σ.forget h)
   | []=>none
 | .rangeFunc f ps a b,hs,σ,k=>match hs,σ.b7,σ.trace with
   |h::hs',[],⟨.unit,_⟩=>uT T Φ σ (σ.av f) fun r bs=>
     bif xg ((σ.jx bs).forget h) then
      wI h (ir ps.toList (fun σ k'=>aM T Φ a hs' σ k') (fun σ k'=>aM T Φ b (hs'.drop (loops a)) σ k')) (fj k)
       {(((σ.jx bs).forget h)) with b7:=[r]}.save
     else none
   |_,_,_=>none
 | .exit i,_,σ,k=>k (.exit i) σ
 | .ret,_,σ,k=>k .ret σ
 |_,_,_,_=>none
def Le {α:Type}(a b:Option α):Prop:=∀y,a=some y→b=some y
theorem Le.HB {α:Type}(a:Option α):Le a a:=fun _ h=>h
theorem Rp {α:Type}{a b:Option α}(h:Le a b):Conv (fun n=>bif Nat.ble n 0 then a else b) b:=by
 refine⟨fun y hy=>⟨1,fun m hm=> ?_⟩,fun n y hy=> ?_⟩
 ·have:Nat.ble m 0=false:=by cases m with
   |zero=>omega
   |succ m=>rfl
  show (bif Nat.ble m 0 then a else b)=some y
  rw[this];exact hy
 ·have hy':(bif Nat.ble n 0 then a else b)=some y:=hy
  cases hb:Nat.ble n 0 with
  |true=>rw[hb] at hy';exact h y hy'
  |false=>rw[hb] at hy';exact hy'
theorem acB {α:Type}{u:Nat→Option α}{b:Option α}(h:Conv u b):Le (u 0) b:=fun y hy=>h.2 0 y hy
theorem II {h:List (Nat×Bool)}{body body':AS→(Ex→AS→Option R)→Option R}(hb:∀σ k k',(∀e s,Le (k e s) (k' e s))→Le (body σ k) (body' σ k'))
  {k k':Ex→AS→Option R} (hk:∀e s,Le (k e s) (k' e s)):∀m m' σ,m≤m'→Le (lq h body k m σ) (lq h body' k' m' σ)
 |0,m',σ,_=>fun y hy=>by cases hy
 |m+1,0,σ,hm=>by omega
 |m+1,m'+1,σ,hm=>by
  simp only[lq]
  refine hb σ _ _ fun e s=> ?_
  cases e with
  |normal=>exact II hb hk m m' _ (by omega)
  |exit i=>exact hk _ _
  |ret=>exact hk _ _
theorem NF {Φ:Nat→bF T}{Φ':bF T}(hΦ:∀f x,Conv (fun n=>Φ n f x) (Φ' f x))(σ:AS)(f:AV){k:Nat→Rng→List Nat→Option R}{K:Rng→List Nat→Option R}(hk:∀r bs,Conv (fun n=>k n r bs) (K r bs)):
  Conv (fun n=>uT T (Φ n) σ f (k n)) (uT T Φ' σ f K):=by
 unfold uT
 split
 ·rename_i g aN
  split
  ·rename_i v _ _
   split
   ·rename_i x _
    split
    ·rename_i xh _
     refine Conv.bind (hΦ v xh) fun yh=> ?_
     cases (wE (bh aN)&&(T.sig v).ae.isEmpty&&Nat.beq (T.real v) g) with
     |false=>exact Conv.const _
     |true=>
      simp only[cond_true]
      have key:∀(s:HY) (y:LN s),Conv (fun n=>match s,y with
       | ⟨_,_,_,_,some ts⟩,y=>k n ⟨ts,y⟩ (bh aN)
       |_,_=>none) (match s,y with
       | ⟨_,_,_,_,some ts⟩,y=>K ⟨ts,y⟩ (bh aN)
       |_,_=>none)
       | ⟨_,_,_,_,some ts⟩,y=>hk _ _
       | ⟨_,_,none,_,none⟩,y=>Conv.const _
       | ⟨_,_,some _,_,none⟩,y=>Conv.const _
      exact key _ _
    ·exact Conv.const _
   ·exact Conv.const _
  ·exact Conv.const _
 ·exact Conv.const _
theorem aa1 {Φ Φ':bF T}(hΦ:∀f x,Le (Φ f x) (Φ' f x))(σ:AS)(f:AV){k k':Rng→List Nat→Option R}(hk:∀r bs,Le (k r bs) (k' r bs)):Le (uT T Φ σ f k) (uT T Φ' σ f k'):=
 acB (NF (Φ:=fun n f x=>bif Nat.ble n 0 then Φ f x else Φ' f x) (Φ':=Φ') (fun f x=>Rp (hΦ f x)) σ f (k:=fun n r bs=>bif Nat.ble n 0 then k r bs else k' r bs) (K:=k') (fun r bs=>Rp (hk r bs)))
theorem Qj {ps:List Tmp}{QS body:Nat→AS→(Ex→AS→Option R)→Option R}{anC akr:AS→(Ex→AS→Option R)→Option R}
  (ha:∀σ {k:Nat→Ex→AS→Option R} {K:Ex→AS→Option R},(∀e s,Conv (fun n=>k n e s) (K e s))→Conv (fun n=>QS n σ (k n)) (anC σ K))
  (hb:∀σ {k:Nat→Ex→AS→Option R} {K:Ex→AS→Option R},(∀e s,Conv (fun n=>k n e s) (K e s))→Conv (fun n=>body n σ (k n)) (akr σ K))
  (σ:AS) {k:Nat→Ex→AS→Option R} {K:Ex→AS→Option R} (hk:∀e s,Conv (fun n=>k n e s) (K e s)):Conv (fun n=>ir ps (QS n) (body n) σ (k n)) (ir ps anC akr σ K):=by
 unfold ir
 split
 ·exact Conv.const _
 ·rename_i r rs _
  obtain⟨ts,xs⟩:=r
  cases xs with
  |nil=>exact hk _ _
  |cons x xs=>
   simp only
   split
   ·refine ha _ (k:=fun n e σ1=>match e with
     | .normal=>body n σ1 fun e σ2=>match e with
       | .normal=>k n .normal σ2.back
       |_=>none
     |_=>none) fun e s=> ?_
    cases e with
    |normal=>
     refine hb _ (k:=fun n e σ2=>match e with
      | .normal=>k n .normal σ2.back
      |_=>none) fun e s=> ?_
     cases e with
     |normal=>exact hk _ _
     |_=>exact Conv.const _
    |_=>exact Conv.const _
   ·exact Conv.const _
theorem Pe {ps:List Tmp}{QS body anD body':AS→(Ex→AS→Option R)→Option R}(ha:∀σ k k',(∀e s,Le (k e s) (k' e s))→Le (QS σ k) (anD σ k'))(hb:∀σ k k',(∀e s,Le (k e s) (k' e s))→Le (body σ k) (body' σ k'))
  (σ:AS) (k k':Ex→AS→Option R) (hk:∀e s,Le (k e s) (k' e s)):Le (ir ps QS body σ k) (ir ps anD body' σ k'):=by
 unfold ir
 split
 ·exact Le.HB _
 ·rename_i r rs _
  obtain⟨ts,xs⟩:=r
  cases xs with
  |nil=>exact hk _ _
  |cons x xs=>
   simp only
   split
   ·refine ha _ _ _ fun e s=> ?_
    cases e with
    |normal=>
     refine hb _ _ _ fun e s=> ?_
     cases e with
     |normal=>exact hk _ _
     |_=>exact Le.HB _
    |_=>exact Le.HB _
   ·exact Le.HB _
theorem SZ {k:Nat→Ex→AS→Option R}{K:Ex→AS→Option R}(hk:∀e s,Conv (fun n=>k n e s) (K e s))(e:Ex)(s:AS):Conv (fun n=>fj (k n) e s) (fj K e s):=by
 cases e with
 |exit i=>exact hk _ _
 |_=>exact Conv.const _
theorem WO {k k':Ex→AS→Option R}(hk:∀e s,Le (k e s) (k' e s))(e:Ex)(s:AS):Le (fj k e s) (fj k' e s):=by
 cases e with
 |exit i=>exact hk _ _
 |_=>exact Le.HB _
theorem ES {Φ Φ':bF T}(hΦ:∀f x,Le (Φ f x) (Φ' f x)){n n':Nat}(hn:n≤n'):∀(c:Code) (hs:List (List (Nat×Bool))) (σ:AS) (k k':Ex→AS→Option R) (hk:∀e s,Le (k e s) (k' e s)),
  Le (aH T Φ n c hs σ k) (aH T Φ' n' c hs σ k'):=by
 intro c
 induction c with
 |skip=>intro hs σ k k' hk;exact hk _ _
 |region id ops draw=>
  intro hs σ k k' hk
  have:=Lg (Φ:=fun n f x=>bif Nat.ble n 0 then Φ f x else Φ' f x) (Φ':=Φ') (fun f x=>Rp (hΦ f x)) ops draw σ (k:=fun n s=>bif Nat.ble n 0 then k .normal s else k' .normal s) (K:=k' .normal) (fun s=>Rp (hk _ _))
  exact acB this
 |seq a b XW Wd=>
  intro hs σ k k' hk
  simp only[aH]
  refine XW _ _ _ _ fun e s=> ?_
  cases e with
  |normal=>exact Wd _ _ _ _ hk
  |exit i=>exact hk _ _
  |ret=>exact hk _ _
 |cond c a b XW Wd=>
  intro hs σ k k' hk
  simp only[aH]
  split
  ·split
   ·rename_i x _
    cases x
    ·exact Wd _ _ _ _ hk
    ·exact XW _ _ _ _ hk
   ·exact Le.HB _
  ·rename_i x
   cases x
   ·exact Wd _ _ _ _ hk
   ·exact XW _ _ _ _ hk
  ·exact Le.HB _
 |block id c ih=>
  intro hs σ k k' hk
  simp only[aH]
  refine ih _ _ _ _ fun e s=> ?_
  cases e with
  |normal=>exact hk _ _
  |exit i=>cases hb:Nat.beq i id<;>simp only[hb,cond_true,cond_false]<;>exact hk _ _
  |ret=>exact hk _ _
 |loop c ih=>
  intro hs σ k k' hk
  simp only[aH]
  cases hs with
  |nil=>exact Le.HB _
  |cons h hs'=>exact II (body:=fun σ k'=>aH T Φ n c hs' σ k') (body':=fun σ k'=>aH T Φ' n' c hs' σ k') (fun σ k k' hk=>ih hs' σ k k' hk) hk _ _ _ hn
 |rangeFunc f ps a b XW Wd=>
  intro hs σ k k' hk
  simp only[aH]
  split
  ·refine aa1 hΦ σ _ fun r bs=> ?_
   rename_i h hs' _ _ _
   ·cases xg ((σ.jx bs).forget h) with
    |false=>exact Le.HB _
    |true=>
     simp only[cond_true]
     exact II (fun σ k k' hk=>Pe (fun σ k k' hk=>XW _ σ k k' hk) (fun σ k k' hk=>Wd _ σ k k' hk) σ k k' hk) (WO hk) _ _ _ hn
  ·exact Le.HB _
 |exit i=>intro hs σ k k' hk;exact hk _ _
 |ret=>intro hs σ k k' hk;exact hk _ _
 |_=>intro hs σ k k' hk;exact Le.HB _
theorem Y8 {h:List (Nat×Bool)}{body:AS→(Ex→AS→Option R)→Option R}(hb:∀σ k k',(∀e s,Le (k e s) (k' e s))→Le (body σ k) (body σ k'))
  (k:Ex→AS→Option R) (σ:AS):∀n y,lq h body k n σ=some y→lq h body k (n+1) σ=some y:=
 fun n y hy=>II hb (fun e s=>Le.HB _) n (n+1) σ (by omega) y hy
theorem Vv {h:List (Nat×Bool)}{bn:Nat→AS→(Ex→AS→Option R)→Option R}{bI:AS→(Ex→AS→Option R)→Option R}
  (hc:∀σ {k:Nat→Ex→AS→Option R} {K:Ex→AS→Option R},(∀e s,Conv (fun n=>k n e s) (K e s))→Conv (fun n=>bn n σ (k n)) (bI σ K))
  (hbn:∀n σ (k k':Ex→AS→Option R),(∀e s,Le (k e s) (k' e s))→Le (bn n σ k) (bn n σ k'))
  {k:Nat→Ex→AS→Option R} {K:Ex→AS→Option R} (hk:∀e s,Conv (fun n=>k n e s) (K e s)) (σ:AS):Conv (fun n=>lq h (bn n) (k n) n σ) (wI h bI K σ):=by
 have hbI:∀σ (k k':Ex→AS→Option R),(∀e s,Le (k e s) (k' e s))→Le (bI σ k) (bI σ k'):=fun σ k k' hkk y hy=>by
  obtain⟨n,hn⟩:=(hc σ (k:=fun _=>k) (K:=k) (fun e s=>Conv.const _)).1 y hy
  exact(hc σ (k:=fun _=>k') (K:=k') (fun e s=>Conv.const _)).2 n y (hbn n σ k k' hkk y (hn n (Nat.le_refl _)))
 have hm:∀m σ,Conv (fun n=>lq h (bn n) (k n) m σ) (lq h bI K m σ):=by
  intro m
  induction m with
  |zero=>intro σ;exact Conv.const _
  |succ m ihm=>
   intro σ
   simp only[lq]
   refine hc σ (k:=fun n e σ'=>match e with
    | .normal=>lq h (bn n) (k n) m (σ'.forget h)
    | .exit i=>k n (.exit i) σ'
    | .ret=>k n .ret σ') fun e s=> ?_
   cases e with
   |normal=>exact ihm _
   |exit i=>exact hk _ _
   |ret=>exact hk _ _
 have hlim:∀σ,Conv (fun m=>lq h bI K m σ) (wI h bI K σ):=fun σ=>SX (Y8 hbI K σ)
 constructor
 ·intro y hy
  obtain⟨m,h1⟩:=(hlim _).1 y hy
  obtain⟨n,h2⟩:=(hm m _).1 y (h1 m (Nat.le_refl _))
  refine⟨max n m,fun i hi=> ?_⟩
  exact II (hbn i) (fun e s=>Le.HB _) m i _ (by omega) y (h2 i (by omega))
 ·intro n y hy
  exact(hlim _).2 n y ((hm n _).2 n y hy)
theorem yL {Φ:Nat→bF T}{Φ':bF T}(hΦ:∀f x,Conv (fun n=>Φ n f x) (Φ' f x)):∀(c:Code) (hs:List (List (Nat×Bool))) (σ:AS) {k:Nat→Ex→AS→Option R} {K:Ex→AS→Option R}
  (hk:∀e s,Conv (fun n=>k n e s) (K e s)),Conv (fun n=>aH T (Φ n) n c hs σ (k n)) (aM T Φ' c hs σ K):=by
 intro c
 induction c with
 |skip=>intro hs σ k K hk;exact hk _ _
 |region id ops draw=>intro hs σ k K hk;exact Lg hΦ ops draw σ fun s=>hk _ _
 |seq a b XW Wd=>
  intro hs σ k K hk
  simp only[aH,aM]
  refine XW hs σ (k:=fun n e σ'=>match e with
   | .normal=>aH T (Φ n) n b (hs.drop (loops a)) σ' (k n)
   | .exit i=>k n (.exit i) σ'
   | .ret=>k n .ret σ') fun e s=> ?_
  cases e with
  |normal=>exact Wd _ _ hk
  |exit i=>exact hk _ _
  |ret=>exact hk _ _
 |cond c a b XW Wd=>
  intro hs σ k K hk
  simp only[aH,aM]
  cases c with
  |tmp t=>
   simp only
   generalize nth σ.tmps t=v
   cases v with
   |rv x=>
    cases x with
    |cv d=>
     obtain⟨ty,x⟩:=d
     cases ty with
     |bool=>
      cases x
      ·exact Wd _ _ hk
      ·exact XW _ _ hk
     |_=>exact Conv.const _
    |_=>exact Conv.const _
   |_=>exact Conv.const _
  |const v=>
   cases v with
   |bool x=>
    cases x
    ·exact Wd _ _ hk
    ·exact XW _ _ hk
   |_=>exact Conv.const _
  |_=>exact Conv.const _
 |block id c ih=>
  intro hs σ k K hk
  simp only[aH,aM]
  refine ih hs σ (k:=fun n e σ'=>match e with
   | .normal=>k n .normal σ'
   | .exit i=>bif Nat.beq i id then k n .normal σ' else k n (.exit i) σ'
   | .ret=>k n .ret σ') fun e s=> ?_
  cases e with
  |normal=>exact hk _ _
  |exit i=>cases hb:Nat.beq i id<;>simp only[hb,cond_true,cond_false]<;>exact hk _ _
  |ret=>exact hk _ _
 |loop c ih=>
  intro hs σ k K hk
  simp only[aH,aM]
  cases hs with
  |nil=>exact Conv.const _
  |cons h hs'=>
   exact Vv (bn:=fun n σ k'=>aH T (Φ n) n c hs' σ k') (bI:=fun σ k'=>aM T Φ' c hs' σ k') (fun σ {k K} hk=>ih hs' σ hk) (fun n σ k k' hkk=>ES (T:=T) (fun f x=>Le.HB _) (Nat.le_refl n) c hs' σ k k' hkk) hk _
 |rangeFunc f ps a b XW Wd=>
  intro hs σ k K hk
  simp only[aH,aM]
  cases hs with
  |nil=>exact Conv.const _
  |cons h hs'=>
   generalize σ.b7=rn
   generalize σ.trace=tr
   obtain⟨ty,x⟩:=tr
   cases rn with
   |cons _ _=>exact Conv.const _
   |nil=>
    cases ty with
    |unit=>
     simp only
     refine NF hΦ σ _ (k:=fun n r bs=>bif xg ((σ.jx bs).forget h) then
       lq h (ir ps.toList (fun σ k'=>aH T (Φ n) n a hs' σ k') (fun σ k'=>aH T (Φ n) n b (hs'.drop (loops a)) σ k')) (fj (k n)) n
        {(((σ.jx bs).forget h)) with b7:=[r]}.save
      else none) fun r bs=> ?_
     cases xg ((σ.jx bs).forget h) with
     |false=>exact Conv.const _
     |true=>
      simp only[cond_true]
      exact Vv (bn:=fun n=>ir ps.toList (fun σ k'=>aH T (Φ n) n a hs' σ k') (fun σ k'=>aH T (Φ n) n b (hs'.drop (loops a)) σ k')) (bI:=ir ps.toList (fun σ k'=>aM T Φ' a hs' σ k') (fun σ k'=>aM T Φ' b (hs'.drop (loops a)) σ k'))
       (fun σ {k K} hk=>Qj (QS:=fun n σ k'=>aH T (Φ n) n a hs' σ k') (body:=fun n σ k'=>aH T (Φ n) n b (hs'.drop (loops a)) σ k') (fun σ {k K} hk=>XW hs' σ hk) (fun σ {k K} hk=>Wd _ σ hk) σ hk)
       (fun n σ k k' hkk=>Pe (fun σ k k' hkk=>ES (T:=T) (fun f x=>Le.HB _) (Nat.le_refl n) a hs' σ k k' hkk) (fun σ k k' hkk=>ES (T:=T) (fun f x=>Le.HB _) (Nat.le_refl n) b _ σ k k' hkk) σ k k' hkk)
       (SZ hk) _
    |_=>exact Conv.const _
 |exit i=>intro hs σ k K hk;exact hk _ _
 |ret=>intro hs σ k K hk;exact hk _ _
 |_=>intro hs σ k K hk;exact Conv.const _
theorem Gp {Φ:bF T}(c:Code)(hs:List (List (Nat×Bool)))(σ:AS)(k k':Ex→AS→Option R)(hk:∀e s,Le (k e s) (k' e s)):Le (aM T Φ c hs σ k) (aM T Φ c hs σ k'):=fun y hy=>by
 obtain⟨n,hn⟩:=(yL (T:=T) (Φ:=fun _=>Φ) (Φ':=Φ) (fun f x=>Conv.const _) c hs σ (k:=fun _=>k) (K:=k) (fun e s=>Conv.const _)).1 y hy
 have h2:=ES (T:=T) (Φ:=Φ) (Φ':=Φ) (fun f x=>Le.HB _) (Nat.le_refl n) c hs σ k k' hk y (hn n (Nat.le_refl _))
 exact(yL (T:=T) (Φ:=fun _=>Φ) (Φ':=Φ) (fun f x=>Conv.const _) c hs σ (k:=fun _=>k') (K:=k') (fun e s=>Conv.const _)).2 n y h2
theorem Gq {Φ:bF T}(c:Code)(hs:List (List (Nat×Bool)))(σ:AS){k:Nat→Ex→AS→Option R}{K:Ex→AS→Option R}(hk:∀e s,Conv (fun n=>k n e s) (K e s)):Conv (fun n=>aM T Φ c hs σ (k n)) (aM T Φ c hs σ K):=by
 constructor
 ·intro y hy
  have h3:=yL (T:=T) (Φ:=fun _=>Φ) (Φ':=Φ) (fun f x=>Conv.const _) c hs σ (k:=k) (K:=K) hk
  obtain⟨n,hn⟩:=h3.1 y hy
  exact⟨n,fun m hm=>(yL (T:=T) (Φ:=fun _=>Φ) (Φ':=Φ) (fun f x=>Conv.const _) c hs σ (k:=fun _=>k m) (K:=k m) (fun e s=>Conv.const _)).2 m y (hn m hm)⟩
 ·intro m y hy
  exact Gp c hs σ _ _ (fun e s y hy=>(hk e s).2 m y hy) y hy
theorem S0 {h:List (Nat×Bool)}{bI:AS→(Ex→AS→Option R)→Option R}(hle:∀σ (k k':Ex→AS→Option R),(∀e s,Le (k e s) (k' e s))→Le (bI σ k) (bI σ k'))
  (hc:∀σ {k:Nat→Ex→AS→Option R} {K:Ex→AS→Option R},(∀e s,Conv (fun n=>k n e s) (K e s))→Conv (fun n=>bI σ (k n)) (bI σ K)) (k:Ex→AS→Option R) (σ:AS):
  wI h bI k σ=bI σ fun e σ'=>match e with
   | .normal=>wI h bI k (σ'.forget h)
   | .exit i=>k (.exit i) σ'
   | .ret=>k .ret σ':=by
 have hlim:∀σ,Conv (fun m=>lq h bI k m σ) (wI h bI k σ):=fun σ=>SX (Y8 hle k σ)
 have h1:=(hlim σ).shift
 have h2:Conv (fun m=>lq h bI k (m+1) σ) (bI σ fun e σ'=>match e with
   | .normal=>wI h bI k (σ'.forget h)
   | .exit i=>k (.exit i) σ'
   | .ret=>k .ret σ'):=by
  simp only[lq]
  refine hc σ (k:=fun m e σ'=>match e with
   | .normal=>lq h bI k m (σ'.forget h)
   | .exit i=>k (.exit i) σ'
   | .ret=>k .ret σ') fun e s=> ?_
  cases e with
  |normal=>exact hlim _
  |exit i=>exact Conv.const _
  |ret=>exact Conv.const _
 rw[←h2.lim_eq,h1.lim_eq]
theorem agU (T:cm)(Φ:bF T)(h:List (Nat×Bool))(c:Code)(hs:List (List (Nat×Bool)))(k:Ex→AS→Option R)(σ:AS):
  wI h (fun σ k'=>aM T Φ c hs σ k') k σ=aM T Φ c hs σ fun e σ'=>match e with
   | .normal=>wI h (fun σ k'=>aM T Φ c hs σ k') k (σ'.forget h)
   | .exit i=>k (.exit i) σ'
   | .ret=>k .ret σ':=S0 (fun σ k k' hk=>Gp c hs σ k k' hk) (fun σ {k K} hk=>Gq c hs σ hk) k σ
theorem aeh (T:cm)(Φ:bF T)(h:List (Nat×Bool))(ps:List Tmp)(a b:Code)(hs1 hs2:List (List (Nat×Bool)))(k:Ex→AS→Option R)(σ:AS):
  wI h (ir ps (fun σ k'=>aM T Φ a hs1 σ k') (fun σ k'=>aM T Φ b hs2 σ k')) k σ=ir ps (fun σ k'=>aM T Φ a hs1 σ k') (fun σ k'=>aM T Φ b hs2 σ k') σ fun e σ'=>match e with
   | .normal=>wI h (ir ps (fun σ k'=>aM T Φ a hs1 σ k') (fun σ k'=>aM T Φ b hs2 σ k')) k (σ'.forget h)
   | .exit i=>k (.exit i) σ'
   | .ret=>k .ret σ':=S0 (fun σ k k' hk=>Pe (fun σ k k' hk=>Gp a _ σ k k' hk) (fun σ k k' hk=>Gp b _ σ k k' hk) σ k k' hk)
  (fun σ {k K} hk=>Qj (QS:=fun _ σ k'=>aM T Φ a hs1 σ k') (body:=fun _ σ k'=>aM T Φ b hs2 σ k') (fun σ {k K} hk=>Gq a _ σ hk) (fun σ {k K} hk=>Gq b _ σ hk) σ hk) k σ
end
noncomputable def WQ (T:cm)(fn:Func)(c:Code)(Φ:bF T)(v:Nat)(x:A9 T v):Option (xe T v):=
 aM T Φ c (T.hint v) (Na T fn v x) (Km T fn v)
noncomputable def cP (T:cm)(B:LS T)(fns:Nat→Option Func)(v:Nat)(x:A9 T v):Option (xe T v):=lim fun n=>Hz T B fns n v x
theorem acC (T:cm)(B:LS T)(fns:Nat→Option Func):∀n v x y,Hz T B fns n v x=some y→Hz T B fns (n+1) v x=some y
 |0,v,x,y,h=>by cases h
 |n+1,v,x,y,h=>by
  rw[Hz] at h ⊢
  revert h
  cases B v with
  |some g=>exact id
  |none=>
   simp only
   cases fns v with
   |none=>exact id
   |some fn=>
    simp only
    cases fn.body with
    |none=>exact id
    |some c=>
     simp only[Io]
     exact ES (T:=T) (fun f x y hy=>acC T B fns n f x y hy) (by omega) c _ _ _ _ (fun e s=>Le.HB _) y
theorem S1 (T:cm)(B:LS T)(fns:Nat→Option Func)(v:Nat)(x:A9 T v):Conv (fun n=>Hz T B fns n v x) (cP T B fns v x):=SX fun n y=>acC T B fns n v x y
theorem alz {T:cm}{B:LS T}{fns:Nat→Option Func}{v:Nat}{fn:Func}{c:Code}(hB:B v=none)(hf:fns v=some fn)(hc:fn.body=some c)(x:A9 T v):
  cP T B fns v x=WQ T fn c (cP T B fns) v x:=by
 have h1:=(S1 T B fns v x).shift
 have h2:Conv (fun n=>Hz T B fns (n+1) v x) (WQ T fn c (cP T B fns) v x):=by
  have e:(fun n=>Hz T B fns (n+1) v x)=fun n=>aH T (Hz T B fns n) n c (T.hint v) (Na T fn v x) (Km T fn v):=by
   funext n
   rw[Hz,hB]
   simp only
   rw[hf]
   simp only[hc]
   rfl
  rw[e]
  exact yL (T:=T) (fun f x=>S1 T B fns f x) c _ _ (k:=fun _=>Km T fn v) fun e s=>Conv.const _
 rw[←h2.lim_eq,h1.lim_eq]
theorem agV {T:cm}{B:LS T}{fns:Nat→Option Func}{v:Nat}{g:A9 T v→Option (xe T v)}(hB:B v=some g)(x:A9 T v):cP T B fns v x=g x:=by
 have h1:=(S1 T B fns v x).shift
 have e:(fun n=>Hz T B fns (n+1) v x)=fun _=>g x:=by
  funext n
  rw[Hz,hB]
 rw[e] at h1
 rw[←h1.lim_eq,(Conv.const (g x)).lim_eq]
theorem aei {P:Program}{T:cm}{B:LS T}{fns:Nat→Option Func}(hP:L6 P T)(hB:aaY P T B)(hF:acx P T fns):Yu P T (cP T B fns):=fun v xh yh h=>by
 obtain⟨n,hn⟩:=agS h
 exact(Y6 hP hB hF n).1 v xh yh hn
def Pf {α β:Type}(a:Option α)(b:Option β):Option (α×β):=match a,b with
 |some x,some y=>some (x,y)
 |_,_=>none
def bs (l:List Nat):ByteArray:=⟨(l.map UInt8.ofNat).toArray⟩
inductive Frm where
 |seq (b:Code) (hs:List (List (Nat×Bool)))
 |blk (id:Nat)
 |lp (h:List (Nat×Bool)) (c:Code) (hs:List (List (Nat×Bool)))
 |rg (h:List (Nat×Bool)) (ps:List Tmp) (a b:Code) (hs1 hs2:List (List (Nat×Bool)))
section
variable {R:Type}
noncomputable def WS (T:cm)(Φ:bF T):List Frm→(Ex→AS→Option R)→Ex→AS→Option R
 | [],k=>k
 | .seq b hs::fr,k=>fun e σ'=>match e with
   | .normal=>aM T Φ b hs σ' (WS T Φ fr k)
   | .exit i=>WS T Φ fr k (.exit i) σ'
   | .ret=>WS T Φ fr k .ret σ'
 | .blk id::fr,k=>fun e σ'=>match e with
   | .normal=>WS T Φ fr k .normal σ'
   | .exit i=>bif Nat.beq i id then WS T Φ fr k .normal σ' else WS T Φ fr k (.exit i) σ'
   | .ret=>WS T Φ fr k .ret σ'
 | .lp h c hs::fr,k=>fun e σ'=>match e with
   | .normal=>wI h (fun σ k'=>aM T Φ c hs σ k') (WS T Φ fr k) (σ'.forget h)
   | .exit i=>WS T Φ fr k (.exit i) σ'
   | .ret=>WS T Φ fr k .ret σ'
 | .rg h ps a b hs1 hs2::fr,k=>fun e σ'=>match e with
   | .normal=>wI h (ir ps (fun σ k'=>aM T Φ a hs1 σ k') (fun σ k'=>aM T Φ b hs2 σ k')) (fj (WS T Φ fr k)) (σ'.back.forget h)
   |_=>none
end
inductive apM where
 |lp (h:List (Nat×Bool)) (c:Code) (hs:List (List (Nat×Bool))) (fr:List Frm)
 |rg (h:List (Nat×Bool)) (ps:List Tmp) (a b:Code) (hs1 hs2:List (List (Nat×Bool))) (fr:List Frm)
def Gr:Code→List (List (Nat×Bool))→List Frm→Nat→Option apM
 | .seq a b,hs,fr,i=>bif Nat.blt i (loops a) then Gr a hs (.seq b (hs.drop (loops a))::fr) i else Gr b (hs.drop (loops a)) fr (i - loops a)
 | .cond _ a b,hs,fr,i=>bif Nat.blt i (loops a) then Gr a hs fr i else Gr b (hs.drop (loops a)) fr (i - loops a)
 | .block id c,hs,fr,i=>Gr c hs (.blk id::fr) i
 | .loop c,h::hs,fr,0=>some (.lp h c hs fr)
 | .loop c,h::hs,fr,i+1=>Gr c hs (.lp h c hs::fr) i
 | .rangeFunc f ps a b,h::hs,fr,0=>some (.rg h ps.toList a b hs (hs.drop (loops a)) fr)
 | .rangeFunc f ps a b,h::hs,fr,i+1=>bif Nat.blt i (loops a) then none else Gr b (hs.drop (loops a)) (.rg h ps.toList a b hs (hs.drop (loops a))::fr) (i - loops a)
 |_,_,_,_=>none
noncomputable def LL (T:cm)(B:LS T)(fns:Nat→Option Func)(v:Nat)(i:Nat)(σ:AS):Option (xe T v):=
 match fns v with
 |some fn=>match fn.body with
  |some c=>match Gr c (T.hint v) [] i with
   |some (.lp h c hs fr)=>wI h (fun σ k'=>aM T (cP T B fns) c hs σ k') (WS T (cP T B fns) fr (Km T fn v)) σ
   |some (.rg h ps a b hs1 hs2 fr)=>wI h (ir ps (fun σ k'=>aM T (cP T B fns) a hs1 σ k') (fun σ k'=>aM T (cP T B fns) b hs2 σ k')) (fj (WS T (cP T B fns) fr (Km T fn v))) σ
   |none=>none
  |none=>none
 |none=>none
noncomputable def LL1 (T:cm)(B:LS T)(fns:Nat→Option Func)(v:Nat)(i:Nat)(σ:AS):Option (xe T v):=
 match fns v with
 |some fn=>match fn.body with
  |some c=>match Gr c (T.hint v) [] i with
   |some (.lp h c hs fr)=>aM T (cP T B fns) c hs σ fun e σ'=>match e with
    | .normal=>wI h (fun σ k'=>aM T (cP T B fns) c hs σ k') (WS T (cP T B fns) fr (Km T fn v)) (σ'.forget h)
    | .exit i=>WS T (cP T B fns) fr (Km T fn v) (.exit i) σ'
    | .ret=>WS T (cP T B fns) fr (Km T fn v) .ret σ'
   |some (.rg h ps a b hs1 hs2 fr)=>ir ps (fun σ k'=>aM T (cP T B fns) a hs1 σ k') (fun σ k'=>aM T (cP T B fns) b hs2 σ k') σ fun e σ'=>match e with
    | .normal=>wI h (ir ps (fun σ k'=>aM T (cP T B fns) a hs1 σ k') (fun σ k'=>aM T (cP T B fns) b hs2 σ k')) (fj (WS T (cP T B fns) fr (Km T fn v))) (σ'.forget h)
    | .exit i=>fj (WS T (cP T B fns) fr (Km T fn v)) (.exit i) σ'
    | .ret=>fj (WS T (cP T B fns) fr (Km T fn v)) .ret σ'
   |none=>none
  |none=>none
 |none=>none
theorem anE (T:cm)(B:LS T)(fns:Nat→Option Func)(v:Nat)(i:Nat)(σ:AS):LL T B fns v i σ=LL1 T B fns v i σ:=by
 unfold LL LL1
 split
 ·split
  ·split
   ·exact agU T (cP T B fns) _ _ _ _ _
   ·exact aeh T (cP T B fns) _ _ _ _ _ _ _ _
   ·rfl
  ·rfl
 ·rfl
noncomputable def alA (T:cm)(B:LS T)(fns:Nat→Option Func)(v:Nat)(x:A9 T v):Option (xe T v):=
 match B v with
 |some g=>g x
 |none=>match fns v with
  |some fn=>match fn.body with
   |some c=>WQ T fn c (cP T B fns) v x
   |none=>none
  |none=>none
theorem Di (T:cm)(B:LS T)(fns:Nat→Option Func)(v:Nat)(x:A9 T v):cP T B fns v x=alA T B fns v x:=by
 unfold alA
 split
 ·rename_i g hg;exact agV hg x
 ·rename_i hB
  split
  ·rename_i fn hf
   split
   ·rename_i c hc
    exact alz hB hf hc x
   ·rename_i hc
    refine Conv.lim_eq ?_
    refine⟨fun y hy=>(by cases hy),fun n y hy=> ?_⟩
    cases n with
    |zero=>cases hy
    |succ n=>simp only[Hz,hB,hf,hc] at hy;cases hy
  ·rename_i hf
   refine Conv.lim_eq ?_
   refine⟨fun y hy=>(by cases hy),fun n y hy=> ?_⟩
   cases n with
   |zero=>cases hy
   |succ n=>simp only[Hz,hB,hf] at hy;cases hy
end Go.Abs
namespace Go.Abs
open Go.RowKit Go.Lib
section
variable {P:Program}{T:cm}{V0:View}{w:World}
def aji (T:cm)(V0:View)(w:World):Env where
 V0:=V0
 w0:=w
 X:=fun _=>False
 J:=jX
 XS:=fun i=> .pointer (some ⟨i - 1000000000,0,none⟩)
 Y:= .nilFunc
 ro:=fun _=>none
 h0:=cj T
 n0:=fun _ _=> .nilFunc
 M:=fun _=>False
 base:=w
 CB:=fun _=>False
 Om:=fun _=>False
 acc:=fun _=>True
 XH:=fun _ _=>False
theorem ajj (h:∀ad v,V0 (.cell ad) v→w.cell? ad=some v):aC (aji T V0 w):=
 ⟨fun ad v hv=>⟨h ad v hv,id⟩,fun tr O w w' C hJ _ _=>hJ⟩
theorem aej (h:∀ad v,V0 (.cell ad) v→w.cell? ad=some v)(hG:WB T (fun key v=>∃ad:Addr,key= .cell ad∧V0 (.cell ad) v)):L3 T (aji T V0 w):=by
 refine⟨fun g=> ?_,fun i x hx=> ?_⟩
 ·show Value.pointer (some ⟨gk g - 1000000000,0,none⟩)=_
  unfold gk
  rw[show 1000000000+g - 1000000000=g by omega]
 ·obtain⟨g,cs,h1,h2,h3⟩:=hG i x hx
  exact⟨g,cs,h1,h2,h3.of fun key u ⟨ad,e,hv⟩=>⟨ad,e,Gh (h ad u hv),hv⟩⟩
theorem aek:St (aji T V0 w) (aF (cj T)) ⟨#[],[]⟩ w (fun _=> .nilFunc) (fun _=>False):=by
 have ns:∀m,(aF (cj T)).obj m=none:=fun m=>by
  cases m with
  |row q=>rfl
  |box q=>rfl
  |hp i n=>
   simp only[AS.obj,aF]
   cases n with
   |zero=>rfl
   |succ n=>
    simp only[ns]
    split
    ·rename_i hr hhr
     rw[xp i hr hhr];rfl
    ·rfl
 have hno:∀m k,¬Own (aF (cj T)) (fun _=> .nilFunc) m k:=fun m k h=>by
  have:=h.1;rw[ns m] at this;cases this
 refine⟨Grow.refl _ _,(fun d hd=>by cases hd),⟨rfl,(fun i x e=>by cases e),(fun i x e=>by cases e)⟩,fun m o ho=> ?_,fun m m' k h1 h2=>absurd h1 (hno m k),fun m k hm=>absurd hm (hno m k),fun m k hm=>absurd hm (hno m k),⟨rfl,fun _ hf=>hf.elim⟩,fun i hr n e h1 h2=> ?_,(fun i hr e=>by cases e),⟨rfl,fun i hr e=>⟨hr,e,Aa.refl _,Nat.le_refl _⟩,fun i n h1 h2=>rfl⟩,fun _ hf=>hf.elim,Grow.refl _ _,fun m k hm=>absurd hm (hno m k),fun _ hf=>hf.elim,List.nodup_nil⟩
 ·rw[ns m] at ho;cases ho
 ·rw[xp i hr e] at h2;simp at h2;omega
theorem agW {V:View}{σ:AS}{ν:Nm→Value}{Y:Value}{d:Nat}{s:HY}{args:List nr}{hs:List (Nat×Bool)}(hres:s=⟨args,[(.bool,none)],none,hs,none⟩){y:LN s}(hy:HEq y true){r:Value}(h:ah V σ ν Y (Yt d s y) r):r= .bool true:=by
 subst hres
 have hy':y=true:=eq_of_heq hy
 subst hy'
 have:bC V ⟨.bool,true⟩ r:=h
 have h2: [r]=[.bool true]:=this
 simpa using h2
theorem agX {A:Type}{hs:List Nat}(h:hs=[])(y:M6 T A hs):HEq (uO hs y) y:=by subst h;rfl
theorem anF {v:Nat}{xh:A9 T v}{yh:xe T v}(hF:L5 P T v xh yh){as:List nr}(hs:T.sig v=⟨as,[(.bool,none)],none,[],none⟩)(hy:HEq yh true)(hV0:∀ad u,V0 (.cell ad) u→w.cell? ad=some u)
  (hG:WB T (fun key u=>∃ad:Addr,key= .cell ad∧V0 (.cell ad) u)) {args:Array Value} (hargs:mo (fun key u=>∃ad:Addr,key= .cell ad∧V0 (.cell ad) u) (T.sig v).args (uO _ xh) args.toList):
  Calls P (T.real v) args w fun e w'=>e= .returned (.bool true)∧Below w.heap.size w w':=by
 have hhe:(T.sig v).ae.isEmpty=true:=by rw[hs];rfl
 have hst:aI T v xh=cj T:=Dh hhe
 have hin:(T.sig v).hin=[]:=by rw[hs];rfl
 have hout:(T.sig v).hout=[]:=by rw[hs];rfl
 refine Calls.mono (hF.2 (aji T V0 w) (fun _=> .nilFunc) args 0 (ajj hV0) (aej hV0 hG) ⟨rfl,fun _ h=>h,fun _ h=>h,fun _=>trivial,fun _ _ _ h=>h,fun i=>by rw[hin];rfl⟩ (by rw[hst];exact aek) (hargs.mono fun key u ⟨ad,e,hv⟩=>by
  subst e;exact .inl ⟨Gh (hV0 ad u hv),hv⟩)) ?_
 rintro e w' ⟨r,ν',rfl,hend,hr⟩
 have hk:Grow (fun _=>False) w w':=hend.keep
 refine⟨?_,hk.below⟩
 rw[agW hs ((agX hout yh).trans hy) hr]
end
end Go.Abs
namespace Go.Abs
open Go.ChangeShapes
mutual
def lays (P:Program):Ty→TypeId→Bool
 | .int k,t=>match P.underlying t with |some (.int k')=>decide (k'=k) |_=>false
 | .bool,t=>match P.underlying t with |some .bool=>true |_=>false
 | .str,t=>match P.underlying t with |some .string=>true |_=>false
 | .slice e',t=>match P.underlying t with
   |some (.slice e)=>lays P e' e&&decide (P.cellsOf e=e'.size)&&Nat.ble 1 (P.bytesOf e)
   |_=>false
 | .st f,t=>match P.underlying t with
   |some (.struct fs)=>Bq P f fs.toList 0&&decide (P.cellsOf t=f.size)
   |_=>false
 |_,_=>false
def Bq (P:Program):Ty→List Field→Nat→Bool
 | .unit,[],_=>true
 | .pair a b,f::r,off=>lays P a f.type&&decide (f.offset=off)&&decide (P.cellsOf f.type=a.size)&&Bq P b r (off+a.size)
 |_,_,_=>false
end
def Bnd:(t:Ty)→t.den→Prop
 | .int k,n=>(Lit.int k n).wf=true
 | .str,s=>ByteArray.size s≤140737488351232
 | .slice t,xs=>List.length xs≤140737488351232∧∀x:t.den,List.Mem x xs→Bnd t x
 | .pair a b,x=>Bnd a x.1∧Bnd b x.2
 | .st t,x=>Bnd t x
 |_,_=>True
def wv (W:World):View:=fun key u=>∃ad:Addr,key= .cell ad∧W.cell? ad=some u
theorem build {α β:Type}{R:α→β→Prop}{Q:Nat→β→Prop}{B:α→Prop}:∀n:Nat,(∀i,i<n→∃x c,R x c∧Q i c∧B x)→
  ∃(xs:List α) (cs:List β),xs.length=n∧aA R xs cs∧(∀i c,cs[i]? =some c→Q i c)∧∀x,List.Mem x xs→B x
 |0,_=>⟨[],[],rfl,trivial,fun i c h=>by simp at h,fun x h=>by cases h⟩
 |n+1,h=>by
  obtain⟨xs,cs,h1,h2,h3,h4⟩:=build n fun i hi=>h i (by omega)
  obtain⟨x,c,g1,g2,g3⟩:=h n (by omega)
  have hl:cs.length=n:=by rw[←h2.length,h1]
  refine⟨xs++[x],cs++[c],by simp[h1],aA.append h2 ⟨g1,trivial⟩,fun i d hd=> ?_,fun y hy=> ?_⟩
  ·by_cases hi:i<n
   ·rw[List.getElem?_append_left (by omega)] at hd;exact h3 i d hd
   ·rw[List.getElem?_append_right (by omega)] at hd
    by_cases e:i=n
    ·subst e
     rw[hl,Nat.sub_self] at hd
     simp at hd;subst hd;exact g2
    ·rw[List.getElem?_eq_none (by simp;omega)] at hd;cases hd
  ·rcases List.mem_append.1 (show y∈xs++[x] from hy) with h |h
   ·exact h4 y h
   ·rw[List.mem_singleton.1 h];exact g3
theorem Qk {s:Nat}:∀{bm:List (List Value)},(∀c∈bm,c.length=s)→∀{j:Nat} {u:Value},bm.flatten[j]? =some u→∃i k c,bm[i]? =some c∧c[k]? =some u∧j=i*s+k∧k<s
 | [],_,j,u,h=>by simp at h
 |c::r,hl,j,u,h=>by
  have hc:=hl c (by simp)
  rw[List.flatten_cons] at h
  by_cases hj:j<s
  ·rw[List.getElem?_append_left (by omega)] at h
   exact⟨0,j,c,rfl,h,by omega,hj⟩
  ·rw[List.getElem?_append_right (by omega)] at h
   obtain⟨i,k,d,h1,h2,h3,h4⟩:=Qk (fun c hc=>hl c (by simp[hc])) h
   exact⟨i+1,k,d,by simpa using h1,h2,by rw[Nat.succ_mul];omega,h4⟩
theorem Y9 {α β:Type}{R:α→β→Prop}:∀{xs:List α} {ys:List β},aA R xs ys→∀y∈ys,∃x,R x y
 |x::xs,y::ys,h,z,hz=>by
  rcases List.mem_cons.1 hz with rfl |hz
  ·exact⟨x,h.1⟩
  ·exact Y9 h.2 z hz
 | [],[],_,z,hz=>by cases hz
theorem Ql {H:Type}{P:Program}{e:TypeId}{d:DataW H}:∀{l:List (DataW H)},d∈l→∀n∈d.weights P e,n∈DataW.weightsAll P e l
 |c::r,h,n,hn=>by
  simp only[DataW.weightsAll,List.mem_append]
  rcases List.mem_cons.1 h with rfl |h
  ·exact .inl hn
  ·exact .inr (Ql h n hn)
section
variable {H:Type}{enc:TypeId×Value→H}{P:Program}{W:World}
def OkW (P:Program)(t:TypeId)(d:DataW H):Prop:=∀n∈d.weights P t,n≤140737488351232
theorem ael:∀ty:Ty,
  (∀(t:TypeId) (fuel:Nat) (cs:List Value) (x:DataW H×List MemPlace),lays P ty t=true→DataW.trod enc P W 0 (fun _=>true) true fuel t cs=some x→OkW P t x.1→∃y:ty.den,Rel (wv W) ty y cs∧Bnd ty y)∧
  (∀(fs:List Field) (off n:Nat) (cs:List Value) (xs:List (DataW H×List MemPlace)),Bq P ty fs off=true→xs.length=fs.length→
   (∀(i:Nat) (f:Field),fs[i]? =some f→DataW.trod enc P W 0 (fun _=>true) true n f.type ((cs.drop f.offset).take (P.cellsOf f.type))=xs[i]?)→
   (∀(i:Nat) (f:Field) x,fs[i]? =some f→xs[i]? =some x→OkW P f.type x.1)→cs.length=off+ty.size→∃y:ty.den,Rel (wv W) ty y (cs.drop off)∧Bnd ty y):=by
 intro ty
 induction ty with
 |int k=>
  refine⟨fun t fuel cs x hf h hw=> ?_,fun fs off n cs xs hf=>by simp[Bq] at hf⟩
  simp only[lays] at hf
  split at hf
  ·rename_i k' hu
   obtain rfl:=of_decide_eq_true hf
   obtain⟨m,rfl,rfl,hwf⟩:=DataW.trod_int hu h
   exact⟨m,rfl,hwf⟩
  ·cases hf
 |bool=>
  refine⟨fun t fuel cs x hf h hw=> ?_,fun fs off n cs xs hf=>by simp[Bq] at hf⟩
  simp only[lays] at hf
  split at hf
  ·rename_i hu
   obtain⟨b,rfl,rfl⟩:=DataW.trod_bool hu h
   exact⟨b,rfl,trivial⟩
  ·cases hf
 |str=>
  refine⟨fun t fuel cs x hf h hw=> ?_,fun fs off n cs xs hf=>by simp[Bq] at hf⟩
  simp only[lays] at hf
  split at hf
  ·rename_i hu
   obtain⟨s,rfl,rfl,hs⟩:=DataW.trod_string hu h
   refine⟨s,rfl, ?_⟩
   have:=hw s.data.toList.length (by simp[DataW.weights])
   rw[Array.length_toList] at this
   exact this
  ·cases hf
 |slice e' ih=>
  refine⟨fun t fuel cs x hf h hw=> ?_,fun fs off n cs xs hf=>by simp[Bq] at hf⟩
  simp only[lays] at hf
  split at hf
  ·rename_i e hu
   simp only[Bool.and_eq_true,decide_eq_true_eq] at hf
   obtain⟨⟨hfe,hce⟩,hbe⟩:=hf
   have hbe:=Nat.le_of_ble_eq_true hbe
   rcases DataW.trod_slice hu h with ⟨rfl,_⟩ | ⟨a,len,cap,elems,rest,n,_,rfl,rfl,_,hl,hm,hlen,hel,hsp,_⟩
   ·exact⟨[],⟨none,0,[],rfl,Nat.le_refl _,trivial,fun _=>rfl,fun j u hj=>by simp at hj⟩,by simp,fun x hx=>by cases hx⟩
   ·have hws:∀y∈elems,OkW P e y.1:=fun y hy m hm'=>hw m (by
     simp only[DataW.weights,hu,List.mem_cons,List.mem_append]
     exact .inr (.inl (Ql (List.mem_map_of_mem hy) m hm')))
    have hlw:len≤140737488351232:=by
     have:=hw ((elems.map (·.1)).length*P.bytesOf e+(rest.map (·.1)).length*P.bytesOf e) (by
      simp only[DataW.weights,hu,List.mem_cons]
      exact .inl (by rw[Nat.add_mul]))
     rw[List.length_map,hlen] at this
     have h2:len*1≤len*P.bytesOf e:=Nat.mul_le_mul_left _ hbe
     omega
    obtain⟨xs,bm,h1,h2,h3,h4⟩:=build (R:=Rel (wv W) e') (Q:=fun i c=>∀k,k<e'.size→W.cell? ((a.add (i*e'.size)).add k)=c[k]?) (B:=Bnd e') len fun i hi=>by
     have:=hel i hi
     have hi':i<elems.length:=by omega
     rw[List.getElem?_eq_getElem hi',Option.bind_eq_some_iff] at this
     obtain⟨c,hc,hc2⟩:=this
     obtain⟨y,hy1,hy2⟩:=ih.1 e n c _ hfe hc2 (hws _ (List.getElem_mem hi'))
     obtain⟨_,_,hcell⟩:=World.cells?_some hc
     rw[hce] at hcell
     exact⟨y,c,hy1,hcell,hy2⟩
    have Za:∀c∈bm,c.length=e'.size:=fun c hc=>by
     obtain⟨x,hx⟩:=Y9 h2 c hc
     exact Rel.length hx
    refine⟨xs,⟨some a,cap,bm,by rw[h1],by omega,h2,(fun e=>by cases e),fun j u hj=>⟨a,rfl, ?_⟩⟩,by omega,h4⟩
    obtain⟨i,k,c,g1,g2,rfl,g4⟩:=Qk Za hj
    have:=h3 i c g1 k g4
    rw[add_add,g2] at this
    exact⟨_,rfl,this⟩
  ·cases hf
 |unit=>
  refine⟨fun t fuel cs x hf h hw=>by simp[lays] at hf,fun fs off n cs xs hf hl hx hw hc=> ?_⟩
  refine⟨(), ?_,trivial⟩
  show cs.drop off=[]
  rw[List.drop_eq_nil_of_le]
  have:Ty.unit.size=0:=rfl
  omega
 |pair a b XW Wd=>
  refine⟨fun t fuel cs x hf h hw=>by simp[lays] at hf,fun fs off n cs xs hf hl hx hw hc=> ?_⟩
  cases fs with
  |nil=>simp[Bq] at hf
  |cons f r=>
   simp only[Bq,Bool.and_eq_true,decide_eq_true_eq] at hf
   obtain⟨⟨⟨f1,f2⟩,f3⟩,f4⟩:=hf
   have hsz:(Ty.pair a b).size=a.size+b.size:=rfl
   cases xs with
   |nil=>simp at hl
   |cons x xr=>
    have h0:=hx 0 f rfl
    obtain⟨y1,r1,b1⟩:=XW.1 f.type n _ x f1 h0 (hw 0 f x rfl rfl)
    obtain⟨y2,r2,b2⟩:=Wd.2 r (off+a.size) n cs xr f4 (by simpa using hl) (fun i g hg=>hx (i+1) g (by simpa using hg)) (fun i g z hg hz=>hw (i+1) g z (by simpa using hg) (by simpa using hz)) (by omega)
    refine⟨(y1,y2),⟨_,_, ?_,r1,r2⟩,b1,b2⟩
    rw[f2,f3, ←List.drop_drop,List.take_append_drop]
 |st f ih=>
  refine⟨fun t fuel cs x hf h hw=> ?_,fun fs off n cs xs hf=>by simp[Bq] at hf⟩
  simp only[lays] at hf
  split at hf
  ·rename_i fs hu
   simp only[Bool.and_eq_true,decide_eq_true_eq] at hf
   obtain⟨xs,n,_,rfl,hl,hlen,hx⟩:=DataW.trod_struct hu h
   obtain⟨y,h1,h2⟩:=ih.2 fs.toList 0 n cs xs hf.1 (by simpa using hlen) (fun i g hg=>hx i g (by simpa using hg)) (fun i g x hg hxi m hm=>hw m (by
    simp only[DataW.weights,hu]
    exact DataW.weights_mem_each (j:=i) (t:=g.type) (d:=x.1) (by rw[List.getElem?_map,hg];rfl) (by rw[List.getElem?_map,hxi];rfl) m hm)) (by rw[hl,hf.2];omega)
   rw[List.drop_zero] at h1
   exact⟨y,h1,h2⟩
  ·cases hf
 |ref h=>exact⟨fun t fuel cs x hf=>by simp[lays] at hf,fun fs off n cs xs hf=>by simp[Bq] at hf⟩
 |ptr h=>exact⟨fun t fuel cs x hf=>by simp[lays] at hf,fun fs off n cs xs hf=>by simp[Bq] at hf⟩
 |o6 h=>exact⟨fun t fuel cs x hf=>by simp[lays] at hf,fun fs off n cs xs hf=>by simp[Bq] at hf⟩
 |mp h=>exact⟨fun t fuel cs x hf=>by simp[lays] at hf,fun fs off n cs xs hf=>by simp[Bq] at hf⟩
 |fn=>exact⟨fun t fuel cs x hf=>by simp[lays] at hf,fun fs off n cs xs hf=>by simp[Bq] at hf⟩
theorem alB {ty:Ty}{t:TypeId}{v:Value}{d:DataW H}{ps:List MemPlace}(hf:lays P ty t=true)(h:DataW.Trod enc P W 0 (fun _=>true) true t v d ps){ts:List TypeId}{ds:List (DataW H)}(hw:(DataW.weightsEach P ts ds).all (· ≤reachBytes)=true){j:Nat}(ht:ts[j]? =some t)(hd:ds[j]? =some d):
  ∃y:ty.den,Rel (wv W) ty y v.cells.toList∧Bnd ty y:=by
 obtain⟨fuel,h⟩:=h
 refine(ael ty).1 t fuel _ _ hf h fun n hn=> ?_
 have:=List.all_eq_true.1 hw n (DataW.weights_mem_each ht hd n hn)
 exact of_decide_eq_true this
theorem alC {f:Ty}{x:(Ty.st f).den}{l:Array Value}(h:Rel (wv W) (.st f) x l.toList):wB (wv W) (.st f) x (.agg l):=⟨l.toList,by simp,h⟩
end
end Go.Abs
