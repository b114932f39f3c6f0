/- YtofjebmoebhiiaaGreatDoorZc: a part of the proof (AbsC2, AbsC3, AbsC4 ..). No condition. -/
import Derived.Test.YtofjebmoebhiiaaGreatDoorZb
import Derived.RangeFuncNested
import Derived.SliceStrings
import Derived.SizedLaws
set_option linter.unusedVariables false
set_option linter.unusedSimpArgs false
set_option maxRecDepth 100000
set_option exponentiation.threshold 2000
namespace Go.Abs
open Go.RowKit Go.Lib
def Post {R:Type}(E:Env)(σ:AS)(k:Ex→AS→Option R)(r:R):Exit→Act→World→Prop
 | .normal,a,w=>∃σ',k .normal σ'=some r∧Fr σ σ'∧To E σ' a w
 | .exit id,a,w=>∃σ',k (.exit id) σ'=some r∧Fr σ σ'∧To E σ' a w
 | .ret,a,w=>∃σ',k .ret σ'=some r∧Fr σ σ'∧To E σ' a w
 |_,_,_=>False
theorem exists_least {p:Nat→Prop}(h:∃m,p m):∃m,p m∧∀k,p k→m≤k:=by
 obtain⟨m,hm⟩:=h
 induction m using Nat.strongRecOn with
 |_ m ih=>
  by_cases hk:∃k,k<m∧p k
  ·obtain⟨k,h1,h2⟩:=hk;exact ih k h1 h2
  ·exact⟨m,hm,fun k hk'=>Nat.le_of_not_lt fun hlt=>hk ⟨k,hlt,hk'⟩⟩
open Classical in
noncomputable def least (p:Nat→Prop):Nat:=if h:∃m,p m then (exists_least h).choose else 0
theorem SV {p:Nat→Prop}(h:∃m,p m):p (least p)∧∀k,p k→least p≤k:=by
 unfold least
 rw[dif_pos h]
 exact(exists_least h).choose_spec
section
variable {P:Program}{T:cj}{E:Env}{σ σ1 σ2 σe:AS}{a:Act}{w w':World}{ν ν':Nm→Value}{O:Nat→Prop}{Φ:bE T}{F:Fence}{nn:Nat}
theorem ad7 {c:Code}{Q:Exit→Act→World→Prop}(J:Nat→Act→World→Prop){m:Nat}(h0:J m a w)
  (round:∀m a w,J m a w→c.wpIn F nn P (Exit.then (fun a' w'=>∃m',m'<m∧J m' a' w') Q) a w):(Code.loop c).wpIn F nn P Q a w:=by
 refine wpIn_loop (fun a w=>∃m,J m a w) (fun a w=>least fun m=>J m a w) ⟨m,h0⟩ (fun a w hI=> ?_)
 obtain⟨h1,h2⟩:=SV hI
 refine wpIn_mono (round _ a w h1) (fun e a' w' he=> ?_)
 cases e with
 |normal=>
  obtain⟨m',h3,h4⟩:=he
  exact⟨⟨m',h4⟩,Nat.lt_of_le_of_lt ((SV ⟨m',h4⟩).2 m' h4) h3⟩
 |_=>exact he
def Sound (P:Program)(T:cj)(Φ:bE T)(n:Nat)(c:Code):Prop:=∀{R:Type} {r:R} (E:Env) (_:Ctx P T Φ E) (_:yl E) (rr:Option Nat) (hs:List (List (Nat×Bool))) (σ:AS) (k:Ex→AS→Option R) (a:Act) (w:World) (ν:Nm→Value) (O:Nat→Prop),
 aG T Φ n c hs σ k=some r→St E σ a w ν O→(rr.isSome=true→σ.b4≠ [])→(∀e σ',k e σ'=some r→Fr σ σ'→E.acc σ'.trace)→c.wpIn (FW rr) 0 P (Post E σ k r) a w
theorem Post.agJ {R:Type}{r:R}{k:Ex→AS→Option R}(hf:Fr σ σ1){e:Exit}{a:Act}{w:World}(h:Post E σ1 k r e a w):Post E σ k r e a w:=by
 cases e with
 |normal=>obtain⟨σ',h1,h2,h3⟩:=h;exact⟨σ',h1,hf.trans h2,h3⟩
 |exit i=>obtain⟨σ',h1,h2,h3⟩:=h;exact⟨σ',h1,hf.trans h2,h3⟩
 |ret=>obtain⟨σ',h1,h2,h3⟩:=h;exact⟨σ',h1,hf.trans h2,h3⟩
 |_=>exact h
theorem SX {n:Nat}(hm:P.follows .mixedOrders=true)(hR:∀f ps x y,Sound P T Φ n x→Sound P T Φ n y→Sound P T Φ n (.rangeFunc f ps x y)):∀(c:Code),Sound P T Φ n c:=by
 intro c
 induction c with
 |skip=>intro R r E C hD rr hs σ k a w ν O he h X2 hk;exact wpIn_skip ⟨σ,he,Fr.refl _,ν,O,h⟩
 |region id ops draw=>
  intro R r E C hD rr hs σ k a w ν O he h X2 hk
  exact WX C hD hm h he (fun σ' h1 h2=>hk _ _ h1 h2) (fun σ' a' w' h1 h2 h3=>⟨σ',h1,h2,h3⟩)
 |seq x y Kw HO=>
  intro R r E C hD rr hs σ k a w ν O he h X2 hk
  simp only[aG] at he
  refine wpIn_seq (wpIn_mono (Kw E C hD rr _ _ _ a w ν O he h X2 (fun e σ' h1 h2=> ?_)) (fun e a' w' hp=> ?_))
  ·cases e with
   |normal=>
    obtain⟨e',σ'',h3,h4⟩:=SU _ _ _ _ h1
    exact hD _ _ h4.tr (hk _ _ h3 (h2.trans h4))
   |exit i=>exact hk _ _ h1 h2
   |ret=>exact hk _ _ h1 h2
  ·cases e with
   |normal=>
    obtain⟨σ',h1,h2,ν',O',h3⟩:=hp
    refine wpIn_mono (HO E C hD rr _ _ _ a' w' ν' O' h1 h3 (fun h4=>by rw[h2.b4];exact X2 h4) (fun e σ'' h4 h5=>hk _ _ h4 (h2.trans h5))) (fun e a2 w2 hp=>hp.agJ h2)
   |exit id=>exact hp
   |ret=>exact hp
   |_=>exact hp.elim
 |cond x y z HO ihz=>
  intro R r E C hD rr hs σ k a w ν O he h X2 hk
  simp only[aG] at he
  split at he
  ·rename_i t
   split at he
   ·rename_i b hb
    have hx:a.eval (.tmp t)= .bool b:=by
     have:=h.av C.Rb.1 (.tmp t)
     simp only[AS.av,eW.av] at this
     rw[hb] at this
     exact NA this rfl
    have main:∀b:Bool,nth σ.tmps t= .rv (.cv ⟨.bool,b⟩)→(bif b then aG T Φ n y hs (σ.Me t true) k else aG T Φ n z (hs.drop (loops y)) (σ.Me t false) k)=some r→
      (if b then y else z).wpIn (FW rr) 0 P (Post E σ k r) a w:=fun b hb he=>by
     cases b
     ·rw[WW hb] at he;exact ihz E C hD rr _ _ _ a w ν O he h X2 hk
     ·rw[WW hb] at he;exact HO E C hD rr _ _ _ a w ν O he h X2 hk
    exact wpIn_cond hx (main b hb he)
   ·cases he
  ·rename_i b
   refine wpIn_cond (t:=b) rfl ?_
   cases b
   ·exact ihz E C hD rr _ _ _ a w ν O he h X2 hk
   ·exact HO E C hD rr _ _ _ a w ν O he h X2 hk
  ·cases he
 |block id c ih=>
  intro R r E C hD rr hs σ k a w ν O he h X2 hk
  simp only[aG] at he
  refine wpIn_block (wpIn_mono (ih E C hD rr _ _ _ a w ν O he h X2 (fun e σ' h1 h2=> ?_)) (fun e a' w' hp=> ?_))
  ·cases e with
   |normal=>exact hk _ _ h1 h2
   |exit i=>
    cases hb:Nat.beq i id with
    |true=>simp only[hb,cond_true] at h1;exact hk _ _ h1 h2
    |false=>simp only[hb,cond_false] at h1;exact hk _ _ h1 h2
   |ret=>exact hk _ _ h1 h2
  ·cases e with
   |normal=>exact hp
   |exit i=>
    obtain⟨σ',h1,h2⟩:=hp
    simp only[Exit.inBlock]
    cases hb:Nat.beq i id with
    |true=>
     have:=(beq_iff _ _).1 hb;subst this
     simp only[hb,cond_true] at h1
     rw[if_pos rfl]
     exact⟨σ',h1,h2⟩
    |false=>
     have:=rQ.1 hb
     simp only[hb,cond_false] at h1
     rw[if_neg this]
     exact⟨σ',h1,h2⟩
   |ret=>exact hp
   |_=>exact hp.elim
 |loop c ih=>
  intro R r E C hD rr hs σ k a w ν O he h X2 hk
  simp only[aG] at he
  split at he
  ·rename_i hd hs'
   refine ad7 (fun m a w=>∃σ1,lh hd (fun σ k'=>aG T Φ n c hs' σ k') k m σ1=some r∧Fr σ σ1∧To E σ1 a w) ⟨_,he,mA hd σ,ν,O,h.forget C.env hd⟩ (fun m a w hJ=> ?_)
   obtain⟨σ1,h1,hf,ν,O,h2⟩:=hJ
   cases m with
   |zero=>cases h1
   |succ m=>
    simp only[lh] at h1
    refine wpIn_mono (ih E C hD rr _ _ _ a w ν O h1 h2 (fun h4=>by rw[hf.b4];exact X2 h4) (fun e σ' h3 h4=> ?_)) (fun e a' w' hp=> ?_)
    ·cases e with
     |normal=>
      obtain⟨e2,σ3,h8,h9⟩:=Kj (I:=Fr σ') (fun σ' h=>h.trans (mA hd σ')) (fun σ' k' hi hb=>by
       obtain⟨e,σ'',h1,h2⟩:=SU _ _ _ _ hb
       exact⟨e,σ'',h1,hi.trans h2⟩) m _ (mA hd σ') h3
      exact hD _ _ h9.tr (hk _ _ h8 ((hf.trans h4).trans h9))
     |exit i=>exact hk _ _ h3 (hf.trans h4)
     |ret=>exact hk _ _ h3 (hf.trans h4)
    ·cases e with
     |normal=>
      obtain⟨σ',h3,h4,ν',O',h5⟩:=hp
      exact⟨m,Nat.lt_succ_self m,_,h3,(hf.trans h4).trans (mA hd _),ν',O',h5.forget C.env hd⟩
     |exit i=>exact hp.agJ hf
     |ret=>exact hp.agJ hf
     |_=>exact hp.elim
  ·cases he
 |rangeFunc f ps x y Kw HO=>exact hR f ps x y Kw HO
 |exit i=>intro R r E C hD rr hs σ k a w ν O he h X2 hk;exact wpIn_exit ⟨σ,he,Fr.refl _,ν,O,h⟩
 |ret=>intro R r E C hD rr hs σ k a w ν O he h X2 hk;exact wpIn_ret ⟨σ,he,Fr.refl _,ν,O,h⟩
 |_=>intros;intro R r E C hD rr hs σ k a w ν O he h X2 hk;cases he
end
end Go.Abs
namespace Go.Abs
open Go.RowKit Go.Lib
section
variable {P:Program}{T:cj}{E:Env}{σ σ1 σ2 σe σ':AS}{a a':Act}{w w':World}{ν ν':Nm→Value}{O O':Nat→Prop}{Φ:bE T}
theorem St.Pu (h:St E σ a w ν O){m:Nm}{k:Nat}(hm:Own σ ν m k):∃cur e,w.heap[k]? =some (.cells cur e (0,0)):=by
 obtain⟨o,ho⟩:=Option.isSome_iff_exists.1 hm.1
 have b5:=h.A6 m o ho
 have hblk:=hm.2
 cases o with
 |row row=>
  obtain⟨bk,⟨_,h5⟩,_⟩:=b5
  rcases h5 with ⟨h5,_⟩ | ⟨g,cap,cur,h5,_,h6,_⟩
  ·rw[h5] at hblk;cases hblk
  ·rw[h5] at hblk;simp only[cD,Option.some.injEq] at hblk;subst hblk;exact⟨_,_,h6⟩
 |box x=>
  obtain⟨g,h5,h6⟩:=b5
  rw[h5] at hblk;simp only[cD,Option.some.injEq] at hblk;subst hblk
  cases x with
  |cells cs=>obtain⟨cur,e,h7,_⟩:=h6;exact⟨_,_,h7⟩
  |own q=>obtain⟨e,h7,_⟩:=h6;exact⟨_,_,h7⟩
  |nil=>obtain⟨u,e,h7⟩:=h6;exact⟨_,_,h7⟩
 |hp k row=>
  match k,b5 with
  |0,⟨_,bk,⟨_,h5⟩,_⟩=>
   rcases h5 with ⟨h5,_⟩ | ⟨g,cap,cur,h5,_,h6,_⟩
   ·rw[h5] at hblk;cases hblk
   ·rw[h5] at hblk;simp only[cD,Option.some.injEq] at hblk;subst hblk;exact⟨_,_,h6⟩
  |1,⟨g,cur,ys,x,h5,h6,_⟩=>rw[h5] at hblk;simp only[cD,Option.some.injEq] at hblk;subst hblk;exact⟨_,_,h6⟩
theorem St.aiR (hE:aB E)(hJ:E.J=jX)(h:St E σ a w ν O){C:Nat→Prop}(hg:Grow C w w')(hC:∀k,C k→O k∧(E.CB k∨E.base.heap.size≤k))(hO:∀k,O k→O' k)(hO':∀k,O' k→O k∨(w.heap.size≤k∧k<w'.heap.size)):
  St E σ a w' ν O':=by
 have hV:∀key u,view E σ ν O w key u→view E σ ν O' w' key u:=fun key u hu=>EW hg (HSub.refl _ _) (fun k h1 h2 h3 h4=>⟨h3,fun h5=>by
  rcases hO' k h5 with h6 |h6
  ·exact h4 h6
  ·omega,fun h5=>h4 (hC k h5).1⟩) hu
 have hblk:∀r o,w.heap[r]? =some o→¬O r→w'.heap[r]? =some o∧¬O' r:=fun r o h1 h2=>by
  have hlt:=(Array.getElem?_eq_some_iff.1 h1).1
  refine⟨by rw[hg.block r hlt (fun hc=>h2 (hC r hc).1)];exact h1,fun h3=> ?_⟩
  rcases hO' r h3 with h4 |h4
  ·exact h2 h4
  ·omega
 have htr:σ.trace=⟨.unit,()⟩:=by have:=h.out.1;rw[hJ] at this;exact this
 refine⟨h.keep.trans hg (fun k hk hc=>(h.out.2 k (hC k hc).1).2 hk),fun d hd=> ?_,h.slots.mono (ag.mono hV (Sub.refl _ _)),fun m o ho=> ?_,h.inj,fun m k hm=> ?_,h.new,⟨?_,fun k hk=> ?_⟩,h.nn,h.ro,h.kept,fun r hr=> ?_,h.ve.trans hg (fun k hk hc=> ?_),h.wQ,fun k hk=>hO k (h.Nw k hk),h.nd⟩
 ·obtain⟨r,h1,h2,h3,h4⟩:=h.marks d hd
  obtain⟨h5,h6⟩:=hblk r _ h3 h4
  exact⟨r,h1,h2,h5,h6⟩
 ·exact(h.A6 m o ho).mono hV (fun k hk=>hg.block k (h.yO m k ⟨aW ho,hk⟩).2.1 (fun hc=>(h.yO m k ⟨aW ho,hk⟩).2.2 (hC k hc).1)) (fun r _ hr=>⟨rfl,hr⟩)
 ·obtain⟨h1,h2,h3⟩:=h.yO m k hm
  refine⟨h1,Nat.lt_of_lt_of_le h2 hg.size,fun h4=> ?_⟩
  rcases hO' k h4 with h5 |h5
  ·exact h3 h5
  ·omega
 ·rw[hJ];exact htr
 ·rcases hO' k hk with h5 |h5
  ·exact⟨Nat.lt_of_lt_of_le (h.out.2 k h5).1 hg.size,(h.out.2 k h5).2⟩
  ·exact⟨h5.2,fun h6=>by have:=h.keep.size;omega⟩
 ·obtain⟨h1,h2⟩:=h.waits r hr
  exact hblk r _ h1 h2
 ·rcases (hC k hc).2 with h1 |h1
  ·exact h1
  ·omega
theorem St.frame (h:St E σ a w ν O):St E σ ⟨a.tmps,[]⟩ w ν O:=
 ⟨h.keep,(fun d hd=>by cases hd),h.slots,h.A6,h.inj,h.yO,h.new,h.out,h.nn,h.ro,h.kept,h.waits,h.ve,h.wQ,h.Nw,List.nodup_nil⟩
def Env.xI (E:Env)(σ:AS)(ν:Nm→Value)(O:Nat→Prop)(w:World):Env:={E with base:=w,CB:=fun k=>∃m,Own σ ν m k∧¬E.wK m,Om:=O}
theorem aB.xI (hE:aB E):aB (E.xI σ ν O w):=⟨hE.cell,hE.stay⟩
theorem St.xI (h:St E σ a w ν O):St (E.xI σ ν O w) σ a w ν O:=
 ⟨h.keep,h.marks,h.slots,h.A6,h.inj,h.yO,h.new,h.out,h.nn,h.ro,h.kept,h.waits,Grow.refl _ _,fun m k hm=>by
   by_cases hr:E.wK m
   ·exact .inl hr
   ·exact .inr (.inl ⟨m,hm,hr⟩),fun k hk=>hk,h.nd⟩
theorem St.agK (h:St E σ a w ν O)(g:St (E.xI σ ν O w) σ' a' w' ν' O'):
  St E σ' a' w' ν' O'∧Grow (fun k=>∃m,Own σ ν m k∧¬E.wK m) w w'∧(∀k,O k→O' k)∧∀m k,Own σ' ν' m k→E.wK m∨(∃m',Own σ ν m' k∧¬E.wK m')∨w.heap.size≤k:=by
 have hgr:Grow (fun k=>∃m,Own σ ν m k∧¬E.wK m) w w':=g.ve
 refine⟨⟨g.keep,g.marks,g.slots,g.A6,g.inj,g.yO,g.new,g.out,g.nn,g.ro,g.kept,g.waits,h.ve.trans hgr (fun k hk ⟨m,hm,hr⟩=> ?_),fun m k hm=> ?_,fun k hk=>g.Nw k (h.Nw k hk),g.nd⟩,hgr,g.Nw,g.wQ⟩
 ·rcases h.wQ m k hm with h1 |h1 |h1
  ·exact absurd h1 hr
  ·exact h1
  ·omega
 ·rcases g.wQ m k hm with h1 | ⟨m',h1,h2⟩ |h1
  ·exact .inl h1
  ·rcases h.wQ m' k h1 with h3 |h3
   ·exact absurd h3 h2
   ·exact .inr h3
  ·exact .inr (.inr (Nat.le_trans h.ve.size h1))
end
end Go.Abs
namespace Go.Abs
open Go.RowKit Go.Lib
def aa4:(s:Iq)→Ma s→CV
 | ⟨_,_,_,_,some ts⟩,y=>⟨.slice (jv ts),y⟩
 |_,_=>⟨.unit,()⟩
def NS (T:cj)(v:Nat)(yh:xu T v):CV:=aa4 (T.sig v) (u9 _ yh)
def tv (T:cj)(v:Nat)(xh:Bh T v):AS:=⟨⟨0,[],[]⟩,[],c7 (T.sig v).args (u9 _ xh) 0,aH T v xh,Dk (T.sig v),[],[]⟩
def RF (V:View)(ν:Nm→Value)(Y:Value)(i:Nat):(p:nj)→p.den→Value→Prop
 | .bx t,x,v=>v=ν (.box i)
 | .Lo,_,v=>v=Y
 |p,x,v=>ArgRel V p x v
def Qw (V:View)(ν:Nm→Value)(Y:Value):Nat→(ps:List nj)→Gh ps→List Value→Prop
 |_,[],_,vs=>vs=[]
 |i,[p],x,vs=>∃v,vs=[v]∧RF V ν Y i p x v
 |i,p::q::ps,x,vs=>∃v r,vs=v::r∧RF V ν Y i p x.1 v∧Qw V ν Y (i+1) (q::ps) x.2 r
def Y2 (P:Program)(T:cj)(Φ:bE T):Prop:=∀v xh yh,Φ v xh=some yh→(T.sig v).gen.isSome=true→(∃fn,P.funcs[T.real v]? =some fn∧fn.body.isSome=true∧(fn.name== "runtime.NumGoroutine")=false)∧
 ∀(E:Env) (ν:Nm→Value) (args:Array Value) (O:Nat→Prop),aB E→Ml T E→Gy P E→yl E→(∀O w,¬E.J ⟨.unit,()⟩ O w)→E.acc (NS T v yh)→St E (tv T v xh) ⟨#[],[]⟩ E.w0 ν O→
  Qw (view E (tv T v xh) ν O E.w0) ν E.Y 0 (T.sig v).args (u9 _ xh) args.toList→Calls P (T.real v) args E.w0 fun e w'=>∃r O',e= .returned r∧E.J (NS T v yh) O' w'
section
variable {P:Program}{T:cj}{E:Env}{σ σ1 σ2 σe σ':AS}{a a':Act}{w w':World}{ν ν':Nm→Value}{O O':Nat→Prop}{Φ:bE T}{V V':View}
theorem Lx {boxes:List (Nat×BX)}:∀{ps:List nj} {aN:List Hi} {x:Gh ps} (i:Nat),ax boxes ps aN=some x→
  (∀c∈aN,∃b,c= .box b)∧ps.length=aN.length∧∀(j:Nat) bx,look (c7 ps x i) j=some bx→∃b t y,i≤j∧(bg aN)[j - i]? =some b∧bx= .cells (flat t y)∧nj.bx t∈ps∧look boxes b=some (.cells (flat t y))
 | [],[],x,i,h=>⟨fun c hc=>by simp at hc,rfl,fun j bx hj=>by simp[c7,look] at hj⟩
 | [.bx t],[.box b],x,i,h=>by
   simp only[ax] at h
   split at h
   ·rename_i cs hb
    have:=qi h
    subst this
    refine⟨fun c hc=>⟨b,by simpa using hc⟩,rfl,fun j bx hj=> ?_⟩
    simp only[c7,c7.one,look] at hj
    cases hij:Nat.beq i j with
    |true=>
     have:=(beq_iff _ _).1 hij;subst this
     rw[hij] at hj
     simp only[cond_true,Option.some.injEq] at hj
     exact⟨b,t,x,Nat.le_refl _,by simp[bg],hj.symm,by simp,hb⟩
    |false=>rw[hij] at hj;cases hj
   ·cases h
 | .bx t::q::ps, .box b::cs,x,i,h=>by
   simp only[ax] at h
   split at h
   ·rename_i l hb
    split at h
    ·rename_i x1 hx1
     split at h
     ·rename_i y hy
      simp only[Option.some.injEq] at h
      subst h
      have:=qi hx1
      subst this
      obtain⟨h1,h2,h3⟩:=Lx (ps:=q::ps) (i+1) hy
      refine⟨fun c hc=> ?_,by simp[h2],fun j bx hj=> ?_⟩
      ·rcases List.mem_cons.1 hc with e |hc
       ·exact⟨b,e⟩
       ·exact h1 c hc
      ·simp only[c7,c7.one,List.cons_append,List.nil_append,look] at hj
       cases hij:Nat.beq i j with
       |true=>
        have:=(beq_iff _ _).1 hij;subst this
        rw[hij] at hj
        simp only[cond_true,Option.some.injEq] at hj
        exact⟨b,t,x1,Nat.le_refl _,by simp[bg],hj.symm,by simp,hb⟩
       |false=>
        rw[hij] at hj
        simp only[cond_false] at hj
        obtain⟨b',t',y',h4,h5,h6,h7,h8⟩:=h3 j bx hj
        refine⟨b',t',y',by omega, ?_,h6,List.mem_cons_of_mem _ h7,h8⟩
        have e:j - i=(j - (i+1))+1:=by omega
        rw[e]
        simpa [bg] using h5
     ·cases h
    ·cases h
   ·cases h
 | [.v _],_,_,_,h=>by simp[ax] at h
 | [.fn _ _],_,_,_,h=>by simp[ax] at h
 | [.c _],_,_,_,h=>by simp[ax] at h
 | [.rp _],_,_,_,h=>by simp[ax] at h
 | [.Lo],_,_,_,h=>by simp[ax] at h
 | [.bx _],[],_,_,h=>by simp[ax] at h
 | [.bx _],[.oT _],_,_,h=>by simp[ax] at h
 | [.bx _], .box _::_::_,_,_,h=>by simp[ax] at h
 | [.bx _], .oT _::_::_,_,_,h=>by simp[ax] at h
 | .v _::_::_,_,_,_,h=>by simp[ax] at h
 | .fn _ _::_::_,_,_,_,h=>by simp[ax] at h
 | .c _::_::_,_,_,_,h=>by simp[ax] at h
 | .rp _::_::_,_,_,_,h=>by simp[ax] at h
 | .Lo::_::_,_,_,_,h=>by simp[ax] at h
 | .bx _::_::_,[],_,_,h=>by simp[ax] at h
 | .bx _::_::_, .oT _::_,_,_,h=>by simp[ax] at h
 | [],_::_,_,_,h=>by simp[ax] at h
end
end Go.Abs
namespace Go.Abs
open Go.RowKit Go.Lib
section
variable {P:Program}{T:cj}{E:Env}{σ σ1 σ2 σe σ':AS}{a a':Act}{w w':World}{ν ν':Nm→Value}{O O':Nat→Prop}{Φ:bE T}{V V':View}
theorem St.ai4 (hE:aB E)(hJ:E.J=jX)(h:St E σ a w ν O)(d:Nat):St E (σ.dE d) a w ν (fun k=>O k∨Own σ ν (.box d) k):=by
 have hne:∀k,k≠d→look (σ.dE d).boxes k=look σ.boxes k:=fun k hk=>by rw[nt,if_neg (Ne.symm hk)]
 have hd:look (σ.dE d).boxes d=none:=by rw[nt,if_pos rfl]
 have hob:∀m o,(σ.dE d).obj m=some o→σ.obj m=some o∧m≠ .box d:=fun m o ho=>by
  cases m with
  |row r=>exact⟨ho,fun e=>by cases e⟩
  |box b=>
   by_cases e:b=d
   ·subst e;simp only[AS.obj,hd] at ho;cases ho
   ·simp only[AS.obj,hne b e] at ho ⊢;exact⟨ho,fun e'=>e (by injection e')⟩
  |hp i n=>exact⟨ho,fun e=>by cases e⟩
 have hown:∀m k,Own (σ.dE d) ν m k→Own σ ν m k∧m≠ .box d:=fun m k ⟨h1,h2⟩=>by
  obtain⟨o,ho⟩:=Option.isSome_iff_exists.1 h1
  obtain⟨h3,h4⟩:=hob m o ho
  exact⟨⟨aW h3,h2⟩,h4⟩
 have hV:∀key u,view E σ ν O w key u→view E (σ.dE d) ν (fun k=>O k∨Own σ ν (.box d) k) w key u:=fun key u hu=>EW (σ:=σ) (σ':=σ.dE d) (Grow.refl (fun _=>False) w) (HSub.of_eq rfl (fun _ _=>rfl)) (fun k h1 h2 h3 h4=>⟨fun⟨m,hm⟩=>h3 ⟨m,(hown m k hm).1⟩,fun h5=>by
  rcases h5 with h5 |h5
  ·exact h4 h5
  ·exact h3 ⟨_,h5⟩,fun h5=>h5⟩) hu
 have hcell:∀r ds,w.heap[r]? =some (.deferred ds)→¬Own σ ν (.box d) r:=fun r ds h1 h2=>by
  obtain⟨cur,e,h3⟩:=h.Pu h2
  rw[h3] at h1;cases h1
 have htr:σ.trace=⟨.unit,()⟩:=by have:=h.out.1;rw[hJ] at this;exact this
 refine⟨h.keep,fun d' hd'=> ?_,J6 (fun x v hx=> ?_) h.slots,fun m o ho=> ?_,fun m m' k h1 h2=>h.inj m m' k (hown _ _ h1).1 (hown _ _ h2).1,fun m k hm=> ?_,fun r k hk=>h.new r k (hown _ _ hk).1,⟨?_,fun k hk=> ?_⟩,h.nn,h.ro,h.kept,fun r hr=> ?_,h.ve,fun m k hm=>h.wQ m k (hown _ _ hm).1,fun k hk=> .inl (h.Nw k hk),h.nd⟩
 ·obtain⟨r,h1,h2,h3,h4⟩:=h.marks d' hd'
  exact⟨r,h1,h2,h3,fun h5=>h5.elim h4 (hcell r _ h3)⟩
 ·unfold AV.dE
  cases hk:x.lb d with
  |true=>trivial
  |false=>exact ag.keep (σ:=σ) (σ':=σ.dE d) hV (HSub.of_eq rfl (fun _ _=>rfl)) x v (fun _ _ row hrow=>⟨rfl,row,hrow,rfl⟩) (fun b hb hs=>⟨rfl,by rw[hne b (fun e=>by rw[e,hk] at hb;cases hb)];exact hs⟩) hx
 ·exact(h.A6 m o (hob m o ho).1).mono hV (fun k hk=>rfl) (fun r _ hr=>⟨rfl,hr⟩)
 ·obtain⟨h1,h2⟩:=hown m k hm
  obtain⟨h3,h4,h5⟩:=h.yO m k h1
  exact⟨h3,h4,fun h6=>h6.elim h5 (fun h7=>h2 (h.inj _ _ k h1 h7))⟩
 ·show E.J σ.trace _ w;rw[hJ];exact htr
 ·rcases hk with h5 |h5
  ·exact h.out.2 k h5
  ·obtain⟨h3,h4,_⟩:=h.yO _ k h5
   refine⟨h4,fun h6=> ?_⟩
   rcases h3 with h3 |h3 |h3
   ·omega
   ·exact h3
   ·exact absurd h3 Mg
 ·obtain⟨h1,h2⟩:=h.waits r hr
  exact⟨h1,fun h5=>h5.elim h2 (hcell r _ h1)⟩
theorem St.agL (hE:aB E)(hJ:E.J=jX):∀(bs:List Nat) (σ:AS) (O:Nat→Prop),St E σ a w ν O→∃O',St E (σ.jw bs) a w ν O'∧(∀k,O k→O' k)∧(∀b∈bs,∀k,Own σ ν (.box b) k→O' k)∧∀k,O' k→O k∨∃b∈bs,Own σ ν (.box b) k
 | [],σ,O,h=>⟨O,h,fun _ h=>h,fun b hb=>by simp at hb,fun _ h=> .inl h⟩
 |d::bs,σ,O,h=>by
  obtain⟨O',h1,h2,h3,h4⟩:=St.agL hE hJ bs _ _ (h.ai4 hE hJ d)
  have hown:∀b k,b≠d→Own σ ν (.box b) k→Own (σ.dE d) ν (.box b) k:=fun b k hb ⟨e1,e2⟩=>⟨by simp only[AS.obj,nt,if_neg (Ne.symm hb)];exact e1,e2⟩
  have anh:∀b k,Own (σ.dE d) ν (.box b) k→Own σ ν (.box b) k:=fun b k ⟨e1,e2⟩=>⟨by
   simp only[AS.obj,nt,Option.isSome_map] at e1 ⊢
   split at e1
   ·cases e1
   ·exact e1,e2⟩
  refine⟨O',h1,fun k hk=>h2 k (.inl hk),fun b hb k hk=> ?_,fun k hk=> ?_⟩
  ·by_cases e:b=d
   ·subst e;exact h2 k (.inr hk)
   ·exact h3 b ((List.mem_cons.1 hb).resolve_left e) k (hown b k e hk)
  ·rcases h4 k hk with (h5 |h5) | ⟨b,hb,h5⟩
   ·exact .inl h5
   ·exact .inr ⟨d,by simp,h5⟩
   ·exact .inr ⟨b,by simp[hb],anh b k h5⟩
end
end Go.Abs
namespace Go.Abs
open Go.RowKit Go.Lib
section
variable {P:Program}{T:cj}{E:Env}{σ σ1 σ2 σe σ':AS}{a a':Act}{w w':World}{ν ν':Nm→Value}{O O':Nat→Prop}{Φ:bE T}{V V':View}
theorem Qx {α:Type}:∀{l m:List (Nat×α)} {i:Nat} {x:α},look (l++m) i=some x→look l i=some x∨look m i=some x
 | [],m,i,x,h=> .inr h
 | (k,u)::l,m,i,x,h=>by
   simp only[List.cons_append,look] at h ⊢
   cases hb:Nat.beq k i with
   |true=>rw[hb] at h;exact .inl h
   |false=>rw[hb] at h;exact Qx h
theorem SY {α:Type}(c:Nat):∀{l:List (Nat×α)} {i:Nat} {x:α},look (l.map fun p=>(p.1+c,p.2)) i=some x→∃t,i=t+c∧look l t=some x
 | [],i,x,h=>by cases h
 | (k,u)::l,i,x,h=>by
   simp only[List.map_cons,look] at h
   cases hb:Nat.beq (k+c) i with
   |true=>
    have:=(beq_iff _ _).1 hb
    subst this
    rw[hb] at h
    exact⟨k,rfl,by simp only[look,beq_refl];exact h⟩
   |false=>
    rw[hb] at h
    obtain⟨t,h1,h2⟩:=SY c (l:=l) h
    refine⟨t,h1, ?_⟩
    simp only[look]
    rw[lM (fun e=>(rQ.1 hb) (by rw[e,h1]))]
    exact h2
theorem NT {α:Type}(c:Nat):∀{l:List (Nat×α)} {i:Nat} {x:α},(∀p∈l,c≤p.1)→look (l.map fun p=>(p.1 - c,p.2)) i=some x→look l (i+c)=some x
 | [],i,x,_,h=>by cases h
 | (k,u)::l,i,x,hc,h=>by
   have hk:=hc (k,u) (by simp)
   simp only at hk
   simp only[List.map_cons,look] at h ⊢
   by_cases e:k=i+c
   ·subst e
    have:i+c - c=i:=by omega
    rw[this,beq_refl] at h
    rw[beq_refl];exact h
   ·rw[lM (fun e'=>e (by omega))] at h
    rw[lM e]
    exact NT c (fun p hp=>hc p (by simp[hp])) h
def Env.iy (E:Env)(a:Act)(mk:Nat):Env:={E with XS:=fun i=>if i<1000000000 then a.tmps.toList.getD (i - 10000) undef else E.XS i,M:=fun r=>E.M r∨r=mk∨(⟨.collected r, #[]⟩:Deferred)∈a.defers}
theorem Y3 {a:Act}{mk i t:Nat}(h:i<1000000000)(ht:i - 10000=t):(E.iy a mk).XS i=a.tmps.toList.getD t undef:=by
 subst ht;exact if_pos h
theorem SZ {a:Act}{mk i:Nat}(h:1000000000≤i):(E.iy a mk).XS i=E.XS i:=if_neg (Nat.not_lt.2 h)
theorem aB.iy (hE:aB E)(a:Act)(mk:Nat):aB (E.iy a mk):=⟨hE.cell,hE.stay⟩
theorem Ml.iy (hG:Ml T E)(a:Act)(mk:Nat):Ml T (E.iy a mk):=by
 refine⟨fun g=> ?_,hG.2⟩
 rw[SZ (by unfold gk;omega)]
 exact hG.1 g
theorem St.saved (h:St E σ a w ν O)(hok:xw σ=true){mk:Nat}(hmk:w.heap[mk]? =some (.deferred (some []))∧¬O mk)(g:Rng):St (E.iy a mk) ({σ with b4:=[g]}:AS).save ⟨a.tmps,[]⟩ w ν O:=by
 simp only[xw,Bool.and_eq_true,List.all_eq_true] at hok
 have RA:∀x v,ag (view E σ ν O w) σ ν E.Y x v→ag (view E σ ν O w) ({σ with b4:=[g]}:AS).save ν E.Y x v:=fun x v hx=>
  ag.mono (σ:=σ) (σ':=({σ with b4:=[g]}:AS).save) (fun _ _ h=>h) ⟨HSub.of_eq rfl (fun _ _=>rfl),fun r row hr=>⟨rfl,row,hr,rfl⟩,fun b hb=>⟨rfl,hb⟩⟩ x v hx
 refine⟨h.keep,(fun d hd=>by cases hd),⟨h.slots.1,fun i x hx=>RA _ _ (h.slots.2.1 i x hx),fun i x hx=> ?_⟩,fun m o ho=> ?_, ?_, ?_, ?_,h.out,h.nn,h.ro,h.kept,fun r hr=> ?_,h.ve, ?_,h.Nw,List.nodup_nil⟩
 ·have hx':look ((σ.tmps.l.map fun p=>(p.1+10000*1,p.2))++σ.tmps.s) i=some x:=hx
  rcases Qx hx' with h1 |h1
  ·obtain⟨t,rfl,h2⟩:=SY (10000*1) h1
   have h3:=hok.1 _ (yN h2)
   rw[te] at h3
   have h4:(E.iy a mk).XS (t+10000*1)=a.tmps.toList.getD t undef:=Y3 (by simp only at h3;omega) (by omega)
   rw[h4]
   exact RA _ _ (h.slots.2.1 t x h2)
  ·have h3:=hok.2 _ (yN h1)
   rw[Nat.ble_eq] at h3
   have h4:(E.iy a mk).XS i=E.XS i:=SZ h3
   rw[h4]
   exact RA _ _ (h.slots.2.2 i x h1)
 ·have ho':σ.obj m=some o:=by cases m<;>exact ho
  exact(h.A6 m o ho').mono (fun _ _ h=>h) (fun _ _=>rfl) (fun r _ hr=>⟨rfl,hr⟩)
 ·intro m m' k h1 h2
  exact h.inj m m' k (by cases m<;>exact h1) (by cases m'<;>exact h2)
 ·intro m k hm
  exact h.yO m k (by cases m<;>exact hm)
 ·intro m k hk;exact h.new m k (by cases m<;>exact hk)
 ·rcases hr with h1 |rfl |h1
  ·exact h.waits r h1
  ·exact hmk
  ·obtain⟨r',h2,h3,h4,h5⟩:=h.marks _ h1
   injection h2 with h2
   injection h2 with h2
   subst h2
   exact⟨h4,h5⟩
 ·intro m k hm
  exact h.wQ m k (by cases m<;>exact hm)
theorem St.ai5 {mk:Nat}(h:St (E.iy a mk) σ ⟨a.tmps,[]⟩ w ν O)(hks:∀i x,look σ.Bi.tmps.s i=some x→1000000000≤i)(hmk:E.w0.heap.size≤mk)(hdf:∀d∈a.defers,∃r,d=⟨.collected r, #[]⟩∧E.w0.heap.size≤r)(hnd:([{target:= .collected mk,args:= #[]}]++a.defers:List Deferred).Nodup):
  St E ({σ.Bi with b4:=σ.b4.tail}:AS) ⟨a.tmps,[{target:= .collected mk,args:= #[]}]++a.defers⟩ w ν O:=by
 have RA:∀x v,ag (view E σ ν O w) σ ν E.Y x v→ag (view E σ ν O w) ({σ.Bi with b4:=σ.b4.tail}:AS) ν E.Y x v:=fun x v hx=>
  ag.mono (σ:=σ) (σ':=({σ.Bi with b4:=σ.b4.tail}:AS)) (fun _ _ h=>h) ⟨HSub.of_eq rfl (fun _ _=>rfl),fun r row hr=>⟨rfl,row,hr,rfl⟩,fun b hb=>⟨rfl,hb⟩⟩ x v hx
 refine⟨h.keep,fun d hd=> ?_,⟨h.slots.1,fun i x hx=>RA _ _ (h.slots.2.1 i x hx),fun i x hx=> ?_⟩,fun m o ho=> ?_, ?_, ?_, ?_,h.out,h.nn,h.ro,h.kept,fun r hr=>h.waits r (.inl hr),h.ve, ?_,h.Nw,hnd⟩
 ·rcases List.mem_append.1 hd with h1 |h1
  ·simp only[List.mem_singleton] at h1
   subst h1
   obtain⟨h2,h3⟩:=h.waits mk (.inr (.inl rfl))
   exact⟨mk,rfl,hmk,h2,h3⟩
  ·obtain⟨r,rfl,h2⟩:=hdf d h1
   obtain⟨h3,h4⟩:=h.waits r (.inr (.inr h1))
   exact⟨r,rfl,h2,h3,h4⟩
 ·have hx':look σ.Bi.tmps.s i=some x:=hx
  have h1:=hks i x hx'
  have h2:look σ.tmps.s i=some x:=by
   unfold AS.Bi at hx'
   rw[yM σ.tmps.s (fun k=> !(km σ.b4.length k)) i] at hx'
   split at hx'
   ·exact hx'
   ·cases hx'
  have h3:=h.slots.2.2 i x h2
  have h4:(E.iy a mk).XS i=E.XS i:=SZ h1
  rw[h4] at h3
  exact RA _ _ h3
 ·have ho':σ.obj m=some o:=by cases m<;>exact ho
  exact(h.A6 m o ho').mono (fun _ _ h=>h) (fun _ _=>rfl) (fun r _ hr=>⟨rfl,hr⟩)
 ·intro m m' k h1 h2
  exact h.inj m m' k (by cases m<;>exact h1) (by cases m'<;>exact h2)
 ·intro m k hm
  exact h.yO m k (by cases m<;>exact hm)
 ·intro m k hk;exact h.new m k (by cases m<;>exact hk)
 ·intro m k hm
  exact h.wQ m k (by cases m<;>exact hm)
theorem St.ak9 {E':Env}{a0:Act}{mk:Nat}(hXS:E'.XS=(E.iy a0 mk).XS)(hn:a0.tmps.size=σ.tmps.n)(hr:∃g,σ.b4=[g])(h:St E' σ a w ν O):St E' σ.back ⟨a0.tmps,[]⟩ w ν O:=by
 have RA:∀x v,ag (view E' σ ν O w) σ ν E'.Y x v→ag (view E' σ ν O w) σ.back ν E'.Y x v:=fun x v hx=>
  ag.mono (σ:=σ) (σ':=σ.back) (fun _ _ h=>h) ⟨HSub.of_eq rfl (fun _ _=>rfl),fun r row hr=>⟨rfl,row,hr,rfl⟩,fun b hb=>⟨rfl,hb⟩⟩ x v hx
 obtain⟨g,hg⟩:=hr
 refine⟨h.keep,(fun d hd=>by cases hd),⟨(show σ.tmps.n=a0.tmps.toList.length by simpa using hn.symm),fun i x hx=> ?_,fun i x hx=>RA _ _ (h.slots.2.2 i x hx)⟩,fun m o ho=> ?_, ?_, ?_, ?_,h.out,h.nn,h.ro,h.kept,h.waits,h.ve, ?_,h.Nw,List.nodup_nil⟩
 ·have hx':look ((σ.tmps.s.filter fun p=>km σ.b4.length p.1).map fun p=>(p.1 - 10000*σ.b4.length,p.2)) i=some x:=hx
  rw[hg] at hx'
  have h1:=NT (10000*1) (fun p hp=>by
   have:=(List.mem_filter.1 hp).2
   simp only[km,Bool.and_eq_true,Nat.ble_eq] at this
   exact this.1) hx'
  rw[yM σ.tmps.s (fun k=>km [g].length k) (i+10000*1)] at h1
  split at h1
  ·rename_i hd
   have h2:=h.slots.2.2 _ x h1
   simp only[km,Bool.and_eq_true,te,List.length_singleton] at hd
   have h4:E'.XS (i+10000*1)=a0.tmps.toList.getD i undef:=by
    rw[hXS]
    exact Y3 (by omega) (by omega)
   rw[h4] at h2
   exact RA _ _ h2
  ·cases h1
 ·have ho':σ.obj m=some o:=by cases m<;>exact ho
  exact(h.A6 m o ho').mono (fun _ _ h=>h) (fun _ _=>rfl) (fun r _ hr=>⟨rfl,hr⟩)
 ·intro m m' k h1 h2
  exact h.inj m m' k (by cases m<;>exact h1) (by cases m'<;>exact h2)
 ·intro m k hm
  exact h.yO m k (by cases m<;>exact hm)
 ·intro m k hk;exact h.new m k (by cases m<;>exact hk)
 ·intro m k hm
  exact h.wQ m k (by cases m<;>exact hm)
end
end Go.Abs
namespace Go.Abs
open Go.RowKit Go.Lib
structure RgD (T:cj) (Φ:bE T) (R:Type) where
 E:Env
 a:Act
 mb:Nat
 l:Nat
 vi:Loop
 ts:List Ty
 ys:List (jv ts).den
 σ0:AS
 hd:List (Nat×Bool)
 RB:AS→(Ex→AS→Option R)→Option R
 k:Ex→AS→Option R
 r:R
 w2:World
 Xg:Nat→Prop
 Bx:Nat→Prop
section
variable {P:Program}{T:cj}{Φ:bE T}{R:Type}
def RgD.len (D:RgD T Φ R)(k:Nat):Prop:=D.Bx k∨D.w2.heap.size≤k
structure ani (D:RgD T Φ R) (xs rest:List (jv D.ts).den) (Og:Nat→Prop) (w:World) (σ1:AS) (ν1:Nm→Value) (Oc:Nat→Prop) (m:Nat):Prop where
 ys:D.ys=xs++rest
 b4:σ1.b4=[⟨D.ts,rest⟩]
 loop:lh D.hd D.RB (fm D.k) m σ1=some D.r
 fr:FrX D.σ0 σ1
 st:St (D.E.iy D.a D.mb) σ1 ⟨D.a.tmps,[]⟩ w ν1 Oc
 Y4:w.heap[D.l]? =some (Go.Obj.loop D.vi)
 ol:Og D.l
 cl:Oc D.l
 own:∀m k,Own σ1 ν1 m k→¬D.E.wK m→Og k
 cover:∀k,k<w.heap.size→(D.w2.heap.size≤k∨D.Xg k)→Og k∨(Oc k∧D.len k)
 size:D.w2.heap.size≤w.heap.size
 ogl:∀k,Og k→k<w.heap.size
def JG (D:RgD T Φ R):CV→(Nat→Prop)→World→Prop:=fun tr Og w=>∃xs rest σ1 ν1 Oc m,tr=⟨.slice (jv D.ts),xs⟩∧ani D xs rest Og w σ1 ν1 Oc m
theorem JG.stay {D:RgD T Φ R}(hE:aB D.E)(hJ:D.E.J=jX)(hlen:∀k,D.len k→D.E.CB k∨D.E.base.heap.size≤k){tr:CV}{Og:Nat→Prop}{w w':World}{C:Nat→Prop}(h:JG D tr Og w)(hg:Grow C w w')
  (hC:∀k,C k→¬Og k∧(k<D.w2.heap.size→D.Xg k)):JG D tr Og w':=by
 obtain⟨xs,rest,σ1,ν1,Oc,m,rfl,j⟩:=h
 have hCl:∀k,k<w.heap.size→C k→Oc k∧D.len k:=fun k hk hc=>by
  obtain⟨h1,h2⟩:=hC k hc
  by_cases h3:D.w2.heap.size≤k
  ·exact(j.cover k hk (.inl h3)).resolve_left h1
  ·exact(j.cover k hk (.inr (h2 (by omega)))).resolve_left h1
 have hg':Grow (fun k=>Oc k∧D.len k) w w':=hg.mono hCl
 refine⟨xs,rest,σ1,ν1,fun k=>Oc k∨(w.heap.size≤k∧k<w'.heap.size),m,rfl,j.ys,j.b4,j.loop,j.fr, ?_, ?_,j.ol, .inl j.cl,j.own,fun k hk hx=> ?_,Nat.le_trans j.size hg.size,fun k hk=>Nat.lt_of_lt_of_le (j.ogl k hk) hg.size⟩
 ·exact j.st.aiR (hE.iy D.a D.mb) hJ hg' (fun k hk=>⟨hk.1,hlen k hk.2⟩) (fun k hk=> .inl hk) (fun k hk=>hk)
 ·rw[hg.block D.l (Array.getElem?_eq_some_iff.1 j.Y4).1 (fun hc=>(hC _ hc).1 j.ol)]
  exact j.Y4
 ·by_cases hlt:k<w.heap.size
  ·exact(j.cover k hlt hx).imp id (fun h=>⟨.inl h.1,h.2⟩)
  ·exact .inr ⟨.inr ⟨by omega,hk⟩, .inr (Nat.le_trans j.size (by omega))⟩
end
end Go.Abs
namespace Go.Abs
open Go.RowKit Go.Lib
section
variable {V:View}{σ:AS}{ν:Nm→Value}{Y:Value}
theorem Kl {t:Ty}{x:t.den}{v:Value}(h:wL V t x v):ag V σ ν Y (afP t x) v:=by
 cases t with
 |st t=>obtain⟨cs,h1,h2⟩:=h;exact⟨cs,h1,il h2⟩
 |_=>exact h
theorem VE {X:Nat→Value}:∀{ps:List Tmp} {ts:List Ty} {s s':eW} {x:(jv ts).den} {vs ys:List Value},Hl s ps ts x=some s'→HQ (ag V σ ν Y) s ys X→Uu V (jv ts) x vs→
  vs.length=ps.length∧HQ (ag V σ ν Y) s' ((ps.zip vs).foldl (fun l p=>l.set p.1 p.2) ys) X
 | [],[],s,s',x,vs,ys,h,hs,hy=>by
   simp only[Hl,Option.some.injEq] at h
   subst h
   have:vs=[]:=hy
   subst this
   exact⟨rfl,hs⟩
 |p::ps,t::ts,s,s',x,vs,ys,h,hs,hy=>by
  simp only[Hl] at h
  obtain⟨v,r,rfl,h1,h2⟩:=hy
  obtain⟨h3,h4⟩:=VE h (Ye hs (Kl h1)) h2
  exact⟨by simp[h3],by simpa using h4⟩
 | [],_::_,_,_,_,_,_,h,_,_=>by simp[Hl] at h
 |_::_,[],_,_,_,_,_,h,_,_=>by simp[Hl] at h
theorem ad8 (tmps:Array Value)(ps:Array Tmp)(vs:Array Value):((ps.zip vs).foldl (fun tmps (p:Tmp×Value)=>tmps.setIfInBounds p.1 p.2) tmps).toList=(ps.toList.zip vs.toList).foldl (fun l p=>l.set p.1 p.2) tmps.toList:=by
 rw[←Array.foldl_toList,Array.toList_zip]
 generalize ps.toList.zip vs.toList=l
 induction l generalizing tmps with
 |nil=>rfl
 |cons p l ih=>simp only[List.foldl_cons];rw[ih];simp
end
end Go.Abs
namespace Go.Abs
open Go.RowKit Go.Lib
section
variable {P:Program}{T:cj}{Φ:bE T}{R:Type}{E:Env}{σ σ':AS}{a a':Act}{w w':World}{ν ν':Nm→Value}{O O':Nat→Prop}
theorem Ctx.iy (C:Ctx P T Φ E)(hJ:E.J=jX)(a:Act)(mb:Nat):Ctx P T Φ (E.iy a mb):=
 ⟨C.env.iy a mb,C.Rb.iy a mb,C.tab,C.hps,C.eqs,C.sigs,C.fns,C.num,Ej hJ,fun _ _ _=>hJ⟩
theorem Ctx.xI (C:Ctx P T Φ E)(hJ:E.J=jX):Ctx P T Φ (E.xI σ ν O w):=
 ⟨C.env.xI,C.Rb,C.tab,C.hps,C.eqs,C.sigs,C.fns,C.num,Ej hJ,fun _ _ _=>hJ⟩
theorem Mm {t:CV}(h:oK ⟨.unit,()⟩ t):t=⟨.unit,()⟩:=by
 rcases h with h | ⟨t',xs,ys,e,_⟩
 ·exact h
 ·injection e with e;cases e
theorem St.WZ (hE:aB E)(hJ:E.J=jX)(h:St E σ a w ν O){l:Nat}{r:Loop}(hl:w.heap[l]? =some (.loop r))(hO:O l)(hc:E.CB l∨E.base.heap.size≤l)(r':Loop):St E σ a (w.putObj l (.loop r')) ν O∧(w.putObj l (.loop r')).heap[l]? =some (.loop r')∧(w.putObj l (.loop r')).heap.size=w.heap.size:=by
 have hlt:=(Array.getElem?_eq_some_iff.1 hl).1
 have hsz:(w.putObj l (.loop r')).heap.size=w.heap.size:=by simp[World.putObj]
 refine⟨h.aiR hE hJ (C:=fun k=>k=l) ⟨rfl,rfl,rfl,by rw[hsz];exact Nat.le_refl _,fun k hk hn=> ?_⟩ (fun k e=>by subst e;exact⟨hO,hc⟩) (fun k hk=>hk) (fun k hk=> .inl hk), ?_,hsz⟩
 ·simp only[World.putObj]
  rw[Array.getElem?_setIfInBounds_ne (fun e=>hn e.symm)]
 ·simp only[World.putObj]
  rw[Array.getElem?_setIfInBounds_self_of_lt hlt]
end
end Go.Abs
namespace Go.Abs
open Go.RowKit Go.Lib
section
variable {P:Program}{T:cj}{Φ:bE T}{R:Type}
theorem IS {w:World}{l:Nat}{o:Go.Obj}:Grow (fun k=>k=l) w (w.putObj l o):=
 ⟨rfl,rfl,rfl,by simp[World.putObj],fun k hk hn=>by
  simp only[World.putObj]
  rw[Array.getElem?_setIfInBounds_ne (fun e=>hn e.symm)]⟩
structure Sh (σ σ':AS):Prop where
 rows:∀r,(look σ'.rows r).isSome=true→(look σ.rows r).isSome=true
 boxes:∀r,(look σ'.boxes r).isSome=true→(look σ.boxes r).isSome=true
 ae:σ'.ae=σ.ae
theorem Sh.refl (σ:AS):Sh σ σ:=⟨fun _ h=>h,fun _ h=>h,rfl⟩
theorem Sh.trans {a b c:AS}(h:Sh a b)(g:Sh b c):Sh a c:=⟨fun r hr=>h.rows r (g.rows r hr),fun r hr=>h.boxes r (g.boxes r hr),g.ae.trans h.ae⟩
theorem Sh.own {σ σ':AS}{ν:Nm→Value}{m:Nm}{k:Nat}(h:Sh σ σ')(hm:Own σ' ν m k):Own σ ν m k:=by
 refine⟨?_,hm.2⟩
 have h1:=hm.1
 cases m with
 |row r=>simp only[AS.obj,Option.isSome_map] at h1 ⊢;exact h.rows r h1
 |box r=>simp only[AS.obj,Option.isSome_map] at h1 ⊢;exact h.boxes r h1
 |hp i n=>simp only[AS.obj,h.ae] at h1 ⊢;exact h1
theorem ala {σ:AS}(x:Operand):Sh σ (σ.frz x):=by
 unfold AS.frz
 split
 ·refine⟨fun k hk=> ?_,fun k hk=>by rw[NH] at hk;exact hk,by unfold AS.freeze;split<;>rfl⟩
  rw[Dp] at hk
  split at hk
  ·cases hk
  ·exact hk
 ·exact Sh.refl _
theorem S0:∀(hs:List (Nat×Bool)) (σ:AS),Sh σ (σ.share hs)
 | [],σ=>Sh.refl _
 | (j,true)::h,σ=>(ala _).trans (S0 h _)
 | (j,false)::h,σ=>S0 h σ
theorem A9 {α:Type}:∀{l:List (Nat×α)} {p:Nat×α→Bool} {i:Nat},(look (l.filter p) i).isSome=true→(look l i).isSome=true
 | [],p,i,h=>by cases h
 | (k,u)::l,p,i,h=>by
   simp only[look]
   cases hb:Nat.beq k i with
   |true=>rfl
   |false=>
    simp only[List.filter_cons] at h
    split at h
    ·simp only[look,hb,cond_false] at h
     exact A9 h
    ·exact A9 h
theorem VF (hs:List (Nat×Bool))(σ:AS):Sh σ (σ.forget hs):=by
 refine(S0 hs σ).trans ?_
 unfold AS.forget
 exact⟨fun r hr=>A9 hr,fun r hr=>A9 hr,rfl⟩
theorem JG.round {D:RgD T Φ R}{n:Nat}{Q6 body:Code}{ps:Array Tmp}{fn:FuncId}{hs1 hs2:List (List (Nat×Bool))}(hRB:D.RB=iu ps.toList (fun σ k'=>aG T Φ n Q6 hs1 σ k') (fun σ k'=>aG T Φ n body hs2 σ k'))
  (W0:D.vi={state:= .ready,pending:=none,fn,tmps:=D.a.tmps,params:=ps,assign:=Q6,body,defers:=D.mb}) (C:Ctx P T Φ D.E) (hD:yl D.E) (hJ:D.E.J=jX) (hacc:D.E.acc ⟨.unit,()⟩) (hlen:∀k,D.len k→D.E.CB k∨D.E.base.heap.size≤k)
  (Sx:Sound P T Φ n Q6) (Sy:Sound P T Φ n body) (hn:D.a.tmps.size=D.σ0.tmps.n) {xs rest:List (jv D.ts).den} {x:(jv D.ts).den} {Og Oc:Nat→Prop} {w:World} {σ1:AS} {ν1:Nm→Value} {m:Nat} (j:ani D xs (x::rest) Og w σ1 ν1 Oc m) (hlB:D.len D.l)
  {vs:List Value} (hv:∀V,Uu V (jv D.ts) x vs) (rr:Option Nat):
  ∃tmps,(Instr.yield D.l vs.toArray).run P w= .ok (.round D.l fn tmps Q6 body) w∧RoundIn (FW rr) 0 P D.l fn tmps Q6 body w fun e w'=>e= .returned (.bool true)∧∃O',JG D ⟨.slice (jv D.ts),xs++[x]⟩ O' w'∧Grow Og w w'∧(∀k,Og k→O' k)∧∀k,O' k→Og k∨(w.heap.size≤k∧k<w'.heap.size):=by
 have hl:=j.loop
 cases m with
 |zero=>cases hl
 |succ m=>
  simp only[lh] at hl
  rw[hRB] at hl
  unfold iu at hl
  rw[j.b4] at hl
  dsimp only at hl
  split at hl
  ·rename_i s hs
   have alc:σ1.trace=⟨.unit,()⟩:=by have:=j.st.out.1;rw[show (D.E.iy D.a D.mb).J=jX from hJ] at this;exact this
   obtain⟨h1,h2⟩:=VE hs j.st.slots (hv _)
   have hsz:vs.toArray.size=D.vi.params.size:=by rw[W0];simpa using h1
   have hy:=run_yield (P:=P) j.Y4 hsz
   rw[W0] at hy
   refine⟨_,hy, ?_⟩
   -- Kh assignments
   have ald:St (D.E.iy D.a D.mb) {σ1 with tmps:=s,b4:=[⟨D.ts,rest⟩]} ⟨(ps.zip vs.toArray).foldl (fun tmps (t,a)=>tmps.setIfInBounds t a) D.a.tmps,[]⟩ w ν1 Oc:=by
    refine j.st.aaC (σ':={σ1 with tmps:=s,b4:=[⟨D.ts,rest⟩]}) (a':=⟨(ps.zip vs.toArray).foldl (fun tmps (t,a)=>tmps.setIfInBounds t a) D.a.tmps,[]⟩) ⟨rfl,rfl,rfl,rfl⟩ rfl ?_
    rw[show ((ps.zip vs.toArray).foldl (fun tmps (t,a)=>tmps.setIfInBounds t a) D.a.tmps).toList=_ from ad8 D.a.tmps ps vs.toArray]
    exact h2
   have hk1:∀e σ',(match e with
     |Ex.normal=>aG T Φ n body hs2 σ' fun e σ2=>match e with
      | .normal=>lh D.hd D.RB (fm D.k) m (σ2.back.forget D.hd)
      |_=>none
     |_=>none)=some D.r→Fr {σ1 with tmps:=s,b4:=[⟨D.ts,rest⟩]} σ'→D.E.acc σ'.trace:=fun e σ' _ hf=>by
    have:=hf.tr
    rw[show ({σ1 with tmps:=s,b4:=[⟨D.ts,rest⟩]}:AS).trace=σ1.trace from rfl,alc] at this
    rw[Mm this];exact hacc
   have hDr:∀(σ:AS) (ν:Nm→Value) (O:Nat→Prop) (w:World),yl ((D.E.iy D.a D.mb).xI σ ν O w):=fun _ _ _ _=>hD
   have hCr:∀(σ:AS) (ν:Nm→Value) (O:Nat→Prop) (w:World),Ctx P T Φ ((D.E.iy D.a D.mb).xI σ ν O w):=fun _ _ _ _=>(C.iy hJ D.a D.mb).xI hJ
   have adF:∀m,(D.E.iy D.a D.mb).wK m↔D.E.wK m:=fun m=>Iff.rfl
   refine roundIn_of_wpIn trivial ?_
   refine wpIn_mono (Sx _ (hCr _ _ _ _) (hDr _ _ _ _) (some D.l) hs1 _ _ _ w _ _ hl ald.xI (fun _=>by simp) (fun e σ' h3 h4=> ?_)) (fun e a1 w1 hp=> ?_)
   ·have:=h4.tr
    rw[show ({σ1 with tmps:=s,b4:=[⟨D.ts,rest⟩]}:AS).trace=σ1.trace from rfl,alc] at this
    show D.E.acc σ'.trace
    rw[Mm this];exact hacc
   ·cases e with
    |normal=>
     obtain⟨σ2,h3,h4,ν2,O2,h5⟩:=hp
     dsimp only at h3
     obtain⟨u1,u2,u3,u4⟩:=ald.agK h5
     have hnl:∀{σ:AS} {ν:Nm→Value} {O:Nat→Prop} {a:Act} {w:World} {r:Loop},St (D.E.iy D.a D.mb) σ a w ν O→w.heap[D.l]? =some (Go.Obj.loop r)→¬∃m,Own σ ν m D.l∧¬(D.E.iy D.a D.mb).wK m:=fun hst hr ⟨m,hm,_⟩=>by
      obtain⟨cur,e,hc⟩:=hst.Pu hm
      rw[hc] at hr;cases hr
     have O8:w1.heap[D.l]? =some (Go.Obj.loop D.vi):=by
      rw[u2.block D.l (Array.getElem?_eq_some_iff.1 j.Y4).1 (hnl ald j.Y4)];exact j.Y4
     have apn:D.vi.state= .ready:=by rw[W0]
     have hOl:O2 D.l:=u3 _ j.cl
     obtain⟨p1,p2,p3⟩:=St.WZ (E:=D.E.iy D.a D.mb) (C.env.iy D.a D.mb) hJ u1 O8 hOl (hlen _ hlB) {D.vi with state:= .busy}
     refine⟨_,run_beginRound O8 apn, ?_⟩
     refine wpIn_mono (Sy _ (hCr _ _ _ _) (hDr _ _ _ _) (some D.l) hs2 _ _ _ _ _ _ h3 p1.xI (fun _=>by rw[h4.b4];simp) (fun e σ' h6 h7=> ?_)) (fun e a2 w2 hp2=> ?_)
     ·have:=(h4.trans h7).tr
      rw[show ({σ1 with tmps:=s,b4:=[⟨D.ts,rest⟩]}:AS).trace=σ1.trace from rfl,alc] at this
      show D.E.acc σ'.trace
      rw[Mm this];exact hacc
     ·cases e with
      |normal=>
       obtain⟨σ3,h6,h7,ν3,O3,h8⟩:=hp2
       dsimp only at h6
       obtain⟨v1,v2,v3,v4⟩:=p1.agK h8
       have Hn:w2.heap[D.l]? =some (Go.Obj.loop {D.vi with state:= .busy}):=by
        rw[v2.block D.l (Array.getElem?_eq_some_iff.1 p2).1 (hnl p1 p2)];exact p2
       obtain⟨q1,q2,q3⟩:=St.WZ (E:=D.E.iy D.a D.mb) (C.env.iy D.a D.mb) hJ v1 Hn (v3 _ hOl) (hlen _ hlB) {({D.vi with state:= .busy}:Loop) with state:=if (none:Option Code).isNone then .ready else .done,pending:=none}
       refine⟨_,_,run_endRound none Hn,rfl, ?_⟩
       have g1:Grow Og w w1:=u2.mono (fun k _ ⟨m,hm,hr⟩=>j.own m k (by cases m<;>exact hm) hr)
       have g2:=g1.trans (IS (w:=w1) (l:=D.l) (o:= .loop {D.vi with state:= .busy})) (fun i _ e=>by rw[e];exact j.ol)
       have g3:Grow Og w w2:=g2.trans v2 (fun i hi ⟨m,hm,hr⟩=>by
        rcases u4 m i hm with h9 | ⟨m',h9,h10⟩ |h9
        ·exact absurd h9 hr
        ·exact j.own m' i (by cases m'<;>exact h9) h10
        ·omega)
       have g4:=g3.trans (IS (w:=w2) (l:=D.l) (o:= .loop {({D.vi with state:= .busy}:Loop) with state:=if (none:Option Code).isNone then .ready else .done,pending:=none})) (fun i _ e=>by rw[e];exact j.ol)
       have Va:Fr {σ1 with tmps:=s,b4:=[⟨D.ts,rest⟩]} σ3:=h4.trans h7
       have hbk:St (D.E.iy D.a D.mb) σ3.back ⟨D.a.tmps,[]⟩ _ ν3 O3:=St.ak9 (E:=D.E) rfl (by rw[hn, ←j.fr.s];exact(Va.s.trans (Kk hs).1).symm) ⟨_,Va.b4⟩ q1
       have aa5:=hbk.forget (C.env.iy D.a D.mb) D.hd
       have hfx:FrX D.σ0 σ3.back:=⟨⟨_,Va.b4⟩,Va.sites.trans j.fr.sites,(Va.s.trans (Kk hs).1).trans j.fr.s,j.fr.tr.trans Va.tr,by
        show ∃ls:List Nat,σ3.tmps.s.map (·.1)=_∧_
        rw[Va.ks]
        show ∃ls:List Nat,s.s.map (·.1)=_∧_
        rw[(Kk hs).2];exact j.fr.ks⟩
       have anj:({({D.vi with state:= .busy}:Loop) with state:=if (none:Option Code).isNone then .ready else .done,pending:=none}:Loop)=D.vi:=by rw[W0];rfl
       refine⟨fun k=>Og k∨(w.heap.size≤k∧k<_),⟨xs++[x],rest,σ3.back.forget D.hd,ν3,O3,m,rfl, ?_⟩,g4,fun k hk=> .inl hk,fun k hk=>hk⟩
       refine⟨by rw[j.ys];simp,by rw[(mA D.hd σ3.back).b4];exact Va.b4,by rw[hRB];exact h6,hfx.fr (mA _ _),aa5,by rw[←anj];exact q2, .inl j.ol,v3 _ hOl,fun m' k hm hr=> ?_,fun k hk hx=> ?_,Nat.le_trans j.size g4.size,fun k hk=> ?_⟩
       ·rcases (aa5.yO m' k hm) with ⟨_,h10,_⟩
        by_cases hk:w.heap.size≤k
        ·exact .inr ⟨hk,h10⟩
        ·left
         have o3:Own σ3 ν3 m' k:=by have:=(VF D.hd σ3.back).own hm;cases m'<;>exact this
         rcases v4 m' k o3 with h11 | ⟨m2,h11,h12⟩ |h11
         ·exact absurd h11 hr
         ·rcases u4 m2 k h11 with h13 | ⟨m3,h13,h14⟩ |h13
          ·exact absurd h13 h12
          ·exact j.own m3 k (by cases m3<;>exact h13) h14
          ·omega
         ·have:=g2.size;omega
       ·by_cases hlt:k<w.heap.size
        ·exact(j.cover k hlt hx).imp .inl (fun h=>⟨v3 _ (u3 _ h.1),h.2⟩)
        ·exact .inl (.inr ⟨by omega,hk⟩)
       ·rcases hk with hk |hk
        ·exact Nat.lt_of_lt_of_le (j.ogl k hk) g4.size
        ·exact hk.2
      |_=>first |exact hp2.elim | (obtain⟨σ3,h6,_⟩:=hp2;cases h6)
    |_=>first |exact hp.elim | (obtain⟨σ2,h3,_⟩:=hp;cases h3)
  ·cases hl
end
end Go.Abs
namespace Go.Abs
open Go.RowKit Go.Lib
section
variable {P:Program}{T:cj}{Φ:bE T}{R:Type}
def RgD.Y5 (D:RgD T Φ R)(V0:View)(h0:List aV):Env where
 V0:=V0
 w0:=D.w2
 X:=D.Xg
 J:=JG D
 XS:=D.E.XS
 Y:= .func (.yield D.l) #[] #[]
 ro:=fun _=>none
 h0:=h0
 n0:=fun _ _=> .nilFunc
 M:=fun _=>False
 base:=D.w2
 CB:=D.Xg
 Om:=fun _=>False
 acc:=fun tr=>oK tr ⟨.slice (jv D.ts),D.ys⟩
 XH:=fun _ _=>False
theorem ad9 (D:RgD T Φ R)(V0:View)(h0:List aV):yl (D.Y5 V0 h0):=fun tr tr' h1 h2=>h1.trans h2
theorem Y6 {D:RgD T Φ R}{V0:View}{h0:List aV}{n:Nat}{Q6 body:Code}{ps:Array Tmp}{fn:FuncId}{hs1 hs2:List (List (Nat×Bool))}(hRB:D.RB=iu ps.toList (fun σ k'=>aG T Φ n Q6 hs1 σ k') (fun σ k'=>aG T Φ n body hs2 σ k'))
  (W0:D.vi={state:= .ready,pending:=none,fn,tmps:=D.a.tmps,params:=ps,assign:=Q6,body,defers:=D.mb}) (C:Ctx P T Φ D.E) (hD:yl D.E) (hJ:D.E.J=jX) (hacc:D.E.acc ⟨.unit,()⟩) (hlen:∀k,D.len k→D.E.CB k∨D.E.base.heap.size≤k)
  (Sx:Sound P T Φ n Q6) (Sy:Sound P T Φ n body) (hn:D.a.tmps.size=D.σ0.tmps.n) (hlB:D.len D.l):Gy P (D.Y5 V0 h0):=by
 intro rr t xs x vs O w hJG hac hv
 refine⟨⟨rfl,fun k hk=>hk⟩, ?_⟩
 obtain⟨xs',rest,σ1,ν1,Oc,m,e,j⟩:=hJG
 injection e with e1 e2
 injection e1 with e1
 subst e1
 simp only[heq_eq_eq] at e2
 subst e2
 have Si:∃more,rest=x::more:=by
  have apq:oK ⟨.slice (jv D.ts),xs++[x]⟩ ⟨.slice (jv D.ts),D.ys⟩:=hac
  have hys:=j.ys
  rcases apq with h1 | ⟨t',ys1,ys2,h1,h2⟩
  ·injection h1 with _ h1
   try simp only[heq_eq_eq] at h1
   rw[h1] at hys
   exact⟨[],(List.append_cancel_left hys).symm⟩
  ·injection h1 with h3 h4
   injection h3 with h3
   subst h3
   simp only[heq_eq_eq] at h4
   subst h4
   injection h2 with _ h2
   try simp only[heq_eq_eq] at h2
   rw[h2,List.append_assoc] at hys
   exact⟨ys2,(List.append_cancel_left hys).symm⟩
 obtain⟨more,rfl⟩:=Si
 obtain⟨tmps,h1,h2⟩:=JG.round hRB W0 C hD hJ hacc hlen Sx Sy hn j hlB hv rr
 exact⟨D.l,fn,tmps,Q6,body,rfl,h1,h2⟩
end
end Go.Abs
namespace Go.Abs
open Go.RowKit Go.Lib
section
variable {P:Program}{T:cj}{Φ:bE T}{R:Type}{E:Env}{σ σ':AS}{a a':Act}{w w':World}{ν ν':Nm→Value}{O O':Nat→Prop}
theorem S1:∀(bs:List Nat) (σ:AS),Sh σ (σ.jw bs)∧∀b∈bs,look (σ.jw bs).boxes b=none
 | [],σ=>⟨Sh.refl _,fun b hb=>by simp at hb⟩
 |d::bs,σ=>by
  obtain⟨h1,h2⟩:=S1 bs (σ.dE d)
  have h0:Sh σ (σ.dE d):=⟨fun r hr=>hr,fun r hr=>by
   rw[nt] at hr;split at hr
   ·cases hr
   ·exact hr,rfl⟩
  refine⟨h0.trans h1,fun b hb=> ?_⟩
  rcases List.mem_cons.1 hb with rfl |hb
  ·cases hl:look (((σ.dE b).jw bs).boxes) b with
   |none=>exact hl
   |some x=>
    have:=h1.boxes b (by rw[hl];rfl)
    rw[nt,if_pos rfl] at this;cases this
  ·exact h2 b hb
def dv (w:World)(r:Loop):World:=(w.alloc (.deferred (some []))).alloc (.loop r)
theorem sE (w:World)(r:Loop):Below w.heap.size w (dv w r)∧(dv w r).heap.size=w.heap.size+2∧(dv w r).heap[w.heap.size]? =some (Go.Obj.deferred (some []))∧(dv w r).heap[w.heap.size+1]? =some (Go.Obj.loop r):=by
 have h1:=heap_alloc_new w (.deferred (some []))
 have h2:=heap_alloc_new (w.alloc (.deferred (some []))) (.loop r)
 have hs:(w.alloc (.deferred (some []))).heap.size=w.heap.size+1:=by simp
 refine⟨⟨rfl,rfl,rfl,by unfold dv;simp;omega,fun k hk=> ?_⟩,by unfold dv;simp, ?_, ?_⟩
 ·unfold dv
  rw[heap_alloc_old (w.alloc (.deferred (some []))) _ (r:=k) (by rw[hs];omega),heap_alloc_old w _ (r:=k) hk]
 ·unfold dv
  rw[heap_alloc_old (w.alloc (.deferred (some []))) _ (by rw[hs];omega)];exact h1
 ·unfold dv
  rw[hs] at h2;exact h2
end
end Go.Abs
namespace Go.Abs
open Go.RowKit Go.Lib
section
variable {P:Program}{T:cj}{Φ:bE T}{R:Type}{E:Env}{σ σ':AS}{a a':Act}{w w':World}{ν ν':Nm→Value}{O O':Nat→Prop}
def GA (σ:AS)(ν:Nm→Value)(bs:List Nat)(k:Nat):Prop:=∃b∈bs,Own σ ν (.box b) k
theorem Y7 (hE:aB E)(hJ:E.J=jX)(h:St E σ a w ν O)(bs:List Nat)(hd:List (Nat×Bool))(hok:xw ((σ.jw bs).forget hd)=true)(g:Rng)(r:Loop):
  ∃Oc,St (E.iy a w.heap.size) ({((σ.jw bs).forget hd) with b4:=[g]}:AS).save ⟨a.tmps,[]⟩ (dv w r) ν Oc∧(∀k,O k→Oc k)∧(∀k,GA σ ν bs k→Oc k)∧Oc (w.heap.size+1)∧∀k,Oc k→O k∨GA σ ν bs k∨k=w.heap.size+1:=by
 obtain⟨O1,s1,h1,h2,h3⟩:=h.agL hE hJ bs
 obtain⟨e1,e2,e3,e4⟩:=sE w r
 have hO1:∀k,O1 k→k<w.heap.size:=fun k hk=>(s1.out.2 k hk).1
 have s4:St E ((σ.jw bs).forget hd) a (dv w r) ν (fun k=>O1 k∨k=w.heap.size+1):=
  (s1.forget hE hd).aiR hE hJ (C:=fun _=>False) (Grow.Bo e1) (fun k hk=>hk.elim) (fun k hk=> .inl hk) (fun k hk=>hk.imp id (fun e=>by subst e;omega))
 refine⟨_,s4.saved hok ⟨e3,fun h5=> ?_⟩ g,fun k hk=> .inl (h1 k hk),fun k ⟨b,hb,hk⟩=> .inl (h2 b hb k hk), .inr rfl,fun k hk=> ?_⟩
 ·rcases h5 with h5 |h5
  ·have:=hO1 _ h5;omega
  ·omega
 ·rcases hk with hk |hk
  ·rcases h3 k hk with h4 | ⟨b,hb,h4⟩
   ·exact .inl h4
   ·exact .inr (.inl ⟨b,hb,h4⟩)
  ·exact .inr (.inr hk)
end
end Go.Abs
namespace Go.Abs
open Go.RowKit Go.Lib
section
variable {P:Program}{T:cj}{Φ:bE T}{R:Type}{E:Env}{σ σ':AS}{a a':Act}{w w':World}{ν ν':Nm→Value}{O O':Nat→Prop}
def aea (E:Env)(σ:AS)(ν:Nm→Value)(O:Nat→Prop)(w:World):View:=fun key u=>∃ad:Addr,key= .cell ad∧view E σ ν O w (.cell ad) u
def aa6 (E:Env)(σ:AS)(ν:Nm→Value)(O:Nat→Prop)(w:World)(k:Nat):Prop:=(∃m,Own σ ν m k∧¬E.wK m)∨O k∨k=w.heap.size+1
theorem aeb (hE:aB E)(h:St E σ a w ν O)(r:Loop){ad:Addr}{u:Value}(hv:view E σ ν O w (.cell ad) u):(dv w r).cell? ad=some u∧¬aa6 E σ ν O w ad.block:=by
 have h1:=xx hE h.keep hv
 have hlt:=Gx h1
 obtain⟨e1,_⟩:=sE w r
 refine⟨by rw[World.cell?_of_block (e1.block _ hlt)];exact h1,fun hx=> ?_⟩
 rcases hv with ⟨h2,h3⟩ | ⟨h2,h3,h4,_⟩
 ·have h5:=(hE.cell _ _ h3).2
  rcases hx with ⟨m,hm,hr⟩ |ho |hk
  ·rcases (h.yO m _ hm).1 with h6 |h6 |h6
   ·omega
   ·exact h5 h6
   ·exact hr h6
  ·exact h5 ((h.out.2 _ ho).2 h2)
  ·omega
 ·rcases hx with ⟨m,hm,hr⟩ |ho |hk
  ·exact h3 ⟨m,hm⟩
  ·exact h4 ho
  ·omega
theorem ai6 {D:RgD T Φ R}{r:Loop}(hE:aB E)(h:St E σ a w ν O)(hDE:D.E=E)(hX:D.Xg=aa6 E σ ν O w)(hw:D.w2=dv w r)(hJ:E.J=jX)(hlen:∀k,D.len k→E.CB k∨E.base.heap.size≤k)(h0:List aV):aB (D.Y5 (aea E σ ν O w) h0):=by
 refine⟨fun ad u hv=> ?_,fun tr O1 w1 w1' C hJG hg hC=> ?_⟩
 ·obtain⟨Pb,e,hv⟩:=hv
  injection e with e
  subst e
  obtain⟨h1,h2⟩:=aeb hE h r hv
  exact⟨by show D.w2.cell? ad=_;rw[hw];exact h1,by show ¬D.Xg ad.block;rw[hX];exact h2⟩
 ·exact JG.stay (by rw[hDE];exact hE) (by rw[hDE];exact hJ) (by rw[hDE];exact hlen) hJG hg hC
end
end Go.Abs
namespace Go.Abs
open Go.RowKit Go.Lib
section
variable {P:Program}{T:cj}{Φ:bE T}{R:Type}{E:Env}{σ σ':AS}{a a':Act}{w w':World}{ν ν':Nm→Value}{O O':Nat→Prop}
def aec (E:Env)(σ:AS)(ν:Nm→Value)(O:Nat→Prop)(w:World)(bs:List Nat)(k:Nat):Prop:=aa6 E σ ν O w k∧¬GA σ ν bs k
theorem agM {D:RgD T Φ R}{r:Loop}{bs:List Nat}(hE:aB E)(h:St E σ a w ν O)(hDE:D.E=E)(hDa:D.a=a)(hmb:D.mb=w.heap.size)(hDl:D.l=w.heap.size+1)(hr:D.vi=r)(hw:D.w2=dv w r)(hX:D.Xg=aa6 E σ ν O w)
  (hB:D.Bx=fun k=>GA σ ν bs k∨k=w.heap.size+1) (hσ:D.σ0=σ) (hJ:E.J=jX) (hok:xw ((σ.jw bs).forget D.hd)=true) (hfx:FrX σ ({((σ.jw bs).forget D.hd) with b4:=[⟨D.ts,D.ys⟩]}:AS).save)
  {m:Nat} (hl:lh D.hd D.RB (fm D.k) m ({((σ.jw bs).forget D.hd) with b4:=[⟨D.ts,D.ys⟩]}:AS).save=some D.r):JG D ⟨.slice (jv D.ts),[]⟩ (aec E σ ν O w bs) (dv w r):=by
 obtain⟨Oc,s1,o1,o2,o3,o4⟩:=Y7 hE hJ h bs D.hd hok ⟨D.ts,D.ys⟩ r
 obtain⟨e1,e2,e3,e4⟩:=sE w r
 have alf:∀k,GA σ ν bs k→k<w.heap.size:=fun k ⟨b,hb,ho⟩=>(h.yO _ _ ho).2.1
 have aps:∀k,aa6 E σ ν O w k→k<w.heap.size+2:=fun k hk=>by
  rcases hk with ⟨m,hm,_⟩ |hk |hk
  ·have:=(h.yO _ _ hm).2.1;omega
  ·have:=(h.out.2 _ hk).1;omega
  ·omega
 have hl0:aec E σ ν O w bs (w.heap.size+1):=⟨.inr (.inr rfl),fun hb=>by have:=alf _ hb;omega⟩
 refine⟨[],D.ys,_,ν,Oc,m,rfl,⟨rfl,rfl,hl,by rw[hσ];exact hfx,by rw[hDE,hDa,hmb];exact s1,by rw[hDl,hr];exact e4,by rw[hDl];exact hl0,by rw[hDl];exact o3,fun m' k hm hro=> ?_,fun k hk hx=> ?_,by rw[hw];exact Nat.le_refl _,fun k hk=> ?_⟩⟩
 ·rw[hDE] at hro
  have hm2:Own ((σ.jw bs).forget D.hd) ν m' k:=by cases m'<;>exact hm
  have hm3:=(VF D.hd (σ.jw bs)).own hm2
  have hm4:=(S1 bs σ).1.own hm3
  refine⟨.inl ⟨m',hm4,hro⟩,fun⟨b,hb,ho⟩=> ?_⟩
  have:=h.inj _ _ k hm4 ho
  subst this
  have h9:=(S1 bs σ).2 b hb
  have h10:=hm3.1
  simp only[AS.obj,h9] at h10
  cases h10
 ·rw[hw] at hx
  rcases hx with hx |hx
  ·omega
  ·rw[hX] at hx
   by_cases hb:GA σ ν bs k
   ·exact .inr ⟨o2 k hb, .inl (by rw[hB];exact .inl hb)⟩
   ·exact .inl ⟨hx,hb⟩
 ·have:=aps k hk.1;omega
end
end Go.Abs
namespace Go.Abs
open Go.RowKit Go.Lib
section
variable {P:Program}{T:cj}{Φ:bE T}{R:Type}{E:Env}{σ σ':AS}{a a':Act}{w w':World}{ν ν':Nm→Value}{O O':Nat→Prop}
def Qy (ν:Nm→Value)(ks:List Nat):Nm→Value
 | .box (j+1)=>match ks[j]? with
   |some b=>ν (.box b)
   |none=> .nilFunc
 |_=> .nilFunc
theorem Pv:∀{l:List Nat},wP l=true→∀(i j b:Nat),l[i]? =some b→l[j]? =some b→i=j
 | [],_,i,j,b,h1,h2=>by simp at h1
 |x::l,h,i,j,b,h1,h2=>by
  simp only[wP,Bool.and_eq_true,Bool.not_eq_true'] at h
  have hx:∀k,l[k]? ≠some x:=fun k hk=>by
   have:l.any (Nat.beq x)=true:=kn.2 (List.mem_of_getElem? hk)
   rw[h.1] at this;cases this
  cases i with
  |zero=>
   cases j with
   |zero=>rfl
   |succ j=>
    simp at h1 h2
    subst h1
    exact absurd h2 (hx j)
  |succ i=>
   cases j with
   |zero=>
    simp at h1 h2
    subst h2
    exact absurd h1 (hx i)
   |succ j=>rw[Pv h.2 i j b (by simpa using h1) (by simpa using h2)]
end
end Go.Abs
namespace Go.Abs
open Go.RowKit Go.Lib
section
variable {P:Program}{T:cj}{Φ:bE T}{R:Type}{E:Env}{σ σ':AS}{a a':Act}{w w':World}{ν ν':Nm→Value}{O O':Nat→Prop}
theorem aed {boxes:List (Nat×BX)}{args:List nj}{aN:List Hi}{x:Gh args}(h:Gk boxes args aN=some x):∀(j:Nat) bx,look (c7 args x 0) j=some bx→∃i b t y,j=i+1∧(bg aN)[i]? =some b∧bx= .cells (flat t y)∧nj.bx t∈args∧look boxes b=some (.cells (flat t y)):=by
 intro j bx hj
 unfold Gk at h
 split at h
 ·simp[c7,c7.one,look] at hj
 ·split at h
  ·rename_i q ps cs y hy
   simp only[Option.some.injEq] at h
   subst h
   simp only[c7,c7.one,List.nil_append] at hj
   obtain⟨_,_,h3⟩:=Lx 1 hy
   obtain⟨b,t,z,h4,h5,h6,h7,h8⟩:=h3 j bx hj
   exact⟨j - 1,b,t,z,by omega,h5,h6,List.mem_cons_of_mem _ h7,h8⟩
  ·cases h
 ·cases h
end
end Go.Abs
namespace Go.Abs
open Go.RowKit Go.Lib
section
variable {P:Program}{T:cj}{Φ:bE T}{R:Type}{E:Env}{σ σ':AS}{a a':Act}{w w':World}{ν ν':Nm→Value}{O O':Nat→Prop}
theorem Dy {v:Nat}{xh:Bh T v}(hh:(T.sig v).ae.isEmpty=true):aH T v xh=cg T:=by
 have h1:(T.sig v).hin=[]:=by
  have:(T.sig v).ae=[]:=by simpa using hh
  simp[Iq.hin,this]
 have key:∀(hs:List Nat) (x:Eg T hs),hs=[]→qh T (T.sig v).hout hs x (cg T)=cg T:=fun hs x e=>by subst e;rfl
 exact key _ _ h1
theorem aee {D:RgD T Φ R}{r:Loop}{bs:List Nat}(hE:aB E)(h:St E σ a w ν O)(hDE:D.E=E)(hw:D.w2=dv w r)(hX:D.Xg=aa6 E σ ν O w)(hJ:E.J=jX)
  {v:Nat} {xh:Bh T v} (hh:(T.sig v).ae.isEmpty=true) (hs:Hk T (T.sig v)=true) (htr:Dk (T.sig v)=⟨.slice (jv D.ts),([]:List (jv D.ts).den)⟩) {aN:List Hi} (hx:Gk σ.boxes (T.sig v).args aN=some (u9 _ xh)) (hnd:wP (bg aN)=true) (hbs:bs=bg aN)
  (hJG:JG D ⟨.slice (jv D.ts),[]⟩ (aec E σ ν O w bs) (dv w r)):
  St (D.Y5 (aea E σ ν O w) (cg T)) (tv T v xh) ⟨#[],[]⟩ (dv w r) (Qy ν bs) (aec E σ ν O w bs):=by
 obtain⟨e1,e2,e3,e4⟩:=sE w r
 have hsh:(tv T v xh).ae=cg T:=Dy hh
 have nk:∀m o,(tv T v xh).obj m=some o→∃i b t y,m= .box (i+1)∧bs[i]? =some b∧o= .box (.cells (flat t y))∧nj.bx t∈(T.sig v).args∧look σ.boxes b=some (.cells (flat t y)):=fun m o ho=>by
  cases m with
  |row q=>simp[AS.obj,tv,look] at ho
  |box j=>
   simp only[AS.obj,Option.map_eq_some_iff] at ho
   obtain⟨bx,h1,rfl⟩:=ho
   obtain⟨i,b,t,y,rfl,h3,rfl,h5,h6⟩:=aed hx j bx h1
   exact⟨i,b,t,y,rfl,by rw[hbs];exact h3,rfl,h5,h6⟩
  |hp i n=>
   simp only[AS.obj,hsh] at ho
   cases n with
   |zero=>cases ho
   |succ n=>
    simp only[nk] at ho
    split at ho
    ·rename_i hr hhr
     rw[xE i hr hhr] at ho
     simp[Hm] at ho
    ·cases ho
 have hown:∀m k,Own (tv T v xh) (Qy ν bs) m k→∃i b,m= .box (i+1)∧bs[i]? =some b∧b∈bs∧Own σ ν (.box b) k:=fun m k ⟨h1,h2⟩=>by
  obtain⟨o,ho⟩:=Option.isSome_iff_exists.1 h1
  obtain⟨i,b,t,y,rfl,h3,rfl,h5,h6⟩:=nk m o ho
  refine⟨i,b,rfl,h3,List.mem_of_getElem? h3,by simp[AS.obj,h6], ?_⟩
  have:Qy ν bs (.box (i+1))=ν (.box b):=by simp only[Qy,h3]
  rw[←this];exact h2
 have hin:(T.sig v).hin=[]:=by
  have:(T.sig v).ae=[]:=by simpa using hh
  simp[Iq.hin,this]
 have apt:∀t,nj.bx t∈(T.sig v).args→dZ [] t=true:=fun t ht=>by
  simp only[Hk,Bool.and_eq_true] at hs
  have:=List.all_eq_true.1 hs.1.1 _ ht
  rw[hin] at this;exact this
 have hO:∀k,aec E σ ν O w bs k→k<(dv w r).heap.size:=fun k hk=>by
  rw[e2]
  rcases hk.1 with ⟨m,hm,_⟩ |hk |hk
  ·have:=(h.yO _ _ hm).2.1;omega
  ·have:=(h.out.2 _ hk).1;omega
  ·omega
 refine⟨?_,(fun d hd=>by cases hd),⟨rfl,(fun i x e=>by cases e),(fun i x e=>by cases e)⟩,fun m o ho=> ?_,fun m m' k h1 h2=> ?_,fun m k hm=> ?_,fun q k hk=> ?_,⟨?_,fun k hk=>⟨hO k hk,fun _=>by show D.Xg k;rw[hX];exact hk.1⟩⟩, ?_,(fun i hr e=>by cases e), ?_,(fun _ hf=>hf.elim), ?_,fun m k hm=> ?_,(fun _ hf=>hf.elim),List.nodup_nil⟩
 ·show Grow _ D.w2 (dv w r);rw[hw];exact Grow.refl _ _
 ·obtain⟨i,b,t,y,rfl,h3,rfl,h5,h6⟩:=nk m o ho
  obtain⟨g,g1,cur,e,g2,g3⟩:=h.box h6
  have hlt:=(Array.getElem?_eq_some_iff.1 g2).1
  refine⟨g,by simp only[Qy,h3];exact g1,cur,e,by rw[e1.block g hlt];exact g2, ?_⟩
  refine il (Rel.tr (hs:=[]) (fun ad u hv=> ?_) (fun i hi=>by simp at hi) _ _ _ (apt t h5) (im g3))
  exact .inl ⟨by show ad.block<D.w2.heap.size;rw[hw,e2];have:=Gx (xx hE h.keep hv);omega,ad,rfl,hv⟩
 ·obtain⟨i,b,rfl,h3,_,h4⟩:=hown m k h1
  obtain⟨i',b',rfl,h3',_,h4'⟩:=hown m' k h2
  have:=h.inj _ _ k h4 h4'
  injection this with this
  subst this
  rw[Pv (by rw[hbs];exact hnd) i i' b h3 h3']
 ·obtain⟨i,b,rfl,h3,hb,h4⟩:=hown m k hm
  have hlt:=(h.yO _ k h4).2.1
  refine⟨.inr (.inl (by show D.Xg k;rw[hX];exact .inl ⟨_,h4,Mg⟩)),by rw[e2];omega,fun hg=>hg.2 ⟨b,hb,h4⟩⟩
 ·obtain⟨i,b,e,_⟩:=hown _ k hk;subst e;exact .inr trivial
 ·show JG D (Dk (T.sig v)) _ _
  rw[htr];exact hJG
 ·intro i hr n e h1 h2
  have e':(tv T v xh).ae[i]? =some hr:=e
  rw[hsh] at e'
  rw[xE i hr e'] at h2;simp at h2;omega
 ·rw[hsh]
  exact⟨rfl,fun i hr e=>⟨hr,e,Ah.refl _,Nat.le_refl _⟩,fun i n h1 h2=>rfl⟩
 ·show Grow _ D.w2 (dv w r);rw[hw];exact Grow.refl _ _
 ·obtain⟨i,b,rfl,h3,hb,h4⟩:=hown m k hm
  exact .inr (.inl (by show D.Xg k;rw[hX];exact .inl ⟨_,h4,Mg⟩))
end
end Go.Abs
namespace Go.Abs
open Go.RowKit Go.Lib
section
variable {P:Program}{T:cj}{Φ:bE T}{E:Env}{σ σ':AS}{a a':Act}{w w':World}{ν ν':Nm→Value}{O O':Nat→Prop}
theorem aef {R:Type}{r:R}(k:Rng→List Nat→Option R)(bs:List Nat):∀(s:Iq) (y:Ma s),(match s,y with
  | ⟨_,_,_,_,some ts⟩,y=>k ⟨ts,y⟩ bs
  |_,_=>none)=some r→∃ts ys,s.gen.isSome=true∧aa4 s y=⟨.slice (jv ts),ys⟩∧Dk s=⟨.slice (jv ts),([]:List (jv ts).den)⟩∧k ⟨ts,ys⟩ bs=some r
 | ⟨_,_,_,_,some ts⟩,y,h=>⟨ts,y,rfl,rfl,rfl,h⟩
 | ⟨_,_,none,_,none⟩,y,h=>by cases h
 | ⟨_,_,some _,_,none⟩,y,h=>by cases h
theorem W1 {f:AV}{R:Type}{k:Rng→List Nat→Option R}{r:R}(h:vd T Φ σ f k=some r):∃g aN v xh yh ts ys,f= .fn g aN∧Gk σ.boxes (T.sig v).args aN=some (u9 _ xh)∧Φ v xh=some yh∧
  wP (bg aN)=true∧(T.sig v).ae.isEmpty=true∧T.real v=g∧(T.sig v).gen.isSome=true∧NS T v yh=⟨.slice (jv ts),ys⟩∧Dk (T.sig v)=⟨.slice (jv ts),([]:List (jv ts).den)⟩∧k ⟨ts,ys⟩ (bg aN)=some r:=by
 unfold vd at h
 split at h
 ·rename_i g aN
  split at h
  ·rename_i v _ _
   split at h
   ·rename_i x hx
    split at h
    ·rename_i xh hxh
     simp only[Option.bind_eq_some_iff] at h
     obtain⟨yh,hy,h⟩:=h
     cases hb:(wP (bg aN)&&(T.sig v).ae.isEmpty&&Nat.beq (T.real v) g) with
     |false=>rw[hb] at h;cases h
     |true=>
      rw[hb,cond_true] at h
      simp only[Bool.and_eq_true,beq_iff] at hb
      obtain⟨ts,ys,h1,h2,h3,h4⟩:=aef k (bg aN) _ _ h
      refine⟨g,aN,v,xh,yh,ts,ys,rfl, ?_,hy,hb.1.1,hb.1.2,hb.2,h1,h2,h3,h4⟩
      cases hg:Mb T σ.ae (T.sig v).hin with
      |none=>
       have hin:(T.sig v).hin=[]:=by
        have:(T.sig v).ae=[]:=by simpa using hb.1.2
        simp[Iq.hin,this]
       exfalso
       have:∀hs,hs=[]→Mb T σ.ae hs≠none:=fun hs e=>by subst e;simp[Mb]
       exact this _ hin hg
      |some hh=>rw[hg] at hxh;rw[(YD hxh).1];exact hx
    ·cases h
   ·cases h
  ·cases h
 ·cases h
theorem Ly {V V':View}{boxes:List (Nat×BX)}{νg:Nm→Value}{Y:Value}:∀{ps:List nj} {aN:List Hi} {x:Gh ps} (i:Nat) {vs:List Value},ax boxes ps aN=some x→az (rR V σ ν) aN vs→
  (∀(j b:Nat),(bg aN)[j]? =some b→νg (.box (i+j))=ν (.box b))→Qw V' νg Y i ps x vs
 | [],[],x,i,vs,h,ha,hn=>by
   cases vs with
   |nil=>rfl
   |cons _ _=>exact ha.elim
 | [.bx t],[.box b],x,i,vs,h,ha,hn=>by
   match vs,ha with
   | [v],ha=>
     obtain⟨⟨_,g,h1,h2⟩,_⟩:=ha
     exact⟨v,rfl,by show v=νg (.box i);rw[show νg (.box i)=ν (.box b) from hn 0 b rfl,h1,h2]⟩
 | .bx t::q::ps, .box b::cs,x,i,vs,h,ha,hn=>by
   match vs,ha with
   |v::vs,ha=>
    obtain⟨⟨_,g,h1,h2⟩,ha⟩:=ha
    simp only[ax] at h
    split at h
    ·split at h
     ·split at h
      ·rename_i y hy
       simp only[Option.some.injEq] at h
       subst h
       refine⟨v,vs,rfl,by show v=νg (.box i);rw[show νg (.box i)=ν (.box b) from hn 0 b rfl,h1,h2],Ly (i+1) hy ha (fun j c hj=> ?_)⟩
       have:=hn (j+1) c (by simpa [bg] using hj)
       rw[←this];congr 2;omega
      ·cases h
     ·cases h
    ·cases h
 | [.v _],[],_,_,_,h,_,_=>by simp[ax] at h
 | [.v _],_::_,_,_,_,h,_,_=>by simp[ax] at h
 | [.fn _ _],[],_,_,_,h,_,_=>by simp[ax] at h
 | [.fn _ _],_::_,_,_,_,h,_,_=>by simp[ax] at h
 | [.c _],[],_,_,_,h,_,_=>by simp[ax] at h
 | [.c _],_::_,_,_,_,h,_,_=>by simp[ax] at h
 | [.rp _],[],_,_,_,h,_,_=>by simp[ax] at h
 | [.rp _],_::_,_,_,_,h,_,_=>by simp[ax] at h
 | [.Lo],[],_,_,_,h,_,_=>by simp[ax] at h
 | [.Lo],_::_,_,_,_,h,_,_=>by simp[ax] at h
 | [.bx _],[],_,_,_,h,_,_=>by simp[ax] at h
 | [.bx _],[.oT _],_,_,_,h,_,_=>by simp[ax] at h
 | [.bx _], .box _::_::_,_,_,_,h,_,_=>by simp[ax] at h
 | [.bx _], .oT _::_::_,_,_,_,h,_,_=>by simp[ax] at h
 | .v _::_::_,_,_,_,_,h,_,_=>by simp[ax] at h
 | .fn _ _::_::_,_,_,_,_,h,_,_=>by simp[ax] at h
 | .c _::_::_,_,_,_,_,h,_,_=>by simp[ax] at h
 | .rp _::_::_,_,_,_,_,h,_,_=>by simp[ax] at h
 | .Lo::_::_,_,_,_,_,h,_,_=>by simp[ax] at h
 | .bx _::_::_,[],_,_,_,h,_,_=>by simp[ax] at h
 | .bx _::_::_, .oT _::_,_,_,_,h,_,_=>by simp[ax] at h
 | [],_::_,_,_,_,h,_,_=>by simp[ax] at h
theorem agN {V V':View}{boxes:List (Nat×BX)}{Y:Value}{args:List nj}{aN:List Hi}{x:Gh args}{vs:List Value}(h:Gk boxes args aN=some x)(ha:az (rR V σ ν) aN vs):Qw V' (Qy ν (bg aN)) Y 0 args x (Y::vs):=by
 unfold Gk at h
 split at h
 ·cases vs with
  |nil=>exact⟨Y,rfl,rfl⟩
  |cons _ _=>exact ha.elim
 ·split at h
  ·rename_i q ps cs y hy
   simp only[Option.some.injEq] at h
   subst h
   refine⟨Y,vs,rfl,rfl,Ly 1 hy ha (fun j b hj=> ?_)⟩
   rw[show (0+1+j)=j+1 by omega]
   simp only[Qy,hj]
  ·cases h
 ·cases h
theorem Qz {n:Nat}(hG:Y2 P T Φ){f:Operand}{ps:Array Tmp}{x y:Code}(Sx:Sound P T Φ n x)(Sy:Sound P T Φ n y):Sound P T Φ n (.rangeFunc f ps x y):=by
 intro R r E C hD rr hs σ k a w ν O he h X2 hk
 have akd:E.acc σ.trace:=by
  obtain⟨e,σ',h1,h2⟩:=SU _ _ _ _ he
  exact hD _ _ h2.tr (hk _ _ h1 h2)
 simp only[aG] at he
 split at he
 ·rename_i hd hs' u hrn htr
  have apu:rr=none:=by
   cases rr with
   |none=>rfl
   |some l=>exact absurd hrn (X2 rfl)
  subst apu
  have hE:=C.env
  have hJ:E.J=jX:=C.jj O w (by have:=h.out.1;rw[htr] at this;exact this)
  have hacc:E.acc ⟨.unit,()⟩:=by rw[htr] at akd;exact akd
  obtain⟨g,aN,v,xh,yh,ts,ys,e1,e2,e3,e4,e5,e6,e7,e8,e9,Y8⟩:=W1 he
  cases hok:xw ((σ.jw (bg aN)).forget hd) with
  |false=>rw[hok] at Y8;cases Y8
  |true=>
   rw[hok,cond_true] at Y8
   have f1:Fr σ ((σ.jw (bg aN)).forget hd):=(SQ _ σ).trans (mA hd _)
   have Y1:=hok
   simp only[xw,Bool.and_eq_true,List.all_eq_true] at Y1
   have hfx:FrX σ ({((σ.jw (bg aN)).forget hd) with b4:=[⟨ts,ys⟩]}:AS).save:=⟨⟨_,rfl⟩,f1.sites,f1.s,f1.tr,by
    refine⟨((σ.jw (bg aN)).forget hd).tmps.l.map fun p=>p.1+10000, ?_,fun i hi=> ?_⟩
    ·show (List.map _ _++_).map _=_
     rw[List.map_append,List.map_map, ←f1.ks]
     rfl
    ·obtain⟨p,hp,rfl⟩:=List.mem_map.1 hi
     have:=Y1.1 p hp
     rw[te] at this
     simp only[km,Bool.and_eq_true,Nat.ble_eq,te]
     omega⟩
   refine wpIn_rangeFunc (fun fn hfn=> ?_)
   rw[show (FW none).round=none from rfl]
   let vi:Loop:={state:= .ready,pending:=none,fn,tmps:=a.tmps,params:=ps,assign:=x,body:=y,defers:=w.heap.size}
   let D:RgD T Φ R:={E:=E,a:=a,mb:=w.heap.size,l:=w.heap.size+1,vi:=vi,ts:=ts,ys:=ys,σ0:=σ,hd:=hd,RB:=iu ps.toList (fun σ k'=>aG T Φ n x hs' σ k') (fun σ k'=>aG T Φ n y (hs'.drop (loops x)) σ k'),k:=k,r:=r,w2:=dv w vi,Xg:=aa6 E σ ν O w,Bx:=fun k=>GA σ ν (bg aN) k∨k=w.heap.size+1}
   obtain⟨n1,n2,n3,n4⟩:=sE w vi
   have hlen:∀k,D.len k→D.E.CB k∨D.E.base.heap.size≤k:=fun k hk=>by
    have hb:=h.ve.size
    rcases hk with (⟨b,hb1,ho⟩ |hk) |hk
    ·rcases h.wQ _ _ ho with h1 |h1
     ·exact absurd h1 Mg
     ·exact h1
    ·exact .inr (by show E.base.heap.size≤k;omega)
    ·refine .inr ?_
     have hk':(dv w vi).heap.size≤k:=hk
     show E.base.heap.size≤k;omega
   have apv:JG D ⟨.slice (jv D.ts),[]⟩ (aec E σ ν O w (bg aN)) (dv w vi):=agM (D:=D) (bs:=bg aN) hE h rfl rfl rfl rfl rfl rfl rfl rfl rfl hJ hok hfx Y8
   have hEg:aB (D.Y5 (aea E σ ν O w) (cg T)):=ai6 hE h rfl rfl rfl hJ hlen _
   have hTg:Ml T (D.Y5 (aea E σ ν O w) (cg T)):=⟨C.Rb.1,fun i x hx=>by
    obtain⟨g,cs,h1,h2,h3⟩:=C.Rb.2 i x hx
    refine⟨g,cs,h1,h2,h3.of fun key u ⟨ad,e,hlt,hv⟩=>⟨ad,e, ?_,ad,rfl, .inl ⟨hlt,hv⟩⟩⟩
    show ad.block<(dv w vi).heap.size
    have:=h.keep.size;omega⟩
   have hYg:Gy P (D.Y5 (aea E σ ν O w) (cg T)):=Y6 (D:=D) rfl rfl C hD hJ hacc hlen Sx Sy (by have:=h.slots.1;simpa using this.symm) (.inl (.inr rfl))
   have anl:=aee (D:=D) (xh:=xh) hE h rfl rfl rfl hJ e5 (C.sigs v) e9 e2 e4 rfl apv
   obtain⟨⟨fd,hfd,hbody,hname⟩,Bu⟩:=hG v xh yh e3 e7
   have hf:ag (view E σ ν O w) σ ν E.Y (σ.av f) (a.eval f):=h.av C.Rb.1 f
   rw[e1] at hf
   obtain⟨vs,hf1,hf2⟩:=hf
   have Vm:=Bu (D.Y5 (aea E σ ν O w) (cg T)) (Qy ν (bg aN)) (#[.func (.yield (w.heap.size+1)) #[] #[]]++vs.toArray) _ hEg hTg hYg (ad9 D _ _) (fun O2 w2 hj=>by
    obtain⟨_,_,_,_,_,_,e,_⟩:=hj
    injection e with e;cases e) (by rw[e8];exact .inl rfl) anl (by
     have:(#[.func (.yield (w.heap.size+1)) #[] #[]]++vs.toArray:Array Value).toList= .func (.yield (w.heap.size+1)) #[] #[]::vs:=by simp
     rw[this]
     exact agN e2 hf2)
   rw[e6] at hfd Vm
   have alg:Calls P g (#[.func (.yield (w.heap.size+1)) #[] #[]]++vs.toArray) (dv w vi) (fun e w'=>∃r O',e= .returned r∧JG D (NS T v yh) O' w'):=Vm
   clear Vm Bu anl hYg hTg hEg
   have hb:fd.body.isNone=false:=by cases hfb:fd.body<;>simp_all
   have hn1:¬fd.name= "runtime.NumGoroutine" :=by simpa using hname
   have hb1:¬fd.body=none:=by intro e;rw[e] at hb;cases hb
   refine⟨w.heap.size+1,[{target:= .collected w.heap.size,args:= #[]}],dv w vi,{target:= .fn (.func g) vs.toArray,args:= #[.func (.yield (w.heap.size+1)) #[] #[]]},dv w vi,g,
    #[.func (.yield (w.heap.size+1)) #[] #[]]++vs.toArray,dv w vi,run_enterLoop_outer _ _ _ _ _, ?_,fun _ _=>trivial, ?_,fun e=>(by cases e), ?_⟩
   ·simp only[resolve,hf1]
    simp[go_sem]
   ·simp[invoke,callFunc,hfd,hn1,hb1,go_sem]
   ·refine SB (Calls.mono (R:=fun e w'=>∃r O',e= .returned r∧JG D (NS T v yh) O' w') alg ?_)
    rintro e w3 ⟨rv,Og,rfl,xs,rest,σ1,ν1,Oc,m,Uv,j⟩
    rw[e8] at Uv
    injection Uv with _ Uv
    try simp only[heq_eq_eq] at Uv
    subst Uv
    have Si:rest=[]:=by
     have:=j.ys
     exact(List.append_cancel_left (as:=ys) (by rw[List.append_nil];exact this)).symm
    subst Si
    have hl:=j.loop
    cases m with
    |zero=>cases hl
    |succ m=>
     simp only[lh] at hl
     have hRB:D.RB=iu ps.toList (fun σ k'=>aG T Φ n x hs' σ k') (fun σ k'=>aG T Φ n y (hs'.drop (loops x)) σ k'):=rfl
     rw[hRB] at hl
     unfold iu at hl
     rw[j.b4] at hl
     dsimp only at hl
     have hl':k .normal {σ1.Bi with b4:=σ1.b4.tail}=some r:=hl
     have hrun:=run_endLoop (P:=P) j.Y4 (by show vi.state≠_;simp[vi])
     obtain⟨q1,q2,q3⟩:=St.WZ (E:=E.iy a w.heap.size) (hE.iy _ _) hJ j.st j.Y4 j.cl (hlen _ (.inl (.inr rfl))) {vi with state:= .exhausted}
     have hks:=VD j.fr (fun i hi=>by
      have hi:i∈σ.tmps.s.map (·.1):=hi
      rw[←f1.ks] at hi
      obtain⟨p,hp,rfl⟩:=List.mem_map.1 hi
      have:=Y1.2 p hp
      rw[Nat.ble_eq] at this
      simp only[km,Bool.and_eq_false_iff]
      exact .inr (by cases hb:Nat.blt p.1 (10000*(1+1)) with
       |false=>rfl
       |true=>rw[te] at hb;omega))
     have aa5:=q1.ai5 (fun i x hx=>by
      have h1:=yN hx
      have h2:i∈σ1.Bi.tmps.s.map (·.1):=List.mem_map_of_mem (f:=(·.1)) h1
      rw[hks] at h2
      have h2:i∈σ.tmps.s.map (·.1):=h2
      rw[←f1.ks] at h2
      obtain⟨p,hp,rfl⟩:=List.mem_map.1 h2
      have:=Y1.2 p hp
      rwa [Nat.ble_eq] at this) h.keep.size (fun d hd=>by
       obtain⟨r',g1,g2,_⟩:=h.marks d hd
       exact⟨r',g1,g2⟩) (List.nodup_cons.2 ⟨fun hm=>by
       obtain⟨r',g1,_,g2,_⟩:=h.marks _ hm
       injection g1 with g1
       injection g1 with g1
       have:=(Array.getElem?_eq_some_iff.1 g2).1
       omega,h.nd⟩)
     refine⟨none,_,hrun,⟨_,hl',⟨?_,j.fr.sites,j.fr.s,j.fr.tr,hks⟩,ν1,Oc,aa5⟩⟩
     show σ1.b4.tail=_
     rw[j.b4,hrn];rfl
 ·cases he
end
end Go.Abs
namespace Go.Abs
open Go.RowKit Go.Lib
section
variable {P:Program}{T:cj}{Φ:bE T}{E:Env}{σ σ':AS}{a a':Act}{w w':World}{ν ν':Nm→Value}{O O':Nat→Prop}{V V':View}{Y:Value}
theorem ArgRel.g:∀{p:nj} {x:p.den} {v:Value} (i:Nat),ArgRel V p x v→RF V ν Y i p x v
 | .v _,_,_,_,h=>h
 | .fn _ _,_,_,_,h=>h
 | .c _,_,_,_,h=>h
 | .rp _,_,_,_,h=>h
 | .bx _,_,_,_,h=>h.elim
 | .Lo,_,_,_,h=>h.elim
theorem mc.g:∀{ps:List nj} {x:Gh ps} {vs:List Value} (i:Nat),mc V ps x vs→Qw V ν Y i ps x vs∧c7 ps x i=[]
 | [],x,vs,i,h=>⟨h,rfl⟩
 | [p],x,vs,i,h=>by
   obtain⟨v,rfl,h1⟩:=h
   refine⟨⟨v,rfl,h1.g i⟩, ?_⟩
   cases p<;>first |rfl |exact h1.elim
 |p::q::ps,x,vs,i,h=>by
  obtain⟨v,r,rfl,h1,h2⟩:=h
  obtain⟨h3,h4⟩:=mc.g (i+1) h2
  refine⟨⟨v,r,rfl,h1.g i,h3⟩, ?_⟩
  show c7.one p x.1 i++c7 (q::ps) x.2 (i+1)=[]
  rw[h4]
  cases p<;>first |rfl |exact h1.elim
theorem VG:∀{ts:List Ty} {x:rO ts} {vs:List Value},Dt V ts x vs→az (rR V σ ν) (R2.aaB ts x) vs
 | [],x,vs,h=>by have:vs=[]:=h;subst this;trivial
 | [t],x,vs,h=>by obtain⟨v,rfl,h1⟩:=h;exact⟨h1,trivial⟩
 |t::u::ts,x,vs,h=>by
  obtain⟨v,r,rfl,h1,h2⟩:=h
  exact⟨h1,VG h2⟩
theorem acD {p:nj}{x:p.den}{v:Value}{i:Nat}(h:RF V ν Y i p x v)(hb:∀t,p= .bx t→Bm σ ν i 0 (ν (.box i))):ag V σ ν Y (R2.one p x i) v:=by
 cases p with
 |v t=>exact Kl h
 |fn f ts=>obtain⟨vs,h1,h2⟩:=h;exact⟨vs,h1,VG h2⟩
 |c cs=>exact h
 |rp t=>exact h
 |bx t=>have h':v=ν (.box i):=h;subst h';exact hb t rfl
 |Lo=>exact h
theorem NU:∀{ps:List nj} {x:Gh ps} {i k:Nat} {t:Ty},ps[k]? =some (.bx t)→(look (c7 ps x i) (i+k)).isSome=true
 | [],x,i,k,t,h=>by simp at h
 | [p],x,i,0,t,h=>by
   simp only[List.getElem?_cons_zero,Option.some.injEq] at h
   subst h
   simp[c7,c7.one,look]
 | [p],x,i,k+1,t,h=>by simp at h
 |p::q::ps,x,i,0,t,h=>by
  simp only[List.getElem?_cons_zero,Option.some.injEq] at h
  subst h
  simp[c7,c7.one,look]
 |p::q::ps,x,i,k+1,t,h=>by
  have ih:=NU (ps:=q::ps) (x:=x.2) (i:=i+1) (k:=k) (by simpa using h)
  rw[show i+(k+1)=i+1+k by omega]
  show (look (c7.one p x.1 i++c7 (q::ps) x.2 (i+1)) _).isSome=true
  cases p with
  |bx u=>
   simp only[c7.one,List.cons_append,List.nil_append,look]
   cases hb:Nat.beq i (i+1+k) with
   |true=>rfl
   |false=>exact ih
  |_=>exact ih
theorem S2:∀{ps:List nj} {x:Gh ps} {vs:List Value} {i:Nat},Qw V ν Y i ps x vs→(∀(k:Nat) t,ps[k]? =some (.bx t)→Bm σ ν (i+k) 0 (ν (.box (i+k))))→az (ag V σ ν Y) (R2 ps x i) vs∧vs.length=ps.length
 | [],x,vs,i,h,hb=>by have:vs=[]:=h;subst this;exact⟨trivial,rfl⟩
 | [p],x,vs,i,h,hb=>by
   obtain⟨v,rfl,h1⟩:=h
   exact⟨⟨acD h1 (fun t e=>hb 0 t (by simp[e])),trivial⟩,rfl⟩
 |p::q::ps,x,vs,i,h,hb=>by
  obtain⟨v,r,rfl,h1,h2⟩:=h
  obtain⟨h3,h4⟩:=S2 (i:=i+1) h2 (fun k t e=>by
   have:=hb (k+1) t (by simpa using e)
   rw[show i+(k+1)=i+1+k by omega] at this;exact this)
  exact⟨⟨acD h1 (fun t e=>hb 0 t (by simp[e])),h3⟩,by simp[h4]⟩
theorem VH {R:AV→Value→Prop}{g:Nat→Value}:∀{l:List AV} {vs:List Value} {acc:List (Nat×AV)} {i:Nat},az R l vs→(∀j x,look acc j=some x→R x (g j))→
  (∀k v,vs[k]? =some v→g (i+k)=v)→∀j x,look (afE i l acc) j=some x→R x (g j)
 | [],[],acc,i,_,ha,_,j,x,h=>ha j x h
 |y::l,v::vs,acc,i,h,ha,hg,j,x,hx=>by
  refine VH (i:=i+1) (acc:=(i,y)::acc) h.2 (fun j z hz=> ?_) (fun k u hu=> ?_) j x hx
  ·simp only[look] at hz
   cases hb:Nat.beq i j with
   |true=>
    have:=(beq_iff _ _).1 hb;subst this
    rw[hb] at hz
    obtain rfl:y=z:=by simpa using hz
    have:=hg 0 v rfl
    rw[Nat.add_zero] at this
    rw[this];exact h.1
   |false=>rw[hb] at hz;exact ha j z hz
  ·rw[Nat.add_assoc,Nat.add_comm 1 k];exact hg (k+1) u (by simpa using hu)
 | [],_::_,_,_,h,_,_,_,_,_=>h.elim
 |_::_,[],_,_,h,_,_,_,_,_=>h.elim
theorem Pl {R:AV→Value→Prop}{l:List AV}{vs:List Value}{X:Nat→Value}(h:az R l vs)(m:Nat){s:List (Nat×AV)}(hs:∀i x,look s i=some x→R x (X i)):HQ R (eW.of l m s) (vs++List.replicate m undef) X:=by
 refine⟨by simp[eW.of,h.length],fun j x hx=> ?_,hs⟩
 refine VH (g:=fun j=>(vs++List.replicate m undef).getD j undef) h (fun j x hx=>by cases hx) (fun k v hv=> ?_) j x hx
 have hk:=(List.getElem?_eq_some_iff.1 hv).1
 simp[List.getD,List.getElem?_append_left hk,hv]
theorem St.begin {fn:Func}{v:Nat}{xh:Bh T v}{vals:Array Value}(hG:Ml T E)(h:St E (tv T v xh) ⟨#[],[]⟩ E.w0 ν O)
  (ha:Qw (view E (tv T v xh) ν O E.w0) ν E.Y 0 (T.sig v).args (u9 _ xh) vals.toList):
  St E (Nv T fn v xh) {tmps:=vals++Array.replicate (fn.ntmps - vals.size) undef,defers:=[]} E.w0 ν O:=by
 obtain⟨h1,h2⟩:=S2 (σ:=tv T v xh) ha (fun k t e=>by
  have h3:=NU (x:=u9 _ xh) (i:=0) e
  obtain⟨bx,h4⟩:=Option.isSome_iff_exists.1 h3
  obtain⟨g,h5,_⟩:=h.box (b:=0+k) h4
  exact⟨h3,g,h5,h5⟩)
 refine h.aaC (σ':=Nv T fn v xh) ⟨rfl,rfl,rfl,rfl⟩ rfl ?_
 have e:(vals++Array.replicate (fn.ntmps - vals.size) undef).toList=vals.toList++List.replicate (fn.ntmps - (T.sig v).args.length) undef:=by
  rw[Array.toList_append,Array.toList_replicate, ←h2];simp
 show HQ _ _ (vals++Array.replicate (fn.ntmps - vals.size) undef).toList _
 rw[e]
 refine Pl h1 _ (fun i x hx=> ?_)
 obtain⟨g,cs,rfl,rfl,h3⟩:=hG.2 i x hx
 rw[hG.1 g]
 exact h3.mono fun key u ⟨ad,e,hlt,hv⟩=>by subst e;exact .inl ⟨hlt,hv⟩
theorem St.alh {tmps:Array Value}{d:Deferred}{ds:List Deferred}(hE:aB E)(h:St E σ ⟨tmps,d::ds⟩ w ν O)(hM:∀r,E.M r→r<E.w0.heap.size)(hb:E.base.heap.size≤E.w0.heap.size):
  ∃r,d=⟨.collected r, #[]⟩∧w.heap[r]? =some (.deferred (some []))∧St E σ ⟨tmps,ds⟩ (w.putObj r (.deferred none)) ν O:=by
 obtain⟨r,hd,h1,h2,h3⟩:=h.marks d (by simp)
 refine⟨r,hd,h2, ?_⟩
 have hg:Grow (fun k=>k=r) w (w.putObj r (.deferred none)):=IS
 have hne:∀m,¬Own σ ν m r:=fun m hm=>by
  obtain⟨cur,e,h4⟩:=h.Pu hm
  rw[h2] at h4;cases h4
 have hblk:∀k o,w.heap[k]? =some o→k≠r→(w.putObj r (.deferred none)).heap[k]? =some o:=fun k o h4 h5=>by
  rw[hg.block k (Array.getElem?_eq_some_iff.1 h4).1 h5];exact h4
 have hV:∀key u,view E σ ν O w key u→view E σ ν O (w.putObj r (.deferred none)) key u:=fun key u hu=>by
  cases key with
  |cell ad=>
   rcases hu with hu | ⟨h4,h5,h6,h7⟩
   ·exact .inl hu
   ·have h8:ad.block≠r:=fun e=>by
     unfold World.cell? at h7
     rw[e,h2] at h7;cases h7
    exact .inr ⟨h4,h5,h6,by rw[World.cell?_of_block (hg.block _ (Gx h7) h8)];exact h7⟩
  |ref i n=>exact hu
 refine⟨h.keep.trans hg (fun k hk e=>by subst e;omega),fun d' hd'=> ?_,h.slots.mono (ag.mono hV (Sub.refl _ _)),fun m o ho=> ?_,h.inj,fun m k hm=> ?_,h.new,⟨hE.stay _ _ _ _ _ h.out.1 hg (fun k e=>by subst e;exact⟨h3,fun hlt=>by omega⟩),fun k hk=>⟨Nat.lt_of_lt_of_le (h.out.2 k hk).1 hg.size,(h.out.2 k hk).2⟩⟩,h.nn,h.ro,h.kept,fun r' hr'=> ?_,h.ve.trans hg (fun k hk e=>by subst e;omega),h.wQ,h.Nw, ?_⟩
 ·obtain⟨r',h4,h5,h6,h7⟩:=h.marks d' (by simp[hd'])
  refine⟨r',h4,h5,hblk r' _ h6 (fun e=> ?_),h7⟩
  subst e
  have:=h.nd
  rw[List.nodup_cons] at this
  rw[hd, ←h4] at this
  exact this.1 hd'
 ·exact(h.A6 m o ho).mono hV (fun k hk=>hg.block k (h.yO m k ⟨aW ho,hk⟩).2.1 (fun e=>by subst e;exact hne m ⟨aW ho,hk⟩)) (fun r' _ hr'=>⟨rfl,hr'⟩)
 ·obtain⟨h4,h5,h6⟩:=h.yO m k hm
  exact⟨h4,Nat.lt_of_lt_of_le h5 hg.size,h6⟩
 ·obtain⟨h4,h5⟩:=h.waits r' hr'
  exact⟨hblk r' _ h4 (fun e=>by subst e;have:=hM _ hr';omega),h5⟩
 ·have:=h.nd
  rw[List.nodup_cons] at this
  exact this.2
theorem GB {F:Fence}{n:Nat}{fn:Func}{tmps:Array Value}{R:Ending→World→Prop}(hE:aB E)(hM:∀r,E.M r→r<E.w0.heap.size)(hb:E.base.heap.size≤E.w0.heap.size)
  (hend:∀w',St E σ ⟨tmps,[]⟩ w' ν O→∃v,(results fn tmps).run P w'= .ok v w'∧R (.returned v) w'):∀(ds:List Deferred) (w:World),St E σ ⟨tmps,ds⟩ w ν O→LeavesInM F n P fn tmps R ds .returning w
 | [],w,h=>hend w h
 |d::ds,w,h=>by
  obtain⟨r,h1,h2,h3⟩:=h.alh hE hM hb
  refine⟨(by intro e;cases e), .inl ⟨r,_,by rw[h1],run_takeDeferred h2,GB hE hM hb hend ds _ h3⟩⟩
theorem St.ali (hJ:E.J=jX)(hOm:∀k,¬E.Om k)(h:St E σ a w ν O):St E σ a w ν (fun _=>False):=by
 have hV:∀key u,view E σ ν O w key u→view E σ ν (fun _=>False) w key u:=fun key u hu=>by
  cases key with
  |cell ad=>exact hu.imp id (fun⟨h1,h2,h3,h4⟩=>⟨h1,h2,id,h4⟩)
  |ref i n=>exact hu
 refine⟨h.keep,fun d hd=> ?_,h.slots.mono (ag.mono hV (Sub.refl _ _)),fun m o ho=>(h.A6 m o ho).mono hV (fun _ _=>rfl) (fun r _ hr=>⟨rfl,hr⟩),h.inj,fun m k hm=> ?_,h.new,⟨?_,fun _ hf=>hf.elim⟩,h.nn,h.ro,h.kept,fun r hr=>⟨(h.waits r hr).1,id⟩,h.ve,h.wQ,fun k hk=>hOm k hk,h.nd⟩
 ·obtain⟨r,h1,h2,h3,_⟩:=h.marks d hd
  exact⟨r,h1,h2,h3,id⟩
 ·obtain⟨h1,h2,_⟩:=h.yO m k hm
  exact⟨h1,h2,id⟩
 ·have:=h.out.1
  rw[hJ] at this ⊢;exact this
def IT (tmps:Array Value):ResultVar→Sem Value
 | .tmp t=>pure (tmps.getD t undef)
 | .cell x t=>do loadVar t (←asAddr (tmps.getD x undef))
theorem GC (hT:iw P T.rows)(h:St E σ a w ν O){rv:ResultVar}{av:AV}(he:Gl T.rows σ rv=some av):
  ∃v,(IT a.tmps rv).run P w= .ok v w∧ag (view E σ ν O w) σ ν E.Y av v:=by
 cases rv with
 |tmp t=>
  simp only[Gl,Option.some.injEq] at he
  subst he
  refine⟨a.tmps.getD t undef,rfl, ?_⟩
  have:=Nx (fun v=>by trivial) h.slots t
  simpa using this
 |cell x t=>
  simp only[Gl] at he
  split at he
  ·rename_i b off r hb hr
   obtain⟨rfl,hr'⟩:=hT t r hr
   have hx:=Nx (fun v=>by trivial) h.slots x
   rw[hb] at hx
   obtain⟨_,g,hg,hu⟩:=hx
   have hu':a.tmps.getD x undef= .pointer (some ⟨g,off,none⟩):=by simpa using hu
   split at he
   ·rename_i cs hcs
    obtain⟨g',e1,cur,e,hgc,b5⟩:=h.box hcs
    rw[hg] at e1
    simp only[Value.pointer.injEq,Option.some.injEq,Addr.mk.injEq,and_true] at e1
    subst e1
    have hc:∀j u,(cur.toList.drop off)[j]? =some u→w.cell? ((⟨g,off,none⟩:Addr).add j)=some u:=by
     intro j u hj
     rw[U2,cell_of_row w _ _ cur e (0,0) hgc]
     simpa using IF hj
    obtain⟨v',h1,h2⟩:=Yj (P:=P) hr' hc (b5.drop off) he (σ:=σ) (ν:=ν) (Y:=E.Y)
    refine⟨v', ?_,h2⟩
    simp only[IT,hu',asAddr,Sem.run_bind,Sem.run_pure,Result.andThen_ok,h1]
   ·rename_i q hq
    obtain⟨g',e1,e,hgc,hql⟩:=h.box hq
    rw[hg] at e1
    simp only[Value.pointer.injEq,Option.some.injEq,Addr.mk.injEq,and_true] at e1
    subst e1
    split at he
    ·rename_i ut p0
     cases h0:Nat.beq off 0 with
     |false=>rw[h0] at he;cases he
     |true=>
      rw[h0] at he
      simp only[cond_true,Option.some.injEq] at he
      subst he
      have:=(beq_iff _ _).1 h0
      subst this
      refine⟨ν (.row q), ?_,rfl,hql⟩
      have hc:w.cell? ⟨g,0,none⟩=some (ν (.row q)):=by rw[cell_of_row w _ _ _ e (0,0) hgc];rfl
      have ha:=J7 hr' w
      rw[p0] at ha
      simp only[IT,hu',asAddr,Sem.run_bind,Sem.run_pure,Result.andThen_ok]
      simp[loadVar,ha,hc]
    ·cases he
   ·cases he
  ·cases he
theorem IU {fn:Func}{vs:List Value}(h:(fn.results.toList.mapM (IT a.tmps)).run P w= .ok vs w):
  (results fn a.tmps).run P w= .ok (match vs with | [v]=>v |l=> .tuple l.toArray) w:=by
 have e:results fn a.tmps=(do
   let vs ←fn.results.mapM (IT a.tmps)
   pure (if h:vs.size=1 then vs[0] else .tuple vs)):=by
  unfold results
  have:(fun rv=>(match rv with |ResultVar.tmp t=>pure (a.tmps.getD t undef) | .cell x t=>do loadVar t (←asAddr (a.tmps.getD x undef)):Sem Value))=IT a.tmps:=by
   funext rv;cases rv<;>rfl
  rw[←this];rfl
 rw[e,Array.mapM_eq_mapM_toList]
 simp only[Sem.run_bind,Sem.run_map,h,Result.andThen_ok,Sem.run_pure]
 match vs with
 | []=>rfl
 | [v]=>rfl
 |v::u::r=>simp
end
end Go.Abs
namespace Go.Abs
open Go.RowKit Go.Lib
section
variable {P:Program}{T:cj}{Φ:bE T}{E:Env}{σ σ' es:AS}{a a':Act}{w w':World}{ν ν':Nm→Value}{O O':Nat→Prop}{V V':View}{Y:Value}{fr fb:Nat→Nat}{hin:List Nat}
def Y9 (fr fb:Nat→Nat):Nm→Nm
 | .row k=> .row (fr k)
 | .box k=> .box (fb k)
 | .hp i n=> .hp i n
def Uw (fr fb:Nat→Nat)(ν:Nm→Value)(m:Nm):Value:=ν (Y9 fr fb m)
def acE (hin:List Nat):Obj→Prop
 | .row row=>dZ hin row.t=true
 | .box (.cells cs)=>∃(t:Ty) (y:t.den),cs=flat t y∧dZ hin t=true
 | .box _=>False
 | .hp _ row=>dZ hin row.t=true
theorem acF (m:Nm):E.wK (Y9 fr fb m)→E.wK m:=fun h=>by
 cases m with
 |row k=>exact absurd h O7
 |box k=>exact absurd h Mg
 |hp i n=>exact h
theorem agO (m:Nm)(k:Nat):E.UZ (Y9 fr fb m) k→E.UZ m k:=fun h=>by
 cases m<;>exact h
structure E3 (E:Env) (σ es:AS) (ν:Nm→Value) (fr fb:Nat→Nat) (hin:List Nat):Prop where
 obj:∀m o,es.obj m=some o→σ.obj (Y9 fr fb m)=some o∧acE hin o
 inj:∀m m',(es.obj m).isSome=true→(es.obj m').isSome=true→Y9 fr fb m=Y9 fr fb m'→m=m'
 hp:∀i,i∈hin→es.ae[i]? =σ.ae[i]?
 em:∀i hr,i∉hin→es.ae[i]? =some hr→hr.xs=[]
 kept:HK E.h0 E.n0 es.ae ν
 tr:es.trace=⟨.unit,()⟩
 tm:es.tmps=⟨0,[],[]⟩
 ro:∀i hr,E.ro i=some hr→es.ae[i]? =some hr
theorem E3.own (g:E3 E σ es ν fr fb hin){m:Nm}{k:Nat}(h:Own es (Uw fr fb ν) m k):Own σ ν (Y9 fr fb m) k:=by
 obtain⟨o,ho⟩:=Option.isSome_iff_exists.1 h.1
 exact⟨by rw[(g.obj m o ho).1];rfl,h.2⟩
theorem E3.cell (g:E3 E σ es ν fr fb hin)(ad:Addr)(u:Value)(hv:view E σ ν O w (.cell ad) u):view E es (Uw fr fb ν) O w (.cell ad) u:=by
 rcases hv with hv | ⟨h1,h2,h3,h4⟩
 ·exact .inl hv
 ·exact .inr ⟨h1,fun⟨m,hm⟩=>h2 ⟨_,g.own hm⟩,h3,h4⟩
theorem E3.ref (g:E3 E σ es ν fr fb hin)(i:Nat)(hi:hin.any (Nat.beq i)=true)(n:Nat)(u:Value)(hv:view E σ ν O w (.ref i n) u):view E es (Uw fr fb ν) O w (.ref i n) u:=by
 obtain⟨h1,h2,h3⟩:=hv
 refine⟨h1, ?_,h3⟩
 unfold hlen at h2 ⊢
 rw[g.hp i (kn.1 hi)];exact h2
theorem St.finish (h:St E σ a w ν (fun _=>False))(hJ:E.J=jX)(g:E3 E σ es ν fr fb hin):St E es ⟨#[],[]⟩ w (Uw fr fb ν) (fun _=>False):=by
 have b5:∀t x cs,dZ hin t=true→Rel (view E σ ν (fun _=>False) w) t x cs→Rel (view E es (Uw fr fb ν) (fun _=>False) w) t x cs:=fun t x cs hr=>Rel.tr g.cell g.ref t x cs hr
 refine⟨h.keep,(fun d hd=>by cases hd),⟨by rw[g.tm];rfl,(fun i x e=>by rw[g.tm] at e;cases e),(fun i x e=>by rw[g.tm] at e;cases e)⟩,fun m o ho=> ?_,fun m m' k h1 h2=>g.inj m m' h1.1 h2.1 (h.inj _ _ k (g.own h1) (g.own h2)),fun m k hm=> ?_,fun m k hm=>(h.new _ k (g.own hm)).imp id (agO m k),⟨?_,fun _ hf=>hf.elim⟩,fun i hr n e h1 h2=> ?_,fun i hr e=>⟨g.ro i hr e,(h.ro i hr e).2⟩,⟨g.kept.num,g.kept.row,g.kept.nm⟩,h.waits,h.ve,fun m k hm=>(h.wQ _ k (g.own hm)).imp (acF m) id,h.Nw,List.nodup_nil⟩
 ·obtain⟨h1,h2⟩:=g.obj m o ho
  have h3:=h.A6 _ o h1
  show Gm _ es _ w (ν (Y9 fr fb m)) o
  cases o with
  |row row=>
   obtain⟨bk,h4,h5⟩:=h3
   exact⟨bk,h4,h5.mono fun x cs=>b5 _ x cs h2⟩
  |box x=>
   cases x with
   |cells cs=>
    obtain⟨t,y,rfl,h2⟩:=h2
    obtain⟨gb,h4,cur,e,h5,h6⟩:=h3
    exact⟨gb,h4,cur,e,h5,il (b5 t y _ h2 (im h6))⟩
   |own q=>exact h2.elim
   |nil=>exact h2.elim
  |hp k row=>
   match k,h3 with
   |0,⟨h4,bk,h5,h6⟩=>exact⟨h4,bk,h5,h6.mono fun x cs=>b5 _ x cs h2⟩
   |1,⟨gb,cur,ys,x,h4,h5,h6,h7,h8⟩=>exact⟨gb,cur,ys,x,h4,h5,h6,h7,b5 _ _ _ h2 h8⟩
 ·obtain⟨h1,h2,h3⟩:=h.yO _ k (g.own hm)
  exact⟨h1.imp id (Or.imp id (acF m)),h2,h3⟩
 ·have:=h.out.1
  rw[hJ] at this ⊢
  exact g.tr
 ·by_cases hi:i∈hin
  ·rw[g.hp i hi] at e;exact h.nn i hr n e h1 h2
  ·rw[g.em i hr hi e] at h2;simp at h2;omega
theorem S3 (wr:List Nat):∀(hs:List Nat) (x:Eg T hs) (l:List aV) (i:Nat),i∈hs→i<l.length→∃hr:aV,(qh T wr hs x l)[i]? =some hr∧hr.e=(T.ht i).e∧hr.t=(T.ht i).t∧hr.k=(T.ht i).k∧hr.w=wr.any (Nat.beq i)
 | [],_,l,i,h,_=>by simp at h
 | [h],x,l,i,hm,hl=>by
   simp only[List.mem_singleton] at hm
   subst hm
   simp only[qh,sB]
   rw[List.getElem?_set_self hl]
   exact⟨_,rfl,rfl,rfl,rfl,rfl⟩
 |h::j::r,x,l,i,hm,hl=>by
  by_cases hm2:i∈j::r
  ·simp only[qh]
   exact S3 wr (j::r) x.2 _ i hm2 (by simpa [sB] using hl)
  ·have:i=h:=by
    rcases List.mem_cons.1 hm with e |e
    ·exact e
    ·exact absurd e hm2
   subst this
   simp only[qh]
   rw[jV wr _ _ _ i hm2]
   simp only[sB]
   rw[List.getElem?_set_self hl]
   exact⟨_,rfl,rfl,rfl,rfl,rfl⟩
theorem Za {s t:Ty}(h:s=t)(xs:List (Option (List s.den)))(e:TypeId)(k:Nat)(w:Bool):(⟨e,t,k,w,Qf h xs⟩:aV)=⟨e,s,k,w,xs⟩:=Vf e k w h xs
theorem Zb (wr:List Nat){ae:List aV}:∀(hs:List Nat) (x:Eg T hs) (l:List aV) (i:Nat),Mb T ae hs=some x→i∈hs→i<l.length→∃hr:aV,ae[i]? =some hr∧hr.t=(T.ht i).t∧(qh T wr hs x l)[i]? =some ⟨(T.ht i).e,hr.t,(T.ht i).k,wr.any (Nat.beq i),hr.xs⟩
 | [],_,l,i,_,h,_=>by simp at h
 | [h],x,l,i,hx,hm,hl=>by
   simp only[List.mem_singleton] at hm
   subst hm
   simp only[Mb,ab6] at hx
   split at hx
   ·rename_i hr e
    split at hx
    ·rename_i et
     simp only[Option.some.injEq] at hx
     subst hx
     refine⟨hr,e,et, ?_⟩
     simp only[qh,sB]
     rw[List.getElem?_set_self hl]
     exact congrArg some (Za et hr.xs _ _ _)
    ·cases hx
   ·cases hx
 |h::j::r,x,l,i,hx,hm,hl=>by
  simp only[Mb] at hx
  split at hx
  ·rename_i y hy
   split at hx
   ·rename_i z hz
    simp only[Option.some.injEq] at hx
    subst hx
    by_cases hm2:i∈j::r
    ·simp only[qh]
     exact Zb wr (j::r) z _ i hz hm2 (by simpa [sB] using hl)
    ·have:i=h:=by
      rcases List.mem_cons.1 hm with e |e
      ·exact e
      ·exact absurd e hm2
     subst this
     simp only[ab6] at hy
     split at hy
     ·rename_i hr e
      split at hy
      ·rename_i et
       simp only[Option.some.injEq] at hy
       subst hy
       refine⟨hr,e,et, ?_⟩
       simp only[qh]
       rw[jV wr _ _ _ i hm2]
       simp only[sB]
       rw[List.getElem?_set_self hl]
       exact congrArg some (Za et hr.xs _ _ _)
      ·cases hy
     ·cases hy
   ·cases hx
  ·cases hx
theorem aeg {v:Nat}{xh:Bh T v}{yh:xu T v}{ν0:Nm→Value}(hC:Callee T E v xh)(hk0:HK E.h0 E.n0 (aH T v xh) ν0)(h:St E σ a w ν O)(hy:Mb T σ.ae (T.sig v).hout=some (Eh _ yh))(hro:∀i hr,E.ro i=some hr→σ.ae[i]? =some hr):
  (∀i,i∈(T.sig v).hin→(qo T v xh yh)[i]? =σ.ae[i]?)∧(∀i hr,i∉(T.sig v).hin→(qo T v xh yh)[i]? =some hr→hr.xs=[])∧HK E.h0 E.n0 (qo T v xh yh) ν∧(∀i hr,E.ro i=some hr→(qo T v xh yh)[i]? =some hr)∧∀i hr,i∈(T.sig v).hin→σ.ae[i]? =some hr→hr.t=(T.ht i).t:=by
 have agP:(aH T v xh).length=T.ae.length:=by unfold aH;rw[yS,qn]
 have akf:σ.ae.length=T.ae.length:=by rw[h.kept.num, ←hk0.num,agP]
 have same:∀i hr,(aH T v xh)[i]? =some hr→∃hr',σ.ae[i]? =some hr'∧Ah hr hr':=fun i hr e=>by
  have hlt:=(List.getElem?_eq_some_iff.1 e).1
  rw[hk0.num] at hlt
  obtain⟨O8,h1,h2,_⟩:=hk0.row i _ (List.getElem?_eq_getElem hlt)
  obtain⟨Hn,h3,h4,_⟩:=h.kept.row i _ (List.getElem?_eq_getElem hlt)
  rw[e] at h1
  obtain rfl:hr=O8:=by simpa using h1
  exact⟨Hn,h3,⟨h4.e.trans h2.e.symm,h4.t.trans h2.t.symm,h4.k.trans h2.k.symm,h4.w.trans h2.w.symm⟩⟩
 have hsub:∀i,i∈(T.sig v).hout→i∈(T.sig v).hin:=fun i hi=>NM (s:=T.sig v) (kn.2 hi)
 have hEq:∀i,i∉(T.sig v).hout→(qo T v xh yh)[i]? =(aH T v xh)[i]? :=fun i hi=>jV _ _ _ _ i hi
 have anm:∀i,i∈(T.sig v).hin→(qo T v xh yh)[i]? =σ.ae[i]? :=fun i hi=>by
  by_cases hlt:i<T.ae.length
  ·obtain⟨hs,s1,s2,s3,s4,s5⟩:=S3 (T:=T) (T.sig v).hout (T.sig v).hin (Eh _ xh) (cg T) i hi (by rw[qn];exact hlt)
   obtain⟨hr',h1,h2⟩:=same i hs s1
   by_cases ho:i∈(T.sig v).hout
   ·obtain⟨hr,g1,g2,g3⟩:=Zb (T:=T) (T.sig v).hout (T.sig v).hout (Eh _ yh) (aH T v xh) i hy ho (by rw[agP];exact hlt)
    rw[h1] at g1
    obtain rfl:hr'=hr:=by simpa using g1
    show (qh T _ _ _ _)[i]? =_
    rw[g3,h1]
    have e1:hr'.e=(T.ht i).e:=h2.e.trans s2
    have e2:hr'.k=(T.ht i).k:=h2.k.trans s4
    have e3:hr'.w=(T.sig v).hout.any (Nat.beq i):=h2.w.trans s5
    rw[←e1, ←e2, ←e3]
   ·have s1':(aH T v xh)[i]? =some hs:=s1
    rw[hEq i ho,s1']
    have Yw:=hC.ro i
    have hf:(T.sig v).hout.any (Nat.beq i)=false:=eq_false_of_ne_true (fun h=>ho (kn.1 h))
    rw[kn.2 hi,hf] at Yw
    have O8:E.ro i=(aH T v xh)[i]? :=Yw
    rw[s1'] at O8
    exact(hro i hs O8).symm
  ·rw[List.getElem?_eq_none (by unfold qo;rw[yS,agP];omega),List.getElem?_eq_none (by rw[akf];omega)]
 have hEm:∀i hr,i∉(T.sig v).hin→(qo T v xh yh)[i]? =some hr→(aH T v xh)[i]? =some hr∧hr.xs=[]:=fun i hr hi e=>by
  rw[hEq i (fun ho=>hi (hsub i ho))] at e
  refine⟨e, ?_⟩
  unfold aH at e
  rw[jV _ _ _ _ i hi] at e
  exact xE i hr e
 refine⟨anm,fun i hr hi e=>(hEm i hr hi e).2,⟨?_,fun i hr e=> ?_,fun i n h1 h2=>h.kept.nm i n h1 h2⟩,fun i hr e=> ?_,fun i hr hi e=> ?_⟩
 ·show (qo T v xh yh).length=_
  unfold qo;rw[yS];exact hk0.num
 ·by_cases hi:i∈(T.sig v).hin
  ·rw[anm i hi];exact h.kept.row i hr e
  ·have hlt:=(List.getElem?_eq_some_iff.1 e).1
   rw[←hk0.num] at hlt
   have e2:(aH T v xh)[i]? =some (aH T v xh)[i]:=List.getElem?_eq_getElem hlt
   obtain⟨O8,h1,h2,h3⟩:=hk0.row i hr e
   refine⟨O8, ?_,h2,h3⟩
   rw[hEq i (fun ho=>hi (hsub i ho))];exact h1
 ·have h1:=hC.ro i
  rw[e] at h1
  cases hb:((T.sig v).hin.any (Nat.beq i)&& !((T.sig v).hout.any (Nat.beq i))) with
  |false=>rw[hb] at h1;cases h1
  |true=>
   rw[hb,cond_true] at h1
   simp only[Bool.and_eq_true,Bool.not_eq_true'] at hb
   rw[hEq i (fun ho=>by rw[kn.2 ho] at hb;cases hb.2)]
   exact h1.symm
 ·have hlt:=(List.getElem?_eq_some_iff.1 e).1
  rw[akf] at hlt
  obtain⟨hs,s1,s2,s3,s4,s5⟩:=S3 (T:=T) (T.sig v).hout (T.sig v).hin (Eh _ xh) (cg T) i hi (by rw[qn];exact hlt)
  obtain⟨hr',h1,h2⟩:=same i hs s1
  rw[e] at h1
  obtain rfl:hr=hr':=by simpa using h1
  exact h2.t.trans s3
end
end Go.Abs
namespace Go.Abs
open Go.RowKit Go.Lib
section
variable {P:Program}{T:cj}{Φ:bE T}{E:Env}{σ σ' es:AS}{a a':Act}{w w':World}{ν ν':Nm→Value}{O O':Nat→Prop}{V V':View}{Y:Value}{fr fb:Nat→Nat}{hin:List Nat}
def rowAt (T:List fH)(σ:AS)(rv:ResultVar):Option Nat:=
 match Gl T σ rv with
 |some (.rv (.own r))=>some r
 |_=>none
theorem IV {T:List fH}:∀(l:List ResultVar) (p r:Nat),(l[p]?).bind (rowAt T σ)=some r→r∈td T σ l
 | [],p,r,h=>by simp at h
 |v::l,0,r,h=>by
  simp only[List.getElem?_cons_zero,Option.bind_some,rowAt] at h
  simp only[td]
  split at h
  ·rename_i r' hr
   simp only[Option.some.injEq] at h
   subst h
   rw[hr];simp
  ·cases h
 |v::l,p+1,r,h=>by
  have:=IV l p r (by simpa using h)
  simp only[td]
  split
  ·simp[this]
  ·exact this
theorem S4 {T:List fH}:∀(l:List ResultVar),wP (td T σ l)=true→∀(p q r:Nat),(l[p]?).bind (rowAt T σ)=some r→(l[q]?).bind (rowAt T σ)=some r→p=q
 | [],h,p,q,r,hp,hq=>by simp at hp
 |v::l,h,p,q,r,hp,hq=>by
  have agQ:wP (td T σ l)=true∧∀r',rowAt T σ v=some r'→r'∉td T σ l:=by
   simp only[td] at h
   split at h
   ·rename_i r' hr
    simp only[wP,Bool.and_eq_true,Bool.not_eq_true',List.any_eq_false] at h
    refine⟨h.2,fun r2 h2 hm=> ?_⟩
    simp only[rowAt,hr,Option.some.injEq] at h2
    subst h2
    exact h.1 r' hm (beq_refl r')
   ·rename_i hn
    refine⟨h,fun r2 h2=> ?_⟩
    simp only[rowAt] at h2
    cases h2
  cases p with
  |zero=>
   cases q with
   |zero=>rfl
   |succ q=>exact absurd (IV l q r (by simpa using hq)) (agQ.2 r (by simpa using hp))
  |succ p=>
   cases q with
   |zero=>exact absurd (IV l p r (by simpa using hp)) (agQ.2 r (by simpa using hq))
   |succ q=>rw[S4 l agQ.1 p q r (by simpa using hp) (by simpa using hq)]
theorem GD {t:Ty}{e:TypeId}{av:AV}{x:t.den}(h:IC σ hin (t,some e) av=some x):∃r row,av= .rv (.own r)∧look σ.rows r=some row∧ownRow t e x=some row∧t= .slice row.t:=by
 have E1:(∃r,av= .rv (.own r))∨IC σ hin (t,some e) av=none:=by
  cases av with
  |rv x=>cases x<;>first |exact .inl ⟨_,rfl⟩ |exact .inr rfl
  |_=>exact .inr rfl
 rcases E1 with ⟨r,rfl⟩ |E1
 ·simp only[IC] at h
  split at h
  ·rename_i row hrow
   cases hb:Nat.beq row.e e with
   |false=>simp[hb] at h
   |true=>
    simp only[hb,cond_true] at h
    have hbe:=(beq_iff _ _).1 hb
    have hc:=Dn h
    refine⟨r,row,rfl,hrow, ?_⟩
    obtain⟨re,rt,rxs⟩:=row
    simp only at hbe hc
    subst hbe
    cases hc
    exact⟨rfl,rfl⟩
  ·cases h
 ·rw[E1] at h;cases h
theorem agR (h:St E σ a w ν (fun _=>False))(g:E3 E σ es ν fr fb hin)(hX:∀i k,i∉hin→¬E.XH i k)(hR:∀i hr,i∉hin→E.ro i≠some hr):
  ∀(i n:Nat) (hr:aV) (l:List hr.t.den) (v:Value),(WA σ.ae hin)[i]? =some hr→ah hr.xs n=some l→bA (view E σ ν (fun _=>False) w) ⟨.ref i,n⟩ v→Src (view E σ ν (fun _=>False) w) (view E es (Uw fr fb ν) (fun _=>False) w) hr.t l v:=by
 intro i n hr l v e hg hv
 unfold WA at e
 simp only[List.getElem?_map,Option.map_eq_some_iff] at e
 obtain⟨p,hp,e⟩:=e
 rw[List.getElem?_zipIdx] at hp
 simp only[Option.map_eq_some_iff,Nat.zero_add] at hp
 obtain⟨Yw,hp1,rfl⟩:=hp
 dsimp only at e
 cases hi:hin.any (Nat.beq i) with
 |true=>
  rw[hi,cond_true] at e
  subst e
  cases n with
  |zero=>
   simp only[ah,Option.some.injEq] at hg
   subst hg
   have: [v]=[_]:=hv
   simp only[List.cons.injEq,and_true] at this
   exact⟨none,0,[],this,Nat.le_refl _,trivial,fun _=>rfl,fun j u hj=>by simp at hj⟩
  |succ m=>simp[ah] at hg
 |false=>
  rw[hi,cond_false] at e
  subst e
  have hni:i∉hin:=fun hm=>by rw[kn.2 hm] at hi;cases hi
  obtain⟨h2,h3,_⟩:=h.Kc hp1 hg hv
  obtain⟨A,c,bk,e1,e2,e3,e4,e5⟩:=RD h2
  refine⟨A,c,bk,e1,e2,e3,e4,fun j u hj=> ?_⟩
  obtain⟨ad,rfl,hc⟩:=e5 j u hj
  refine⟨ad,rfl, ?_⟩
  have hown:=h3 ad.block (by rw[e1];rfl)
  refine .inr ⟨by rw[xF];exact(h.new _ _ hown).resolve_right (hX i _ hni),fun⟨m,hm⟩=> ?_,id,hc⟩
  rw[xF] at hm
  have h7:=h.inj _ _ _ hown (g.own hm)
  cases m with
  |row k=>cases h7
  |box k=>cases h7
  |hp i' n'=>
   injection h7 with h7 h8
   subst h7 h8
   have h9:=hm.1
   cases n with
   |zero=>cases h9
   |succ n=>
    simp only[AS.obj,nk] at h9
    split at h9
    ·rename_i Hn e6
     rw[g.em i Hn hni e6] at h9
     simp[Hm] at h9
    ·cases h9
theorem NV (h:St E σ a w ν (fun _=>False))(g:E3 E σ es ν fr fb hin)(hX:∀i k,i∉hin→¬E.XH i k)(hR:∀i hr,i∉hin→E.ro i≠some hr){t:Ty}{av:AV}{x:t.den}{v:Value}
  (hi:dZ hin t=true) (hu:∀r,av= .rv (.own r)→∀k,(look es.rows k).isSome=true→fr k≠r) (he:IC σ hin (t,none) av=some x) (hv:ag (view E σ ν (fun _=>False) w) σ ν Y av v):
  wL (view E es (Uw fr fb ν) (fun _=>False) w) t x v:=by
 have E1:(∃r,av= .rv (.own r))∨IC σ hin (t,none) av=(bif O4 av then typed (WA σ.ae hin) t av else typed [] t av):=by
  cases av with
  |rv x=>cases x<;>first |exact .inl ⟨_,rfl⟩ |exact .inr rfl
  |_=>exact .inr rfl
 rcases E1 with ⟨r,rfl⟩ |E1
 ·simp only[IC] at he
  obtain⟨rfl,hlk⟩:=hv
  split at he
  ·rename_i row hrow
   have hc:=Dn he
   obtain⟨A,c,bk,e1,e2,e3,e4,e5⟩:=RD (h.row hrow)
   have hsrc:Src (view E σ ν (fun _=>False) w) (view E es (Uw fr fb ν) (fun _=>False) w) row.t row.xs (ν (.row r)):=by
    refine⟨A,c,bk,e1,e2,e3,e4,fun j u hj=> ?_⟩
    obtain⟨ad,rfl,hcell⟩:=e5 j u hj
    refine⟨ad,rfl, ?_⟩
    have hown:Own σ ν (.row r) ad.block:=⟨by simp[AS.obj,hrow],by rw[e1];rfl⟩
    refine .inr ⟨by rw[xF];exact(h.new _ _ hown).resolve_right id,fun⟨m,hm⟩=> ?_,id,hcell⟩
    rw[xF] at hm
    have h7:=h.inj _ _ _ (g.own hm) hown
    cases m with
    |row k=>
     injection h7 with h7
     exact hu r rfl k (by have:=hm.1;simpa [AS.obj] using this) h7
    |box k=>cases h7
    |hp i' n'=>cases h7
   have hri:dZ hin row.t=true:=by
    have:t= .slice row.t:=by cases hc;rfl
    rw[this] at hi;exact hi
   have hlr:=hsrc.tr g.cell g.ref hri
   rw[hc] at hlr
   refine wL.Pl (fun u e=> ?_) hlr
   subst e;cases hc
  ·cases he
 ·rw[E1] at he
  cases hb:O4 av with
  |true=>rw[hb,cond_true] at he;exact Kd g.cell g.ref (agR h g hX hR) hi he hv
  |false=>rw[hb,cond_false] at he;exact Kd (ae:=[]) g.cell g.ref (fun i n hr l v e=>by simp at e) hi he hv
theorem Zc:∀{vars:List ResultVar} {ts:List L9} {y:rO (ts.map (·.1))} {d:Nat},rP T.rows σ hin vars ts=some y→∀u∈jW d ts y,∃j r row t e,u= .row (d+j) row∧(vars[j]?).bind (rowAt T.rows σ)=some r∧look σ.rows r=some row∧ts[j]? =some (t,some e)∧t= .slice row.t
 | [],[],y,d,h,u,hu=>by simp[jW] at hu
 | [v],[(t,none)],y,d,h,u,hu=>by simp[jW] at hu
 | [v],[(t,some e)],y,d,h,u,hu=>by
   simp only[rP] at h
   obtain⟨av,p5,h⟩:=Option.bind_eq_some_iff.1 h
   obtain⟨r,row,rfl,h1,h2,h3⟩:=GD h
   simp only[jW] at hu
   rw[h2] at hu
   simp only[List.mem_singleton] at hu
   exact⟨0,r,row,t,e,hu,by simp[rowAt,p5],h1,rfl,h3⟩
 |v::vs,(t,o)::q::ps,y,d,h,u,hu=>by
  simp only[rP] at h
  split at h
  ·rename_i x1 y1 hx hy
   simp only[Option.some.injEq] at h
   subst h
   have ih:=fun u hu=>Zc (d:=d+1) hy u hu
   have tail:∀u∈jW (d+1) (q::ps) y1,∃j r row t' e,u= .row (d+j) row∧((v::vs)[j]?).bind (rowAt T.rows σ)=some r∧look σ.rows r=some row∧((t,o)::q::ps)[j]? =some (t',some e)∧t'= .slice row.t:=fun u hu=>by
    obtain⟨j,r,row,t',e,h1,h2,h3,h4,h5⟩:=ih u hu
    exact⟨j+1,r,row,t',e,by rw[h1];congr 1;omega,by simpa using h2,h3,by simpa using h4,h5⟩
   cases o with
   |none=>exact tail u hu
   |some e=>
    obtain⟨av,p5,hx⟩:=Option.bind_eq_some_iff.1 hx
    obtain⟨r,row,rfl,h1,h2,h3⟩:=GD hx
    simp only[jW] at hu
    rw[show ownRow t e ((x1,y1):rO (((t,some e)::q::ps).map (·.1))).1=some row from h2] at hu
    rcases List.mem_cons.1 hu with hu |hu
    ·exact⟨0,r,row,t,e,hu,by simp[rowAt,p5],h1,rfl,h3⟩
    ·exact tail u hu
  ·cases h
 | [],_::_,y,d,h,u,hu=>by simp[rP] at h
 |_::_,[],y,d,h,u,hu=>by simp[rP] at h
 |_::_::_,[_],y,d,h,u,hu=>by simp[rP] at h
theorem acG {us:List TU}(h:Mk us)(σ:AS):(∀k,((look σ.rows k).isSome=true∨∃row,TU.row k row∈us)→(look (σ.app us).rows k).isSome=true)∧∀k,((look σ.boxes k).isSome=true∨∃x,TU.box k x∈us)→(look (σ.app us).boxes k).isSome=true:=by
 induction us generalizing σ with
 |nil=>exact⟨fun k hk=>hk.elim id (fun⟨row,e⟩=>by simp at e),fun k hk=>hk.elim id (fun⟨row,e⟩=>by simp at e)⟩
 |cons u us ih=>
  obtain⟨h1,h2⟩:=ih (fun x hx=>h x (by simp[hx])) (σ.one u)
  refine⟨fun k hk=>h1 k ?_,fun k hk=>h2 k ?_⟩
  ·rcases hk with hk | ⟨row,hk⟩
   ·left
    rcases h u (by simp) with ⟨j,r0,rfl⟩ | ⟨j,x0,rfl⟩
    ·show (look (put _ _ _) k).isSome=true
     rw[aA];split
     ·rfl
     ·exact hk
    ·exact hk
   ·rcases List.mem_cons.1 hk with hk |hk
    ·left;subst hk
     show (look (put _ _ _) k).isSome=true
     rw[aA,if_pos rfl];rfl
    ·exact .inr ⟨row,hk⟩
  ·rcases hk with hk | ⟨row,hk⟩
   ·left
    rcases h u (by simp) with ⟨j,r0,rfl⟩ | ⟨j,x0,rfl⟩
    ·exact hk
    ·show (look (put _ _ _) k).isSome=true
     rw[aA];split
     ·rfl
     ·exact hk
   ·rcases List.mem_cons.1 hk with hk |hk
    ·left;subst hk
     show (look (put _ _ _) k).isSome=true
     rw[aA,if_pos rfl];rfl
    ·exact .inr ⟨row,hk⟩
theorem S5 (hT:iw P T.rows)(h:St E σ a w ν (fun _=>False))(g:E3 E σ es ν fr fb hin)(hX:∀i k,i∉hin→¬E.XH i k)(hR:∀i hr,i∉hin→E.ro i≠some hr):
  ∀{vars:List ResultVar} {ts:List L9} {y:rO (ts.map (·.1))} {d:Nat},rP T.rows σ hin vars ts=some y→(ts.all fun p=>dZ hin p.1)=true→(∀(j r:Nat),(vars[j]?).bind (rowAt T.rows σ)=some r→∀t e,ts[j]? =some (t,some e)→fr (d+j)=r)→
   (∀(j r:Nat) t,(vars[j]?).bind (rowAt T.rows σ)=some r→ts[j]? =some (t,none)→∀k,(look es.rows k).isSome=true→fr k≠r)→(∀u∈jW d ts y,∀k row,u= .row k row→(look es.rows k).isSome=true)→
   ∃vs,(vars.mapM (IT a.tmps)).run P w= .ok vs w∧az (rF (view E es (Uw fr fb ν) (fun _=>False) w) es (Uw fr fb ν)) (Af d ts y) vs
 | [],[],y,d,he,hi,h1,h2,h3=>⟨[],rfl,trivial⟩
 | [rv],[(t,none)],y,d,he,hi,h1,h2,h3=>by
   simp only[rP] at he
   obtain⟨av,p5,he⟩:=Option.bind_eq_some_iff.1 he
   obtain⟨v,hrun,hv⟩:=GC hT h p5
   simp only[List.all_cons,List.all_nil,Bool.and_true] at hi
   have hp:=NV h g hX hR hi (fun r e k hk=>h2 0 r t (by simp[rowAt,p5,e]) rfl k hk) he hv
   refine⟨[v],by simp[hrun], ?_⟩
   have:=Kl (σ:=es) (ν:=Uw fr fb ν) (Y:=E.Y) hp
   cases t<;>exact⟨this,trivial⟩
 | [rv],[(t,some e)],y,d,he,hi,h1,h2,h3=>by
   simp only[rP] at he
   obtain⟨av,p5,he⟩:=Option.bind_eq_some_iff.1 he
   obtain⟨v,hrun,hv⟩:=GC hT h p5
   obtain⟨r,row,rfl,g1,g2,g3⟩:=GD he
   obtain⟨rfl,_⟩:=hv
   refine⟨[ν (.row r)],by simp[hrun], ?_⟩
   have Va:=h1 0 r (by simp[rowAt,p5]) t e rfl
   have hm:TU.row d row∈jW d [(t,some e)] y:=by
    have e9:jW d [(t,some e)] y=[TU.row d row]:=by
     show (match ownRow t e y with |some row=>[TU.row d row] |none=>[])=_
     rw[g2]
    rw[e9];simp
   have hsome:=h3 _ hm d row rfl
   have:rF (view E es (Uw fr fb ν) (fun _=>False) w) es (Uw fr fb ν) (.own d) (ν (.row r)):=⟨by show _=ν (.row (fr d));rw[show fr d=r from Va],hsome⟩
   cases t<;>exact⟨this,trivial⟩
 |rv::vs,(t,o)::q::ps,y,d,he,hi,h1,h2,h3=>by
  simp only[rP] at he
  split at he
  ·rename_i x1 y1 hx hy
   simp only[Option.some.injEq] at he
   subst he
   rw[List.all_cons,Bool.and_eq_true] at hi
   have hsub:∀u∈jW (d+1) (q::ps) y1,u∈jW d ((t,o)::q::ps) (x1,y1):=fun u hu=>by
    cases o with
    |none=>exact hu
    |some e=>
     simp only[jW]
     split
     ·exact List.mem_cons_of_mem _ hu
     ·exact hu
   obtain⟨us,e1,e2⟩:=S5 hT h g hX hR (d:=d+1) hy hi.2 (fun j r hj t' e he=>by
     have:=h1 (j+1) r (by simpa using hj) t' e (by simpa using he)
     rw[show d+(j+1)=d+1+j by omega] at this;exact this) (fun j r t' hj he k hk=>h2 (j+1) r t' (by simpa using hj) (by simpa using he) k hk) (fun u hu k row e=>h3 u (hsub u hu) k row e)
   obtain⟨av,p5,hx⟩:=Option.bind_eq_some_iff.1 hx
   obtain⟨v,hrun,hv⟩:=GC hT h p5
   have fin:rF (view E es (Uw fr fb ν) (fun _=>False) w) es (Uw fr fb ν) (match o with |some _=> .own d |none=>match t,x1 with | .st t,x=> .agg (flat t x) |t,x=> .cv ⟨t,x⟩) v→∃vs',((rv::vs).mapM (IT a.tmps)).run P w= .ok vs' w∧az (rF (view E es (Uw fr fb ν) (fun _=>False) w) es (Uw fr fb ν)) (Af d ((t,o)::q::ps) (x1,y1)) vs':=fun hr=>by
    refine⟨v::us, ?_, ?_⟩
    ·rw[List.mapM_cons]
     simp[hrun,e1]
    ·cases o with
     |none=>cases t<;>exact⟨hr,e2⟩
     |some e=>cases t<;>exact⟨hr,e2⟩
   cases o with
   |none=>
    have hp:=NV h g hX hR hi.1 (fun r e k hk=>h2 0 r t (by simp[rowAt,p5,e]) rfl k hk) hx hv
    have:=Kl (σ:=es) (ν:=Uw fr fb ν) (Y:=E.Y) hp
    refine fin ?_
    cases t<;>exact this
   |some e=>
    obtain⟨r,row,rfl,g1,g2,g3⟩:=GD hx
    obtain⟨rfl,_⟩:=hv
    have Va:=h1 0 r (by simp[rowAt,p5]) t e rfl
    have hm:TU.row d row∈jW d ((t,some e)::q::ps) (x1,y1):=by
     simp only[jW]
     rw[show ownRow t e ((x1,y1):rO (((t,some e)::q::ps).map (·.1))).1=some row from g2];simp
    have hsome:=h3 _ hm d row rfl
    exact fin ⟨by show _=ν (.row (fr d));rw[show fr d=r from Va],hsome⟩
  ·cases he
 | [],_::_,y,d,he,hi,h1,h2,h3=>by simp[rP] at he
 |_::_,[],y,d,he,hi,h1,h2,h3=>by simp[rP] at he
 |_::_::_,[_],y,d,he,hi,h1,h2,h3=>by simp[rP] at he
end
end Go.Abs
namespace Go.Abs
open Go.RowKit Go.Lib
section
variable {P:Program}{T:cj}{Φ:bE T}{E:Env}{σ σ' es:AS}{a a':Act}{w w':World}{ν ν':Nm→Value}{O O':Nat→Prop}{V V':View}{Y:Value}{fr fb:Nat→Nat}{hin:List Nat}
theorem IW {boxes:List (Nat×BX)}:∀{ts:List Ty} {aN:List Hi} {y:rO ts} {d:Nat},kO boxes ts aN=some y→∀u∈yU d ts y,∃j b t z,u= .box (d+j) (.cells (flat t z))∧(bg aN)[j]? =some b∧look boxes b=some (.cells (flat t z))∧t∈ts
 | [],[],y,d,h,u,hu=>by simp[yU] at hu
 | [t],[.box b],y,d,h,u,hu=>by
   simp only[kO] at h
   split at h
   ·rename_i cs hb
    have:=qi h
    subst this
    simp only[yU,List.mem_singleton] at hu
    exact⟨0,b,t,y,hu,by simp[bg],hb,by simp⟩
   ·cases h
 |t::t2::ts, .box b::cs,y,d,h,u,hu=>by
  simp only[kO] at h
  split at h
  ·rename_i l hb
   split at h
   ·rename_i x1 hx1
    split at h
    ·rename_i y1 hy
     simp only[Option.some.injEq] at h
     subst h
     have:=qi hx1
     subst this
     simp only[yU,List.mem_cons] at hu
     rcases hu with hu |hu
     ·exact⟨0,b,t,x1,hu,by simp[bg],hb,by simp⟩
     ·obtain⟨j,b',t',z,h1,h2,h3,h4⟩:=IW (d:=d+1) hy u hu
      exact⟨j+1,b',t',z,by rw[h1];congr 1;omega,by simpa [bg] using h2,h3,List.mem_cons_of_mem _ h4⟩
    ·cases h
   ·cases h
  ·cases h
 | [],_::_,y,d,h,u,hu=>by simp[kO] at h
 | [_],[],y,d,h,u,hu=>by simp[kO] at h
 | [_],[.oT _],y,d,h,u,hu=>by simp[kO] at h
 | [_], .box _::_::_,y,d,h,u,hu=>by simp[kO] at h
 | [_], .oT _::_::_,y,d,h,u,hu=>by simp[kO] at h
 |_::_::_,[],y,d,h,u,hu=>by simp[kO] at h
 |_::_::_, .oT _::_,y,d,h,u,hu=>by simp[kO] at h
theorem S6 {boxes:List (Nat×BX)}:∀{ts:List Ty} {aN:List Hi} {y:rO ts} {d:Nat} {us:List Value},kO boxes ts aN=some y→az (rR V σ ν) aN us→(∀(j b:Nat),(bg aN)[j]? =some b→fb (d+j)=b)→
  (∀u∈yU d ts y,∀k x,u= .box k x→(look es.boxes k).isSome=true)→az (rR V' es (Uw fr fb ν)) (Qo d ts) us
 | [],[],y,d,us,h,ha,hf,hb=>by
   cases us with
   |nil=>trivial
   |cons _ _=>exact ha.elim
 | [t],[.box b],y,d,us,h,ha,hf,hb=>by
   match us,ha with
   | [v],ha=>
     obtain⟨⟨_,g,h1,h2⟩,_⟩:=ha
     have hfb:fb d=b:=hf 0 b rfl
     exact⟨⟨hb (.box d (.cells (flat t y))) (by simp[yU]) _ _ rfl,g,by show ν (.box (fb d))=_;rw[hfb];exact h1,h2⟩,trivial⟩
 |t::t2::ts, .box b::cs,y,d,us,h,ha,hf,hb=>by
  match us,ha with
  |v::us,ha=>
   obtain⟨⟨_,g,h1,h2⟩,ha⟩:=ha
   simp only[kO] at h
   split at h
   ·split at h
    ·rename_i x1 hx1
     split at h
     ·rename_i y1 hy
      simp only[Option.some.injEq] at h
      subst h
      have hfb:fb d=b:=hf 0 b rfl
      refine⟨⟨hb (.box d (.cells (flat t x1))) (by simp[yU]) _ _ rfl,g,by show ν (.box (fb d))=_;rw[hfb];exact h1,h2⟩,S6 (d:=d+1) hy ha (fun j c hj=> ?_) (fun u hu k x e=>hb u (by simp only[yU];exact List.mem_cons_of_mem _ hu) k x e)⟩
      have:=hf (j+1) c (by simpa [bg] using hj)
      rw[←this];congr 1;omega
     ·cases h
    ·cases h
   ·cases h
 | [],_::_,y,d,us,h,_,_,_=>by simp[kO] at h
 | [_],[],y,d,us,h,_,_,_=>by simp[kO] at h
 | [_],[.oT _],y,d,us,h,_,_,_=>by simp[kO] at h
 | [_], .box _::_::_,y,d,us,h,_,_,_=>by simp[kO] at h
 | [_], .oT _::_::_,y,d,us,h,_,_,_=>by simp[kO] at h
 |_::_::_,[],y,d,us,h,_,_,_=>by simp[kO] at h
 |_::_::_, .oT _::_,y,d,us,h,_,_,_=>by simp[kO] at h
theorem aa7:∀(ts:List L9) (d:Nat) (y:rO (ts.map (·.1))),Mk (jW d ts y):=fun ts d y u hu=>by
 obtain⟨k,row,t,e,rfl,_⟩:=xG ts d y u hu
 exact .inl ⟨k,row,rfl⟩
theorem S7:∀(ts:List Ty) (d:Nat) (y:rO ts),Mk (yU d ts y)
 | [],d,y,u,hu=>by simp[yU] at hu
 | [t],d,y,u,hu=>by simp only[yU,List.mem_singleton] at hu;exact .inr ⟨_,_,hu⟩
 |t::t2::ts,d,y,u,hu=>by
  simp only[yU,List.mem_cons] at hu
  rcases hu with hu |hu
  ·exact .inr ⟨_,_,hu⟩
  ·exact S7 (t2::ts) (d+1) y.2 u hu
theorem ai7 (hT:iw P T.rows)(h:St E σ a w ν (fun _=>False)){s:Iq}{y:Ma s}{fn:Func}{ae:List aV}{d:Nat}(Bu:s.gen=none)(hs:Hk T s=true)(hf:Uj T.rows fn.results.toList s σ=some y)
  (hX:∀i k,i∉s.hin→¬E.XH i k) (hR:∀i hr,i∉s.hin→E.ro i≠some hr) (h1:∀i,i∈s.hin→ae[i]? =σ.ae[i]?) (h2:∀i hr,i∉s.hin→ae[i]? =some hr→hr.xs=[]) (h3:HK E.h0 E.n0 ae ν) (h4:∀i hr,E.ro i=some hr→ae[i]? =some hr)
  (h5:∀i hr,i∈s.hin→σ.ae[i]? =some hr→hr.t=(T.ht i).t):∃fr fb val,E3 E σ ((aE ae).app (KB d s y)) ν fr fb s.hin∧(results fn a.tmps).run P w= .ok val w∧
   ag (view E ((aE ae).app (KB d s y)) (Uw fr fb ν) (fun _=>False) w) ((aE ae).app (KB d s y)) (Uw fr fb ν) E.Y (YB d s y) val:=by
 -- Kh ae
 have hhp:∀{es:AS},es.ae=ae→∀i n o,es.obj (.hp i n)=some o→σ.obj (.hp i n)=some o∧acE s.hin o:=fun {es} e i n o ho=>by
  simp only[AS.obj,e] at ho ⊢
  cases n with
  |zero=>cases ho
  |succ n=>
   simp only[nk] at ho ⊢
   split at ho
   ·rename_i hr hhr
    by_cases hi:i∈s.hin
    ·have e1:=h1 i hi
     rw[hhr] at e1
     rw[←e1]
     refine⟨ho, ?_⟩
     unfold Hm at ho
     split at ho
     ·simp only[Option.some.injEq] at ho
      subst ho
      show dZ s.hin hr.t=true
      rw[h5 i hr hi e1.symm]
      simp only[Hk,Bool.and_eq_true] at hs
      exact List.all_eq_true.1 hs.1.2 i hi
     ·cases ho
    ·rw[h2 i hr hi hhr] at ho
     simp[Hm] at ho
   ·cases ho
 obtain⟨args,res,clo,hps,gen⟩:=s
 simp only at Bu
 subst Bu
 cases clo with
 |none=>
  have hf':(bif wP (td T.rows σ fn.results.toList)|| !(R3 res) then rP T.rows σ (hps.map (·.1)) fn.results.toList res else none)=some y:=hf
  cases hc:(wP (td T.rows σ fn.results.toList)|| !(R3 res)) with
  |false=>rw[hc] at hf';cases hf'
  |true=>
   rw[hc,cond_true] at hf'
   have X3:=aa7 res d y
   generalize hes:(aE ae).app (jW d res y)=es
   obtain⟨a1,a2,a3,_,_⟩:=Sw X3 (aE ae)
   rw[hes] at a1 a2 a3
   have hrows:∀k row,look es.rows k=some row→∃j r t e,k=d+j∧(fn.results.toList[j]?).bind (rowAt T.rows σ)=some r∧look σ.rows r=some row∧res[j]? =some (t,some e)∧t= .slice row.t:=fun k row hk=>by
    rw[←hes] at hk
    rcases (yV X3 (aE ae) k).1 row hk with g1 |g1
    ·cases g1
    ·obtain⟨j,r,row',t,e,g2,g3,g4,g5,g6⟩:=Zc hf' _ g1
     injection g2 with g2 g7
     subst g7
     exact⟨j,r,t,e,g2,g3,g4,g5,g6⟩
   have Pw:∀k x,look es.boxes k=some x→False:=fun k x hk=>by
    rw[←hes] at hk
    rcases (yV X3 (aE ae) k).2 x hk with g1 |g1
    ·cases g1
    ·obtain⟨_,_,_,_,g2,_⟩:=xG _ _ _ _ g1
     cases g2
   let fr:Nat→Nat:=fun k=>((fn.results.toList[k - d]?).bind (rowAt T.rows σ)).getD 0
   have Va:∀(j r:Nat),(fn.results.toList[j]?).bind (rowAt T.rows σ)=some r→fr (d+j)=r:=fun j r hj=>by
    show ((fn.results.toList[d+j - d]?).bind (rowAt T.rows σ)).getD 0=r
    rw[show d+j - d=j by omega,hj];rfl
   have akg:∀(p q r:Nat),(fn.results.toList[p]?).bind (rowAt T.rows σ)=some r→(fn.results.toList[q]?).bind (rowAt T.rows σ)=some r→(∃t e,res[q]? =some (t,some e))→p=q:=fun p q r g1 g2 ⟨t,e,g3⟩=>by
    rw[Bool.or_eq_true] at hc
    rcases hc with hc |hc
    ·exact S4 _ hc p q r g1 g2
    ·exfalso
     have:R3 res=true:=by
      unfold R3;rw[List.any_eq_true];exact⟨(t,some e),List.mem_of_getElem? g3,rfl⟩
     rw[this] at hc;cases hc
   have g:E3 E σ es ν fr (fun _=>0) (hps.map (·.1)):=by
    refine⟨fun m o ho=> ?_,fun m m' g1 g2 g3=> ?_,fun i hi=>by rw[a2];exact h1 i hi,fun i hr hi e=>by rw[a2] at e;exact h2 i hr hi e,by rw[a2];exact h3,a3,a1,fun i hr e=>by rw[a2];exact h4 i hr e⟩
    ·cases m with
     |row k=>
      simp only[AS.obj,Option.map_eq_some_iff] at ho
      obtain⟨row,g1,rfl⟩:=ho
      obtain⟨j,r,t,e,rfl,g3,g4,g5,g6⟩:=hrows k row g1
      refine⟨?_, ?_⟩
      ·show (look σ.rows (fr (d+j))).map _=_
       rw[Va j r g3,g4];rfl
      ·simp only[Hk,Bool.and_eq_true] at hs
       have:=List.all_eq_true.1 hs.2.1.1 _ (List.mem_of_getElem? g5)
       rw[g6] at this
       exact this
     |box k=>
      simp only[AS.obj,Option.map_eq_some_iff] at ho
      obtain⟨x,g1,_⟩:=ho
      exact(Pw k x g1).elim
     |hp i n=>exact hhp a2 i n o ho
    ·have hsb:∀k,(es.obj (.box k)).isSome=true→False:=fun k hk=>by
      simp only[AS.obj,Option.isSome_map] at hk
      obtain⟨x,e⟩:=Option.isSome_iff_exists.1 hk
      exact Pw k x e
     cases m with
     |row k=>
      cases m' with
      |row k'=>
       simp only[AS.obj,Option.isSome_map] at g1 g2
       obtain⟨row,e1⟩:=Option.isSome_iff_exists.1 g1
       obtain⟨row',e2⟩:=Option.isSome_iff_exists.1 g2
       obtain⟨j,r,t,e,rfl,k3,k4,k5,k6⟩:=hrows k row e1
       obtain⟨j',r',t',e',rfl,k3',k4',k5',k6'⟩:=hrows k' row' e2
       have g3':fr (d+j)=fr (d+j'):=by injection g3
       rw[Va j r k3,Va j' r' k3'] at g3'
       subst g3'
       rw[akg j j' r k3 k3' ⟨_,_,k5'⟩]
      |box k'=>exact(hsb k' g2).elim
      |hp i n=>cases g3
     |box k=>exact(hsb k g1).elim
     |hp i n=>
      cases m' with
      |row k'=>cases g3
      |box k'=>exact(hsb k' g2).elim
      |hp i' n'=>exact g3
   have hres:(res.all fun p=>dZ (hps.map (·.1)) p.1)=true:=by
    simp only[Hk,Bool.and_eq_true] at hs
    exact hs.2.1.1
   obtain⟨vs,r1,r2⟩:=S5 (d:=d) hT h g hX hR hf' hres (fun j r hj t e he=>Va j r hj) (fun j r t hj he k hk=>by
     obtain⟨row,e1⟩:=Option.isSome_iff_exists.1 hk
     obtain⟨j',r',t',e',rfl,k3',k4',k5',k6'⟩:=hrows k row e1
     intro e2
     rw[Va j' r' k3'] at e2
     subst e2
     have:=akg j j' r' hj k3' ⟨_,_,k5'⟩
     subst this
     rw[he] at k5';cases k5') (fun u hu k row e=>by
     subst e
     rw[←hes]
     exact(acG X3 (aE ae)).1 k (.inr ⟨row,hu⟩))
   rw[show (aE ae).app (KB d {args:=args,res:=res,clo:=none,ae:=hps,gen:=none} y)=es from hes]
   refine⟨fr,fun _=>0,_,g,IU r1, ?_⟩
   show ag _ _ _ _ (X8 (Af d res y)) _
   generalize Af d res y=rvs at r2
   match rvs,vs,r2 with
   | [],[],_=>exact⟨[],rfl,trivial⟩
   | [x],[v],r2=>exact r2.1
   |x::x2::xs,v::v2::vs,r2=>exact⟨_,rfl,r2⟩
   | [],_::_,r2=>exact r2.elim
   | [_],[],r2=>exact r2.elim
   | [_],_::_::_,r2=>exact r2.2.elim
   |_::_::_,[],r2=>exact r2.elim
   |_::_::_,[_],r2=>exact r2.2.elim
 |some fc=>
  obtain⟨f,ts⟩:=fc
  have hf':(match fn.results.toList with
   | [v]=>match Gl T.rows σ v with
     |some (.fn g aN)=>bif Nat.beq g f&&wP (bg aN) then kO σ.boxes ts aN else none
     |_=>none
   |_=>none)=some y:=hf
  split at hf'
  ·rename_i rv hrv
   split at hf'
   ·rename_i g0 aN p5
    cases hc:(Nat.beq g0 f&&wP (bg aN)) with
    |false=>rw[hc] at hf';cases hf'
    |true=>
     rw[hc,cond_true] at hf'
     simp only[Bool.and_eq_true,beq_iff] at hc
     obtain⟨rfl,hnd⟩:=hc
     have X3:=S7 ts d y
     generalize hes:(aE ae).app (yU d ts y)=es
     obtain⟨a1,a2,a3,_,_⟩:=Sw X3 (aE ae)
     rw[hes] at a1 a2 a3
     have hrows:∀k row,look es.rows k=some row→False:=fun k row hk=>by
      rw[←hes] at hk
      rcases (yV X3 (aE ae) k).1 row hk with g1 |g1
      ·cases g1
      ·obtain⟨_,_,_,_,g2,_⟩:=IW hf' _ g1
       cases g2
     have Pw:∀k x,look es.boxes k=some x→∃j b t z,k=d+j∧x= .cells (flat t z)∧(bg aN)[j]? =some b∧look σ.boxes b=some (.cells (flat t z))∧t∈ts:=fun k x hk=>by
      rw[←hes] at hk
      rcases (yV X3 (aE ae) k).2 x hk with g1 |g1
      ·cases g1
      ·obtain⟨j,b,t,z,g2,g3,g4,g5⟩:=IW hf' _ g1
       injection g2 with g2 g7
       exact⟨j,b,t,z,g2,g7,g3,g4,g5⟩
     let fb:Nat→Nat:=fun k=>((bg aN)[k - d]?).getD 0
     have hfb:∀(j b:Nat),(bg aN)[j]? =some b→fb (d+j)=b:=fun j b hj=>by
      show ((bg aN)[d+j - d]?).getD 0=b
      rw[show d+j - d=j by omega,hj];rfl
     have g:E3 E σ es ν (fun _=>0) fb (hps.map (·.1)):=by
      refine⟨fun m o ho=> ?_,fun m m' g1 g2 g3=> ?_,fun i hi=>by rw[a2];exact h1 i hi,fun i hr hi e=>by rw[a2] at e;exact h2 i hr hi e,by rw[a2];exact h3,a3,a1,fun i hr e=>by rw[a2];exact h4 i hr e⟩
      ·cases m with
       |box k=>
        simp only[AS.obj,Option.map_eq_some_iff] at ho
        obtain⟨x,g1,rfl⟩:=ho
        obtain⟨j,b,t,z,rfl,rfl,g3,g4,g5⟩:=Pw k x g1
        refine⟨?_,t,z,rfl, ?_⟩
        ·show (look σ.boxes (fb (d+j))).map _=_
         rw[hfb j b g3,g4];rfl
        ·simp only[Hk,Bool.and_eq_true] at hs
         exact List.all_eq_true.1 hs.2.1.2 _ g5
       |row k=>
        simp only[AS.obj,Option.map_eq_some_iff] at ho
        obtain⟨x,g1,_⟩:=ho
        exact(hrows k x g1).elim
       |hp i n=>exact hhp a2 i n o ho
      ·have hsb:∀k,(es.obj (.row k)).isSome=true→False:=fun k hk=>by
        simp only[AS.obj,Option.isSome_map] at hk
        obtain⟨x,e⟩:=Option.isSome_iff_exists.1 hk
        exact hrows k x e
       cases m with
       |box k=>
        cases m' with
        |box k'=>
         simp only[AS.obj,Option.isSome_map] at g1 g2
         obtain⟨x,e1⟩:=Option.isSome_iff_exists.1 g1
         obtain⟨x',e2⟩:=Option.isSome_iff_exists.1 g2
         obtain⟨j,b,t,z,rfl,_,k3,k4,k5⟩:=Pw k x e1
         obtain⟨j',b',t',z',rfl,_,k3',k4',k5'⟩:=Pw k' x' e2
         have g3':fb (d+j)=fb (d+j'):=by injection g3
         rw[hfb j b k3,hfb j' b' k3'] at g3'
         subst g3'
         rw[Pv hnd j j' b k3 k3']
        |row k'=>exact(hsb k' g2).elim
        |hp i n=>cases g3
       |row k=>exact(hsb k g1).elim
       |hp i n=>
        cases m' with
        |box k'=>cases g3
        |row k'=>exact(hsb k' g2).elim
        |hp i' n'=>exact g3
     obtain⟨v,hrun,hv⟩:=GC hT h p5
     obtain⟨us,e1,e2⟩:=hv
     rw[show (aE ae).app (KB d {args:=args,res:=res,clo:=some (g0,ts),ae:=hps,gen:=none} y)=es from hes]
     refine⟨fun _=>0,fb,v,g, ?_,us,e1, ?_⟩
     ·have:=IU (P:=P) (fn:=fn) (a:=a) (w:=w) (vs:=[v]) (by rw[hrv];simp[hrun])
      exact this
     ·exact S6 hf' e2 hfb (fun u hu k x e=>by
       subst e
       rw[←hes]
       exact(acG X3 (aE ae)).2 k (.inr ⟨x,hu⟩))
   ·cases hf'
  ·cases hf'
end
end Go.Abs
namespace Go.Abs
open Go.RowKit Go.Lib
section
variable {P:Program}{T:cj}{Φ:bE T}{E:Env}{σ σ' es:AS}{a a':Act}{w w':World}{ν ν':Nm→Value}{O O':Nat→Prop}
theorem QA {f:FuncId}{args:Array Value}{w:World}{R:Ending→World→Prop}(h:CallsIn (FW none) 0 P f args w R):Calls P f args w R:=fun cs=>
 let ⟨e,w',fr,q,s,x⟩:=h.2 cs (room_wide _);⟨e,w',fr,q,(comesIn_wide (P:=P)).1 s,x⟩
theorem aeh {A:Type}{x:A}:∀{hs:List Nat} {o:Option (Eg T hs)} {y:Nr T A hs},Ir x hs o=some y→u9 hs y=x∧(o=some (Eh hs y)∨hs=[])
 | [],o,y,e=>by simp only[Ir,Option.some.injEq] at e;exact⟨e.symm, .inr rfl⟩
 |_::_,some h,y,e=>by simp only[Ir,Option.some.injEq] at e;subst e;exact⟨rfl, .inl rfl⟩
 |_::_,none,y,e=>by cases e
theorem aei {A:Type}{ae:List aV}{x:A}{hs:List Nat}{y:Nr T A hs}(h:Ir x hs (Mb T ae hs)=some y):u9 hs y=x∧Mb T ae hs=some (Eh hs y):=by
 obtain⟨h1,h2⟩:=aeh h
 refine⟨h1,h2.elim id (fun e=> ?_)⟩
 subst e;rfl
theorem Zd {fn:Func}{v:Nat}{e:Ex}{yh:xu T v}(h:Kz T fn v e σ=some yh):Uj T.rows fn.results.toList (T.sig v) σ=some (u9 _ yh)∧Mb T σ.ae (T.sig v).hout=some (Eh _ yh):=by
 have main:(match Uj T.rows fn.results.toList (T.sig v) σ with
  |some y=>Ir y (T.sig v).hout (Mb T σ.ae (T.sig v).hout)
  |none=>none)=some yh→Uj T.rows fn.results.toList (T.sig v) σ=some (u9 _ yh)∧Mb T σ.ae (T.sig v).hout=some (Eh _ yh):=fun h=>by
  split at h
  ·rename_i y hy
   obtain⟨h1,h2⟩:=aei h
   exact⟨by rw[hy,h1],h2⟩
  ·cases h
 cases e with
 |exit i=>cases h
 |normal=>exact main h
 |ret=>exact main h
def Mn (P:Program)(T:cj)(v:Nat)(xh:Bh T v)(yh:xu T v):Prop:=(∃fn,P.funcs[T.real v]? =some fn∧fn.body.isSome=true∧(fn.name== "runtime.NumGoroutine")=false)∧
 ∀(E:Env) (ν:Nm→Value) (args:Array Value) (d:Nat),aB E→Ml T E→Callee T E v xh→St E (aE (aH T v xh)) ⟨#[],[]⟩ E.w0 ν (fun _=>False)→
  mc (view E (aE (aH T v xh)) ν (fun _=>False) E.w0) (T.sig v).args (u9 _ xh) args.toList→Calls P (T.real v) args E.w0 (Left T E v xh yh d)
structure Mo (P:Program) (T:cj):Prop where
 mixed:P.follows .mixedOrders=true
 tab:iw P T.rows
 hps:Dq P T
 eqs:afU P T
 sigs:SA T
theorem Mo.ctx (hP:Mo P T)(hΦ:YC P T Φ)(hE:aB E)(hG:Ml T E)(Bt:E.h0.length=T.ae.length)(hY:Gy P E)(hj:∀O w,E.J ⟨.unit,()⟩ O w→E.J=jX):Ctx P T Φ E:=
 ⟨hE,hG,hP.tab,hP.hps,hP.eqs,hP.sigs,hΦ,Bt,hY,hj⟩
theorem VI {v:Nat}{xh:Bh T v}:(aH T v xh).length=T.ae.length:=by unfold aH;rw[yS,qn]
theorem S8 (hP:Mo P T)(hΦ:YC P T Φ)(hΓ:Y2 P T Φ){v n:Nat}{xh:Bh T v}{yh:xu T v}{fn:Func}{c:Code}(hf:P.funcs[T.real v]? =some fn)(hb:fn.body=some c)(hname:(fn.name== "runtime.NumGoroutine")=false)(Bu:(T.sig v).gen=none)
  (he:ID T fn c Φ n v xh=some yh):Mn P T v xh yh:=by
 refine⟨⟨fn,hf,by rw[hb];rfl,hname⟩,fun E ν args d hE hG hC hst hargs=> ?_⟩
 obtain⟨hag,hbx⟩:=mc.g (ν:=ν) (Y:=E.Y) 0 hargs
 have e0:tv T v xh=aE (aH T v xh):=by
  unfold tv aE
  rw[hbx]
  have:Dk (T.sig v)=⟨.unit,()⟩:=by unfold Dk;rw[Bu]
  rw[this]
 have h0:=St.begin (fn:=fn) (vals:=args) hG (xh:=xh) (by rw[e0];exact hst) (by rw[e0];exact hag)
 have alm:=hP.ctx hΦ hE hG (by rw[←hst.kept.num];exact VI) (Ej hC.j) (fun _ _ _=>hC.j)
 have hM:∀r,E.M r→r<E.w0.heap.size:=fun r hr=>absurd hr (hC.m r)
 have hRo:∀i hr,i∉(T.sig v).hin→E.ro i≠some hr:=fun i hr hi e=>by
  have h1:=hC.ro i
  have hf:(T.sig v).hin.any (Nat.beq i)=false:=eq_false_of_ne_true (fun h=>hi (kn.1 h))
  rw[hf,e] at h1;cases h1
 refine QA (callsIn_of_wp_marks hf hb trivial ?_)
 refine wpIn_mono (SX hP.mixed (fun f ps x y Sx Sy=>Qz hΓ Sx Sy) c E alm (fun tr tr' _ _=>hC.acc tr) none _ _ _ _ E.w0 ν _ he h0 (fun h=>by cases h) (fun e σ' _ _=>hC.acc _)) (fun e a' w' hp=> ?_)
 have fin:∀(ex:Ex) (σ':AS) (a':Act) (w':World),Kz T fn v ex σ'=some yh→To E σ' a' w'→LeavesInM (FW none) 0 P fn a'.tmps (Left T E v xh yh d) a'.defers .returning w':=by
  rintro ex σ' ⟨tmps,ds⟩ w' hk ⟨ν',O',h⟩
  obtain⟨k1,k2⟩:=Zd hk
  refine GB hE hM hst.ve.size (fun w2 h2=> ?_) ds w' h
  have h3:=h2.ali hC.j hC.om
  obtain⟨q1,q2,q3,q4,q5⟩:=aeg hC hst.kept h3 k2 (fun i hr e=>(h3.ro i hr e).1)
  obtain⟨fr,fb,val,g,g1,g2⟩:=ai7 (d:=d) hP.tab h3 Bu (hP.sigs v) k1 hC.hx hRo q1 q2 q3 q4 q5
  exact⟨val,g1,val,_,rfl,h3.finish hC.j g,g2⟩
 cases e with
 |normal=>obtain⟨σ',h1,_,h2⟩:=hp;exact fin _ σ' a' w' h1 h2
 |ret=>obtain⟨σ',h1,_,h2⟩:=hp;exact fin _ σ' a' w' h1 h2
 |exit id=>obtain⟨σ',h1,_,_⟩:=hp;cases h1
 |_=>exact hp.elim
theorem agS:∀{s:Iq} {y:Ma s} {vars:List ResultVar},s.gen.isSome=true→Uj T.rows vars s σ=some y→vars=[]∧σ.trace=aa4 s y
 | ⟨_,_,_,_,some ts⟩,y,[],_,h=>⟨rfl,Dn h⟩
 | ⟨_,_,_,_,some ts⟩,y,_::_,_,h=>by cases h
theorem agT (hP:Mo P T)(hΦ:YC P T Φ)(hΓ:Y2 P T Φ){v n:Nat}{xh:Bh T v}{yh:xu T v}{fn:Func}{c:Code}(hf:P.funcs[T.real v]? =some fn)(hb:fn.body=some c)(Bu:(T.sig v).gen.isSome=true)
  (he:ID T fn c Φ n v xh=some yh) (E:Env) (ν:Nm→Value) (args:Array Value) (O:Nat→Prop) (hE:aB E) (hG:Ml T E) (hY:Gy P E) (hD:yl E) (hnj:∀O w,¬E.J ⟨.unit,()⟩ O w) (hacc:E.acc (NS T v yh))
  (hst:St E (tv T v xh) ⟨#[],[]⟩ E.w0 ν O) (hargs:Qw (view E (tv T v xh) ν O E.w0) ν E.Y 0 (T.sig v).args (u9 _ xh) args.toList):
  Calls P (T.real v) args E.w0 fun e w'=>∃r O',e= .returned r∧E.J (NS T v yh) O' w':=by
 have h0:=St.begin (fn:=fn) (vals:=args) hG (xh:=xh) hst hargs
 have alm:=hP.ctx hΦ hE hG (by rw[←hst.kept.num];exact VI) hY (fun O w h=>absurd h (hnj O w))
 have hM:∀r,E.M r→r<E.w0.heap.size:=fun r hr=>(Array.getElem?_eq_some_iff.1 (hst.waits r hr).1).1
 have htr:∀(ex:Ex) (σ':AS),Kz T fn v ex σ'=some yh→σ'.trace=NS T v yh∧fn.results.toList=[]:=fun ex σ' hk=>by
  obtain⟨k1,_⟩:=Zd hk
  obtain⟨k2,k3⟩:=agS Bu k1
  exact⟨k3,k2⟩
 refine QA (callsIn_of_wp_marks hf hb trivial ?_)
 refine wpIn_mono (SX hP.mixed (fun f ps x y Sx Sy=>Qz hΓ Sx Sy) c E alm hD none _ _ _ _ E.w0 ν _ he h0 (fun h=>by cases h) (fun e σ' h1 _=>by rw[(htr e σ' h1).1];exact hacc)) (fun e a' w' hp=> ?_)
 have fin:∀(ex:Ex) (σ':AS) (a':Act) (w':World),Kz T fn v ex σ'=some yh→To E σ' a' w'→LeavesInM (FW none) 0 P fn a'.tmps (fun e w'=>∃r O',e= .returned r∧E.J (NS T v yh) O' w') a'.defers .returning w':=by
  rintro ex σ' ⟨tmps,ds⟩ w' hk ⟨ν',O',h⟩
  obtain⟨k1,k2⟩:=htr ex σ' hk
  refine GB hE hM hst.ve.size (fun w2 h2=> ?_) ds w' h
  refine⟨_,IU (P:=P) (fn:=fn) (a:=⟨tmps,[]⟩) (w:=w2) (vs:=[]) (by rw[k2];rfl),_,O',rfl, ?_⟩
  rw[←k1];exact h2.out.1
 cases e with
 |normal=>obtain⟨σ',h1,_,h2⟩:=hp;exact fin _ σ' a' w' h1 h2
 |ret=>obtain⟨σ',h1,_,h2⟩:=hp;exact fin _ σ' a' w' h1 h2
 |exit id=>obtain⟨σ',h1,_,_⟩:=hp;cases h1
 |_=>exact hp.elim
def aa8 (P:Program)(T:cj)(B:Mf T):Prop:=∀v g,B v=some g→(T.sig v).gen=none∧∀xh yh,g xh=some yh→Mn P T v xh yh
def acH (P:Program)(T:cj)(fns:Nat→Option Func):Prop:=∀v fn,fns v=some fn→P.funcs[T.real v]? =some fn∧(fn.name== "runtime.NumGoroutine")=false
theorem Ze {B:Mf T}{fns:Nat→Option Func}(hP:Mo P T)(hB:aa8 P T B)(hF:acH P T fns):∀n,YC P T (HP T B fns n)∧Y2 P T (HP T B fns n)
 |0=>⟨(fun v x y h=>by cases h),(fun v x y h=>by cases h)⟩
 |n+1=>by
  obtain⟨ih1,ih2⟩:=Ze hP hB hF n
  refine⟨fun v xh yh h Bu=> ?_,fun v xh yh h Bu=> ?_⟩
  ·simp only[HP] at h
   split at h
   ·rename_i g hg
    exact(hB v g hg).2 xh yh h
   ·split at h
    ·rename_i fn hfn
     obtain⟨h1,h2⟩:=hF v fn hfn
     split at h
     ·rename_i c hc
      exact S8 hP ih1 ih2 h1 hc h2 Bu h
     ·cases h
    ·cases h
  ·simp only[HP] at h
   split at h
   ·rename_i g hg
    have:=(hB v g hg).1
    rw[this] at Bu;cases Bu
   ·split at h
    ·rename_i fn hfn
     obtain⟨h1,h2⟩:=hF v fn hfn
     split at h
     ·rename_i c hc
      exact⟨⟨fn,h1,by rw[hc];rfl,h2⟩,fun E ν args O hE hG hY hD hnj hacc hst hargs=>agT hP ih1 ih2 h1 hc Bu h E ν args O hE hG hY hD hnj hacc hst hargs⟩
     ·cases h
    ·cases h
end
end Go.Abs
namespace Go.Abs
open Go.RowKit Go.Lib
def isZ:CV→Bool
 | ⟨.int _,n⟩=>decide (n=(0:Int))
 | ⟨.bool,b⟩=> !b
 | ⟨.str,s⟩=>match s with | ⟨⟨[]⟩⟩=>true |_=>false
 | ⟨.slice t,xs⟩=>match (xs:List t.den) with | []=>true |_=>false
 | ⟨.ref _,n⟩=>Nat.beq n 0
 | ⟨.ptr _,n⟩=>Nat.beq n 0
 | ⟨.mp _,n⟩=>Nat.beq n 0
 | ⟨.fn,n⟩=>Nat.beq n 0
 | ⟨.pW t,o⟩=>match (o:Option (List t.den)) with |none=>true |_=>false
 |_=>false
theorem vj:∀{t:Ty} {l:List Value} {cs:List CV} {r:List Value},cq t l=some (cs,r)→cs.all isZ=true→cs=Wt t
 | .unit,l,cs,r,h,hz=>by simp only[cq,Option.some.injEq,Prod.mk.injEq] at h;exact h.1.symm
 | .pair a b,l,cs,r,h,hz=>by
   simp only[cq] at h
   split at h
   ·rename_i x l' h1
    split at h
    ·rename_i y l'' h2
     simp only[Option.some.injEq,Prod.mk.injEq] at h
     obtain⟨rfl,rfl⟩:=h
     rw[List.all_append,Bool.and_eq_true] at hz
     rw[vj h1 hz.1,vj h2 hz.2]
     rfl
    ·cases h
   ·cases h
 | .st t,l,cs,r,h,hz=>vj (t:=t) h hz
 | .int k, .int k' n::l,cs,r,h,hz=>by
   simp only[cq] at h
   split at h
   ·simp only[Option.some.injEq,Prod.mk.injEq] at h
    obtain⟨rfl,rfl⟩:=h
    simp[isZ] at hz
    subst hz;rfl
   ·cases h
 | .bool, .bool b::l,cs,r,h,hz=>by
   simp only[cq,Option.some.injEq,Prod.mk.injEq] at h
   obtain⟨rfl,rfl⟩:=h
   simp[isZ] at hz
   subst hz;rfl
 | .str, .string s::l,cs,r,h,hz=>by
   simp only[cq,Option.some.injEq,Prod.mk.injEq] at h
   obtain⟨rfl,rfl⟩:=h
   simp only[List.all_cons,List.all_nil,Bool.and_true,isZ] at hz
   split at hz
   ·rfl
   ·cases hz
 | .slice t, .slice none 0 0::l,cs,r,h,hz=>by
   simp only[cq,Option.some.injEq,Prod.mk.injEq] at h
   obtain⟨rfl,rfl⟩:=h
   rfl
 | .ref _, .slice none 0 0::l,cs,r,h,hz=>by
   simp only[cq,Option.some.injEq,Prod.mk.injEq] at h
   obtain⟨rfl,rfl⟩:=h
   rfl
 | .ptr _, .pointer none::l,cs,r,h,hz=>by
   simp only[cq,Option.some.injEq,Prod.mk.injEq] at h
   obtain⟨rfl,rfl⟩:=h
   rfl
 | .mp _, .map none::l,cs,r,h,hz=>by
   simp only[cq,Option.some.injEq,Prod.mk.injEq] at h
   obtain⟨rfl,rfl⟩:=h
   rfl
 | .pW _, .slice none 0 0::l,cs,r,h,hz=>by
   simp only[cq,Option.some.injEq,Prod.mk.injEq] at h
   obtain⟨rfl,rfl⟩:=h
   rfl
 | .fn, .nilFunc::l,cs,r,h,hz=>by
   simp only[cq,Option.some.injEq,Prod.mk.injEq] at h
   obtain⟨rfl,rfl⟩:=h
   rfl
def NW:Ty→Ty→Bool
 | .int a, .int b=>decide (a=b)
 | .bool, .bool=>true
 | .str, .str=>true
 | .slice a, .slice b=>NW a b
 | .unit, .unit=>true
 | .pair a b, .pair c d=>NW a c&&NW b d
 | .st a, .st b=>NW a b
 | .pW a, .pW b=>NW a b
 | .ref a, .ref b=>Nat.beq a b
 | .ptr a, .ptr b=>Nat.beq a b
 | .mp a, .mp b=>Nat.beq a b
 | .fn, .fn=>true
 |_,_=>false
theorem E4:∀{a b:Ty},NW a b=true→a=b
 | .int a, .int b,h=>by simp[NW] at h;rw[h]
 | .bool, .bool,_=>rfl
 | .str, .str,_=>rfl
 | .slice a, .slice b,h=>by rw[E4 (a:=a) (b:=b) h]
 | .unit, .unit,_=>rfl
 | .pair a b, .pair c d,h=>by
   simp only[NW,Bool.and_eq_true] at h
   rw[E4 h.1,E4 h.2]
 | .st a, .st b,h=>by rw[E4 (a:=a) (b:=b) h]
 | .pW a, .pW b,h=>by rw[E4 (a:=a) (b:=b) h]
 | .ref a, .ref b,h=>by rw[(beq_iff _ _).1 h]
 | .ptr a, .ptr b,h=>by rw[(beq_iff _ _).1 h]
 | .mp a, .mp b,h=>by rw[(beq_iff _ _).1 h]
 | .fn, .fn,_=>rfl
def IX (P:Program):List Field→Option (List (Nat×Nat))
 | []=>some []
 |f::fs=>match P.info? f.type with
  |some i=>match IX P fs with
   |some r=>some ((f.offset,i.size)::r)
   |none=>none
  |none=>none
theorem VJ {P:Program}:∀{fs:List Field} {r:List (Nat×Nat)},IX P fs=some r→fs.mapM (fun f=>(P.info? f.type).map fun i=>(f.offset,i.size))=some r
 | [],r,h=>by simp[IX] at h;subst h;rfl
 |f::fs,r,h=>by
  simp only[IX] at h
  split at h
  ·rename_i i hi
   split at h
   ·rename_i r' hr
    simp only[Option.some.injEq] at h
    subst h
    rw[List.mapM_cons,VJ hr]
    simp[hi]
   ·cases h
  ·cases h
theorem S9 {P:Program}:∀{fs:List Field} {r:List (Nat×Nat)},IX P fs=some r→∀(k off size:Nat),r[k]? =some (off,size)→∃(fd:Field) (j:TypeInfo),fs[k]? =some fd∧fd.offset=off∧P.info? fd.type=some j∧j.size=size
 | [],r,h,k,off,size,hk=>by simp[IX] at h;subst h;simp at hk
 |f::fs,r,h,k,off,size,hk=>by
  simp only[IX] at h
  split at h
  ·rename_i i hi
   split at h
   ·rename_i r' hr
    simp only[Option.some.injEq] at h
    subst h
    cases k with
    |zero=>simp at hk;exact⟨f,i,by simp,hk.1,hi,hk.2⟩
    |succ k=>
     obtain⟨fd,j,h1,h2⟩:=S9 hr k off size (by simpa using hk)
     exact⟨fd,j,by simpa using h1,h2⟩
   ·cases h
  ·cases h
def Bw:List (Nat×Nat)→List (Nat×Nat)→Bool
 | [],[]=>true
 | (a,b)::r,(c,d)::s=>Nat.beq a c&&Nat.beq b d&&Bw r s
 |_,_=>false
theorem IY:∀{a b:List (Nat×Nat)},Bw a b=true→a=b
 | [],[],_=>rfl
 | (a,b)::r,(c,d)::s,h=>by
   simp only[Bw,Bool.and_eq_true] at h
   rw[(beq_iff _ _).1 h.1.1,(beq_iff _ _).1 h.1.2,IY h.2]
 | [],_::_,h=>by simp[Bw] at h
 |_::_,[],h=>by simp[Bw] at h
def W2 (P:Program)(T:List fH)(r:fH):Ty→TypeDesc→Bool
 | .int k, .int k'=>decide (k=k')&&r.qj.isEmpty
 | .bool, .bool=>r.qj.isEmpty
 | .str, .string=>r.qj.isEmpty
 | .slice u, .slice e=>Nat.beq e r.elem&&r.qj.isEmpty&&match iY T e with
   |some re=>NW re.ty u
   |none=>false
 | .st u, .struct fs=> !r.arr&&match IX P fs.toList with
   |some l=>Bw l r.qj&&l.all fun p=>Nat.blt 0 p.2&&Nat.ble (p.1+p.2) u.size
   |none=>false
 | .st u, .array n e=>r.arr&&match P.info? e with
   |some j=>Bw ((List.range n).map fun i=>(i*j.size,j.size)) r.qj&&Nat.blt 0 j.size&&Nat.beq u.size (n*j.size)
   |none=>false
 | .ptr _, .pointer _=>r.qj.isEmpty
 | .mp _, .map _ _=>r.qj.isEmpty
 | .fn, .func _ _ _=>r.qj.isEmpty
 |_,_=>false
def zOk (t:Ty)(z:Value):Bool:=match t,z with
 | .st _, .agg _=>true
 | .st _,_=>false
 | .slice _, .slice none 0 0=>true
 | .slice _,_=>false
 |_, .agg _=>false
 |_,_=>true
theorem VK {u:Ty}{z:Value}(h:zOk (.slice u) z=true):z= .slice none 0 0:=by
 unfold zOk at h
 split at h<;>first |rfl | (rename_i e _;cases e;done) | (rename_i e;cases e;done) | (cases h;done) |skip
 all_goals simp_all
theorem agU {t:Ty}{z:Value}(h:zOk t z=true):z=wrap t z.cells.toList:=by
 cases t with
 |st u=>
  cases z with
  |agg cs=>simp[wrap,Value.cells]
  |_=>cases h
 |slice u=>rw[VK h];rfl
 |_=>
  cases z with
  |agg cs=>cases h
  |_=>rfl
def acI (t:Ty)(z:Value):Bool:=
 (match cq t z.cells.toList with
  |some (cs,[])=>cs.all isZ
  |_=>false)&&zOk t z
def aa9 (P:Program)(T:List fH)(r:fH):Bool:=
 match P.info? r.id,P.underlying r.id with
 |some i,some d=>Nat.beq i.size r.ty.size&&Nat.beq i.bytes r.bytes&&(match i.zero with |some z=>acI r.ty z |none=>false)&&W2 P T r r.ty d
 |_,_=>false
theorem aej {T:List fH}{t:TypeId}{r:fH}(h:iY T t=some r):r∈T∧r.id=t:=by
 induction T with
 |nil=>cases h
 |cons x xs ih=>
  simp only[iY] at h
  cases hb:Nat.beq x.id t with
  |true=>
   simp only[hb,cond_true,Option.some.injEq] at h
   subst h
   exact⟨by simp,(beq_iff _ _).1 hb⟩
  |false=>
   simp only[hb,cond_false] at h
   exact⟨by simp[(ih h).1],(ih h).2⟩
theorem aek {P:Program}{T:List fH}{r:fH}(h:aa9 P T r=true):Yh P T r:=by
 unfold aa9 at h
 split at h
 ·rename_i i d hi hd
  simp only[Bool.and_eq_true] at h
  obtain⟨⟨⟨h1,h2⟩,h3⟩,h4⟩:=h
  have ano:(∀u,r.ty≠ .st u)→r.qj=[]:=by
   intro hn
   unfold W2 at h4
   split at h4
   ·simp only[Bool.and_eq_true] at h4;simpa using h4.2
   ·simpa using h4
   ·simpa using h4
   ·simp only[Bool.and_eq_true] at h4;simpa using h4.1.2
   ·rename_i u fs ht;exact absurd ht (hn u)
   ·rename_i u n e ht;exact absurd ht (hn u)
   ·simpa using h4
   ·simpa using h4
   ·simpa using h4
   ·cases h4
  refine⟨?_, ?_,ano⟩
  ·split at h3
   ·rename_i z hz
    simp only[acI,Bool.and_eq_true] at h3
    obtain⟨h5,h6⟩:=h3
    refine⟨i,z,hi,(beq_iff _ _).1 h1,(beq_iff _ _).1 h2,hz,fun V=> ?_, ?_,fun u hu=> ?_⟩
    ·split at h5
     ·rename_i cs hl
      obtain⟨l1,e1,h7⟩:=ix (V:=V) hl
      rw[e1,List.append_nil]
      refine im ?_
      have:=vj hl h5
      rw[this] at h7
      exact h7
     ·cases h5
    ·exact agU h6
    ·rw[hu] at h6;exact VK h6
   ·cases h3
  ·unfold W2 at h4
   split at h4
   ·rename_i k k' ht
    rw[ht]
    simp only[Bool.and_eq_true,decide_eq_true_eq] at h4
    show P.underlying r.id=_
    rw[h4.1];exact hd
   ·rename_i ht;rw[ht];exact hd
   ·rename_i ht;rw[ht];exact hd
   ·rename_i u e ht
    rw[ht]
    simp only[Bool.and_eq_true] at h4
    have he:=(beq_iff _ _).1 h4.1.1
    subst he
    refine⟨hd, ?_⟩
    have h5:=h4.2
    split at h5
    ·rename_i re Ra;exact⟨re,Ra,E4 h5⟩
    ·cases h5
   ·rename_i u fs ht
    rw[ht]
    simp only[Bool.and_eq_true,Bool.not_eq_true'] at h4
    obtain⟨ha,h4⟩:=h4
    left
    split at h4
    ·rename_i l hl
     simp only[Bool.and_eq_true] at h4
     have hle:=IY h4.1
     subst hle
     refine⟨ha,fs,hd,VJ hl,fun f off size hf=> ?_⟩
     obtain⟨fd,j,h5,h6,h7,h8⟩:=S9 hl f off size hf
     have h9:=List.all_eq_true.1 h4.2 (off,size) (List.mem_of_getElem? hf)
     simp only[Bool.and_eq_true] at h9
     have h10:0+1≤size:=Nat.le_of_ble_eq_true h9.1
     have h11:=Nat.le_of_ble_eq_true h9.2
     exact⟨fd,j,by simpa using h5,h6,h7,h8,by omega,h11⟩
    ·cases h4
   ·rename_i u n e ht
    rw[ht]
    simp only[Bool.and_eq_true] at h4
    obtain⟨ha,h4⟩:=h4
    right
    split at h4
    ·rename_i j hj
     simp only[Bool.and_eq_true] at h4
     have hle:=IY h4.1.1
     have h10:0+1≤j.size:=Nat.le_of_ble_eq_true h4.1.2
     exact⟨ha,n,e,j,hd,hj,hle.symm,by omega,(beq_iff _ _).1 h4.2⟩
    ·cases h4
   ·rename_i h e ht;rw[ht];exact⟨_,hd⟩
   ·rename_i h k e ht;rw[ht];exact⟨_,_,hd⟩
   ·rename_i a b c ht;rw[ht];exact⟨_,_,_,hd⟩
   ·cases h4
 ·cases h
theorem aln {P:Program}{T:List fH}(h:T.all (aa9 P T)=true):iw P T:=fun t r hr=>by
 obtain⟨h1,h2⟩:=aej hr
 exact⟨h2,aek (List.all_eq_true.1 h r h1)⟩
def acJ (P:Program)(ht:HT):Bool:=match P.info? ht.e with
 |some j=>Nat.beq j.size ht.t.size&&match j.zero with
  |some z=>(match cq ht.t z.cells.toList with
   |some (cs,[])=>cs.all isZ
   |_=>false)
  |none=>false
 |none=>false
theorem agV {P:Program}{T:cj}(h:T.ae.all (acJ P)=true):Dq P T:=fun i ht hi=>by
 have h1:=List.all_eq_true.1 h ht (List.mem_of_getElem? hi)
 unfold acJ at h1
 split at h1
 ·rename_i j hj
  simp only[Bool.and_eq_true] at h1
  obtain⟨h2,h3⟩:=h1
  split at h3
  ·rename_i z hz
   refine⟨j,z,hj,(beq_iff _ _).1 h2,hz,fun V=> ?_⟩
   split at h3
   ·rename_i cs hl
    obtain⟨l1,e1,h7⟩:=ix (V:=V) hl
    rw[e1,List.append_nil]
    refine im ?_
    have:=vj hl h3
    rw[this] at h7
    exact h7
   ·cases h3
  ·cases h3
 ·cases h1
def ai8 (P:Program)(g:TypeId→Ty→Bool):Ty→Nat→List Field→Bool
 | .unit,_,[]=>true
 | .pair a b,off,f::fs=>f.name != "_" &&Nat.beq f.offset off&&(match P.info? f.type with |some i=>Nat.beq i.size a.size |none=>false)&&g f.type a&&ai8 P g b (off+a.size) fs
 |_,_,_=>false
def aba (P:Program):Nat→TypeId→Ty→Bool
 |0,_,_=>false
 |d+1,t,ty=>match ty,P.underlying t with
  | .int _,some (.int _)=>true
  | .bool,some .bool=>true
  | .str,some .string=>true
  | .st u,some (.struct fs)=> !(P.stoodInHeld t)&&ai8 P (aba P d) u 0 fs.toList
  |_,_=>false
theorem Zf {P:Program}{V:View}{d:Nat}{t:TypeId}{a:Ty}{x:a.den}{pre ys post:List Value}{w:World}(h:aba P d t a=true)(hs:(match P.info? t with |some i=>Nat.beq i.size a.size |none=>false)=true)(hr:Rel V a x ys):
  (part t (pre++(ys++post)).toArray pre.length).run P w= .ok (wrap a ys) w:=by
 have hlen:=hr.length
 have alo:(isAgg t).run P w= .ok false w→a.size=1→wrap a ys=ys.headD undef→(part t (pre++(ys++post)).toArray pre.length).run P w= .ok (wrap a ys) w:=fun h1 h2 h3=>by
  rw[h2] at hlen
  match ys,hlen with
  | [v],_=>
    rw[h3]
    simp[part,h1]
 cases d with
 |zero=>cases h
 |succ d=>
  unfold aba at h
  split at h
  ·rename_i hu;exact alo (by simp[isAgg,run_underlying hu]) rfl rfl
  ·rename_i hu;exact alo (by simp[isAgg,run_underlying hu]) rfl rfl
  ·rename_i hu;exact alo (by simp[isAgg,run_underlying hu]) rfl rfl
  ·rename_i u fs hu
   split at hs
   ·rename_i i hi
    have hsz:=(beq_iff _ _).1 hs
    have e1:(isAgg t).run P w= .ok true w:=by simp[isAgg,run_underlying hu]
    have e2:(sizeOf t).run P w= .ok (Ty.st u).size w:=by
     have:(sizeOf t).run P w= .ok i.size w:=by simp[sizeOf,typeInfo,hi]
     rw[this,hsz]
    simp only[part,Sem.run_bind,e1,Result.andThen_ok,if_true,e2,Sem.run_pure]
    rw[←hlen]
    simp[wrap]
   ·cases hs
  ·cases h
theorem acK {P:Program}:∀(d:Nat) (t:TypeId) (ty:Ty),aba P d t ty=true→∀(V:View) (x y:ty.den) (vs us:List Value) (w:World),Rel V ty x vs→Rel V ty y us→(Op.equalIn d t (wrap ty vs) (wrap ty us)).run P w= .ok (Bj ty x y) w
 |0,t,ty,h=>by cases h
 |d+1,t,ty,h=>by
  intro V x y vs us w hx hy
  unfold aba at h
  split at h
  ·rename_i k k' hu
   have e1:vs=[.int k x]:=hx
   have e2:us=[.int k y]:=hy
   subst e1 e2
   exact run_equalIn_int w d t k k' x y hu
  ·rename_i hu
   have e1:vs=[.bool x]:=hx
   have e2:us=[.bool y]:=hy
   subst e1 e2
   exact run_equalIn_bool' w d t x y hu
  ·rename_i hu
   have e1:vs=[.string x]:=hx
   have e2:us=[.string y]:=hy
   subst e1 e2
   exact run_equalIn_string w d t x y hu
  ·rename_i u fs hu
   simp only[Bool.and_eq_true,Bool.not_eq_true'] at h
   have hf:P.fieldsOf t=fs:=by simp[Program.fieldsOf,hu]
   show (Op.equalIn (d+1) t (.agg vs.toArray) (.agg us.toArray)).run P w=_
   rw[run_equalIn_struct w d t _ _ (by rw[hf];exact hu) h.1,hf]
   have key:∀(u:Ty) (fs:List Field) (x y:u.den) (p1 p2 c1 c2:List Value),ai8 P (aba P d) u p1.length fs=true→p1.length=p2.length→Rel V u x c1→Rel V u y c2→
     (Op.eqFields d (p1++c1).toArray (p2++c2).toArray fs).run P w= .ok (Bj u x y) w:=by
    intro u
    induction u with
    |unit=>
     intro fs x y p1 p2 c1 c2 h1 h2 h3 h4
     cases fs with
     |nil=>rfl
     |cons f fs=>cases h1
    |pair a b _ Wq=>
     intro fs x y p1 p2 c1 c2 h1 h2 h3 h4
     cases fs with
     |nil=>cases h1
     |cons f fs=>
      simp only[ai8,Bool.and_eq_true] at h1
      obtain⟨⟨⟨⟨g1,g2⟩,g3⟩,g4⟩,g5⟩:=h1
      obtain⟨a1,b1,rfl,r1,r2⟩:=h3
      obtain⟨a2,b2,rfl,r3,r4⟩:=h4
      have hoff:=(beq_iff _ _).1 g2
      have hl1:=r1.length
      have hl2:=r3.length
      have hp1:=Zf (P:=P) (pre:=p1) (post:=b1) (w:=w) g4 g3 r1
      have hp2:=Zf (P:=P) (pre:=p2) (post:=b2) (w:=w) g4 g3 r3
      have heq:=acK d f.type a g4 V x.1 y.1 a1 a2 w r1 r3
      have ih:=Wq fs x.2 y.2 (p1++a1) (p2++a2) b1 b2 (by rw[List.length_append,hl1];exact g5) (by simp[h2,hl1,hl2]) r2 r4
      have hne:f.name≠ "_" :=by simpa using g1
      simp only[Op.eqFields,hne,ne_eq,not_false_eq_true,if_true,Sem.run_bind]
      rw[hoff,hp1]
      simp only[Result.andThen_ok]
      rw[h2,hp2]
      simp only[Result.andThen_ok]
      rw[heq]
      simp only[Result.andThen_ok,Bj]
      cases hb:Bj a x.1 y.1 with
      |false=>simp
      |true=>simpa [List.append_assoc] using ih
    |_=>intro fs x y p1 p2 c1 c2 h1;cases fs<;>cases h1
   exact key u fs.toList x y [] [] vs us h.2 rfl hx hy
  ·cases h
def aki (P:Program)(T:List fH)(t:TypeId):Bool:= !(P.eqGuardType P.depth t)&&match iY T t with
 |some r=>match r.ty with
  | .st u=>aba P 10000 t (.st u)
  |_=>true
 |none=>true
theorem alp {P:Program}{T:cj}(h:T.eqs.all (aki P T.rows)=true):afU P T:=fun t ht r u hr p0 V x y vs us w op ox oy hx hy=>by
 obtain⟨t',hm,he⟩:=List.any_eq_true.1 ht
 have:=(beq_iff _ _).1 he
 subst this
 have h1:=List.all_eq_true.1 h t hm
 simp only[aki,Bool.and_eq_true,Bool.not_eq_true'] at h1
 obtain⟨h2,h3⟩:=h1
 rw[hr] at h3
 simp only[p0] at h3
 exact⟨run_eqGuard_agg w op t ox oy _ _ h2,acK 10000 t (.st u) h3 V x y vs us w hx hy⟩
theorem ai9 {T:cj}{l:List (Nat×Iq)}(h:l.all (fun p=>Hk T p.2)=true)(hT:∀v,T.sig v=(look l v).getD ⟨[],[],none,[],none⟩):SA T:=fun v=>by
 rw[hT v]
 cases hl:look l v with
 |none=>rfl
 |some s=>
  have hm:=yN hl
  exact List.all_eq_true.1 h (v,s) hm
def anp (P:Program)(T:cj):List (Nat×Func)→Prop
 | []=>True
 |p::r=>(P.funcs[T.real p.1]? =some p.2∧(p.2.name== "runtime.NumGoroutine")=false)∧anp P T r
theorem Ta {P:Program}{T:cj}:∀{l:List (Nat×Func)},anp P T l→acH P T (look l)
 | [],h,f,fn,hl=>by cases hl
 | (k,g)::r,h,f,fn,hl=>by
   simp only[look] at hl
   cases hb:Nat.beq k f with
   |true=>
    simp only[hb,cond_true,Option.some.injEq] at hl
    have:=(beq_iff _ _).1 hb
    subst this hl
    exact h.1
   |false=>
    simp only[hb,cond_false] at hl
    exact Ta h.2 f fn hl
end Go.Abs
namespace Go.Abs
section
variable {α β:Type}
def Conv (u:Nat→Option α)(v:Option α):Prop:=
 (∀y,v=some y→∃n,∀m,n≤m→u m=some y)∧∀n y,u n=some y→v=some y
theorem Conv.const (v:Option α):Conv (fun _=>v) v:=⟨fun y h=>⟨0,fun _ _=>h⟩,fun _ _ h=>h⟩
theorem Conv.bind {u:Nat→Option α}{v:Option α}{g:Nat→α→Option β}{G:α→Option β}(h:Conv u v)(hg:∀y,Conv (fun n=>g n y) (G y)):
  Conv (fun n=>(u n).bind (g n)) (v.bind G):=by
 constructor
 ·intro z hz
  obtain⟨y,hy,hz⟩:=Option.bind_eq_some_iff.1 hz
  obtain⟨n1,h1⟩:=h.1 y hy
  obtain⟨n2,h2⟩:=(hg y).1 z hz
  exact⟨max n1 n2,fun m hm=>by show (u m).bind (g m)=some z;rw[h1 m (by omega)];exact h2 m (by omega)⟩
 ·intro n z hz
  obtain⟨y,hy,hz⟩:=Option.bind_eq_some_iff.1 hz
  rw[h.2 n y hy]
  exact(hg y).2 n z hz
theorem Conv.shift {u:Nat→Option α}{v:Option α}(h:Conv u v):Conv (fun n=>u (n+1)) v:=
 ⟨fun y hy=>let ⟨n,hn⟩:=h.1 y hy;⟨n,fun m hm=>hn (m+1) (by omega)⟩,fun n y hy=>h.2 (n+1) y hy⟩
open Classical in
noncomputable def lim (u:Nat→Option α):Option α:=if h:∃y,∃n,∀m,n≤m→u m=some y then some h.choose else none
theorem Conv.lim_eq {u:Nat→Option α}{v:Option α}(h:Conv u v):lim u=v:=by
 unfold lim
 cases v with
 |none=>
  rw[dif_neg]
  rintro ⟨y,n,hn⟩
  have:=h.2 n y (hn n (Nat.le_refl _))
  cases this
 |some y=>
  have hex:∃y,∃n,∀m,n≤m→u m=some y:=⟨y,h.1 y rfl⟩
  rw[dif_pos hex]
  obtain⟨n,hn⟩:=hex.choose_spec
  exact(h.2 n _ (hn n (Nat.le_refl _))).symm
theorem akj {u:Nat→Option α}(hm:∀n y,u n=some y→u (n+1)=some y){n m:Nat}(h:n≤m){y:α}(hy:u n=some y):u m=some y:=by
 induction h with
 |refl=>exact hy
 |step _ ih=>exact hm _ _ ih
theorem Tc {u:Nat→Option α}(hm:∀n y,u n=some y→u (n+1)=some y):Conv u (lim u):=by
 have key:∀n y,u n=some y→lim u=some y:=fun n y hy=>by
  have hex:∃y,∃n,∀m,n≤m→u m=some y:=⟨y,n,fun m h=>akj hm h hy⟩
  unfold lim
  rw[dif_pos hex]
  obtain⟨k,hk⟩:=hex.choose_spec
  have h1:=hk (max n k) (by omega)
  have h2:=akj hm (show n≤max n k by omega) hy
  rw[h1] at h2
  exact h2
 refine⟨fun y hy=> ?_,key⟩
 unfold lim at hy
 split at hy
 ·rename_i hex
  obtain⟨k,hk⟩:=hex.choose_spec
  refine⟨k,fun m hm'=> ?_⟩
  rw[hk m hm']
  exact hy
 ·cases hy
theorem agW {u:Nat→Option α}{y:α}(h:lim u=some y):∃n,u n=some y:=by
 unfold lim at h
 split at h
 ·rename_i hex
  obtain⟨k,hk⟩:=hex.choose_spec
  exact⟨k,by rw[hk k (Nat.le_refl _)];exact h⟩
 ·cases h
end
section
variable {R:Type}{T:cj}
theorem Q.agX {α:Type}{Φ:Nat→bE T}{Φ':bE T}(hΦ:∀v x,Conv (fun n=>Φ n v x) (Φ' v x)){k:Nat→lL→α→Option R}{K:lL→α→Option R}(hk:∀c s,Conv (fun n=>k n c s) (K c s)):
  ∀(q:Q T α) (σ:AS) (c:lL),Conv (fun n=>q.run (Φ n) σ c (k n)) (q.run Φ' σ c K):=by
 intro q
 induction q with
 |ret a=>intro σ c;exact hk _ _
 |fail=>intro σ c;exact Conv.const _
 |opt o q ih=>intro σ c;exact Conv.bind (Conv.const o) fun y=>ih y σ c
 |fk b q ih=>intro σ c;cases b<;>simp only[Q.run,cond_true,cond_false]<;>first |exact ih σ c |exact Conv.const _
 |ite b x y Kw HO=>intro σ c;cases b<;>simp only[Q.run,cond_true,cond_false]<;>first |exact Kw σ c |exact HO σ c
 |row r q ih=>
  intro σ c
  simp only[Q.run]
  cases look σ.rows r with
  |none=>exact Conv.const _
  |some x=>exact ih _ σ _
 |len r q ih=>
  intro σ c
  simp only[Q.run]
  cases look σ.rows r with
  |none=>exact Conv.const _
  |some x=>exact ih _ σ _
 |box r q ih=>
  intro σ c
  simp only[Q.run]
  cases look σ.boxes r with
  |none=>exact Conv.const _
  |some x=>exact ih _ σ _
 |heap r q ih=>
  intro σ c
  simp only[Q.run]
  cases σ.ae[r]? with
  |none=>exact Conv.const _
  |some x=>exact ih _ σ _
 |pX r q ih=>
  intro σ c
  simp only[Q.run]
  cases look σ.rows r with
  |none=>exact ih σ _
  |some x=>exact Conv.const _
 |pY r q ih=>
  intro σ c
  simp only[Q.run]
  cases look σ.boxes r with
  |none=>exact ih σ _
  |some x=>exact Conv.const _
 |call v x q ih=>intro σ c;exact Conv.bind (hΦ v x) fun y=>ih y σ c
 |all q ih=>intro σ c;exact ih σ σ _
 |on σ' q ih=>intro σ c;exact ih σ' _
theorem VL {Φ:Nat→bE T}{Φ':bE T}(hΦ:∀f x,Conv (fun n=>Φ n f x) (Φ' f x))(σ:AS)(o:Oper){k:Nat→lL→AS→Option R}{K:lL→AS→Option R}
  (hk:∀c s,Conv (fun n=>k n c s) (K c s)):Conv (fun n=>Kx T (Φ n) σ o (k n)) (Kx T Φ' σ o K):=by
 simp only[J4]
 refine Q.agX (α:=bZ) (k:=fun n c (r:bZ)=>match r.2 with
  | .l9 us=>k n (c.wr (X6 us)) ((σ.app us).iH o.dst r.1)
  | .set σ'=>k n .X (σ'.iH o.dst r.1)) (K:=fun c (r:bZ)=>match r.2 with
  | .l9 us=>K (c.wr (X6 us)) ((σ.app us).iH o.dst r.1)
  | .set σ'=>K .X (σ'.iH o.dst r.1)) hΦ (fun c r=> ?_) _ _ _
 obtain⟨z,e⟩:=r
 cases e with
 |l9 us=>exact hk _ _
 |set σ'=>exact hk _ _
theorem ael {Φ:Nat→bE T}{Φ':bE T}(hΦ:∀f x,Conv (fun n=>Φ n f x) (Φ' f x))(ops:Array Oper)(σ:AS)(o:Oper){k:Nat→lL→AS→Option R}{K:lL→AS→Option R}
  (hk:∀c s,Conv (fun n=>k n c s) (K c s)):Conv (fun n=>Iz T (Φ n) ops σ o (k n)) (Iz T Φ' ops σ o K):=by
 cases hg:o.guard with
 |none=>simp only[Iz,hg];exact VL hΦ σ o hk
 |some p=>
  obtain⟨j,want⟩:=p
  cases ht:(ops[j]?).bind (·.dst) with
  |none=>simp only[Iz,hg,ht];exact Conv.const _
  |some t=>
   simp only[Iz,hg,ht]
   split
   ·rename_i b hb
    cases b<;>cases want<;>simp only[cond_true,cond_false]<;>first |exact hk _ _ |exact VL hΦ _ o hk
   ·exact hk _ _
   ·exact Conv.const _
theorem Td {Φ:Nat→bE T}{Φ':bE T}(hΦ:∀f x,Conv (fun n=>Φ n f x) (Φ' f x))(ops:Array Oper):∀(l:List Oper) (σ:AS) (cs:List lL) {k:Nat→List lL→AS→Option R} {K:List lL→AS→Option R}
  (hk:∀c s,Conv (fun n=>k n c s) (K c s)),Conv (fun n=>UX T (Φ n) ops l σ cs (k n)) (UX T Φ' ops l σ cs K)
 | [],σ,cs,k,K,hk=>hk _ _
 |o::r,σ,cs,k,K,hk=>by
  simp only[UX]
  exact ael hΦ ops σ o fun c s=>Td hΦ ops r s (c::cs) hk
theorem Lz {Φ:Nat→bE T}{Φ':bE T}(hΦ:∀f x,Conv (fun n=>Φ n f x) (Φ' f x))(ops:Array Oper)(draw:Bool)(σ:AS){k:Nat→AS→Option R}{K:AS→Option R}
  (hk:∀s,Conv (fun n=>k n s) (K s)):Conv (fun n=>vc T (Φ n) ops draw σ (k n)) (vc T Φ' ops draw σ K):=by
 unfold vc
 refine Td hΦ ops _ _ _ fun c s=> ?_
 cases draw with
 |false=>exact hk s
 |true=>
  cases (IB 0 ops.toList&&IA ops 0 (ops.toList.zip c.reverse) (Ky ops.toList [])) with
  |true=>simp only[cond_true];exact hk s
  |false=>simp only[cond_true,cond_false];exact Conv.const _
noncomputable def wT (h:List (Nat×Bool))(body:AS→(Ex→AS→Option R)→Option R)(k:Ex→AS→Option R)(σ:AS):Option R:=lim fun m=>lh h body k m σ
noncomputable def aM (T:cj)(Φ:bE T):Code→List (List (Nat×Bool))→AS→(Ex→AS→Option R)→Option R
 | .skip,_,σ,k=>k .normal σ
 | .region _ ops draw,_,σ,k=>vc T Φ ops draw σ (k .normal)
 | .seq a b,hs,σ,k=>aM T Φ a hs σ fun e σ'=>match e with
   | .normal=>aM T Φ b (hs.drop (loops a)) σ' k
   | .exit i=>k (.exit i) σ'
   | .ret=>k .ret σ'
 | .cond c a b,hs,σ,k=>match c with
   | .tmp t=>match nth σ.tmps t with
     | .rv (.cv ⟨.bool,x⟩)=>bif x then aM T Φ a hs (σ.Me t true) k else aM T Φ b (hs.drop (loops a)) (σ.Me t false) k
     |_=>none
   | .const (.bool x)=>bif x then aM T Φ a hs σ k else aM T Φ b (hs.drop (loops a)) σ k
   |_=>none
 | .block id c,hs,σ,k=>aM T Φ c hs σ fun e σ'=>match e with
   | .normal=>k .normal σ'
   | .exit i=>bif Nat.beq i id then k .normal σ' else k (.exit i) σ'
   | .ret=>k .ret σ'
 | .loop c,hs,σ,k=>match hs with
   |h::hs'=>wT h (fun σ k'=>aM T Φ c hs' σ k') k (σ.forget h)
   | []=>none
 | .rangeFunc f ps a b,hs,σ,k=>match hs,σ.b4,σ.trace with
   |h::hs',[],⟨.unit,_⟩=>vd T Φ σ (σ.av f) fun r bs=>
     bif xw ((σ.jw bs).forget h) then
      wT h (iu ps.toList (fun σ k'=>aM T Φ a hs' σ k') (fun σ k'=>aM T Φ b (hs'.drop (loops a)) σ k')) (fm k)
       {(((σ.jw bs).forget h)) with b4:=[r]}.save
     else none
   |_,_,_=>none
 | .exit i,_,σ,k=>k (.exit i) σ
 | .ret,_,σ,k=>k .ret σ
 |_,_,_,_=>none
def Le {α:Type}(a b:Option α):Prop:=∀y,a=some y→b=some y
theorem Le.HR {α:Type}(a:Option α):Le a a:=fun _ h=>h
theorem RG {α:Type}{a b:Option α}(h:Le a b):Conv (fun n=>bif Nat.ble n 0 then a else b) b:=by
 refine⟨fun y hy=>⟨1,fun m hm=> ?_⟩,fun n y hy=> ?_⟩
 ·have:Nat.ble m 0=false:=by cases m with
   |zero=>omega
   |succ m=>rfl
  show (bif Nat.ble m 0 then a else b)=some y
  rw[this];exact hy
 ·have hy':(bif Nat.ble n 0 then a else b)=some y:=hy
  cases hb:Nat.ble n 0 with
  |true=>rw[hb] at hy';exact h y hy'
  |false=>rw[hb] at hy';exact hy'
theorem acL {α:Type}{u:Nat→Option α}{b:Option α}(h:Conv u b):Le (u 0) b:=fun y hy=>h.2 0 y hy
theorem IZ {h:List (Nat×Bool)}{body body':AS→(Ex→AS→Option R)→Option R}(hb:∀σ k k',(∀e s,Le (k e s) (k' e s))→Le (body σ k) (body' σ k'))
  {k k':Ex→AS→Option R} (hk:∀e s,Le (k e s) (k' e s)):∀m m' σ,m≤m'→Le (lh h body k m σ) (lh h body' k' m' σ)
 |0,m',σ,_=>fun y hy=>by cases hy
 |m+1,0,σ,hm=>by omega
 |m+1,m'+1,σ,hm=>by
  simp only[lh]
  refine hb σ _ _ fun e s=> ?_
  cases e with
  |normal=>exact IZ hb hk m m' _ (by omega)
  |exit i=>exact hk _ _
  |ret=>exact hk _ _
theorem NX {Φ:Nat→bE T}{Φ':bE T}(hΦ:∀f x,Conv (fun n=>Φ n f x) (Φ' f x))(σ:AS)(f:AV){k:Nat→Rng→List Nat→Option R}{K:Rng→List Nat→Option R}(hk:∀r bs,Conv (fun n=>k n r bs) (K r bs)):
  Conv (fun n=>vd T (Φ n) σ f (k n)) (vd T Φ' σ f K):=by
 unfold vd
 split
 ·rename_i g aN
  split
  ·rename_i v _ _
   split
   ·rename_i x _
    split
    ·rename_i xh _
     refine Conv.bind (hΦ v xh) fun yh=> ?_
     cases (wP (bg aN)&&(T.sig v).ae.isEmpty&&Nat.beq (T.real v) g) with
     |false=>exact Conv.const _
     |true=>
      simp only[cond_true]
      have key:∀(s:Iq) (y:Ma s),Conv (fun n=>match s,y with
       | ⟨_,_,_,_,some ts⟩,y=>k n ⟨ts,y⟩ (bg aN)
       |_,_=>none) (match s,y with
       | ⟨_,_,_,_,some ts⟩,y=>K ⟨ts,y⟩ (bg aN)
       |_,_=>none)
       | ⟨_,_,_,_,some ts⟩,y=>hk _ _
       | ⟨_,_,none,_,none⟩,y=>Conv.const _
       | ⟨_,_,some _,_,none⟩,y=>Conv.const _
      exact key _ _
    ·exact Conv.const _
   ·exact Conv.const _
  ·exact Conv.const _
 ·exact Conv.const _
theorem abb {Φ Φ':bE T}(hΦ:∀f x,Le (Φ f x) (Φ' f x))(σ:AS)(f:AV){k k':Rng→List Nat→Option R}(hk:∀r bs,Le (k r bs) (k' r bs)):Le (vd T Φ σ f k) (vd T Φ' σ f k'):=
 acL (NX (Φ:=fun n f x=>bif Nat.ble n 0 then Φ f x else Φ' f x) (Φ':=Φ') (fun f x=>RG (hΦ f x)) σ f (k:=fun n r bs=>bif Nat.ble n 0 then k r bs else k' r bs) (K:=k') (fun r bs=>RG (hk r bs)))
theorem QB {ps:List Tmp}{Q6 body:Nat→AS→(Ex→AS→Option R)→Option R}{anq akk:AS→(Ex→AS→Option R)→Option R}
  (ha:∀σ {k:Nat→Ex→AS→Option R} {K:Ex→AS→Option R},(∀e s,Conv (fun n=>k n e s) (K e s))→Conv (fun n=>Q6 n σ (k n)) (anq σ K))
  (hb:∀σ {k:Nat→Ex→AS→Option R} {K:Ex→AS→Option R},(∀e s,Conv (fun n=>k n e s) (K e s))→Conv (fun n=>body n σ (k n)) (akk σ K))
  (σ:AS) {k:Nat→Ex→AS→Option R} {K:Ex→AS→Option R} (hk:∀e s,Conv (fun n=>k n e s) (K e s)):Conv (fun n=>iu ps (Q6 n) (body n) σ (k n)) (iu ps anq akk σ K):=by
 unfold iu
 split
 ·exact Conv.const _
 ·rename_i r rs _
  obtain⟨ts,xs⟩:=r
  cases xs with
  |nil=>exact hk _ _
  |cons x xs=>
   simp only
   split
   ·refine ha _ (k:=fun n e σ1=>match e with
     | .normal=>body n σ1 fun e σ2=>match e with
       | .normal=>k n .normal σ2.back
       |_=>none
     |_=>none) fun e s=> ?_
    cases e with
    |normal=>
     refine hb _ (k:=fun n e σ2=>match e with
      | .normal=>k n .normal σ2.back
      |_=>none) fun e s=> ?_
     cases e with
     |normal=>exact hk _ _
     |_=>exact Conv.const _
    |_=>exact Conv.const _
   ·exact Conv.const _
theorem Px {ps:List Tmp}{Q6 body anr body':AS→(Ex→AS→Option R)→Option R}(ha:∀σ k k',(∀e s,Le (k e s) (k' e s))→Le (Q6 σ k) (anr σ k'))(hb:∀σ k k',(∀e s,Le (k e s) (k' e s))→Le (body σ k) (body' σ k'))
  (σ:AS) (k k':Ex→AS→Option R) (hk:∀e s,Le (k e s) (k' e s)):Le (iu ps Q6 body σ k) (iu ps anr body' σ k'):=by
 unfold iu
 split
 ·exact Le.HR _
 ·rename_i r rs _
  obtain⟨ts,xs⟩:=r
  cases xs with
  |nil=>exact hk _ _
  |cons x xs=>
   simp only
   split
   ·refine ha _ _ _ fun e s=> ?_
    cases e with
    |normal=>
     refine hb _ _ _ fun e s=> ?_
     cases e with
     |normal=>exact hk _ _
     |_=>exact Le.HR _
    |_=>exact Le.HR _
   ·exact Le.HR _
theorem Te {k:Nat→Ex→AS→Option R}{K:Ex→AS→Option R}(hk:∀e s,Conv (fun n=>k n e s) (K e s))(e:Ex)(s:AS):Conv (fun n=>fm (k n) e s) (fm K e s):=by
 cases e with
 |exit i=>exact hk _ _
 |_=>exact Conv.const _
theorem W3 {k k':Ex→AS→Option R}(hk:∀e s,Le (k e s) (k' e s))(e:Ex)(s:AS):Le (fm k e s) (fm k' e s):=by
 cases e with
 |exit i=>exact hk _ _
 |_=>exact Le.HR _
theorem E5 {Φ Φ':bE T}(hΦ:∀f x,Le (Φ f x) (Φ' f x)){n n':Nat}(hn:n≤n'):∀(c:Code) (hs:List (List (Nat×Bool))) (σ:AS) (k k':Ex→AS→Option R) (hk:∀e s,Le (k e s) (k' e s)),
  Le (aG T Φ n c hs σ k) (aG T Φ' n' c hs σ k'):=by
 intro c
 induction c with
 |skip=>intro hs σ k k' hk;exact hk _ _
 |region id ops draw=>
  intro hs σ k k' hk
  have:=Lz (Φ:=fun n f x=>bif Nat.ble n 0 then Φ f x else Φ' f x) (Φ':=Φ') (fun f x=>RG (hΦ f x)) ops draw σ (k:=fun n s=>bif Nat.ble n 0 then k .normal s else k' .normal s) (K:=k' .normal) (fun s=>RG (hk _ _))
  exact acL this
 |seq a b X4 Wq=>
  intro hs σ k k' hk
  simp only[aG]
  refine X4 _ _ _ _ fun e s=> ?_
  cases e with
  |normal=>exact Wq _ _ _ _ hk
  |exit i=>exact hk _ _
  |ret=>exact hk _ _
 |cond c a b X4 Wq=>
  intro hs σ k k' hk
  simp only[aG]
  split
  ·split
   ·rename_i x _
    cases x
    ·exact Wq _ _ _ _ hk
    ·exact X4 _ _ _ _ hk
   ·exact Le.HR _
  ·rename_i x
   cases x
   ·exact Wq _ _ _ _ hk
   ·exact X4 _ _ _ _ hk
  ·exact Le.HR _
 |block id c ih=>
  intro hs σ k k' hk
  simp only[aG]
  refine ih _ _ _ _ fun e s=> ?_
  cases e with
  |normal=>exact hk _ _
  |exit i=>cases hb:Nat.beq i id<;>simp only[hb,cond_true,cond_false]<;>exact hk _ _
  |ret=>exact hk _ _
 |loop c ih=>
  intro hs σ k k' hk
  simp only[aG]
  cases hs with
  |nil=>exact Le.HR _
  |cons h hs'=>exact IZ (body:=fun σ k'=>aG T Φ n c hs' σ k') (body':=fun σ k'=>aG T Φ' n' c hs' σ k') (fun σ k k' hk=>ih hs' σ k k' hk) hk _ _ _ hn
 |rangeFunc f ps a b X4 Wq=>
  intro hs σ k k' hk
  simp only[aG]
  split
  ·refine abb hΦ σ _ fun r bs=> ?_
   rename_i h hs' _ _ _
   ·cases xw ((σ.jw bs).forget h) with
    |false=>exact Le.HR _
    |true=>
     simp only[cond_true]
     exact IZ (fun σ k k' hk=>Px (fun σ k k' hk=>X4 _ σ k k' hk) (fun σ k k' hk=>Wq _ σ k k' hk) σ k k' hk) (W3 hk) _ _ _ hn
  ·exact Le.HR _
 |exit i=>intro hs σ k k' hk;exact hk _ _
 |ret=>intro hs σ k k' hk;exact hk _ _
 |_=>intro hs σ k k' hk;exact Le.HR _
theorem Zg {h:List (Nat×Bool)}{body:AS→(Ex→AS→Option R)→Option R}(hb:∀σ k k',(∀e s,Le (k e s) (k' e s))→Le (body σ k) (body σ k'))
  (k:Ex→AS→Option R) (σ:AS):∀n y,lh h body k n σ=some y→lh h body k (n+1) σ=some y:=
 fun n y hy=>IZ hb (fun e s=>Le.HR _) n (n+1) σ (by omega) y hy
theorem VM {h:List (Nat×Bool)}{bn:Nat→AS→(Ex→AS→Option R)→Option R}{bI:AS→(Ex→AS→Option R)→Option R}
  (hc:∀σ {k:Nat→Ex→AS→Option R} {K:Ex→AS→Option R},(∀e s,Conv (fun n=>k n e s) (K e s))→Conv (fun n=>bn n σ (k n)) (bI σ K))
  (hbn:∀n σ (k k':Ex→AS→Option R),(∀e s,Le (k e s) (k' e s))→Le (bn n σ k) (bn n σ k'))
  {k:Nat→Ex→AS→Option R} {K:Ex→AS→Option R} (hk:∀e s,Conv (fun n=>k n e s) (K e s)) (σ:AS):Conv (fun n=>lh h (bn n) (k n) n σ) (wT h bI K σ):=by
 have hbI:∀σ (k k':Ex→AS→Option R),(∀e s,Le (k e s) (k' e s))→Le (bI σ k) (bI σ k'):=fun σ k k' hkk y hy=>by
  obtain⟨n,hn⟩:=(hc σ (k:=fun _=>k) (K:=k) (fun e s=>Conv.const _)).1 y hy
  exact(hc σ (k:=fun _=>k') (K:=k') (fun e s=>Conv.const _)).2 n y (hbn n σ k k' hkk y (hn n (Nat.le_refl _)))
 have hm:∀m σ,Conv (fun n=>lh h (bn n) (k n) m σ) (lh h bI K m σ):=by
  intro m
  induction m with
  |zero=>intro σ;exact Conv.const _
  |succ m ihm=>
   intro σ
   simp only[lh]
   refine hc σ (k:=fun n e σ'=>match e with
    | .normal=>lh h (bn n) (k n) m (σ'.forget h)
    | .exit i=>k n (.exit i) σ'
    | .ret=>k n .ret σ') fun e s=> ?_
   cases e with
   |normal=>exact ihm _
   |exit i=>exact hk _ _
   |ret=>exact hk _ _
 have hlim:∀σ,Conv (fun m=>lh h bI K m σ) (wT h bI K σ):=fun σ=>Tc (Zg hbI K σ)
 constructor
 ·intro y hy
  obtain⟨m,h1⟩:=(hlim _).1 y hy
  obtain⟨n,h2⟩:=(hm m _).1 y (h1 m (Nat.le_refl _))
  refine⟨max n m,fun i hi=> ?_⟩
  exact IZ (hbn i) (fun e s=>Le.HR _) m i _ (by omega) y (h2 i (by omega))
 ·intro n y hy
  exact(hlim _).2 n y ((hm n _).2 n y hy)
theorem yW {Φ:Nat→bE T}{Φ':bE T}(hΦ:∀f x,Conv (fun n=>Φ n f x) (Φ' f x)):∀(c:Code) (hs:List (List (Nat×Bool))) (σ:AS) {k:Nat→Ex→AS→Option R} {K:Ex→AS→Option R}
  (hk:∀e s,Conv (fun n=>k n e s) (K e s)),Conv (fun n=>aG T (Φ n) n c hs σ (k n)) (aM T Φ' c hs σ K):=by
 intro c
 induction c with
 |skip=>intro hs σ k K hk;exact hk _ _
 |region id ops draw=>intro hs σ k K hk;exact Lz hΦ ops draw σ fun s=>hk _ _
 |seq a b X4 Wq=>
  intro hs σ k K hk
  simp only[aG,aM]
  refine X4 hs σ (k:=fun n e σ'=>match e with
   | .normal=>aG T (Φ n) n b (hs.drop (loops a)) σ' (k n)
   | .exit i=>k n (.exit i) σ'
   | .ret=>k n .ret σ') fun e s=> ?_
  cases e with
  |normal=>exact Wq _ _ hk
  |exit i=>exact hk _ _
  |ret=>exact hk _ _
 |cond c a b X4 Wq=>
  intro hs σ k K hk
  simp only[aG,aM]
  cases c with
  |tmp t=>
   simp only
   generalize nth σ.tmps t=v
   cases v with
   |rv x=>
    cases x with
    |cv d=>
     obtain⟨ty,x⟩:=d
     cases ty with
     |bool=>
      cases x
      ·exact Wq _ _ hk
      ·exact X4 _ _ hk
     |_=>exact Conv.const _
    |_=>exact Conv.const _
   |_=>exact Conv.const _
  |const v=>
   cases v with
   |bool x=>
    cases x
    ·exact Wq _ _ hk
    ·exact X4 _ _ hk
   |_=>exact Conv.const _
  |_=>exact Conv.const _
 |block id c ih=>
  intro hs σ k K hk
  simp only[aG,aM]
  refine ih hs σ (k:=fun n e σ'=>match e with
   | .normal=>k n .normal σ'
   | .exit i=>bif Nat.beq i id then k n .normal σ' else k n (.exit i) σ'
   | .ret=>k n .ret σ') fun e s=> ?_
  cases e with
  |normal=>exact hk _ _
  |exit i=>cases hb:Nat.beq i id<;>simp only[hb,cond_true,cond_false]<;>exact hk _ _
  |ret=>exact hk _ _
 |loop c ih=>
  intro hs σ k K hk
  simp only[aG,aM]
  cases hs with
  |nil=>exact Conv.const _
  |cons h hs'=>
   exact VM (bn:=fun n σ k'=>aG T (Φ n) n c hs' σ k') (bI:=fun σ k'=>aM T Φ' c hs' σ k') (fun σ {k K} hk=>ih hs' σ hk) (fun n σ k k' hkk=>E5 (T:=T) (fun f x=>Le.HR _) (Nat.le_refl n) c hs' σ k k' hkk) hk _
 |rangeFunc f ps a b X4 Wq=>
  intro hs σ k K hk
  simp only[aG,aM]
  cases hs with
  |nil=>exact Conv.const _
  |cons h hs'=>
   generalize σ.b4=rn
   generalize σ.trace=tr
   obtain⟨ty,x⟩:=tr
   cases rn with
   |cons _ _=>exact Conv.const _
   |nil=>
    cases ty with
    |unit=>
     simp only
     refine NX hΦ σ _ (k:=fun n r bs=>bif xw ((σ.jw bs).forget h) then
       lh h (iu ps.toList (fun σ k'=>aG T (Φ n) n a hs' σ k') (fun σ k'=>aG T (Φ n) n b (hs'.drop (loops a)) σ k')) (fm (k n)) n
        {(((σ.jw bs).forget h)) with b4:=[r]}.save
      else none) fun r bs=> ?_
     cases xw ((σ.jw bs).forget h) with
     |false=>exact Conv.const _
     |true=>
      simp only[cond_true]
      exact VM (bn:=fun n=>iu ps.toList (fun σ k'=>aG T (Φ n) n a hs' σ k') (fun σ k'=>aG T (Φ n) n b (hs'.drop (loops a)) σ k')) (bI:=iu ps.toList (fun σ k'=>aM T Φ' a hs' σ k') (fun σ k'=>aM T Φ' b (hs'.drop (loops a)) σ k'))
       (fun σ {k K} hk=>QB (Q6:=fun n σ k'=>aG T (Φ n) n a hs' σ k') (body:=fun n σ k'=>aG T (Φ n) n b (hs'.drop (loops a)) σ k') (fun σ {k K} hk=>X4 hs' σ hk) (fun σ {k K} hk=>Wq _ σ hk) σ hk)
       (fun n σ k k' hkk=>Px (fun σ k k' hkk=>E5 (T:=T) (fun f x=>Le.HR _) (Nat.le_refl n) a hs' σ k k' hkk) (fun σ k k' hkk=>E5 (T:=T) (fun f x=>Le.HR _) (Nat.le_refl n) b _ σ k k' hkk) σ k k' hkk)
       (Te hk) _
    |_=>exact Conv.const _
 |exit i=>intro hs σ k K hk;exact hk _ _
 |ret=>intro hs σ k K hk;exact hk _ _
 |_=>intro hs σ k K hk;exact Conv.const _
theorem GF {Φ:bE T}(c:Code)(hs:List (List (Nat×Bool)))(σ:AS)(k k':Ex→AS→Option R)(hk:∀e s,Le (k e s) (k' e s)):Le (aM T Φ c hs σ k) (aM T Φ c hs σ k'):=fun y hy=>by
 obtain⟨n,hn⟩:=(yW (T:=T) (Φ:=fun _=>Φ) (Φ':=Φ) (fun f x=>Conv.const _) c hs σ (k:=fun _=>k) (K:=k) (fun e s=>Conv.const _)).1 y hy
 have h2:=E5 (T:=T) (Φ:=Φ) (Φ':=Φ) (fun f x=>Le.HR _) (Nat.le_refl n) c hs σ k k' hk y (hn n (Nat.le_refl _))
 exact(yW (T:=T) (Φ:=fun _=>Φ) (Φ':=Φ) (fun f x=>Conv.const _) c hs σ (k:=fun _=>k') (K:=k') (fun e s=>Conv.const _)).2 n y h2
theorem GG {Φ:bE T}(c:Code)(hs:List (List (Nat×Bool)))(σ:AS){k:Nat→Ex→AS→Option R}{K:Ex→AS→Option R}(hk:∀e s,Conv (fun n=>k n e s) (K e s)):Conv (fun n=>aM T Φ c hs σ (k n)) (aM T Φ c hs σ K):=by
 constructor
 ·intro y hy
  have h3:=yW (T:=T) (Φ:=fun _=>Φ) (Φ':=Φ) (fun f x=>Conv.const _) c hs σ (k:=k) (K:=K) hk
  obtain⟨n,hn⟩:=h3.1 y hy
  exact⟨n,fun m hm=>(yW (T:=T) (Φ:=fun _=>Φ) (Φ':=Φ) (fun f x=>Conv.const _) c hs σ (k:=fun _=>k m) (K:=k m) (fun e s=>Conv.const _)).2 m y (hn m hm)⟩
 ·intro m y hy
  exact GF c hs σ _ _ (fun e s y hy=>(hk e s).2 m y hy) y hy
theorem Tf {h:List (Nat×Bool)}{bI:AS→(Ex→AS→Option R)→Option R}(hle:∀σ (k k':Ex→AS→Option R),(∀e s,Le (k e s) (k' e s))→Le (bI σ k) (bI σ k'))
  (hc:∀σ {k:Nat→Ex→AS→Option R} {K:Ex→AS→Option R},(∀e s,Conv (fun n=>k n e s) (K e s))→Conv (fun n=>bI σ (k n)) (bI σ K)) (k:Ex→AS→Option R) (σ:AS):
  wT h bI k σ=bI σ fun e σ'=>match e with
   | .normal=>wT h bI k (σ'.forget h)
   | .exit i=>k (.exit i) σ'
   | .ret=>k .ret σ':=by
 have hlim:∀σ,Conv (fun m=>lh h bI k m σ) (wT h bI k σ):=fun σ=>Tc (Zg hle k σ)
 have h1:=(hlim σ).shift
 have h2:Conv (fun m=>lh h bI k (m+1) σ) (bI σ fun e σ'=>match e with
   | .normal=>wT h bI k (σ'.forget h)
   | .exit i=>k (.exit i) σ'
   | .ret=>k .ret σ'):=by
  simp only[lh]
  refine hc σ (k:=fun m e σ'=>match e with
   | .normal=>lh h bI k m (σ'.forget h)
   | .exit i=>k (.exit i) σ'
   | .ret=>k .ret σ') fun e s=> ?_
  cases e with
  |normal=>exact hlim _
  |exit i=>exact Conv.const _
  |ret=>exact Conv.const _
 rw[←h2.lim_eq,h1.lim_eq]
theorem agY (T:cj)(Φ:bE T)(h:List (Nat×Bool))(c:Code)(hs:List (List (Nat×Bool)))(k:Ex→AS→Option R)(σ:AS):
  wT h (fun σ k'=>aM T Φ c hs σ k') k σ=aM T Φ c hs σ fun e σ'=>match e with
   | .normal=>wT h (fun σ k'=>aM T Φ c hs σ k') k (σ'.forget h)
   | .exit i=>k (.exit i) σ'
   | .ret=>k .ret σ':=Tf (fun σ k k' hk=>GF c hs σ k k' hk) (fun σ {k K} hk=>GG c hs σ hk) k σ
theorem aem (T:cj)(Φ:bE T)(h:List (Nat×Bool))(ps:List Tmp)(a b:Code)(hs1 hs2:List (List (Nat×Bool)))(k:Ex→AS→Option R)(σ:AS):
  wT h (iu ps (fun σ k'=>aM T Φ a hs1 σ k') (fun σ k'=>aM T Φ b hs2 σ k')) k σ=iu ps (fun σ k'=>aM T Φ a hs1 σ k') (fun σ k'=>aM T Φ b hs2 σ k') σ fun e σ'=>match e with
   | .normal=>wT h (iu ps (fun σ k'=>aM T Φ a hs1 σ k') (fun σ k'=>aM T Φ b hs2 σ k')) k (σ'.forget h)
   | .exit i=>k (.exit i) σ'
   | .ret=>k .ret σ':=Tf (fun σ k k' hk=>Px (fun σ k k' hk=>GF a _ σ k k' hk) (fun σ k k' hk=>GF b _ σ k k' hk) σ k k' hk)
  (fun σ {k K} hk=>QB (Q6:=fun _ σ k'=>aM T Φ a hs1 σ k') (body:=fun _ σ k'=>aM T Φ b hs2 σ k') (fun σ {k K} hk=>GG a _ σ hk) (fun σ {k K} hk=>GG b _ σ hk) σ hk) k σ
end
noncomputable def W4 (T:cj)(fn:Func)(c:Code)(Φ:bE T)(v:Nat)(x:Bh T v):Option (xu T v):=
 aM T Φ c (T.hint v) (Nv T fn v x) (Kz T fn v)
noncomputable def cu (T:cj)(B:Mf T)(fns:Nat→Option Func)(v:Nat)(x:Bh T v):Option (xu T v):=lim fun n=>HP T B fns n v x
theorem acM (T:cj)(B:Mf T)(fns:Nat→Option Func):∀n v x y,HP T B fns n v x=some y→HP T B fns (n+1) v x=some y
 |0,v,x,y,h=>by cases h
 |n+1,v,x,y,h=>by
  rw[HP] at h ⊢
  revert h
  cases B v with
  |some g=>exact id
  |none=>
   simp only
   cases fns v with
   |none=>exact id
   |some fn=>
    simp only
    cases fn.body with
    |none=>exact id
    |some c=>
     simp only[ID]
     exact E5 (T:=T) (fun f x y hy=>acM T B fns n f x y hy) (by omega) c _ _ _ _ (fun e s=>Le.HR _) y
theorem Tg (T:cj)(B:Mf T)(fns:Nat→Option Func)(v:Nat)(x:Bh T v):Conv (fun n=>HP T B fns n v x) (cu T B fns v x):=Tc fun n y=>acM T B fns n v x y
theorem alq {T:cj}{B:Mf T}{fns:Nat→Option Func}{v:Nat}{fn:Func}{c:Code}(hB:B v=none)(hf:fns v=some fn)(hc:fn.body=some c)(x:Bh T v):
  cu T B fns v x=W4 T fn c (cu T B fns) v x:=by
 have h1:=(Tg T B fns v x).shift
 have h2:Conv (fun n=>HP T B fns (n+1) v x) (W4 T fn c (cu T B fns) v x):=by
  have e:(fun n=>HP T B fns (n+1) v x)=fun n=>aG T (HP T B fns n) n c (T.hint v) (Nv T fn v x) (Kz T fn v):=by
   funext n
   rw[HP,hB]
   simp only
   rw[hf]
   simp only[hc]
   rfl
  rw[e]
  exact yW (T:=T) (fun f x=>Tg T B fns f x) c _ _ (k:=fun _=>Kz T fn v) fun e s=>Conv.const _
 rw[←h2.lim_eq,h1.lim_eq]
theorem agZ {T:cj}{B:Mf T}{fns:Nat→Option Func}{v:Nat}{g:Bh T v→Option (xu T v)}(hB:B v=some g)(x:Bh T v):cu T B fns v x=g x:=by
 have h1:=(Tg T B fns v x).shift
 have e:(fun n=>HP T B fns (n+1) v x)=fun _=>g x:=by
  funext n
  rw[HP,hB]
 rw[e] at h1
 rw[←h1.lim_eq,(Conv.const (g x)).lim_eq]
theorem aen {P:Program}{T:cj}{B:Mf T}{fns:Nat→Option Func}(hP:Mo P T)(hB:aa8 P T B)(hF:acH P T fns):YC P T (cu T B fns):=fun v xh yh h=>by
 obtain⟨n,hn⟩:=agW h
 exact(Ze hP hB hF n).1 v xh yh hn
def Py {α β:Type}(a:Option α)(b:Option β):Option (α×β):=match a,b with
 |some x,some y=>some (x,y)
 |_,_=>none
def bs (l:List Nat):ByteArray:=⟨(l.map UInt8.ofNat).toArray⟩
inductive Frm where
 |seq (b:Code) (hs:List (List (Nat×Bool)))
 |blk (id:Nat)
 |lp (h:List (Nat×Bool)) (c:Code) (hs:List (List (Nat×Bool)))
 |rg (h:List (Nat×Bool)) (ps:List Tmp) (a b:Code) (hs1 hs2:List (List (Nat×Bool)))
section
variable {R:Type}
noncomputable def W5 (T:cj)(Φ:bE T):List Frm→(Ex→AS→Option R)→Ex→AS→Option R
 | [],k=>k
 | .seq b hs::fr,k=>fun e σ'=>match e with
   | .normal=>aM T Φ b hs σ' (W5 T Φ fr k)
   | .exit i=>W5 T Φ fr k (.exit i) σ'
   | .ret=>W5 T Φ fr k .ret σ'
 | .blk id::fr,k=>fun e σ'=>match e with
   | .normal=>W5 T Φ fr k .normal σ'
   | .exit i=>bif Nat.beq i id then W5 T Φ fr k .normal σ' else W5 T Φ fr k (.exit i) σ'
   | .ret=>W5 T Φ fr k .ret σ'
 | .lp h c hs::fr,k=>fun e σ'=>match e with
   | .normal=>wT h (fun σ k'=>aM T Φ c hs σ k') (W5 T Φ fr k) (σ'.forget h)
   | .exit i=>W5 T Φ fr k (.exit i) σ'
   | .ret=>W5 T Φ fr k .ret σ'
 | .rg h ps a b hs1 hs2::fr,k=>fun e σ'=>match e with
   | .normal=>wT h (iu ps (fun σ k'=>aM T Φ a hs1 σ k') (fun σ k'=>aM T Φ b hs2 σ k')) (fm (W5 T Φ fr k)) (σ'.back.forget h)
   |_=>none
end
inductive apx where
 |lp (h:List (Nat×Bool)) (c:Code) (hs:List (List (Nat×Bool))) (fr:List Frm)
 |rg (h:List (Nat×Bool)) (ps:List Tmp) (a b:Code) (hs1 hs2:List (List (Nat×Bool))) (fr:List Frm)
def GH:Code→List (List (Nat×Bool))→List Frm→Nat→Option apx
 | .seq a b,hs,fr,i=>bif Nat.blt i (loops a) then GH a hs (.seq b (hs.drop (loops a))::fr) i else GH b (hs.drop (loops a)) fr (i - loops a)
 | .cond _ a b,hs,fr,i=>bif Nat.blt i (loops a) then GH a hs fr i else GH b (hs.drop (loops a)) fr (i - loops a)
 | .block id c,hs,fr,i=>GH c hs (.blk id::fr) i
 | .loop c,h::hs,fr,0=>some (.lp h c hs fr)
 | .loop c,h::hs,fr,i+1=>GH c hs (.lp h c hs::fr) i
 | .rangeFunc f ps a b,h::hs,fr,0=>some (.rg h ps.toList a b hs (hs.drop (loops a)) fr)
 | .rangeFunc f ps a b,h::hs,fr,i+1=>bif Nat.blt i (loops a) then none else GH b (hs.drop (loops a)) (.rg h ps.toList a b hs (hs.drop (loops a))::fr) (i - loops a)
 |_,_,_,_=>none
noncomputable def LL (T:cj)(B:Mf T)(fns:Nat→Option Func)(v:Nat)(i:Nat)(σ:AS):Option (xu T v):=
 match fns v with
 |some fn=>match fn.body with
  |some c=>match GH c (T.hint v) [] i with
   |some (.lp h c hs fr)=>wT h (fun σ k'=>aM T (cu T B fns) c hs σ k') (W5 T (cu T B fns) fr (Kz T fn v)) σ
   |some (.rg h ps a b hs1 hs2 fr)=>wT h (iu ps (fun σ k'=>aM T (cu T B fns) a hs1 σ k') (fun σ k'=>aM T (cu T B fns) b hs2 σ k')) (fm (W5 T (cu T B fns) fr (Kz T fn v))) σ
   |none=>none
  |none=>none
 |none=>none
noncomputable def LL1 (T:cj)(B:Mf T)(fns:Nat→Option Func)(v:Nat)(i:Nat)(σ:AS):Option (xu T v):=
 match fns v with
 |some fn=>match fn.body with
  |some c=>match GH c (T.hint v) [] i with
   |some (.lp h c hs fr)=>aM T (cu T B fns) c hs σ fun e σ'=>match e with
    | .normal=>wT h (fun σ k'=>aM T (cu T B fns) c hs σ k') (W5 T (cu T B fns) fr (Kz T fn v)) (σ'.forget h)
    | .exit i=>W5 T (cu T B fns) fr (Kz T fn v) (.exit i) σ'
    | .ret=>W5 T (cu T B fns) fr (Kz T fn v) .ret σ'
   |some (.rg h ps a b hs1 hs2 fr)=>iu ps (fun σ k'=>aM T (cu T B fns) a hs1 σ k') (fun σ k'=>aM T (cu T B fns) b hs2 σ k') σ fun e σ'=>match e with
    | .normal=>wT h (iu ps (fun σ k'=>aM T (cu T B fns) a hs1 σ k') (fun σ k'=>aM T (cu T B fns) b hs2 σ k')) (fm (W5 T (cu T B fns) fr (Kz T fn v))) (σ'.forget h)
    | .exit i=>fm (W5 T (cu T B fns) fr (Kz T fn v)) (.exit i) σ'
    | .ret=>fm (W5 T (cu T B fns) fr (Kz T fn v)) .ret σ'
   |none=>none
  |none=>none
 |none=>none
theorem ans (T:cj)(B:Mf T)(fns:Nat→Option Func)(v:Nat)(i:Nat)(σ:AS):LL T B fns v i σ=LL1 T B fns v i σ:=by
 unfold LL LL1
 split
 ·split
  ·split
   ·exact agY T (cu T B fns) _ _ _ _ _
   ·exact aem T (cu T B fns) _ _ _ _ _ _ _ _
   ·rfl
  ·rfl
 ·rfl
noncomputable def alr (T:cj)(B:Mf T)(fns:Nat→Option Func)(v:Nat)(x:Bh T v):Option (xu T v):=
 match B v with
 |some g=>g x
 |none=>match fns v with
  |some fn=>match fn.body with
   |some c=>W4 T fn c (cu T B fns) v x
   |none=>none
  |none=>none
theorem GI (T:cj)(B:Mf T)(fns:Nat→Option Func)(v:Nat)(x:Bh T v):cu T B fns v x=alr T B fns v x:=by
 unfold alr
 split
 ·rename_i g hg;exact agZ hg x
 ·rename_i hB
  split
  ·rename_i fn hf
   split
   ·rename_i c hc
    exact alq hB hf hc x
   ·rename_i hc
    refine Conv.lim_eq ?_
    refine⟨fun y hy=>(by cases hy),fun n y hy=> ?_⟩
    cases n with
    |zero=>cases hy
    |succ n=>simp only[HP,hB,hf,hc] at hy;cases hy
  ·rename_i hf
   refine Conv.lim_eq ?_
   refine⟨fun y hy=>(by cases hy),fun n y hy=> ?_⟩
   cases n with
   |zero=>cases hy
   |succ n=>simp only[HP,hB,hf] at hy;cases hy
end Go.Abs
namespace Go.Abs
open Go.RowKit Go.Lib
section
variable {P:Program}{T:cj}{V0:View}{w:World}
def aja (T:cj)(V0:View)(w:World):Env where
 V0:=V0
 w0:=w
 X:=fun _=>False
 J:=jX
 XS:=fun i=> .pointer (some ⟨i - 1000000000,0,none⟩)
 Y:= .nilFunc
 ro:=fun _=>none
 h0:=cg T
 n0:=fun _ _=> .nilFunc
 M:=fun _=>False
 base:=w
 CB:=fun _=>False
 Om:=fun _=>False
 acc:=fun _=>True
 XH:=fun _ _=>False
theorem ajb (h:∀ad v,V0 (.cell ad) v→w.cell? ad=some v):aB (aja T V0 w):=
 ⟨fun ad v hv=>⟨h ad v hv,id⟩,fun tr O w w' C hJ _ _=>hJ⟩
theorem aeo (h:∀ad v,V0 (.cell ad) v→w.cell? ad=some v)(hG:WQ T (fun key v=>∃ad:Addr,key= .cell ad∧V0 (.cell ad) v)):Ml T (aja T V0 w):=by
 refine⟨fun g=> ?_,fun i x hx=> ?_⟩
 ·show Value.pointer (some ⟨gk g - 1000000000,0,none⟩)=_
  unfold gk
  rw[show 1000000000+g - 1000000000=g by omega]
 ·obtain⟨g,cs,h1,h2,h3⟩:=hG i x hx
  exact⟨g,cs,h1,h2,h3.of fun key u ⟨ad,e,hv⟩=>⟨ad,e,Gx (h ad u hv),hv⟩⟩
theorem aep:St (aja T V0 w) (aE (cg T)) ⟨#[],[]⟩ w (fun _=> .nilFunc) (fun _=>False):=by
 have nk:∀m,(aE (cg T)).obj m=none:=fun m=>by
  cases m with
  |row q=>rfl
  |box q=>rfl
  |hp i n=>
   simp only[AS.obj,aE]
   cases n with
   |zero=>rfl
   |succ n=>
    simp only[nk]
    split
    ·rename_i hr hhr
     rw[xE i hr hhr];rfl
    ·rfl
 have hno:∀m k,¬Own (aE (cg T)) (fun _=> .nilFunc) m k:=fun m k h=>by
  have:=h.1;rw[nk m] at this;cases this
 refine⟨Grow.refl _ _,(fun d hd=>by cases hd),⟨rfl,(fun i x e=>by cases e),(fun i x e=>by cases e)⟩,fun m o ho=> ?_,fun m m' k h1 h2=>absurd h1 (hno m k),fun m k hm=>absurd hm (hno m k),fun m k hm=>absurd hm (hno m k),⟨rfl,fun _ hf=>hf.elim⟩,fun i hr n e h1 h2=> ?_,(fun i hr e=>by cases e),⟨rfl,fun i hr e=>⟨hr,e,Ah.refl _,Nat.le_refl _⟩,fun i n h1 h2=>rfl⟩,fun _ hf=>hf.elim,Grow.refl _ _,fun m k hm=>absurd hm (hno m k),fun _ hf=>hf.elim,List.nodup_nil⟩
 ·rw[nk m] at ho;cases ho
 ·rw[xE i hr e] at h2;simp at h2;omega
theorem ag0 {V:View}{σ:AS}{ν:Nm→Value}{Y:Value}{d:Nat}{s:Iq}{args:List nj}{hs:List (Nat×Bool)}(hres:s=⟨args,[(.bool,none)],none,hs,none⟩){y:Ma s}(hy:HEq y true){r:Value}(h:ag V σ ν Y (YB d s y) r):r= .bool true:=by
 subst hres
 have hy':y=true:=eq_of_heq hy
 subst hy'
 have:bA V ⟨.bool,true⟩ r:=h
 have h2: [r]=[.bool true]:=this
 simpa using h2
theorem ag1 {A:Type}{hs:List Nat}(h:hs=[])(y:Nr T A hs):HEq (u9 hs y) y:=by subst h;rfl
theorem ant {v:Nat}{xh:Bh T v}{yh:xu T v}(hF:Mn P T v xh yh){as:List nj}(hs:T.sig v=⟨as,[(.bool,none)],none,[],none⟩)(hy:HEq yh true)(hV0:∀ad u,V0 (.cell ad) u→w.cell? ad=some u)
  (hG:WQ T (fun key u=>∃ad:Addr,key= .cell ad∧V0 (.cell ad) u)) {args:Array Value} (hargs:mc (fun key u=>∃ad:Addr,key= .cell ad∧V0 (.cell ad) u) (T.sig v).args (u9 _ xh) args.toList):
  Calls P (T.real v) args w fun e w'=>e= .returned (.bool true)∧Below w.heap.size w w':=by
 have hhe:(T.sig v).ae.isEmpty=true:=by rw[hs];rfl
 have hst:aH T v xh=cg T:=Dy hhe
 have hin:(T.sig v).hin=[]:=by rw[hs];rfl
 have hout:(T.sig v).hout=[]:=by rw[hs];rfl
 refine Calls.mono (hF.2 (aja T V0 w) (fun _=> .nilFunc) args 0 (ajb hV0) (aeo hV0 hG) ⟨rfl,fun _ h=>h,fun _ h=>h,fun _=>trivial,fun _ _ _ h=>h,fun i=>by rw[hin];rfl⟩ (by rw[hst];exact aep) (hargs.mono fun key u ⟨ad,e,hv⟩=>by
  subst e;exact .inl ⟨Gx (hV0 ad u hv),hv⟩)) ?_
 rintro e w' ⟨r,ν',rfl,hend,hr⟩
 have hk:Grow (fun _=>False) w w':=hend.keep
 refine⟨?_,hk.below⟩
 rw[ag0 hs ((ag1 hout yh).trans hy) hr]
end
end Go.Abs
namespace Go.Abs
open Go.ChangeShapes
mutual
def lays (P:Program):Ty→TypeId→Bool
 | .int k,t=>match P.underlying t with |some (.int k')=>decide (k'=k) |_=>false
 | .bool,t=>match P.underlying t with |some .bool=>true |_=>false
 | .str,t=>match P.underlying t with |some .string=>true |_=>false
 | .slice e',t=>match P.underlying t with
   |some (.slice e)=>lays P e' e&&decide (P.cellsOf e=e'.size)&&Nat.ble 1 (P.bytesOf e)
   |_=>false
 | .st f,t=>match P.underlying t with
   |some (.struct fs)=>By P f fs.toList 0&&decide (P.cellsOf t=f.size)
   |_=>false
 |_,_=>false
def By (P:Program):Ty→List Field→Nat→Bool
 | .unit,[],_=>true
 | .pair a b,f::r,off=>lays P a f.type&&decide (f.offset=off)&&decide (P.cellsOf f.type=a.size)&&By P b r (off+a.size)
 |_,_,_=>false
end
def Bnd:(t:Ty)→t.den→Prop
 | .int k,n=>(Lit.int k n).wf=true
 | .str,s=>ByteArray.size s≤140737488351232
 | .slice t,xs=>List.length xs≤140737488351232∧∀x:t.den,List.Mem x xs→Bnd t x
 | .pair a b,x=>Bnd a x.1∧Bnd b x.2
 | .st t,x=>Bnd t x
 |_,_=>True
def wv (W:World):View:=fun key u=>∃ad:Addr,key= .cell ad∧W.cell? ad=some u
theorem build {α β:Type}{R:α→β→Prop}{Q:Nat→β→Prop}{B:α→Prop}:∀n:Nat,(∀i,i<n→∃x c,R x c∧Q i c∧B x)→
  ∃(xs:List α) (cs:List β),xs.length=n∧az R xs cs∧(∀i c,cs[i]? =some c→Q i c)∧∀x,List.Mem x xs→B x
 |0,_=>⟨[],[],rfl,trivial,fun i c h=>by simp at h,fun x h=>by cases h⟩
 |n+1,h=>by
  obtain⟨xs,cs,h1,h2,h3,h4⟩:=build n fun i hi=>h i (by omega)
  obtain⟨x,c,g1,g2,g3⟩:=h n (by omega)
  have hl:cs.length=n:=by rw[←h2.length,h1]
  refine⟨xs++[x],cs++[c],by simp[h1],az.append h2 ⟨g1,trivial⟩,fun i d hd=> ?_,fun y hy=> ?_⟩
  ·by_cases hi:i<n
   ·rw[List.getElem?_append_left (by omega)] at hd;exact h3 i d hd
   ·rw[List.getElem?_append_right (by omega)] at hd
    by_cases e:i=n
    ·subst e
     rw[hl,Nat.sub_self] at hd
     simp at hd;subst hd;exact g2
    ·rw[List.getElem?_eq_none (by simp;omega)] at hd;cases hd
  ·rcases List.mem_append.1 (show y∈xs++[x] from hy) with h |h
   ·exact h4 y h
   ·rw[List.mem_singleton.1 h];exact g3
theorem QC {s:Nat}:∀{bk:List (List Value)},(∀c∈bk,c.length=s)→∀{j:Nat} {u:Value},bk.flatten[j]? =some u→∃i k c,bk[i]? =some c∧c[k]? =some u∧j=i*s+k∧k<s
 | [],_,j,u,h=>by simp at h
 |c::r,hl,j,u,h=>by
  have hc:=hl c (by simp)
  rw[List.flatten_cons] at h
  by_cases hj:j<s
  ·rw[List.getElem?_append_left (by omega)] at h
   exact⟨0,j,c,rfl,h,by omega,hj⟩
  ·rw[List.getElem?_append_right (by omega)] at h
   obtain⟨i,k,d,h1,h2,h3,h4⟩:=QC (fun c hc=>hl c (by simp[hc])) h
   exact⟨i+1,k,d,by simpa using h1,h2,by rw[Nat.succ_mul];omega,h4⟩
theorem Zh {α β:Type}{R:α→β→Prop}:∀{xs:List α} {ys:List β},az R xs ys→∀y∈ys,∃x,R x y
 |x::xs,y::ys,h,z,hz=>by
  rcases List.mem_cons.1 hz with rfl |hz
  ·exact⟨x,h.1⟩
  ·exact Zh h.2 z hz
 | [],[],_,z,hz=>by cases hz
theorem QD {H:Type}{P:Program}{e:TypeId}{d:DataW H}:∀{l:List (DataW H)},d∈l→∀n∈d.weights P e,n∈DataW.weightsAll P e l
 |c::r,h,n,hn=>by
  simp only[DataW.weightsAll,List.mem_append]
  rcases List.mem_cons.1 h with rfl |h
  ·exact .inl hn
  ·exact .inr (QD h n hn)
section
variable {H:Type}{enc:TypeId×Value→H}{P:Program}{W:World}
def OkW (P:Program)(t:TypeId)(d:DataW H):Prop:=∀n∈d.weights P t,n≤140737488351232
theorem aeq:∀ty:Ty,
  (∀(t:TypeId) (fuel:Nat) (cs:List Value) (x:DataW H×List MemPlace),lays P ty t=true→DataW.trod enc P W 0 (fun _=>true) true fuel t cs=some x→OkW P t x.1→∃y:ty.den,Rel (wv W) ty y cs∧Bnd ty y)∧
  (∀(fs:List Field) (off n:Nat) (cs:List Value) (xs:List (DataW H×List MemPlace)),By P ty fs off=true→xs.length=fs.length→
   (∀(i:Nat) (f:Field),fs[i]? =some f→DataW.trod enc P W 0 (fun _=>true) true n f.type ((cs.drop f.offset).take (P.cellsOf f.type))=xs[i]?)→
   (∀(i:Nat) (f:Field) x,fs[i]? =some f→xs[i]? =some x→OkW P f.type x.1)→cs.length=off+ty.size→∃y:ty.den,Rel (wv W) ty y (cs.drop off)∧Bnd ty y):=by
 intro ty
 induction ty with
 |int k=>
  refine⟨fun t fuel cs x hf h hw=> ?_,fun fs off n cs xs hf=>by simp[By] at hf⟩
  simp only[lays] at hf
  split at hf
  ·rename_i k' hu
   obtain rfl:=of_decide_eq_true hf
   obtain⟨m,rfl,rfl,hwf⟩:=DataW.trod_int hu h
   exact⟨m,rfl,hwf⟩
  ·cases hf
 |bool=>
  refine⟨fun t fuel cs x hf h hw=> ?_,fun fs off n cs xs hf=>by simp[By] at hf⟩
  simp only[lays] at hf
  split at hf
  ·rename_i hu
   obtain⟨b,rfl,rfl⟩:=DataW.trod_bool hu h
   exact⟨b,rfl,trivial⟩
  ·cases hf
 |str=>
  refine⟨fun t fuel cs x hf h hw=> ?_,fun fs off n cs xs hf=>by simp[By] at hf⟩
  simp only[lays] at hf
  split at hf
  ·rename_i hu
   obtain⟨s,rfl,rfl,hs⟩:=DataW.trod_string hu h
   refine⟨s,rfl, ?_⟩
   have:=hw s.data.toList.length (by simp[DataW.weights])
   rw[Array.length_toList] at this
   exact this
  ·cases hf
 |slice e' ih=>
  refine⟨fun t fuel cs x hf h hw=> ?_,fun fs off n cs xs hf=>by simp[By] at hf⟩
  simp only[lays] at hf
  split at hf
  ·rename_i e hu
   simp only[Bool.and_eq_true,decide_eq_true_eq] at hf
   obtain⟨⟨hfe,hce⟩,hbe⟩:=hf
   have hbe:=Nat.le_of_ble_eq_true hbe
   rcases DataW.trod_slice hu h with ⟨rfl,_⟩ | ⟨a,len,cap,elems,rest,n,_,rfl,rfl,_,hl,hm,hlen,hel,hsp,_⟩
   ·exact⟨[],⟨none,0,[],rfl,Nat.le_refl _,trivial,fun _=>rfl,fun j u hj=>by simp at hj⟩,by simp,fun x hx=>by cases hx⟩
   ·have hws:∀y∈elems,OkW P e y.1:=fun y hy m hm'=>hw m (by
     simp only[DataW.weights,hu,List.mem_cons,List.mem_append]
     exact .inr (.inl (QD (List.mem_map_of_mem hy) m hm')))
    have hlw:len≤140737488351232:=by
     have:=hw ((elems.map (·.1)).length*P.bytesOf e+(rest.map (·.1)).length*P.bytesOf e) (by
      simp only[DataW.weights,hu,List.mem_cons]
      exact .inl (by rw[Nat.add_mul]))
     rw[List.length_map,hlen] at this
     have h2:len*1≤len*P.bytesOf e:=Nat.mul_le_mul_left _ hbe
     omega
    obtain⟨xs,bk,h1,h2,h3,h4⟩:=build (R:=Rel (wv W) e') (Q:=fun i c=>∀k,k<e'.size→W.cell? ((a.add (i*e'.size)).add k)=c[k]?) (B:=Bnd e') len fun i hi=>by
     have:=hel i hi
     have hi':i<elems.length:=by omega
     rw[List.getElem?_eq_getElem hi',Option.bind_eq_some_iff] at this
     obtain⟨c,hc,hc2⟩:=this
     obtain⟨y,hy1,hy2⟩:=ih.1 e n c _ hfe hc2 (hws _ (List.getElem_mem hi'))
     obtain⟨_,_,hcell⟩:=World.cells?_some hc
     rw[hce] at hcell
     exact⟨y,c,hy1,hcell,hy2⟩
    have Zi:∀c∈bk,c.length=e'.size:=fun c hc=>by
     obtain⟨x,hx⟩:=Zh h2 c hc
     exact Rel.length hx
    refine⟨xs,⟨some a,cap,bk,by rw[h1],by omega,h2,(fun e=>by cases e),fun j u hj=>⟨a,rfl, ?_⟩⟩,by omega,h4⟩
    obtain⟨i,k,c,g1,g2,rfl,g4⟩:=QC Zi hj
    have:=h3 i c g1 k g4
    rw[add_add,g2] at this
    exact⟨_,rfl,this⟩
  ·cases hf
 |unit=>
  refine⟨fun t fuel cs x hf h hw=>by simp[lays] at hf,fun fs off n cs xs hf hl hx hw hc=> ?_⟩
  refine⟨(), ?_,trivial⟩
  show cs.drop off=[]
  rw[List.drop_eq_nil_of_le]
  have:Ty.unit.size=0:=rfl
  omega
 |pair a b X4 Wq=>
  refine⟨fun t fuel cs x hf h hw=>by simp[lays] at hf,fun fs off n cs xs hf hl hx hw hc=> ?_⟩
  cases fs with
  |nil=>simp[By] at hf
  |cons f r=>
   simp only[By,Bool.and_eq_true,decide_eq_true_eq] at hf
   obtain⟨⟨⟨f1,f2⟩,f3⟩,f4⟩:=hf
   have hsz:(Ty.pair a b).size=a.size+b.size:=rfl
   cases xs with
   |nil=>simp at hl
   |cons x xr=>
    have h0:=hx 0 f rfl
    obtain⟨y1,r1,b1⟩:=X4.1 f.type n _ x f1 h0 (hw 0 f x rfl rfl)
    obtain⟨y2,r2,b2⟩:=Wq.2 r (off+a.size) n cs xr f4 (by simpa using hl) (fun i g hg=>hx (i+1) g (by simpa using hg)) (fun i g z hg hz=>hw (i+1) g z (by simpa using hg) (by simpa using hz)) (by omega)
    refine⟨(y1,y2),⟨_,_, ?_,r1,r2⟩,b1,b2⟩
    rw[f2,f3, ←List.drop_drop,List.take_append_drop]
 |st f ih=>
  refine⟨fun t fuel cs x hf h hw=> ?_,fun fs off n cs xs hf=>by simp[By] at hf⟩
  simp only[lays] at hf
  split at hf
  ·rename_i fs hu
   simp only[Bool.and_eq_true,decide_eq_true_eq] at hf
   obtain⟨xs,n,_,rfl,hl,hlen,hx⟩:=DataW.trod_struct hu h
   obtain⟨y,h1,h2⟩:=ih.2 fs.toList 0 n cs xs hf.1 (by simpa using hlen) (fun i g hg=>hx i g (by simpa using hg)) (fun i g x hg hxi m hm=>hw m (by
    simp only[DataW.weights,hu]
    exact DataW.weights_mem_each (j:=i) (t:=g.type) (d:=x.1) (by rw[List.getElem?_map,hg];rfl) (by rw[List.getElem?_map,hxi];rfl) m hm)) (by rw[hl,hf.2];omega)
   rw[List.drop_zero] at h1
   exact⟨y,h1,h2⟩
  ·cases hf
 |ref h=>exact⟨fun t fuel cs x hf=>by simp[lays] at hf,fun fs off n cs xs hf=>by simp[By] at hf⟩
 |ptr h=>exact⟨fun t fuel cs x hf=>by simp[lays] at hf,fun fs off n cs xs hf=>by simp[By] at hf⟩
 |pW h=>exact⟨fun t fuel cs x hf=>by simp[lays] at hf,fun fs off n cs xs hf=>by simp[By] at hf⟩
 |mp h=>exact⟨fun t fuel cs x hf=>by simp[lays] at hf,fun fs off n cs xs hf=>by simp[By] at hf⟩
 |fn=>exact⟨fun t fuel cs x hf=>by simp[lays] at hf,fun fs off n cs xs hf=>by simp[By] at hf⟩
theorem als {ty:Ty}{t:TypeId}{v:Value}{d:DataW H}{ps:List MemPlace}(hf:lays P ty t=true)(h:DataW.Trod enc P W 0 (fun _=>true) true t v d ps){ts:List TypeId}{ds:List (DataW H)}(hw:(DataW.weightsEach P ts ds).all (· ≤reachBytes)=true){j:Nat}(ht:ts[j]? =some t)(hd:ds[j]? =some d):
  ∃y:ty.den,Rel (wv W) ty y v.cells.toList∧Bnd ty y:=by
 obtain⟨fuel,h⟩:=h
 refine(aeq ty).1 t fuel _ _ hf h fun n hn=> ?_
 have:=List.all_eq_true.1 hw n (DataW.weights_mem_each ht hd n hn)
 exact of_decide_eq_true this
theorem alu {f:Ty}{x:(Ty.st f).den}{l:Array Value}(h:Rel (wv W) (.st f) x l.toList):wL (wv W) (.st f) x (.agg l):=⟨l.toList,by simp,h⟩
end
end Go.Abs
