/- YtcopbdamkjladaaXc: a part of the proof (AbsC2, AbsC3, AbsC4 ..). No condition. -/
import Derived.Test.YtcopbdamkjladaaXb
import Derived.RangeFuncNested
import Derived.SliceStrings
import Derived.SizedLaws
set_option linter.unusedVariables false
set_option linter.unusedSimpArgs false
set_option maxRecDepth 100000
set_option exponentiation.threshold 2000
namespace Go.Abs
open Go.RowKit Go.Lib
def Post {R:Type}(E:Env)(σ:AS)(k:Ex→AS→Option R)(r:R):Exit→Act→World→Prop
 | .normal,a,w=>∃af,k .normal af=some r∧Fr σ af∧To E af a w
 | .exit id,a,w=>∃af,k (.exit id) af=some r∧Fr σ af∧To E af a w
 | .ret,a,w=>∃af,k .ret af=some r∧Fr σ af∧To E af a w
 |_,_,_=>False
theorem Dt {p:Nat→Prop}(h:∃m,p m):∃m,p m∧∀k,p k→m≤k:=by
 obtain⟨m,hm⟩:=h;induction m using Nat.strongRecOn with
 |_ m ih=>
  by_cases hk:∃k,k<m∧p k
  ·obtain⟨k,h1,h2⟩:=hk;exact ih k h1 h2
  ·exact⟨m,hm,fun k hk'=>Nat.le_of_not_lt fun hlt=>hk ⟨k,hlt,hk'⟩⟩
open Classical in
noncomputable def least (p:Nat→Prop):Nat:=if h:∃m,p m then (Dt h).choose else 0
theorem Il {p:Nat→Prop}(h:∃m,p m):p (least p)∧∀k,p k→least p≤k:=by unfold least;rw[dif_pos h];exact(Dt h).choose_spec
section
variable {P:Program}{T:cm}{E:Env}{σ cV jr yU:AS}{a:Act}{w w':World}{ν aK:Nm→Value}{O:Nat→Prop}{Φ:bE T}{F:Fence}{nn:Nat}
theorem Sz {c:Code}{Q:Exit→Act→World→Prop}(J:Nat→Act→World→Prop){m:Nat}(h0:J m a w)
  (round:∀m a w,J m a w→c.wpIn F nn P (Exit.then (fun a' w'=>∃m',m'<m∧J m' a' w') Q) a w):(Code.loop c).wpIn F nn P Q a w:=by
 refine wpIn_loop (fun a w=>∃m,J m a w) (fun a w=>least fun m=>J m a w) ⟨m,h0⟩ (fun a w hI=> ?_);obtain⟨h1,h2⟩:=Il hI;refine wpIn_mono (round _ a w h1) (fun e a' w' he=> ?_);cases e with
 |normal=>obtain⟨m',h3,h4⟩:=he;exact⟨⟨m',h4⟩,Nat.lt_of_le_of_lt ((Il ⟨m',h4⟩).2 m' h4) h3⟩
 |_=>exact he
theorem mR {P:Program}{b:Frame}{a:Act}{k:List Item}{cs:List Frame}{w:World}{c:Code}:step P (lone (b.atR a (.code (.scope c)::k)) cs w)= .next (lone (b.atR a (.code c:: .inScope c::k)) cs w):=
 step_lone_go (by simp[stepG,stepG.exec,Frame.atR])
theorem Im {P:Program}{b:Frame}{a:Act}{k:List Item}{cs:List Frame}{w:World}{c:Code}:step P (lone (b.atR a (.inScope c::k)) cs w)= .next (lone (b.atR a k) cs w):=
 step_lone_go (by simp[stepG,stepG.exec,Frame.atR])
theorem PH {F:Fence}{n:Nat}{P:Program}{Q:Exit→Act→World→Prop}{a:Act}{w:World}{c:Code}(h:c.wpIn F n P Q a w)(hg:∀l a w,¬Q (.goto l) a w):(Code.scope c).wpIn F n P Q a w:=by
 intro b k cs hro hb hr;have h0:(lone (b.atR a (.code (.scope c)::k)) cs w).fenced P F:=fenced_calm hb hr rfl;obtain⟨e,a₁,w₁,hq,GC⟩:=h b (.inScope c::k) cs hro hb hr;cases e with
 |normal=>exact⟨.normal,a₁,w₁,hq, .head h0 mR (StepsIn.trans GC (.one (fenced_calm hb hr rfl) Im))⟩
 |exit id=>
  have hx:exitTo id (.inScope c::k)=exitTo id k:=by simp[exitTo]
  exact⟨_,a₁,w₁,hq,fun k' hk=> .head h0 mR (GC.1 k' (by rw[hx];exact hk)),
   fun hr' hk=>let ⟨k₁,h1,h2⟩:=GC.2 hr' (by rw[hx];exact hk);⟨k₁,h1, .head h0 mR h2⟩⟩
 |goto l=>exact absurd hq (hg _ _ _)
 |ret=>exact⟨_,a₁,w₁,hq, .of_steps (.one h0 mR) GC⟩
 |panic ch=>exact⟨_,a₁,w₁,hq, .of_steps (.one h0 mR) GC⟩
 |outgrown=>exact⟨_,a₁,w₁,hq, .of_steps (.one h0 mR) GC⟩
def Sound (P:Program)(T:cm)(Φ:bE T)(n:Nat)(c:Code):Prop:=∀{R:Type} {r:R} (E:Env) (_:Ctx P T Φ E) (_:ri E) (rr:Option Nat) (hs:List (List (Nat×Bool))) (σ:AS) (k:Ex→AS→Option R) (a:Act) (w:World) (ν:Nm→Value) (O:Nat→Prop),
 aJ T Φ n c hs σ k=some r→St E σ a w ν O→(rr.isSome=true→σ.cd≠ [])→(∀e af,k e af=some r→Fr σ af→E.acc af.trace)→c.wpIn (FW rr) 0 P (Post E σ k r) a w
theorem Post.Uw {R:Type}{r:R}{k:Ex→AS→Option R}(hf:Fr σ cV){e:Exit}{a:Act}{w:World}(h:Post E cV k r e a w):Post E σ k r e a w:=by
 cases e with
 |normal=>obtain⟨af,h1,h2,h3⟩:=h;exact⟨af,h1,hf.trans h2,h3⟩
 |exit i=>obtain⟨af,h1,h2,h3⟩:=h;exact⟨af,h1,hf.trans h2,h3⟩
 |ret=>obtain⟨af,h1,h2,h3⟩:=h;exact⟨af,h1,hf.trans h2,h3⟩
 |_=>exact h
theorem Io {n:Nat}(hm:P.follows .mixedOrders=true)(hR:∀f ps x y,Sound P T Φ n x→Sound P T Φ n y→Sound P T Φ n (.rangeFunc f ps x y)):∀(c:Code),Sound P T Φ n c:=by
 intro c;induction c with
 |skip=>intro R r E C hD rr hs σ k a w ν O he h JD hk;exact wpIn_skip ⟨σ,he,Fr.refl _,ν,O,h⟩
 |region id ops draw=>intro R r E C hD rr hs σ k a w ν O he h JD hk;exact LF C hD hm h he (fun af h1 h2=>hk _ _ h1 h2) (fun af a' w' h1 h2 h3=>⟨af,h1,h2,h3⟩)
 |seq x y Bb yR=>
  intro R r E C hD rr hs σ k a w ν O he h JD hk;simp only[aJ] at he;refine wpIn_seq (wpIn_mono (Bb E C hD rr _ _ _ a w ν O he h JD (fun e af h1 h2=> ?_)) (fun e a' w' hp=> ?_))
  ·cases e with
   |normal=>obtain⟨e',PG,h3,h4⟩:=Ik _ _ _ _ h1;exact hD _ _ h4.tr (hk _ _ h3 (h2.trans h4))
   |exit i=>exact hk _ _ h1 h2
   |ret=>exact hk _ _ h1 h2
  ·cases e with
   |normal=>obtain⟨af,h1,h2,aK,O',h3⟩:=hp;refine wpIn_mono (yR E C hD rr _ _ _ a' w' aK O' h1 h3 (fun h4=>by rw[h2.cd];exact JD h4) (fun e PG h4 h5=>hk _ _ h4 (h2.trans h5))) (fun e a2 w2 hp=>hp.Uw h2)
   |exit id=>exact hp
   |ret=>exact hp
   |_=>exact hp.elim
 |cond x y z yR Yf=>
  intro R r E C hD rr hs σ k a w ν O he h JD hk;simp only[aJ] at he;split at he
  ·rename_i t;split at he
   ·rename_i b hb;have hx:a.eval (.tmp t)= .bool b:=by have:=h.av C.ES.1 (.tmp t);simp only[AS.av,dW.av] at this;rw[hb] at this;exact C9 this rfl
    have main:∀b:Bool,nth σ.tmps t= .rv (.cv ⟨.bool,b⟩)→(bif b then aJ T Φ n y hs (σ.Ci t true) k else aJ T Φ n z (hs.drop (loops y)) (σ.Ci t false) k)=some r→
      (if b then y else z).wpIn (FW rr) 0 P (Post E σ k r) a w:=fun b hb he=>by
     cases b
     ·rw[LD hb] at he;exact Yf E C hD rr _ _ _ a w ν O he h JD hk
     ·rw[LD hb] at he;exact yR E C hD rr _ _ _ a w ν O he h JD hk
    exact wpIn_cond hx (main b hb he)
   ·cases he
  ·rename_i b;refine wpIn_cond (t:=b) rfl ?_;cases b
   ·exact Yf E C hD rr _ _ _ a w ν O he h JD hk
   ·exact yR E C hD rr _ _ _ a w ν O he h JD hk
  ·cases he
 |block id c ih=>
  intro R r E C hD rr hs σ k a w ν O he h JD hk;simp only[aJ] at he;refine wpIn_block (wpIn_mono (ih E C hD rr _ _ _ a w ν O he h JD (fun e af h1 h2=> ?_)) (fun e a' w' hp=> ?_))
  ·cases e with
   |normal=>exact hk _ _ h1 h2
   |exit i=>
    cases hb:Nat.beq i id with
    |true=>simp only[hb,cond_true] at h1;exact hk _ _ h1 h2
    |false=>simp only[hb,cond_false] at h1;exact hk _ _ h1 h2
   |ret=>exact hk _ _ h1 h2
  ·cases e with
   |normal=>exact hp
   |exit i=>
    obtain⟨af,h1,h2⟩:=hp;simp only[Exit.inBlock];cases hb:Nat.beq i id with
    |true=>have:=(beq_iff _ _).1 hb;subst this;simp only[hb,cond_true] at h1;rw[if_pos rfl];exact⟨af,h1,h2⟩
    |false=>have:=nv.1 hb;simp only[hb,cond_false] at h1;rw[if_neg this];exact⟨af,h1,h2⟩
   |ret=>exact hp
   |_=>exact hp.elim
 |loop c ih=>
  intro R r E C hD rr hs σ k a w ν O he h JD hk;simp only[aJ] at he;split at he
  ·rename_i hd hs';refine Sz (fun m a w=>∃cV,iL hd (fun σ k'=>aJ T Φ n c hs' σ k') k m cV=some r∧Fr σ cV∧To E cV a w) ⟨_,he,jQ hd σ,ν,O,h.forget C.env hd⟩ (fun m a w hJ=> ?_);obtain⟨cV,h1,hf,ν,O,h2⟩:=hJ;cases m with
   |zero=>cases h1
   |succ m=>
    simp only[iL] at h1;refine wpIn_mono (ih E C hD rr _ _ _ a w ν O h1 h2 (fun h4=>by rw[hf.cd];exact JD h4) (fun e af h3 h4=> ?_)) (fun e a' w' hp=> ?_)
    ·cases e with
     |normal=>
      obtain⟨e2,VY,h8,h9⟩:=AY (I:=Fr af) (fun af h=>h.trans (jQ hd af)) (fun af k' hi hb=>by
       obtain⟨e,PG,h1,h2⟩:=Ik _ _ _ _ hb;exact⟨e,PG,h1,hi.trans h2⟩) m _ (jQ hd af) h3
      exact hD _ _ h9.tr (hk _ _ h8 ((hf.trans h4).trans h9))
     |exit i=>exact hk _ _ h3 (hf.trans h4)
     |ret=>exact hk _ _ h3 (hf.trans h4)
    ·cases e with
     |normal=>obtain⟨af,h3,h4,aK,O',h5⟩:=hp;exact⟨m,Nat.lt_succ_self m,_,h3,(hf.trans h4).trans (jQ hd _),aK,O',h5.forget C.env hd⟩
     |exit i=>exact hp.Uw hf
     |ret=>exact hp.Uw hf
     |_=>exact hp.elim
  ·cases he
 |rangeFunc f ps x y Bb yR=>exact hR f ps x y Bb yR
 |scope c ih=>intro R r E C hD rr hs σ k a w ν O he h JD hk;exact PH (ih E C hD rr _ _ _ a w ν O he h JD hk) fun l a w q=>q
 |label l=>intro R r E C hD rr hs σ k a w ν O he h JD hk;exact wpIn_label ⟨σ,he,Fr.refl _,ν,O,h⟩
 |exit i=>intro R r E C hD rr hs σ k a w ν O he h JD hk;exact wpIn_exit ⟨σ,he,Fr.refl _,ν,O,h⟩
 |ret=>intro R r E C hD rr hs σ k a w ν O he h JD hk;exact wpIn_ret ⟨σ,he,Fr.refl _,ν,O,h⟩
 |_=>intros;intro R r E C hD rr hs σ k a w ν O he h JD hk;cases he
end
section
variable {P:Program}{T:cm}{E:Env}{σ cV jr yU af:AS}{a a':Act}{w w':World}{ν aK:Nm→Value}{O O':Nat→Prop}{Φ:bE T}
theorem St.EZ (h:St E σ a w ν O){m:Nm}{k:Nat}(hm:Own σ ν m k):∃cur e,w.heap[k]? =some (.cells cur e (0,0)):=by
 obtain⟨o,ho⟩:=Option.isSome_iff_exists.1 hm.1;have bP:=h.sQ m o ho;have fS:=hm.2;cases o with
 |row row=>
  obtain⟨bl,⟨_,h5⟩,_⟩:=bP;rcases h5 with ⟨h5,_⟩ | ⟨g,cap,cur,h5,_,h6,_⟩
  ·rw[h5] at fS;cases fS
  ·rw[h5] at fS;simp only[cr,Option.some.injEq] at fS;subst fS;exact⟨_,_,h6⟩
 |box x=>
  obtain⟨g,h5,h6⟩:=bP;rw[h5] at fS;simp only[cr,Option.some.injEq] at fS;subst fS;cases x with
  |cells cs=>obtain⟨cur,e,h7,_⟩:=h6;exact⟨_,_,h7⟩
  |own q=>obtain⟨e,h7,_⟩:=h6;exact⟨_,_,h7⟩
  |nil=>obtain⟨u,e,h7⟩:=h6;exact⟨_,_,h7⟩
 |hp k row=>
  match k,bP with
  |0,⟨_,bl,⟨_,h5⟩,_⟩=>
   rcases h5 with ⟨h5,_⟩ | ⟨g,cap,cur,h5,_,h6,_⟩
   ·rw[h5] at fS;cases fS
   ·rw[h5] at fS;simp only[cr,Option.some.injEq] at fS;subst fS;exact⟨_,_,h6⟩
  |1,⟨g,cur,ys,x,h5,h6,_⟩=>rw[h5] at fS;simp only[cr,Option.some.injEq] at fS;subst fS;exact⟨_,_,h6⟩
theorem St.Wq (hE:aB E)(hJ:E.J=ib)(h:St E σ a w ν O){C:Nat→Prop}(hg:dp C w w')(hC:∀k,C k→O k∧(E.CB k∨E.base.heap.size≤k))(hO:∀k,O k→O' k)(Ws:∀k,O' k→O k∨(w.heap.size≤k∧k<w'.heap.size)):
  St E σ a w' ν O':=by
 have hV:∀key u,view E σ ν O w key u→view E σ ν O' w' key u:=fun key u hu=>ta hg (HSub.refl _ _) (fun k h1 h2 h3 h4=>⟨h3,fun h5=>by
  rcases Ws k h5 with h6 |h6
  ·exact h4 h6
  ·omega,fun h5=>h4 (hC k h5).1⟩) hu
 have fS:∀r o,w.heap[r]? =some o→¬O r→w'.heap[r]? =some o∧¬O' r:=fun r o h1 h2=>by
  have hlt:=(Array.getElem?_eq_some_iff.1 h1).1;refine⟨by rw[hg.block r hlt (fun hc=>h2 (hC r hc).1)];exact h1,fun h3=> ?_⟩;rcases Ws r h3 with h4 |h4
  ·exact h2 h4
  ·omega
 have oS:σ.trace=⟨.unit,()⟩:=by have:=h.out.1;rw[hJ] at this;exact this
 refine⟨h.keep.trans hg (fun k hk hc=>(h.out.2 k (hC k hc).1).2 hk),fun d hd=> ?_,h.slots.mono (al.mono hV (Sub.refl _ _)),fun m o ho=> ?_,h.inj,fun m k hm=> ?_,h.new,⟨?_,fun k hk=> ?_⟩,h.nn,h.ro,h.kept,fun r hr=> ?_,h.o6.trans hg (fun k hk hc=> ?_),h.pU,fun k hk=>hO k (h.C5 k hk),h.nd⟩
 ·obtain⟨r,h1,h2,h3,h4⟩:=h.marks d hd;obtain⟨h5,h6⟩:=fS r _ h3 h4;exact⟨r,h1,h2,h5,h6⟩
 ·exact(h.sQ m o ho).mono hV (fun k hk=>hg.block k (h.oW m k ⟨aZ ho,hk⟩).2.1 (fun hc=>(h.oW m k ⟨aZ ho,hk⟩).2.2 (hC k hc).1)) (fun r _ hr=>⟨rfl,hr⟩)
 ·obtain⟨h1,h2,h3⟩:=h.oW m k hm;refine⟨h1,Nat.lt_of_lt_of_le h2 hg.size,fun h4=> ?_⟩;rcases Ws k h4 with h5 |h5
  ·exact h3 h5
  ·omega
 ·rw[hJ];exact oS
 ·rcases Ws k hk with h5 |h5
  ·exact⟨Nat.lt_of_lt_of_le (h.out.2 k h5).1 hg.size,(h.out.2 k h5).2⟩
  ·exact⟨h5.2,fun h6=>by have:=h.keep.size;omega⟩
 ·obtain⟨h1,h2⟩:=h.waits r hr;exact fS r _ h1 h2
 ·rcases (hC k hc).2 with h1 |h1
  ·exact h1
  ·omega
theorem St.frame (h:St E σ a w ν O):St E σ ⟨a.tmps,[]⟩ w ν O:=
 ⟨h.keep,(fun d hd=>by cases hd),h.slots,h.sQ,h.inj,h.oW,h.new,h.out,h.nn,h.ro,h.kept,h.waits,h.o6,h.pU,h.C5,List.nodup_nil⟩
def Env.qF (E:Env)(σ:AS)(ν:Nm→Value)(O:Nat→Prop)(w:World):Env:={E with base:=w,CB:=fun k=>∃m,Own σ ν m k∧¬E.pQ m,Om:=O}
theorem aB.qF (hE:aB E):aB (E.qF σ ν O w):=⟨hE.cell,hE.stay⟩
theorem St.qF (h:St E σ a w ν O):St (E.qF σ ν O w) σ a w ν O:=
 ⟨h.keep,h.marks,h.slots,h.sQ,h.inj,h.oW,h.new,h.out,h.nn,h.ro,h.kept,h.waits,dp.refl _ _,fun m k hm=>by
   by_cases hr:E.pQ m
   ·exact .inl hr
   ·exact .inr (.inl ⟨m,hm,hr⟩),fun k hk=>hk,h.nd⟩
theorem St.Ux (h:St E σ a w ν O)(g:St (E.qF σ ν O w) af a' w' aK O'):
  St E af a' w' aK O'∧dp (fun k=>∃m,Own σ ν m k∧¬E.pQ m) w w'∧(∀k,O k→O' k)∧∀m k,Own af aK m k→E.pQ m∨(∃m',Own σ ν m' k∧¬E.pQ m')∨w.heap.size≤k:=by
 have Wm:dp (fun k=>∃m,Own σ ν m k∧¬E.pQ m) w w':=g.o6;refine⟨⟨g.keep,g.marks,g.slots,g.sQ,g.inj,g.oW,g.new,g.out,g.nn,g.ro,g.kept,g.waits,h.o6.trans Wm (fun k hk ⟨m,hm,hr⟩=> ?_),fun m k hm=> ?_,fun k hk=>g.C5 k (h.C5 k hk),g.nd⟩,Wm,g.C5,g.pU⟩
 ·rcases h.pU m k hm with h1 |h1 |h1
  ·exact absurd h1 hr
  ·exact h1
  ·omega
 ·rcases g.pU m k hm with h1 | ⟨m',h1,h2⟩ |h1
  ·exact .inl h1
  ·rcases h.pU m' k h1 with h3 |h3
   ·exact absurd h3 h2
   ·exact .inr h3
  ·exact .inr (.inr (Nat.le_trans h.o6.size h1))
end
def PI:(s:za)→Ce s→CV
 | ⟨_,_,_,_,some ts⟩,y=>⟨.slice (gR ts),y⟩
 |_,_=>⟨.unit,()⟩
def Du (T:cm)(v:Nat)(yh:pP T v):CV:=PI (T.sig v) (oX _ yh)
def n9 (T:cm)(v:Nat)(xh:wj T v):AS:=⟨⟨0,[],[]⟩,[],c9 (T.sig v).args (oX _ xh) 0,aU T v xh,uO (T.sig v),[],[]⟩
def Hd (V:View)(ν:Nm→Value)(Y:Value)(i:Nat):(p:jM)→p.den→Value→Prop
 | .bx t,x,v=>v=ν (.box i)
 | .Gw,_,v=>v=Y
 |p,x,v=>ArgRel V p x v
def FR (V:View)(ν:Nm→Value)(Y:Value):Nat→(ps:List jM)→xB ps→List Value→Prop
 |_,[],_,vs=>vs=[]
 |i,[p],x,vs=>∃v,vs=[v]∧Hd V ν Y i p x v
 |i,p::q::ps,x,vs=>∃v r,vs=v::r∧Hd V ν Y i p x.1 v∧FR V ν Y (i+1) (q::ps) x.2 r
def Q2 (P:Program)(T:cm)(Φ:bE T):Prop:=∀v xh yh,Φ v xh=some yh→(T.sig v).gen.isSome=true→(∃fn,P.funcs[T.real v]? =some fn∧fn.body.isSome=true∧(fn.name== "runtime.NumGoroutine")=false)∧
 ∀(E:Env) (ν:Nm→Value) (args:Array Value) (O:Nat→Prop),aB E→zu T E→xU P E→ri E→(∀O w,¬E.J ⟨.unit,()⟩ O w)→E.acc (Du T v yh)→St E (n9 T v xh) ⟨#[],[]⟩ E.w0 ν O→
  FR (view E (n9 T v xh) ν O E.w0) ν E.Y 0 (T.sig v).args (oX _ xh) args.toList→Calls P (T.real v) args E.w0 fun e w'=>∃r O',e= .returned r∧E.J (Du T v yh) O' w'
section
variable {P:Program}{T:cm}{E:Env}{σ cV jr yU af:AS}{a a':Act}{w w':World}{ν aK:Nm→Value}{O O':Nat→Prop}{Φ:bE T}{V V':View}
theorem BJ {boxes:List (Nat×BX)}:∀{ps:List jM} {aP:List yy} {x:xB ps} (i:Nat),aD boxes ps aP=some x→
  (∀c∈aP,∃b,c= .box b)∧ps.length=aP.length∧∀(j:Nat) bx,look (c9 ps x i) j=some bx→∃b t y,i≤j∧(bf aP)[j - i]? =some b∧bx= .cells (flat t y)∧jM.bx t∈ps∧look boxes b=some (.cells (flat t y))
 | [],[],x,i,h=>⟨fun c hc=>by simp at hc,rfl,fun j bx hj=>by simp[c9,look] at hj⟩
 | [.bx t],[.box b],x,i,h=>by
   simp only[aD] at h;split at h
   ·rename_i cs hb;have:=lU h;subst this;refine⟨fun c hc=>⟨b,by simpa using hc⟩,rfl,fun j bx hj=> ?_⟩;simp only[c9,c9.one,look] at hj;cases hij:Nat.beq i j with
    |true=>have:=(beq_iff _ _).1 hij;subst this;rw[hij] at hj;simp only[cond_true,Option.some.injEq] at hj;exact⟨b,t,x,Nat.le_refl _,by simp[bf],hj.symm,by simp,hb⟩
    |false=>rw[hij] at hj;cases hj
   ·cases h
 | .bx t::q::ps, .box b::cs,x,i,h=>by
   simp only[aD] at h;split at h
   ·rename_i l hb;split at h
    ·rename_i x1 hx1;split at h
     ·rename_i y hy;simp only[Option.some.injEq] at h;subst h;have:=lU hx1;subst this;obtain⟨h1,h2,h3⟩:=BJ (ps:=q::ps) (i+1) hy;refine⟨fun c hc=> ?_,by simp[h2],fun j bx hj=> ?_⟩
      ·rcases List.mem_cons.1 hc with e |hc
       ·exact⟨b,e⟩
       ·exact h1 c hc
      ·simp only[c9,c9.one,List.cons_append,List.nil_append,look] at hj;cases hij:Nat.beq i j with
       |true=>have:=(beq_iff _ _).1 hij;subst this;rw[hij] at hj;simp only[cond_true,Option.some.injEq] at hj;exact⟨b,t,x1,Nat.le_refl _,by simp[bf],hj.symm,by simp,hb⟩
       |false=>
        rw[hij] at hj;simp only[cond_false] at hj;obtain⟨b',t',y',h4,h5,h6,h7,h8⟩:=h3 j bx hj;refine⟨b',t',y',by omega, ?_,h6,List.mem_cons_of_mem _ h7,h8⟩;have e:j - i=(j - (i+1))+1:=by omega
        rw[e];simpa [bf] using h5
     ·cases h
    ·cases h
   ·cases h
 | [.v _],_,_,_,h=>by simp[aD] at h
 | [.fn _ _],_,_,_,h=>by simp[aD] at h
 | [.c _],_,_,_,h=>by simp[aD] at h
 | [.rp _],_,_,_,h=>by simp[aD] at h
 | [.Gw],_,_,_,h=>by simp[aD] at h
 | [.bx _],[],_,_,h=>by simp[aD] at h
 | [.bx _],[.pO _],_,_,h=>by simp[aD] at h
 | [.bx _], .box _::_::_,_,_,h=>by simp[aD] at h
 | [.bx _], .pO _::_::_,_,_,h=>by simp[aD] at h
 | .v _::_::_,_,_,_,h=>by simp[aD] at h
 | .fn _ _::_::_,_,_,_,h=>by simp[aD] at h
 | .c _::_::_,_,_,_,h=>by simp[aD] at h
 | .rp _::_::_,_,_,_,h=>by simp[aD] at h
 | .Gw::_::_,_,_,_,h=>by simp[aD] at h
 | .bx _::_::_,[],_,_,h=>by simp[aD] at h
 | .bx _::_::_, .pO _::_,_,_,h=>by simp[aD] at h
 | [],_::_,_,_,h=>by simp[aD] at h
end
section
variable {P:Program}{T:cm}{E:Env}{σ cV jr yU af:AS}{a a':Act}{w w':World}{ν aK:Nm→Value}{O O':Nat→Prop}{Φ:bE T}{V V':View}
theorem St.WH (hE:aB E)(hJ:E.J=ib)(h:St E σ a w ν O)(d:Nat):St E (σ.dr d) a w ν (fun k=>O k∨Own σ ν (.box d) k):=by
 have hne:∀k,k≠d→look (σ.dr d).boxes k=look σ.boxes k:=fun k hk=>by rw[kv,if_neg (Ne.symm hk)]
 have hd:look (σ.dr d).boxes d=none:=by rw[kv,if_pos rfl]
 have R2:∀m o,(σ.dr d).obj m=some o→σ.obj m=some o∧m≠ .box d:=fun m o ho=>by
  cases m with
  |row r=>exact⟨ho,fun e=>by cases e⟩
  |box b=>
   by_cases e:b=d
   ·subst e;simp only[AS.obj,hd] at ho;cases ho
   ·simp only[AS.obj,hne b e] at ho ⊢;exact⟨ho,fun e'=>e (by injection e')⟩
  |hp i n=>exact⟨ho,fun e=>by cases e⟩
 have hown:∀m k,Own (σ.dr d) ν m k→Own σ ν m k∧m≠ .box d:=fun m k ⟨h1,h2⟩=>by obtain⟨o,ho⟩:=Option.isSome_iff_exists.1 h1;obtain⟨h3,h4⟩:=R2 m o ho;exact⟨⟨aZ h3,h2⟩,h4⟩
 have hV:∀key u,view E σ ν O w key u→view E (σ.dr d) ν (fun k=>O k∨Own σ ν (.box d) k) w key u:=fun key u hu=>ta (σ:=σ) (af:=σ.dr d) (dp.refl (fun _=>False) w) (HSub.of_eq rfl (fun _ _=>rfl)) (fun k h1 h2 h3 h4=>⟨fun⟨m,hm⟩=>h3 ⟨m,(hown m k hm).1⟩,fun h5=>by
  rcases h5 with h5 |h5
  ·exact h4 h5
  ·exact h3 ⟨_,h5⟩,fun h5=>h5⟩) hu
 have hcell:∀r ds,w.heap[r]? =some (.deferred ds)→¬Own σ ν (.box d) r:=fun r ds h1 h2=>by obtain⟨cur,e,h3⟩:=h.EZ h2;rw[h3] at h1;cases h1
 have oS:σ.trace=⟨.unit,()⟩:=by have:=h.out.1;rw[hJ] at this;exact this
 refine⟨h.keep,fun d' Xt=> ?_,AM (fun x v hx=> ?_) h.slots,fun m o ho=> ?_,fun m m' k h1 h2=>h.inj m m' k (hown _ _ h1).1 (hown _ _ h2).1,fun m k hm=> ?_,fun r k hk=>h.new r k (hown _ _ hk).1,⟨?_,fun k hk=> ?_⟩,h.nn,h.ro,h.kept,fun r hr=> ?_,h.o6,fun m k hm=>h.pU m k (hown _ _ hm).1,fun k hk=> .inl (h.C5 k hk),h.nd⟩
 ·obtain⟨r,h1,h2,h3,h4⟩:=h.marks d' Xt;exact⟨r,h1,h2,h3,fun h5=>h5.elim h4 (hcell r _ h3)⟩
 ·unfold AV.dr;cases hk:x.iK d with
  |true=>trivial
  |false=>exact al.keep (σ:=σ) (af:=σ.dr d) hV (HSub.of_eq rfl (fun _ _=>rfl)) x v (fun _ _ row hrow=>⟨rfl,row,hrow,rfl⟩) (fun b hb hs=>⟨rfl,by rw[hne b (fun e=>by rw[e,hk] at hb;cases hb)];exact hs⟩) hx
 ·exact(h.sQ m o (R2 m o ho).1).mono hV (fun k hk=>rfl) (fun r _ hr=>⟨rfl,hr⟩)
 ·obtain⟨h1,h2⟩:=hown m k hm;obtain⟨h3,h4,h5⟩:=h.oW m k h1;exact⟨h3,h4,fun h6=>h6.elim h5 (fun h7=>h2 (h.inj _ _ k h1 h7))⟩
 ·show E.J σ.trace _ w;rw[hJ];exact oS
 ·rcases hk with h5 |h5
  ·exact h.out.2 k h5
  ·obtain⟨h3,h4,_⟩:=h.oW _ k h5;refine⟨h4,fun h6=> ?_⟩;rcases h3 with h3 |h3 |h3
   ·omega
   ·exact h3
   ·exact absurd h3 Ck
 ·obtain⟨h1,h2⟩:=h.waits r hr;exact⟨h1,fun h5=>h5.elim h2 (hcell r _ h1)⟩
theorem St.Uy (hE:aB E)(hJ:E.J=ib):∀(bs:List Nat) (σ:AS) (O:Nat→Prop),St E σ a w ν O→∃O',St E (σ.gS bs) a w ν O'∧(∀k,O k→O' k)∧(∀b∈bs,∀k,Own σ ν (.box b) k→O' k)∧∀k,O' k→O k∨∃b∈bs,Own σ ν (.box b) k
 | [],σ,O,h=>⟨O,h,fun _ h=>h,fun b hb=>by simp at hb,fun _ h=> .inl h⟩
 |d::bs,σ,O,h=>by
  obtain⟨O',h1,h2,h3,h4⟩:=St.Uy hE hJ bs _ _ (h.WH hE hJ d);have hown:∀b k,b≠d→Own σ ν (.box b) k→Own (σ.dr d) ν (.box b) k:=fun b k hb ⟨e1,e2⟩=>⟨by simp only[AS.obj,kv,if_neg (Ne.symm hb)];exact e1,e2⟩
  have aao:∀b k,Own (σ.dr d) ν (.box b) k→Own σ ν (.box b) k:=fun b k ⟨e1,e2⟩=>⟨by
   simp only[AS.obj,kv,Option.isSome_map] at e1 ⊢;split at e1
   ·cases e1
   ·exact e1,e2⟩
  refine⟨O',h1,fun k hk=>h2 k (.inl hk),fun b hb k hk=> ?_,fun k hk=> ?_⟩
  ·by_cases e:b=d
   ·subst e;exact h2 k (.inr hk)
   ·exact h3 b ((List.mem_cons.1 hb).resolve_left e) k (hown b k e hk)
  ·rcases h4 k hk with (h5 |h5) | ⟨b,hb,h5⟩
   ·exact .inl h5
   ·exact .inr ⟨d,by simp,h5⟩
   ·exact .inr ⟨b,by simp[hb],aao b k h5⟩
end
section
variable {P:Program}{T:cm}{E:Env}{σ cV jr yU af:AS}{a a':Act}{w w':World}{ν aK:Nm→Value}{O O':Nat→Prop}{Φ:bE T}{V V':View}
theorem FT {α:Type}:∀{l m:List (Nat×α)} {i:Nat} {x:α},look (l++m) i=some x→look l i=some x∨look m i=some x
 | [],m,i,x,h=> .inr h
 | (k,u)::l,m,i,x,h=>by
   simp only[List.cons_append,look] at h ⊢;cases hb:Nat.beq k i with
   |true=>rw[hb] at h;exact .inl h
   |false=>rw[hb] at h;exact FT h
theorem Ip {α:Type}(c:Nat):∀{l:List (Nat×α)} {i:Nat} {x:α},look (l.map fun p=>(p.1+c,p.2)) i=some x→∃t,i=t+c∧look l t=some x
 | [],i,x,h=>by cases h
 | (k,u)::l,i,x,h=>by
   simp only[List.map_cons,look] at h;cases hb:Nat.beq (k+c) i with
   |true=>have:=(beq_iff _ _).1 hb;subst this;rw[hb] at h;exact⟨k,rfl,by simp only[look,beq_refl];exact h⟩
   |false=>rw[hb] at h;obtain⟨t,h1,h2⟩:=Ip c (l:=l) h;refine⟨t,h1, ?_⟩;simp only[look];rw[jt (fun e=>(nv.1 hb) (by rw[e,h1]))];exact h2
theorem Dv {α:Type}(c:Nat):∀{l:List (Nat×α)} {i:Nat} {x:α},(∀p∈l,c≤p.1)→look (l.map fun p=>(p.1 - c,p.2)) i=some x→look l (i+c)=some x
 | [],i,x,_,h=>by cases h
 | (k,u)::l,i,x,hc,h=>by
   have hk:=hc (k,u) (by simp);simp only at hk;simp only[List.map_cons,look] at h ⊢;by_cases e:k=i+c
   ·subst e;have:i+c - c=i:=by omega
    rw[this,beq_refl] at h;rw[beq_refl];exact h
   ·rw[jt (fun e'=>e (by omega))] at h;rw[jt e];exact Dv c (fun p hp=>hc p (by simp[hp])) h
def Env.fV (E:Env)(a:Act)(mk:Nat):Env:={E with XS:=fun i=>if i<1000000000 then a.tmps.toList.getD (i - 10000) undef else E.XS i,M:=fun r=>E.M r∨r=mk∨(⟨.collected r, #[]⟩:Deferred)∈a.defers}
theorem NR {a:Act}{mk i t:Nat}(h:i<1000000000)(ht:i - 10000=t):(E.fV a mk).XS i=a.tmps.toList.getD t undef:=by subst ht;exact if_pos h
theorem Iq {a:Act}{mk i:Nat}(h:1000000000≤i):(E.fV a mk).XS i=E.XS i:=if_neg (Nat.not_lt.2 h)
theorem aB.fV (hE:aB E)(a:Act)(mk:Nat):aB (E.fV a mk):=⟨hE.cell,hE.stay⟩
theorem zu.fV (hG:zu T E)(a:Act)(mk:Nat):zu T (E.fV a mk):=by refine⟨fun g=> ?_,hG.2⟩;rw[Iq (by unfold gk;omega)];exact hG.1 g
theorem St.saved (h:St E σ a w ν O)(hok:qs σ=true){mk:Nat}(hmk:w.heap[mk]? =some (.deferred (some []))∧¬O mk)(g:VP):St (E.fV a mk) ({σ with cd:=[g]}:AS).save ⟨a.tmps,[]⟩ w ν O:=by
 simp only[qs,Bool.and_eq_true,List.all_eq_true] at hok;have G9:∀x v,al (view E σ ν O w) σ ν E.Y x v→al (view E σ ν O w) ({σ with cd:=[g]}:AS).save ν E.Y x v:=fun x v hx=>
  al.mono (σ:=σ) (af:=({σ with cd:=[g]}:AS).save) (fun _ _ h=>h) ⟨HSub.of_eq rfl (fun _ _=>rfl),fun r row hr=>⟨rfl,row,hr,rfl⟩,fun b hb=>⟨rfl,hb⟩⟩ x v hx
 refine⟨h.keep,(fun d hd=>by cases hd),⟨h.slots.1,fun i x hx=>G9 _ _ (h.slots.2.1 i x hx),fun i x hx=> ?_⟩,fun m o ho=> ?_, ?_, ?_, ?_,h.out,h.nn,h.ro,h.kept,fun r hr=> ?_,h.o6, ?_,h.C5,List.nodup_nil⟩
 ·have hx':look ((σ.tmps.l.map fun p=>(p.1+10000*1,p.2))++σ.tmps.s) i=some x:=hx;rcases FT hx' with h1 |h1
  ·obtain⟨t,rfl,h2⟩:=Ip (10000*1) h1;have h3:=hok.1 _ (tn h2);rw[nU] at h3;have h4:(E.fV a mk).XS (t+10000*1)=a.tmps.toList.getD t undef:=NR (by simp only at h3;omega) (by omega);rw[h4];exact G9 _ _ (h.slots.2.1 t x h2)
  ·have h3:=hok.2 _ (tn h1);rw[Nat.ble_eq] at h3;have h4:(E.fV a mk).XS i=E.XS i:=Iq h3;rw[h4];exact G9 _ _ (h.slots.2.2 i x h1)
 ·have ho':σ.obj m=some o:=by cases m<;>exact ho
  exact(h.sQ m o ho').mono (fun _ _ h=>h) (fun _ _=>rfl) (fun r _ hr=>⟨rfl,hr⟩)
 ·intro m m' k h1 h2;exact h.inj m m' k (by cases m<;>exact h1) (by cases m'<;>exact h2)
 ·intro m k hm;exact h.oW m k (by cases m<;>exact hm)
 ·intro m k hk;exact h.new m k (by cases m<;>exact hk)
 ·rcases hr with h1 |rfl |h1
  ·exact h.waits r h1
  ·exact hmk
  ·obtain⟨r',h2,h3,h4,h5⟩:=h.marks _ h1;injection h2 with h2
   injection h2 with h2
   subst h2;exact⟨h4,h5⟩
 ·intro m k hm;exact h.pU m k (by cases m<;>exact hm)
theorem St.WI {mk:Nat}(h:St (E.fV a mk) σ ⟨a.tmps,[]⟩ w ν O)(hks:∀i x,look σ.tj.tmps.s i=some x→1000000000≤i)(hmk:E.w0.heap.size≤mk)(hdf:∀d∈a.defers,∃r,d=⟨.collected r, #[]⟩∧E.w0.heap.size≤r)(hnd:([{target:= .collected mk,args:= #[]}]++a.defers:List Deferred).Nodup):
  St E ({σ.tj with cd:=σ.cd.tail}:AS) ⟨a.tmps,[{target:= .collected mk,args:= #[]}]++a.defers⟩ w ν O:=by
 have G9:∀x v,al (view E σ ν O w) σ ν E.Y x v→al (view E σ ν O w) ({σ.tj with cd:=σ.cd.tail}:AS) ν E.Y x v:=fun x v hx=>
  al.mono (σ:=σ) (af:=({σ.tj with cd:=σ.cd.tail}:AS)) (fun _ _ h=>h) ⟨HSub.of_eq rfl (fun _ _=>rfl),fun r row hr=>⟨rfl,row,hr,rfl⟩,fun b hb=>⟨rfl,hb⟩⟩ x v hx
 refine⟨h.keep,fun d hd=> ?_,⟨h.slots.1,fun i x hx=>G9 _ _ (h.slots.2.1 i x hx),fun i x hx=> ?_⟩,fun m o ho=> ?_, ?_, ?_, ?_,h.out,h.nn,h.ro,h.kept,fun r hr=>h.waits r (.inl hr),h.o6, ?_,h.C5,hnd⟩
 ·rcases List.mem_append.1 hd with h1 |h1
  ·simp only[List.mem_singleton] at h1;subst h1;obtain⟨h2,h3⟩:=h.waits mk (.inr (.inl rfl));exact⟨mk,rfl,hmk,h2,h3⟩
  ·obtain⟨r,rfl,h2⟩:=hdf d h1;obtain⟨h3,h4⟩:=h.waits r (.inr (.inr h1));exact⟨r,rfl,h2,h3,h4⟩
 ·have hx':look σ.tj.tmps.s i=some x:=hx;have h1:=hks i x hx';have h2:look σ.tmps.s i=some x:=by
   unfold AS.tj at hx';rw[rC σ.tmps.s (fun k=> !(iu σ.cd.length k)) i] at hx';split at hx'
   ·exact hx'
   ·cases hx'
  have h3:=h.slots.2.2 i x h2;have h4:(E.fV a mk).XS i=E.XS i:=Iq h1;rw[h4] at h3;exact G9 _ _ h3
 ·have ho':σ.obj m=some o:=by cases m<;>exact ho
  exact(h.sQ m o ho').mono (fun _ _ h=>h) (fun _ _=>rfl) (fun r _ hr=>⟨rfl,hr⟩)
 ·intro m m' k h1 h2;exact h.inj m m' k (by cases m<;>exact h1) (by cases m'<;>exact h2)
 ·intro m k hm;exact h.oW m k (by cases m<;>exact hm)
 ·intro m k hk;exact h.new m k (by cases m<;>exact hk)
 ·intro m k hm;exact h.pU m k (by cases m<;>exact hm)
theorem St.YA {E':Env}{a0:Act}{mk:Nat}(hXS:E'.XS=(E.fV a0 mk).XS)(hn:a0.tmps.size=σ.tmps.n)(hr:∃g,σ.cd=[g])(h:St E' σ a w ν O):St E' σ.back ⟨a0.tmps,[]⟩ w ν O:=by
 have G9:∀x v,al (view E' σ ν O w) σ ν E'.Y x v→al (view E' σ ν O w) σ.back ν E'.Y x v:=fun x v hx=>
  al.mono (σ:=σ) (af:=σ.back) (fun _ _ h=>h) ⟨HSub.of_eq rfl (fun _ _=>rfl),fun r row hr=>⟨rfl,row,hr,rfl⟩,fun b hb=>⟨rfl,hb⟩⟩ x v hx
 obtain⟨g,hg⟩:=hr;refine⟨h.keep,(fun d hd=>by cases hd),⟨(show σ.tmps.n=a0.tmps.toList.length by simpa using hn.symm),fun i x hx=> ?_,fun i x hx=>G9 _ _ (h.slots.2.2 i x hx)⟩,fun m o ho=> ?_, ?_, ?_, ?_,h.out,h.nn,h.ro,h.kept,h.waits,h.o6, ?_,h.C5,List.nodup_nil⟩
 ·have hx':look ((σ.tmps.s.filter fun p=>iu σ.cd.length p.1).map fun p=>(p.1 - 10000*σ.cd.length,p.2)) i=some x:=hx;rw[hg] at hx';have h1:=Dv (10000*1) (fun p hp=>by
   have:=(List.mem_filter.1 hp).2;simp only[iu,Bool.and_eq_true,Nat.ble_eq] at this;exact this.1) hx'
  rw[rC σ.tmps.s (fun k=>iu [g].length k) (i+10000*1)] at h1;split at h1
  ·rename_i hd;have h2:=h.slots.2.2 _ x h1;simp only[iu,Bool.and_eq_true,nU,List.length_singleton] at hd;have h4:E'.XS (i+10000*1)=a0.tmps.toList.getD i undef:=by rw[hXS];exact NR (by omega) (by omega)
   rw[h4] at h2;exact G9 _ _ h2
  ·cases h1
 ·have ho':σ.obj m=some o:=by cases m<;>exact ho
  exact(h.sQ m o ho').mono (fun _ _ h=>h) (fun _ _=>rfl) (fun r _ hr=>⟨rfl,hr⟩)
 ·intro m m' k h1 h2;exact h.inj m m' k (by cases m<;>exact h1) (by cases m'<;>exact h2)
 ·intro m k hm;exact h.oW m k (by cases m<;>exact hm)
 ·intro m k hk;exact h.new m k (by cases m<;>exact hk)
 ·intro m k hm;exact h.pU m k (by cases m<;>exact hm)
end
structure Q3 (T:cm) (Φ:bE T) (R:Type) where
 E:Env
 a:Act
 mb:Nat
 l:Nat
 pa:Loop
 ts:List Ty
 ys:List (gR ts).den
 Eo:AS
 hd:List (Nat×Bool)
 RB:AS→(Ex→AS→Option R)→Option R
 k:Ex→AS→Option R
 r:R
 w2:World
 Xg:Nat→Prop
 Bx:Nat→Prop
section
variable {P:Program}{T:cm}{Φ:bE T}{R:Type}
def Q3.len (D:Q3 T Φ R)(k:Nat):Prop:=D.Bx k∨D.w2.heap.size≤k
structure aap (D:Q3 T Φ R) (xs rest:List (gR D.ts).den) (Og:Nat→Prop) (w:World) (cV:AS) (Tp:Nm→Value) (Oc:Nat→Prop) (m:Nat):Prop where
 ys:D.ys=xs++rest
 cd:cV.cd=[⟨D.ts,rest⟩]
 loop:iL D.hd D.RB (eJ D.k) m cV=some D.r
 fr:VW D.Eo cV
 st:St (D.E.fV D.a D.mb) cV ⟨D.a.tmps,[]⟩ w Tp Oc
 NS:w.heap[D.l]? =some (Go.Obj.loop D.pa)
 ol:Og D.l
 cl:Oc D.l
 own:∀m k,Own cV Tp m k→¬D.E.pQ m→Og k
 cover:∀k,k<w.heap.size→(D.w2.heap.size≤k∨D.Xg k)→Og k∨(Oc k∧D.len k)
 size:D.w2.heap.size≤w.heap.size
 ogl:∀k,Og k→k<w.heap.size
def JG (D:Q3 T Φ R):CV→(Nat→Prop)→World→Prop:=fun tr Og w=>∃xs rest cV Tp Oc m,tr=⟨.slice (gR D.ts),xs⟩∧aap D xs rest Og w cV Tp Oc m
theorem JG.stay {D:Q3 T Φ R}(hE:aB D.E)(hJ:D.E.J=ib)(hlen:∀k,D.len k→D.E.CB k∨D.E.base.heap.size≤k){tr:CV}{Og:Nat→Prop}{w w':World}{C:Nat→Prop}(h:JG D tr Og w)(hg:dp C w w')
  (hC:∀k,C k→¬Og k∧(k<D.w2.heap.size→D.Xg k)):JG D tr Og w':=by
 obtain⟨xs,rest,cV,Tp,Oc,m,rfl,j⟩:=h;have hCl:∀k,k<w.heap.size→C k→Oc k∧D.len k:=fun k hk hc=>by
  obtain⟨h1,h2⟩:=hC k hc;by_cases h3:D.w2.heap.size≤k
  ·exact(j.cover k hk (.inl h3)).resolve_left h1
  ·exact(j.cover k hk (.inr (h2 (by omega)))).resolve_left h1
 have hg':dp (fun k=>Oc k∧D.len k) w w':=hg.mono hCl;refine⟨xs,rest,cV,Tp,fun k=>Oc k∨(w.heap.size≤k∧k<w'.heap.size),m,rfl,j.ys,j.cd,j.loop,j.fr, ?_, ?_,j.ol, .inl j.cl,j.own,fun k hk hx=> ?_,Nat.le_trans j.size hg.size,fun k hk=>Nat.lt_of_lt_of_le (j.ogl k hk) hg.size⟩
 ·exact j.st.Wq (hE.fV D.a D.mb) hJ hg' (fun k hk=>⟨hk.1,hlen k hk.2⟩) (fun k hk=> .inl hk) (fun k hk=>hk)
 ·rw[hg.block D.l (Array.getElem?_eq_some_iff.1 j.NS).1 (fun hc=>(hC _ hc).1 j.ol)];exact j.NS
 ·by_cases hlt:k<w.heap.size
  ·exact(j.cover k hlt hx).imp id (fun h=>⟨.inl h.1,h.2⟩)
  ·exact .inr ⟨.inr ⟨by omega,hk⟩, .inr (Nat.le_trans j.size (by omega))⟩
end
section
variable {V:View}{σ:AS}{ν:Nm→Value}{Y:Value}
theorem A0 {t:Ty}{x:t.den}{v:Value}(h:qA V t x v):al V σ ν Y (TF t x) v:=by
 cases t with
 |st t=>obtain⟨cs,h1,h2⟩:=h;exact⟨cs,h1,fM h2⟩
 |_=>exact h
theorem KD {X:Nat→Value}:∀{ps:List Tmp} {ts:List Ty} {s s':dW} {x:(gR ts).den} {vs ys:List Value},yB s ps ts x=some s'→yT (al V σ ν Y) s ys X→JC V (gR ts) x vs→
  vs.length=ps.length∧yT (al V σ ν Y) s' ((ps.zip vs).foldl (fun l p=>l.set p.1 p.2) ys) X
 | [],[],s,s',x,vs,ys,h,hs,hy=>by simp only[yB,Option.some.injEq] at h;subst h;have:vs=[]:=hy;subst this;exact⟨rfl,hs⟩
 |p::ps,t::ts,s,s',x,vs,ys,h,hs,hy=>by simp only[yB] at h;obtain⟨v,r,rfl,h1,h2⟩:=hy;obtain⟨h3,h4⟩:=KD h (MR hs (A0 h1)) h2;exact⟨by simp[h3],by simpa using h4⟩
 | [],_::_,_,_,_,_,_,h,_,_=>by simp[yB] at h
 |_::_,[],_,_,_,_,_,h,_,_=>by simp[yB] at h
theorem SA (tmps:Array Value)(ps:Array Tmp)(vs:Array Value):((ps.zip vs).foldl (fun tmps (p:Tmp×Value)=>tmps.setIfInBounds p.1 p.2) tmps).toList=(ps.toList.zip vs.toList).foldl (fun l p=>l.set p.1 p.2) tmps.toList:=by
 rw[←Array.foldl_toList,Array.toList_zip];generalize ps.toList.zip vs.toList=l;induction l generalizing tmps with
 |nil=>rfl
 |cons p l ih=>simp only[List.foldl_cons];rw[ih];simp
end
section
variable {P:Program}{T:cm}{Φ:bE T}{R:Type}{E:Env}{σ af:AS}{a a':Act}{w w':World}{ν aK:Nm→Value}{O O':Nat→Prop}
theorem Ctx.fV (C:Ctx P T Φ E)(hJ:E.J=ib)(a:Act)(mb:Nat):Ctx P T Φ (E.fV a mb):=
 ⟨C.env.fV a mb,C.ES.fV a mb,C.Zu,C.hps,C.eqs,C.sigs,C.Gx,C.fns,C.num,vE hJ,fun _ _ _=>hJ⟩
theorem Ctx.qF (C:Ctx P T Φ E)(hJ:E.J=ib):Ctx P T Φ (E.qF σ ν O w):=
 ⟨C.env.qF,C.ES,C.Zu,C.hps,C.eqs,C.sigs,C.Gx,C.fns,C.num,vE hJ,fun _ _ _=>hJ⟩
theorem Cr {t:CV}(h:kS ⟨.unit,()⟩ t):t=⟨.unit,()⟩:=by
 rcases h with h | ⟨t',xs,ys,e,_⟩
 ·exact h
 ·injection e with e;cases e
theorem St.LH (hE:aB E)(hJ:E.J=ib)(h:St E σ a w ν O){l:Nat}{r:Loop}(hl:w.heap[l]? =some (.loop r))(hO:O l)(hc:E.CB l∨E.base.heap.size≤l)(r':Loop):St E σ a (w.putObj l (.loop r')) ν O∧(w.putObj l (.loop r')).heap[l]? =some (.loop r')∧(w.putObj l (.loop r')).heap.size=w.heap.size:=by
 have hlt:=(Array.getElem?_eq_some_iff.1 hl).1;have hsz:(w.putObj l (.loop r')).heap.size=w.heap.size:=by simp[World.putObj]
 refine⟨h.Wq hE hJ (C:=fun k=>k=l) ⟨rfl,rfl,rfl,by rw[hsz];exact Nat.le_refl _,fun k hk hn=> ?_⟩ (fun k e=>by subst e;exact⟨hO,hc⟩) (fun k hk=>hk) (fun k hk=> .inl hk), ?_,hsz⟩
 ·simp only[World.putObj];rw[Array.getElem?_setIfInBounds_ne (fun e=>hn e.symm)]
 ·simp only[World.putObj];rw[Array.getElem?_setIfInBounds_self_of_lt hlt]
end
section
variable {P:Program}{T:cm}{Φ:bE T}{R:Type}
theorem zA {w:World}{l:Nat}{o:Go.Obj}:dp (fun k=>k=l) w (w.putObj l o):=
 ⟨rfl,rfl,rfl,by simp[World.putObj],fun k hk hn=>by
  simp only[World.putObj];rw[Array.getElem?_setIfInBounds_ne (fun e=>hn e.symm)]⟩
structure Sh (σ af:AS):Prop where
 rows:∀r,(look af.rows r).isSome=true→(look σ.rows r).isSome=true
 boxes:∀r,(look af.boxes r).isSome=true→(look σ.boxes r).isSome=true
 ab:af.ab=σ.ab
theorem Sh.refl (σ:AS):Sh σ σ:=⟨fun _ h=>h,fun _ h=>h,rfl⟩
theorem Sh.trans {a b c:AS}(h:Sh a b)(g:Sh b c):Sh a c:=⟨fun r hr=>h.rows r (g.rows r hr),fun r hr=>h.boxes r (g.boxes r hr),g.ab.trans h.ab⟩
theorem Sh.own {σ af:AS}{ν:Nm→Value}{m:Nm}{k:Nat}(h:Sh σ af)(hm:Own af ν m k):Own σ ν m k:=by
 refine⟨?_,hm.2⟩;have h1:=hm.1;cases m with
 |row r=>simp only[AS.obj,Option.isSome_map] at h1 ⊢;exact h.rows r h1
 |box r=>simp only[AS.obj,Option.isSome_map] at h1 ⊢;exact h.boxes r h1
 |hp i n=>simp only[AS.obj,h.ab] at h1 ⊢;exact h1
theorem YB {σ:AS}(x:Operand):Sh σ (σ.OZ x):=by
 unfold AS.OZ;split
 ·refine⟨fun k hk=> ?_,fun k hk=>by rw[Df] at hk;exact hk,by unfold AS.freeze;split<;>rfl⟩;rw[uS] at hk;split at hk
  ·cases hk
  ·exact hk
 ·exact Sh.refl _
theorem Ir:∀(hs:List (Nat×Bool)) (σ:AS),Sh σ (σ.share hs)
 | [],σ=>Sh.refl _
 | (j,true)::h,σ=>(YB _).trans (Ir h _)
 | (j,false)::h,σ=>Ir h σ
theorem sV {α:Type}:∀{l:List (Nat×α)} {p:Nat×α→Bool} {i:Nat},(look (l.filter p) i).isSome=true→(look l i).isSome=true
 | [],p,i,h=>by cases h
 | (k,u)::l,p,i,h=>by
   simp only[look];cases hb:Nat.beq k i with
   |true=>rfl
   |false=>
    simp only[List.filter_cons] at h;split at h
    ·simp only[look,hb,cond_false] at h;exact sV h
    ·exact sV h
theorem KE (hs:List (Nat×Bool))(σ:AS):Sh σ (σ.forget hs):=by refine(Ir hs σ).trans ?_;unfold AS.forget;exact⟨fun r hr=>sV hr,fun r hr=>sV hr,rfl⟩
theorem JG.round {D:Q3 T Φ R}{n:Nat}{Gy body:Code}{ps:Array Tmp}{fn:FuncId}{FC Jo:List (List (Nat×Bool))}(YC:D.RB=fQ ps.toList (fun σ k'=>aJ T Φ n Gy FC σ k') (fun σ k'=>aJ T Φ n body Jo σ k'))
  (LI:D.pa={state:= .ready,pending:=none,fn,tmps:=D.a.tmps,params:=ps,assign:=Gy,body,defers:=D.mb}) (C:Ctx P T Φ D.E) (hD:ri D.E) (hJ:D.E.J=ib) (hacc:D.E.acc ⟨.unit,()⟩) (hlen:∀k,D.len k→D.E.CB k∨D.E.base.heap.size≤k)
  (Sx:Sound P T Φ n Gy) (Sy:Sound P T Φ n body) (hn:D.a.tmps.size=D.Eo.tmps.n) {xs rest:List (gR D.ts).den} {x:(gR D.ts).den} {Og Oc:Nat→Prop} {w:World} {cV:AS} {Tp:Nm→Value} {m:Nat} (j:aap D xs (x::rest) Og w cV Tp Oc m) (hlB:D.len D.l)
  {vs:List Value} (hv:∀V,JC V (gR D.ts) x vs) (rr:Option Nat):
  ∃tmps,(Instr.yield D.l vs.toArray).run P w= .ok (.round D.l fn tmps Gy body) w∧RoundIn (FW rr) 0 P D.l fn tmps Gy body w fun e w'=>e= .returned (.bool true)∧∃O',JG D ⟨.slice (gR D.ts),xs++[x]⟩ O' w'∧dp Og w w'∧(∀k,Og k→O' k)∧∀k,O' k→Og k∨(w.heap.size≤k∧k<w'.heap.size):=by
 have hl:=j.loop;cases m with
 |zero=>cases hl
 |succ m=>
  simp only[iL] at hl;rw[YC] at hl;unfold fQ at hl;rw[j.cd] at hl;dsimp only at hl;split at hl
  ·rename_i s hs;have YD:cV.trace=⟨.unit,()⟩:=by have:=j.st.out.1;rw[show (D.E.fV D.a D.mb).J=ib from hJ] at this;exact this
   obtain⟨h1,h2⟩:=KD hs j.st.slots (hv _);have hsz:vs.toArray.size=D.pa.params.size:=by rw[LI];simpa using h1
   have hy:=run_yield (P:=P) j.NS hsz;rw[LI] at hy;refine⟨_,hy, ?_⟩
   -- zw assignments
   have YE:St (D.E.fV D.a D.mb) {cV with tmps:=s,cd:=[⟨D.ts,rest⟩]} ⟨(ps.zip vs.toArray).foldl (fun tmps (t,a)=>tmps.setIfInBounds t a) D.a.tmps,[]⟩ w Tp Oc:=by refine j.st.O9 (af:={cV with tmps:=s,cd:=[⟨D.ts,rest⟩]}) (a':=⟨(ps.zip vs.toArray).foldl (fun tmps (t,a)=>tmps.setIfInBounds t a) D.a.tmps,[]⟩) ⟨rfl,rfl,rfl,rfl⟩ rfl ?_;rw[show ((ps.zip vs.toArray).foldl (fun tmps (t,a)=>tmps.setIfInBounds t a) D.a.tmps).toList=_ from SA D.a.tmps ps vs.toArray];exact h2
   have hk1:∀e af,(match e with
     |Ex.normal=>aJ T Φ n body Jo af fun e jr=>match e with
      | .normal=>iL D.hd D.RB (eJ D.k) m (jr.back.forget D.hd)
      |_=>none
     |_=>none)=some D.r→Fr {cV with tmps:=s,cd:=[⟨D.ts,rest⟩]} af→D.E.acc af.trace:=fun e af _ hf=>by
    have:=hf.tr;rw[show ({cV with tmps:=s,cd:=[⟨D.ts,rest⟩]}:AS).trace=cV.trace from rfl,YD] at this;rw[Cr this];exact hacc
   have hDr:∀(σ:AS) (ν:Nm→Value) (O:Nat→Prop) (w:World),ri ((D.E.fV D.a D.mb).qF σ ν O w):=fun _ _ _ _=>hD;have hCr:∀(σ:AS) (ν:Nm→Value) (O:Nat→Prop) (w:World),Ctx P T Φ ((D.E.fV D.a D.mb).qF σ ν O w):=fun _ _ _ _=>(C.fV hJ D.a D.mb).qF hJ;have RY:∀m,(D.E.fV D.a D.mb).pQ m↔D.E.pQ m:=fun m=>Iff.rfl;refine roundIn_of_wpIn trivial ?_;refine wpIn_mono (Sx _ (hCr _ _ _ _) (hDr _ _ _ _) (some D.l) FC _ _ _ w _ _ hl YE.qF (fun _=>by simp) (fun e af h3 h4=> ?_)) (fun e a1 w1 hp=> ?_)
   ·have:=h4.tr;rw[show ({cV with tmps:=s,cd:=[⟨D.ts,rest⟩]}:AS).trace=cV.trace from rfl,YD] at this;show D.E.acc af.trace;rw[Cr this];exact hacc
   ·cases e with
    |normal=>
     obtain⟨jr,h3,h4,ν2,O2,h5⟩:=hp;dsimp only at h3;obtain⟨u1,u2,u3,u4⟩:=YE.Ux h5;have hnl:∀{σ:AS} {ν:Nm→Value} {O:Nat→Prop} {a:Act} {w:World} {r:Loop},St (D.E.fV D.a D.mb) σ a w ν O→w.heap[D.l]? =some (Go.Obj.loop r)→¬∃m,Own σ ν m D.l∧¬(D.E.fV D.a D.mb).pQ m:=fun hst hr ⟨m,hm,_⟩=>by obtain⟨cur,e,hc⟩:=hst.EZ hm;rw[hc] at hr;cases hr
     have EA:w1.heap[D.l]? =some (Go.Obj.loop D.pa):=by rw[u2.block D.l (Array.getElem?_eq_some_iff.1 j.NS).1 (hnl YE j.NS)];exact j.NS
     have acu:D.pa.state= .ready:=by rw[LI]
     have hOl:O2 D.l:=u3 _ j.cl;obtain⟨p1,p2,p3⟩:=St.LH (E:=D.E.fV D.a D.mb) (C.env.fV D.a D.mb) hJ u1 EA hOl (hlen _ hlB) {D.pa with state:= .busy};refine⟨_,run_beginRound EA acu, ?_⟩;refine wpIn_mono (Sy _ (hCr _ _ _ _) (hDr _ _ _ _) (some D.l) Jo _ _ _ _ _ _ h3 p1.qF (fun _=>by rw[h4.cd];simp) (fun e af h6 h7=> ?_)) (fun e a2 w2 fm=> ?_)
     ·have:=(h4.trans h7).tr;rw[show ({cV with tmps:=s,cd:=[⟨D.ts,rest⟩]}:AS).trace=cV.trace from rfl,YD] at this;show D.E.acc af.trace;rw[Cr this];exact hacc
     ·cases e with
      |normal=>
       obtain⟨VY,h6,h7,ν3,O3,h8⟩:=fm;dsimp only at h6;obtain⟨v1,v2,v3,v4⟩:=p1.Ux h8;have yD:w2.heap[D.l]? =some (Go.Obj.loop {D.pa with state:= .busy}):=by rw[v2.block D.l (Array.getElem?_eq_some_iff.1 p2).1 (hnl p1 p2)];exact p2
       obtain⟨q1,q2,q3⟩:=St.LH (E:=D.E.fV D.a D.mb) (C.env.fV D.a D.mb) hJ v1 yD (v3 _ hOl) (hlen _ hlB) {({D.pa with state:= .busy}:Loop) with state:=if (none:Option Code).isNone then .ready else .done,pending:=none};refine⟨_,_,run_endRound none yD,rfl, ?_⟩;have g1:dp Og w w1:=u2.mono (fun k _ ⟨m,hm,hr⟩=>j.own m k (by cases m<;>exact hm) hr);have g2:=g1.trans (zA (w:=w1) (l:=D.l) (o:= .loop {D.pa with state:= .busy})) (fun i _ e=>by rw[e];exact j.ol);have g3:dp Og w w2:=g2.trans v2 (fun i hi ⟨m,hm,hr⟩=>by
        rcases u4 m i hm with h9 | ⟨m',h9,QK⟩ |h9
        ·exact absurd h9 hr
        ·exact j.own m' i (by cases m'<;>exact h9) QK
        ·omega)
       have g4:=g3.trans (zA (w:=w2) (l:=D.l) (o:= .loop {({D.pa with state:= .busy}:Loop) with state:=if (none:Option Code).isNone then .ready else .done,pending:=none})) (fun i _ e=>by rw[e];exact j.ol);have Kd:Fr {cV with tmps:=s,cd:=[⟨D.ts,rest⟩]} VY:=h4.trans h7;have Zq:St (D.E.fV D.a D.mb) VY.back ⟨D.a.tmps,[]⟩ _ ν3 O3:=St.YA (E:=D.E) rfl (by rw[hn, ←j.fr.s];exact(Kd.s.trans (AZ hs).1).symm) ⟨_,Kd.cd⟩ q1;have WJ:=Zq.forget (C.env.fV D.a D.mb) D.hd;have hfx:VW D.Eo VY.back:=⟨⟨_,Kd.cd⟩,Kd.sites.trans j.fr.sites,(Kd.s.trans (AZ hs).1).trans j.fr.s,j.fr.tr.trans Kd.tr,by
        show ∃ls:List Nat,VY.tmps.s.map (·.1)=_∧_;rw[Kd.ks];show ∃ls:List Nat,s.s.map (·.1)=_∧_;rw[(AZ hs).2];exact j.fr.ks⟩
       have aar:({({D.pa with state:= .busy}:Loop) with state:=if (none:Option Code).isNone then .ready else .done,pending:=none}:Loop)=D.pa:=by rw[LI];rfl
       refine⟨fun k=>Og k∨(w.heap.size≤k∧k<_),⟨xs++[x],rest,VY.back.forget D.hd,ν3,O3,m,rfl, ?_⟩,g4,fun k hk=> .inl hk,fun k hk=>hk⟩;refine⟨by rw[j.ys];simp,by rw[(jQ D.hd VY.back).cd];exact Kd.cd,by rw[YC];exact h6,hfx.fr (jQ _ _),WJ,by rw[←aar];exact q2, .inl j.ol,v3 _ hOl,fun m' k hm hr=> ?_,fun k hk hx=> ?_,Nat.le_trans j.size g4.size,fun k hk=> ?_⟩
       ·rcases (WJ.oW m' k hm) with ⟨_,QK,_⟩;by_cases hk:w.heap.size≤k
        ·exact .inr ⟨hk,QK⟩
        ·left;have o3:Own VY ν3 m' k:=by have:=(KE D.hd VY.back).own hm;cases m'<;>exact this
         rcases v4 m' k o3 with VS | ⟨m2,VS,h12⟩ |VS
         ·exact absurd VS hr
         ·rcases u4 m2 k VS with h13 | ⟨m3,h13,h14⟩ |h13
          ·exact absurd h13 h12
          ·exact j.own m3 k (by cases m3<;>exact h13) h14
          ·omega
         ·have:=g2.size;omega
       ·by_cases hlt:k<w.heap.size
        ·exact(j.cover k hlt hx).imp .inl (fun h=>⟨v3 _ (u3 _ h.1),h.2⟩)
        ·exact .inl (.inr ⟨by omega,hk⟩)
       ·rcases hk with hk |hk
        ·exact Nat.lt_of_lt_of_le (j.ogl k hk) g4.size
        ·exact hk.2
      |_=>first |exact fm.elim | (obtain⟨VY,h6,_⟩:=fm;cases h6)
    |_=>first |exact hp.elim | (obtain⟨jr,h3,_⟩:=hp;cases h3)
  ·cases hl
end
section
variable {P:Program}{T:cm}{Φ:bE T}{R:Type}
def Q3.NT (D:Q3 T Φ R)(V0:View)(h0:List bh):Env where
 V0:=V0
 w0:=D.w2
 X:=D.Xg
 J:=JG D
 XS:=D.E.XS
 Y:= .func (.yield D.l) #[] #[]
 ro:=fun _=>none
 h0:=h0
 n0:=fun _ _=> .nilFunc
 M:=fun _=>False
 base:=D.w2
 CB:=D.Xg
 Om:=fun _=>False
 acc:=fun tr=>kS tr ⟨.slice (gR D.ts),D.ys⟩
 XH:=fun _ _=>False
theorem SB (D:Q3 T Φ R)(V0:View)(h0:List bh):ri (D.NT V0 h0):=fun tr tr' h1 h2=>h1.trans h2
theorem NU {D:Q3 T Φ R}{V0:View}{h0:List bh}{n:Nat}{Gy body:Code}{ps:Array Tmp}{fn:FuncId}{FC Jo:List (List (Nat×Bool))}(YC:D.RB=fQ ps.toList (fun σ k'=>aJ T Φ n Gy FC σ k') (fun σ k'=>aJ T Φ n body Jo σ k'))
  (LI:D.pa={state:= .ready,pending:=none,fn,tmps:=D.a.tmps,params:=ps,assign:=Gy,body,defers:=D.mb}) (C:Ctx P T Φ D.E) (hD:ri D.E) (hJ:D.E.J=ib) (hacc:D.E.acc ⟨.unit,()⟩) (hlen:∀k,D.len k→D.E.CB k∨D.E.base.heap.size≤k)
  (Sx:Sound P T Φ n Gy) (Sy:Sound P T Φ n body) (hn:D.a.tmps.size=D.Eo.tmps.n) (hlB:D.len D.l):xU P (D.NT V0 h0):=by
 intro rr t xs x vs O w hJG hac hv;refine⟨⟨rfl,fun k hk=>hk⟩, ?_⟩;obtain⟨xs',rest,cV,Tp,Oc,m,e,j⟩:=hJG;injection e with e1 e2
 injection e1 with e1
 subst e1;simp only[heq_eq_eq] at e2;subst e2;have HJ:∃more,rest=x::more:=by
  have acx:kS ⟨.slice (gR D.ts),xs++[x]⟩ ⟨.slice (gR D.ts),D.ys⟩:=hac;have hys:=j.ys;rcases acx with h1 | ⟨t',ys1,ys2,h1,h2⟩
  ·injection h1 with _ h1
   try simp only[heq_eq_eq] at h1
   rw[h1] at hys;exact⟨[],(List.append_cancel_left hys).symm⟩
  ·injection h1 with h3 h4
   injection h3 with h3
   subst h3;simp only[heq_eq_eq] at h4;subst h4;injection h2 with _ h2
   try simp only[heq_eq_eq] at h2
   rw[h2,List.append_assoc] at hys;exact⟨ys2,(List.append_cancel_left hys).symm⟩
 obtain⟨more,rfl⟩:=HJ;obtain⟨tmps,h1,h2⟩:=JG.round YC LI C hD hJ hacc hlen Sx Sy hn j hlB hv rr;exact⟨D.l,fn,tmps,Gy,body,rfl,h1,h2⟩
end
section
variable {P:Program}{T:cm}{Φ:bE T}{R:Type}{E:Env}{σ af:AS}{a a':Act}{w w':World}{ν aK:Nm→Value}{O O':Nat→Prop}
theorem Is:∀(bs:List Nat) (σ:AS),Sh σ (σ.gS bs)∧∀b∈bs,look (σ.gS bs).boxes b=none
 | [],σ=>⟨Sh.refl _,fun b hb=>by simp at hb⟩
 |d::bs,σ=>by
  obtain⟨h1,h2⟩:=Is bs (σ.dr d);have h0:Sh σ (σ.dr d):=⟨fun r hr=>hr,fun r hr=>by
   rw[kv] at hr;split at hr
   ·cases hr
   ·exact hr,rfl⟩
  refine⟨h0.trans h1,fun b hb=> ?_⟩;rcases List.mem_cons.1 hb with rfl |hb
  ·cases hl:look (((σ.dr b).gS bs).boxes) b with
   |none=>exact hl
   |some x=>have:=h1.boxes b (by rw[hl];rfl);rw[kv,if_pos rfl] at this;cases this
  ·exact h2 b hb
def dk (w:World)(r:Loop):World:=(w.alloc (.deferred (some []))).alloc (.loop r)
theorem nL (w:World)(r:Loop):Below w.heap.size w (dk w r)∧(dk w r).heap.size=w.heap.size+2∧(dk w r).heap[w.heap.size]? =some (Go.Obj.deferred (some []))∧(dk w r).heap[w.heap.size+1]? =some (Go.Obj.loop r):=by
 have h1:=heap_alloc_new w (.deferred (some []));have h2:=heap_alloc_new (w.alloc (.deferred (some []))) (.loop r);have hs:(w.alloc (.deferred (some []))).heap.size=w.heap.size+1:=by simp
 refine⟨⟨rfl,rfl,rfl,by unfold dk;simp;omega,fun k hk=> ?_⟩,by unfold dk;simp, ?_, ?_⟩
 ·unfold dk;rw[heap_alloc_old (w.alloc (.deferred (some []))) _ (r:=k) (by rw[hs];omega),heap_alloc_old w _ (r:=k) hk]
 ·unfold dk;rw[heap_alloc_old (w.alloc (.deferred (some []))) _ (by rw[hs];omega)];exact h1
 ·unfold dk;rw[hs] at h2;exact h2
end
section
variable {P:Program}{T:cm}{Φ:bE T}{R:Type}{E:Env}{σ af:AS}{a a':Act}{w w':World}{ν aK:Nm→Value}{O O':Nat→Prop}
def xW (σ:AS)(ν:Nm→Value)(bs:List Nat)(k:Nat):Prop:=∃b∈bs,Own σ ν (.box b) k
theorem NV (hE:aB E)(hJ:E.J=ib)(h:St E σ a w ν O)(bs:List Nat)(hd:List (Nat×Bool))(hok:qs ((σ.gS bs).forget hd)=true)(g:VP)(r:Loop):
  ∃Oc,St (E.fV a w.heap.size) ({((σ.gS bs).forget hd) with cd:=[g]}:AS).save ⟨a.tmps,[]⟩ (dk w r) ν Oc∧(∀k,O k→Oc k)∧(∀k,xW σ ν bs k→Oc k)∧Oc (w.heap.size+1)∧∀k,Oc k→O k∨xW σ ν bs k∨k=w.heap.size+1:=by
 obtain⟨O1,s1,h1,h2,h3⟩:=h.Uy hE hJ bs;obtain⟨e1,e2,e3,e4⟩:=nL w r;have hO1:∀k,O1 k→k<w.heap.size:=fun k hk=>(s1.out.2 k hk).1;have s4:St E ((σ.gS bs).forget hd) a (dk w r) ν (fun k=>O1 k∨k=w.heap.size+1):=
  (s1.forget hE hd).Wq hE hJ (C:=fun _=>False) (dp.rD e1) (fun k hk=>hk.elim) (fun k hk=> .inl hk) (fun k hk=>hk.imp id (fun e=>by subst e;omega))
 refine⟨_,s4.saved hok ⟨e3,fun h5=> ?_⟩ g,fun k hk=> .inl (h1 k hk),fun k ⟨b,hb,hk⟩=> .inl (h2 b hb k hk), .inr rfl,fun k hk=> ?_⟩
 ·rcases h5 with h5 |h5
  ·have:=hO1 _ h5;omega
  ·omega
 ·rcases hk with hk |hk
  ·rcases h3 k hk with h4 | ⟨b,hb,h4⟩
   ·exact .inl h4
   ·exact .inr (.inl ⟨b,hb,h4⟩)
  ·exact .inr (.inr hk)
end
section
variable {P:Program}{T:cm}{Φ:bE T}{R:Type}{E:Env}{σ af:AS}{a a':Act}{w w':World}{ν aK:Nm→Value}{O O':Nat→Prop}
def SC (E:Env)(σ:AS)(ν:Nm→Value)(O:Nat→Prop)(w:World):View:=fun key u=>∃ad:Addr,key= .cell ad∧view E σ ν O w (.cell ad) u
def PJ (E:Env)(σ:AS)(ν:Nm→Value)(O:Nat→Prop)(w:World)(k:Nat):Prop:=(∃m,Own σ ν m k∧¬E.pQ m)∨O k∨k=w.heap.size+1
theorem SD (hE:aB E)(h:St E σ a w ν O)(r:Loop){ad:Addr}{u:Value}(hv:view E σ ν O w (.cell ad) u):(dk w r).cell? ad=some u∧¬PJ E σ ν O w ad.block:=by
 have h1:=qt hE h.keep hv;have hlt:=xT h1;obtain⟨e1,_⟩:=nL w r;refine⟨by rw[World.cell?_of_block (e1.block _ hlt)];exact h1,fun hx=> ?_⟩;rcases hv with ⟨h2,h3⟩ | ⟨h2,h3,h4,_⟩
 ·have h5:=(hE.cell _ _ h3).2;rcases hx with ⟨m,hm,hr⟩ |ho |hk
  ·rcases (h.oW m _ hm).1 with h6 |h6 |h6
   ·omega
   ·exact h5 h6
   ·exact hr h6
  ·exact h5 ((h.out.2 _ ho).2 h2)
  ·omega
 ·rcases hx with ⟨m,hm,hr⟩ |ho |hk
  ·exact h3 ⟨m,hm⟩
  ·exact h4 ho
  ·omega
theorem WK {D:Q3 T Φ R}{r:Loop}(hE:aB E)(h:St E σ a w ν O)(YF:D.E=E)(hX:D.Xg=PJ E σ ν O w)(hw:D.w2=dk w r)(hJ:E.J=ib)(hlen:∀k,D.len k→E.CB k∨E.base.heap.size≤k)(h0:List bh):aB (D.NT (SC E σ ν O w) h0):=by
 refine⟨fun ad u hv=> ?_,fun tr O1 w1 w1' C hJG hg hC=> ?_⟩
 ·obtain⟨RT,e,hv⟩:=hv;injection e with e
  subst e;obtain⟨h1,h2⟩:=SD hE h r hv;exact⟨by show D.w2.cell? ad=_;rw[hw];exact h1,by show ¬D.Xg ad.block;rw[hX];exact h2⟩
 ·exact JG.stay (by rw[YF];exact hE) (by rw[YF];exact hJ) (by rw[YF];exact hlen) hJG hg hC
end
section
variable {P:Program}{T:cm}{Φ:bE T}{R:Type}{E:Env}{σ af:AS}{a a':Act}{w w':World}{ν aK:Nm→Value}{O O':Nat→Prop}
def SE (E:Env)(σ:AS)(ν:Nm→Value)(O:Nat→Prop)(w:World)(bs:List Nat)(k:Nat):Prop:=PJ E σ ν O w k∧¬xW σ ν bs k
theorem Uz {D:Q3 T Φ R}{r:Loop}{bs:List Nat}(hE:aB E)(h:St E σ a w ν O)(YF:D.E=E)(hDa:D.a=a)(hmb:D.mb=w.heap.size)(hDl:D.l=w.heap.size+1)(hr:D.pa=r)(hw:D.w2=dk w r)(hX:D.Xg=PJ E σ ν O w)
  (hB:D.Bx=fun k=>xW σ ν bs k∨k=w.heap.size+1) (hσ:D.Eo=σ) (hJ:E.J=ib) (hok:qs ((σ.gS bs).forget D.hd)=true) (hfx:VW σ ({((σ.gS bs).forget D.hd) with cd:=[⟨D.ts,D.ys⟩]}:AS).save)
  {m:Nat} (hl:iL D.hd D.RB (eJ D.k) m ({((σ.gS bs).forget D.hd) with cd:=[⟨D.ts,D.ys⟩]}:AS).save=some D.r):JG D ⟨.slice (gR D.ts),[]⟩ (SE E σ ν O w bs) (dk w r):=by
 obtain⟨Oc,s1,o1,o2,o3,o4⟩:=NV hE hJ h bs D.hd hok ⟨D.ts,D.ys⟩ r;obtain⟨e1,e2,e3,e4⟩:=nL w r;have YG:∀k,xW σ ν bs k→k<w.heap.size:=fun k ⟨b,hb,ho⟩=>(h.oW _ _ ho).2.1;have acz:∀k,PJ E σ ν O w k→k<w.heap.size+2:=fun k hk=>by
  rcases hk with ⟨m,hm,_⟩ |hk |hk
  ·have:=(h.oW _ _ hm).2.1;omega
  ·have:=(h.out.2 _ hk).1;omega
  ·omega
 have hl0:SE E σ ν O w bs (w.heap.size+1):=⟨.inr (.inr rfl),fun hb=>by have:=YG _ hb;omega⟩
 refine⟨[],D.ys,_,ν,Oc,m,rfl,⟨rfl,rfl,hl,by rw[hσ];exact hfx,by rw[YF,hDa,hmb];exact s1,by rw[hDl,hr];exact e4,by rw[hDl];exact hl0,by rw[hDl];exact o3,fun m' k hm hro=> ?_,fun k hk hx=> ?_,by rw[hw];exact Nat.le_refl _,fun k hk=> ?_⟩⟩
 ·rw[YF] at hro;have hm2:Own ((σ.gS bs).forget D.hd) ν m' k:=by cases m'<;>exact hm
  have hm3:=(KE D.hd (σ.gS bs)).own hm2;have hm4:=(Is bs σ).1.own hm3;refine⟨.inl ⟨m',hm4,hro⟩,fun⟨b,hb,ho⟩=> ?_⟩;have:=h.inj _ _ k hm4 ho;subst this;have h9:=(Is bs σ).2 b hb;have QK:=hm3.1;simp only[AS.obj,h9] at QK;cases QK
 ·rw[hw] at hx;rcases hx with hx |hx
  ·omega
  ·rw[hX] at hx;by_cases hb:xW σ ν bs k
   ·exact .inr ⟨o2 k hb, .inl (by rw[hB];exact .inl hb)⟩
   ·exact .inl ⟨hx,hb⟩
 ·have:=acz k hk.1;omega
end
section
variable {P:Program}{T:cm}{Φ:bE T}{R:Type}{E:Env}{σ af:AS}{a a':Act}{w w':World}{ν aK:Nm→Value}{O O':Nat→Prop}
def FU (ν:Nm→Value)(ks:List Nat):Nm→Value
 | .box (j+1)=>match ks[j]? with
   |some b=>ν (.box b)
   |none=> .nilFunc
 |_=> .nilFunc
theorem E0:∀{l:List Nat},pT l=true→∀(i j b:Nat),l[i]? =some b→l[j]? =some b→i=j
 | [],_,i,j,b,h1,h2=>by simp at h1
 |x::l,h,i,j,b,h1,h2=>by
  simp only[pT,Bool.and_eq_true,Bool.not_eq_true'] at h;have hx:∀k,l[k]? ≠some x:=fun k hk=>by have:l.any (Nat.beq x)=true:=iv.2 (List.mem_of_getElem? hk);rw[h.1] at this;cases this
  cases i with
  |zero=>
   cases j with
   |zero=>rfl
   |succ j=>simp at h1 h2;subst h1;exact absurd h2 (hx j)
  |succ i=>
   cases j with
   |zero=>simp at h1 h2;subst h2;exact absurd h1 (hx i)
   |succ j=>rw[E0 h.2 i j b (by simpa using h1) (by simpa using h2)]
end
section
variable {P:Program}{T:cm}{Φ:bE T}{R:Type}{E:Env}{σ af:AS}{a a':Act}{w w':World}{ν aK:Nm→Value}{O O':Nat→Prop}
theorem SF {boxes:List (Nat×BX)}{args:List jM}{aP:List yy}{x:xB args}(h:xF boxes args aP=some x):∀(j:Nat) bx,look (c9 args x 0) j=some bx→∃i b t y,j=i+1∧(bf aP)[i]? =some b∧bx= .cells (flat t y)∧jM.bx t∈args∧look boxes b=some (.cells (flat t y)):=by
 intro j bx hj;unfold xF at h;split at h
 ·simp[c9,c9.one,look] at hj
 ·split at h
  ·rename_i q ps cs y hy;simp only[Option.some.injEq] at h;subst h;simp only[c9,c9.one,List.nil_append] at hj;obtain⟨_,_,h3⟩:=BJ 1 hy;obtain⟨b,t,z,h4,h5,h6,h7,h8⟩:=h3 j bx hj;exact⟨j - 1,b,t,z,by omega,h5,h6,List.mem_cons_of_mem _ h7,h8⟩
  ·cases h
 ·cases h
end
section
variable {P:Program}{T:cm}{Φ:bE T}{R:Type}{E:Env}{σ af:AS}{a a':Act}{w w':World}{ν aK:Nm→Value}{O O':Nat→Prop}
theorem FV {v:Nat}{xh:wj T v}(hh:(T.sig v).ab.isEmpty=true):aU T v xh=ek T:=by
 have h1:(T.sig v).hin=[]:=by
  have:(T.sig v).ab=[]:=by simpa using hh
  simp[za.hin,this]
 have key:∀(hs:List Nat) (x:wk T hs),hs=[]→lW T (T.sig v).hout hs x (ek T)=ek T:=fun hs x e=>by subst e;rfl
 exact key _ _ h1
theorem SG {D:Q3 T Φ R}{r:Loop}{bs:List Nat}(hE:aB E)(h:St E σ a w ν O)(YF:D.E=E)(hw:D.w2=dk w r)(hX:D.Xg=PJ E σ ν O w)(hJ:E.J=ib)
  {v:Nat} {xh:wj T v} (hh:(T.sig v).ab.isEmpty=true) (hs:yA T (T.sig v)=true) (oS:uO (T.sig v)=⟨.slice (gR D.ts),([]:List (gR D.ts).den)⟩) {aP:List yy} (hx:xF σ.boxes (T.sig v).args aP=some (oX _ xh)) (hnd:pT (bf aP)=true) (Ph:bs=bf aP)
  (hJG:JG D ⟨.slice (gR D.ts),[]⟩ (SE E σ ν O w bs) (dk w r)):
  St (D.NT (SC E σ ν O w) (ek T)) (n9 T v xh) ⟨#[],[]⟩ (dk w r) (FU ν bs) (SE E σ ν O w bs):=by
 obtain⟨e1,e2,e3,e4⟩:=nL w r;have hsh:(n9 T v xh).ab=ek T:=FV hh;have ki:∀m o,(n9 T v xh).obj m=some o→∃i b t y,m= .box (i+1)∧bs[i]? =some b∧o= .box (.cells (flat t y))∧jM.bx t∈(T.sig v).args∧look σ.boxes b=some (.cells (flat t y)):=fun m o ho=>by
  cases m with
  |row q=>simp[AS.obj,n9,look] at ho
  |box j=>simp only[AS.obj,Option.map_eq_some_iff] at ho;obtain⟨bx,h1,rfl⟩:=ho;obtain⟨i,b,t,y,rfl,h3,rfl,h5,h6⟩:=SF hx j bx h1;exact⟨i,b,t,y,rfl,by rw[Ph];exact h3,rfl,h5,h6⟩
  |hp i n=>
   simp only[AS.obj,hsh] at ho;cases n with
   |zero=>cases ho
   |succ n=>
    simp only[ki] at ho;split at ho
    ·rename_i hr Zw;rw[qB i hr Zw] at ho;simp[yC] at ho
    ·cases ho
 have hown:∀m k,Own (n9 T v xh) (FU ν bs) m k→∃i b,m= .box (i+1)∧bs[i]? =some b∧b∈bs∧Own σ ν (.box b) k:=fun m k ⟨h1,h2⟩=>by
  obtain⟨o,ho⟩:=Option.isSome_iff_exists.1 h1;obtain⟨i,b,t,y,rfl,h3,rfl,h5,h6⟩:=ki m o ho;refine⟨i,b,rfl,h3,List.mem_of_getElem? h3,by simp[AS.obj,h6], ?_⟩;have:FU ν bs (.box (i+1))=ν (.box b):=by simp only[FU,h3]
  rw[←this];exact h2
 have hin:(T.sig v).hin=[]:=by
  have:(T.sig v).ab=[]:=by simpa using hh
  simp[za.hin,this]
 have acA:∀t,jM.bx t∈(T.sig v).args→dH [] t=true:=fun t ht=>by simp only[yA,Bool.and_eq_true] at hs;have:=List.all_eq_true.1 hs.1.1 _ ht;rw[hin] at this;exact this
 have hO:∀k,SE E σ ν O w bs k→k<(dk w r).heap.size:=fun k hk=>by
  rw[e2];rcases hk.1 with ⟨m,hm,_⟩ |hk |hk
  ·have:=(h.oW _ _ hm).2.1;omega
  ·have:=(h.out.2 _ hk).1;omega
  ·omega
 refine⟨?_,(fun d hd=>by cases hd),⟨rfl,(fun i x e=>by cases e),(fun i x e=>by cases e)⟩,fun m o ho=> ?_,fun m m' k h1 h2=> ?_,fun m k hm=> ?_,fun q k hk=> ?_,⟨?_,fun k hk=>⟨hO k hk,fun _=>by show D.Xg k;rw[hX];exact hk.1⟩⟩, ?_,(fun i hr e=>by cases e), ?_,(fun _ hf=>hf.elim), ?_,fun m k hm=> ?_,(fun _ hf=>hf.elim),List.nodup_nil⟩
 ·show dp _ D.w2 (dk w r);rw[hw];exact dp.refl _ _
 ·obtain⟨i,b,t,y,rfl,h3,rfl,h5,h6⟩:=ki m o ho;obtain⟨g,g1,cur,e,g2,g3⟩:=h.box h6;have hlt:=(Array.getElem?_eq_some_iff.1 g2).1;refine⟨g,by simp only[FU,h3];exact g1,cur,e,by rw[e1.block g hlt];exact g2, ?_⟩;refine fM (Rel.tr (hs:=[]) (fun ad u hv=> ?_) (fun i hi=>by simp at hi) _ _ _ (acA t h5) (fN g3));exact .inl ⟨by show ad.block<D.w2.heap.size;rw[hw,e2];have:=xT (qt hE h.keep hv);omega,ad,rfl,hv⟩
 ·obtain⟨i,b,rfl,h3,_,h4⟩:=hown m k h1;obtain⟨i',b',rfl,h3',_,h4'⟩:=hown m' k h2;have:=h.inj _ _ k h4 h4';injection this with this
  subst this;rw[E0 (by rw[Ph];exact hnd) i i' b h3 h3']
 ·obtain⟨i,b,rfl,h3,hb,h4⟩:=hown m k hm;have hlt:=(h.oW _ k h4).2.1;refine⟨.inr (.inl (by show D.Xg k;rw[hX];exact .inl ⟨_,h4,Ck⟩)),by rw[e2];omega,fun hg=>hg.2 ⟨b,hb,h4⟩⟩
 ·obtain⟨i,b,e,_⟩:=hown _ k hk;subst e;exact .inr trivial
 ·show JG D (uO (T.sig v)) _ _;rw[oS];exact hJG
 ·intro i hr n e h1 h2;have e':(n9 T v xh).ab[i]? =some hr:=e;rw[hsh] at e';rw[qB i hr e'] at h2;simp at h2;omega
 ·rw[hsh];exact⟨rfl,fun i hr e=>⟨hr,e,sE.refl _,Nat.le_refl _⟩,fun i n h1 h2=>rfl⟩
 ·show dp _ D.w2 (dk w r);rw[hw];exact dp.refl _ _
 ·obtain⟨i,b,rfl,h3,hb,h4⟩:=hown m k hm;exact .inr (.inl (by show D.Xg k;rw[hX];exact .inl ⟨_,h4,Ck⟩))
end
section
variable {P:Program}{T:cm}{Φ:bE T}{E:Env}{σ af:AS}{a a':Act}{w w':World}{ν aK:Nm→Value}{O O':Nat→Prop}
theorem SH {R:Type}{r:R}(k:VP→List Nat→Option R)(bs:List Nat):∀(s:za) (y:Ce s),(match s,y with
  | ⟨_,_,_,_,some ts⟩,y=>k ⟨ts,y⟩ bs
  |_,_=>none)=some r→∃ts ys,s.gen.isSome=true∧PI s y=⟨.slice (gR ts),ys⟩∧uO s=⟨.slice (gR ts),([]:List (gR ts).den)⟩∧k ⟨ts,ys⟩ bs=some r
 | ⟨_,_,_,_,some ts⟩,y,h=>⟨ts,y,rfl,rfl,rfl,h⟩
 | ⟨_,_,none,_,none⟩,y,h=>by cases h
 | ⟨_,_,some _,_,none⟩,y,h=>by cases h
theorem LJ {f:AV}{R:Type}{k:VP→List Nat→Option R}{r:R}(h:o5 T Φ σ f k=some r):∃g aP v xh yh ts ys,f= .fn g aP∧xF σ.boxes (T.sig v).args aP=some (oX _ xh)∧Φ v xh=some yh∧
  pT (bf aP)=true∧(T.sig v).ab.isEmpty=true∧T.real v=g∧(T.sig v).gen.isSome=true∧Du T v yh=⟨.slice (gR ts),ys⟩∧uO (T.sig v)=⟨.slice (gR ts),([]:List (gR ts).den)⟩∧k ⟨ts,ys⟩ (bf aP)=some r:=by
 unfold o5 at h;split at h
 ·rename_i g aP;split at h
  ·rename_i v _ _;split at h
   ·rename_i x hx;split at h
    ·rename_i xh hxh;simp only[Option.bind_eq_some_iff] at h;obtain⟨yh,hy,h⟩:=h;cases hb:(pT (bf aP)&&(T.sig v).ab.isEmpty&&Nat.beq (T.real v) g) with
     |false=>rw[hb] at h;cases h
     |true=>
      rw[hb,cond_true] at h;simp only[Bool.and_eq_true,beq_iff] at hb;obtain⟨ts,ys,h1,h2,h3,h4⟩:=SH k (bf aP) _ _ h;refine⟨g,aP,v,xh,yh,ts,ys,rfl, ?_,hy,hb.1.1,hb.1.2,hb.2,h1,h2,h3,h4⟩;cases hg:Cf T σ.ab (T.sig v).hin with
      |none=>
       have hin:(T.sig v).hin=[]:=by
        have:(T.sig v).ab=[]:=by simpa using hb.1.2
        simp[za.hin,this]
       exfalso;have:∀hs,hs=[]→Cf T σ.ab hs≠none:=fun hs e=>by subst e;simp[Cf]
       exact this _ hin hg
      |some hh=>rw[hg] at hxh;rw[(Nn hxh).1];exact hx
    ·cases h
   ·cases h
  ·cases h
 ·cases h
theorem BK {V V':View}{boxes:List (Nat×BX)}{Zx:Nm→Value}{Y:Value}:∀{ps:List jM} {aP:List yy} {x:xB ps} (i:Nat) {vs:List Value},aD boxes ps aP=some x→aE (nw V σ ν) aP vs→
  (∀(j b:Nat),(bf aP)[j]? =some b→Zx (.box (i+j))=ν (.box b))→FR V' Zx Y i ps x vs
 | [],[],x,i,vs,h,ha,hn=>by
   cases vs with
   |nil=>rfl
   |cons _ _=>exact ha.elim
 | [.bx t],[.box b],x,i,vs,h,ha,hn=>by
   match vs,ha with
   | [v],ha=>obtain⟨⟨_,g,h1,h2⟩,_⟩:=ha;exact⟨v,rfl,by show v=Zx (.box i);rw[show Zx (.box i)=ν (.box b) from hn 0 b rfl,h1,h2]⟩
 | .bx t::q::ps, .box b::cs,x,i,vs,h,ha,hn=>by
   match vs,ha with
   |v::vs,ha=>
    obtain⟨⟨_,g,h1,h2⟩,ha⟩:=ha;simp only[aD] at h;split at h
    ·split at h
     ·split at h
      ·rename_i y hy;simp only[Option.some.injEq] at h;subst h;refine⟨v,vs,rfl,by show v=Zx (.box i);rw[show Zx (.box i)=ν (.box b) from hn 0 b rfl,h1,h2],BK (i+1) hy ha (fun j c hj=> ?_)⟩;have:=hn (j+1) c (by simpa [bf] using hj);rw[←this];congr 2;omega
      ·cases h
     ·cases h
    ·cases h
 | [.v _],[],_,_,_,h,_,_=>by simp[aD] at h
 | [.v _],_::_,_,_,_,h,_,_=>by simp[aD] at h
 | [.fn _ _],[],_,_,_,h,_,_=>by simp[aD] at h
 | [.fn _ _],_::_,_,_,_,h,_,_=>by simp[aD] at h
 | [.c _],[],_,_,_,h,_,_=>by simp[aD] at h
 | [.c _],_::_,_,_,_,h,_,_=>by simp[aD] at h
 | [.rp _],[],_,_,_,h,_,_=>by simp[aD] at h
 | [.rp _],_::_,_,_,_,h,_,_=>by simp[aD] at h
 | [.Gw],[],_,_,_,h,_,_=>by simp[aD] at h
 | [.Gw],_::_,_,_,_,h,_,_=>by simp[aD] at h
 | [.bx _],[],_,_,_,h,_,_=>by simp[aD] at h
 | [.bx _],[.pO _],_,_,_,h,_,_=>by simp[aD] at h
 | [.bx _], .box _::_::_,_,_,_,h,_,_=>by simp[aD] at h
 | [.bx _], .pO _::_::_,_,_,_,h,_,_=>by simp[aD] at h
 | .v _::_::_,_,_,_,_,h,_,_=>by simp[aD] at h
 | .fn _ _::_::_,_,_,_,_,h,_,_=>by simp[aD] at h
 | .c _::_::_,_,_,_,_,h,_,_=>by simp[aD] at h
 | .rp _::_::_,_,_,_,_,h,_,_=>by simp[aD] at h
 | .Gw::_::_,_,_,_,_,h,_,_=>by simp[aD] at h
 | .bx _::_::_,[],_,_,_,h,_,_=>by simp[aD] at h
 | .bx _::_::_, .pO _::_,_,_,_,h,_,_=>by simp[aD] at h
 | [],_::_,_,_,_,h,_,_=>by simp[aD] at h
theorem UA {V V':View}{boxes:List (Nat×BX)}{Y:Value}{args:List jM}{aP:List yy}{x:xB args}{vs:List Value}(h:xF boxes args aP=some x)(ha:aE (nw V σ ν) aP vs):FR V' (FU ν (bf aP)) Y 0 args x (Y::vs):=by
 unfold xF at h;split at h
 ·cases vs with
  |nil=>exact⟨Y,rfl,rfl⟩
  |cons _ _=>exact ha.elim
 ·split at h
  ·rename_i q ps cs y hy;simp only[Option.some.injEq] at h;subst h;refine⟨Y,vs,rfl,rfl,BK 1 hy ha (fun j b hj=> ?_)⟩;rw[show (0+1+j)=j+1 by omega];simp only[FU,hj]
  ·cases h
 ·cases h
theorem FX {n:Nat}(hG:Q2 P T Φ){f:Operand}{ps:Array Tmp}{x y:Code}(Sx:Sound P T Φ n x)(Sy:Sound P T Φ n y):Sound P T Φ n (.rangeFunc f ps x y):=by
 intro R r E C hD rr hs σ k a w ν O he h JD hk;have XF:E.acc σ.trace:=by obtain⟨e,af,h1,h2⟩:=Ik _ _ _ _ he;exact hD _ _ h2.tr (hk _ _ h1 h2)
 simp only[aJ] at he;split at he
 ·rename_i hd hs' u hrn oS;have acB:rr=none:=by
   cases rr with
   |none=>rfl
   |some l=>exact absurd hrn (JD rfl)
  subst acB;have hE:=C.env;have hJ:E.J=ib:=C.jj O w (by have:=h.out.1;rw[oS] at this;exact this);have hacc:E.acc ⟨.unit,()⟩:=by rw[oS] at XF;exact XF
  obtain⟨g,aP,v,xh,yh,ts,ys,e1,e2,e3,e4,e5,e6,e7,e8,e9,PK⟩:=LJ he;cases hok:qs ((σ.gS (bf aP)).forget hd) with
  |false=>rw[hok] at PK;cases PK
  |true=>
   rw[hok,cond_true] at PK;have f1:Fr σ ((σ.gS (bf aP)).forget hd):=(Ii _ σ).trans (jQ hd _);have NQ:=hok;simp only[qs,Bool.and_eq_true,List.all_eq_true] at NQ;have hfx:VW σ ({((σ.gS (bf aP)).forget hd) with cd:=[⟨ts,ys⟩]}:AS).save:=⟨⟨_,rfl⟩,f1.sites,f1.s,f1.tr,by
    refine⟨((σ.gS (bf aP)).forget hd).tmps.l.map fun p=>p.1+10000, ?_,fun i hi=> ?_⟩
    ·show (List.map _ _++_).map _=_;rw[List.map_append,List.map_map, ←f1.ks];rfl
    ·obtain⟨p,hp,rfl⟩:=List.mem_map.1 hi;have:=NQ.1 p hp;rw[nU] at this;simp only[iu,Bool.and_eq_true,Nat.ble_eq,nU];omega⟩
   refine wpIn_rangeFunc (fun fn hfn=> ?_);rw[show (FW none).round=none from rfl]
   let pa:Loop:={state:= .ready,pending:=none,fn,tmps:=a.tmps,params:=ps,assign:=x,body:=y,defers:=w.heap.size}
   let D:Q3 T Φ R:={E:=E,a:=a,mb:=w.heap.size,l:=w.heap.size+1,pa:=pa,ts:=ts,ys:=ys,Eo:=σ,hd:=hd,RB:=fQ ps.toList (fun σ k'=>aJ T Φ n x hs' σ k') (fun σ k'=>aJ T Φ n y (hs'.drop (loops x)) σ k'),k:=k,r:=r,w2:=dk w pa,Xg:=PJ E σ ν O w,Bx:=fun k=>xW σ ν (bf aP) k∨k=w.heap.size+1}
   obtain⟨n1,n2,n3,n4⟩:=nL w pa;have hlen:∀k,D.len k→D.E.CB k∨D.E.base.heap.size≤k:=fun k hk=>by
    have hb:=h.o6.size;rcases hk with (⟨b,Pn,ho⟩ |hk) |hk
    ·rcases h.pU _ _ ho with h1 |h1
     ·exact absurd h1 Ck
     ·exact h1
    ·exact .inr (by show E.base.heap.size≤k;omega)
    ·refine .inr ?_;have hk':(dk w pa).heap.size≤k:=hk;show E.base.heap.size≤k;omega
   have acC:JG D ⟨.slice (gR D.ts),[]⟩ (SE E σ ν O w (bf aP)) (dk w pa):=Uz (D:=D) (bs:=bf aP) hE h rfl rfl rfl rfl rfl rfl rfl rfl rfl hJ hok hfx PK;have hEg:aB (D.NT (SC E σ ν O w) (ek T)):=WK hE h rfl rfl rfl hJ hlen _;have hTg:zu T (D.NT (SC E σ ν O w) (ek T)):=⟨C.ES.1,fun i x hx=>by
    obtain⟨g,cs,h1,h2,h3⟩:=C.ES.2 i x hx;refine⟨g,cs,h1,h2,h3.of fun key u ⟨ad,e,hlt,hv⟩=>⟨ad,e, ?_,ad,rfl, .inl ⟨hlt,hv⟩⟩⟩;show ad.block<(dk w pa).heap.size;have:=h.keep.size;omega⟩
   have hYg:xU P (D.NT (SC E σ ν O w) (ek T)):=NU (D:=D) rfl rfl C hD hJ hacc hlen Sx Sy (by have:=h.slots.1;simpa using this.symm) (.inl (.inr rfl));have aat:=SG (D:=D) (xh:=xh) hE h rfl rfl rfl hJ e5 (C.sigs v) e9 e2 e4 rfl acC;obtain⟨⟨fd,hfd,hbody,hname⟩,tz⟩:=hG v xh yh e3 e7;have hf:al (view E σ ν O w) σ ν E.Y (σ.av f) (a.eval f):=h.av C.ES.1 f;rw[e1] at hf;obtain⟨vs,hf1,hf2⟩:=hf;have Kn:=tz (D.NT (SC E σ ν O w) (ek T)) (FU ν (bf aP)) (#[.func (.yield (w.heap.size+1)) #[] #[]]++vs.toArray) _ hEg hTg hYg (SB D _ _) (fun O2 w2 hj=>by
    obtain⟨_,_,_,_,_,_,e,_⟩:=hj;injection e with e;cases e) (by rw[e8];exact .inl rfl) aat (by
     have:(#[.func (.yield (w.heap.size+1)) #[] #[]]++vs.toArray:Array Value).toList= .func (.yield (w.heap.size+1)) #[] #[]::vs:=by simp
     rw[this];exact UA e2 hf2)
   rw[e6] at hfd Kn;have YH:Calls P g (#[.func (.yield (w.heap.size+1)) #[] #[]]++vs.toArray) (dk w pa) (fun e w'=>∃r O',e= .returned r∧JG D (Du T v yh) O' w'):=Kn;clear Kn tz aat hYg hTg hEg;have hb:fd.body.isNone=false:=by cases VV:fd.body<;>simp_all
   have hn1:¬fd.name= "runtime.NumGoroutine" :=by simpa using hname
   have Pn:¬fd.body=none:=by intro e;rw[e] at hb;cases hb
   refine⟨w.heap.size+1,[{target:= .collected w.heap.size,args:= #[]}],dk w pa,{target:= .fn (.func g) vs.toArray,args:= #[.func (.yield (w.heap.size+1)) #[] #[]]},dk w pa,g,
    #[.func (.yield (w.heap.size+1)) #[] #[]]++vs.toArray,dk w pa,run_enterLoop_outer _ _ _ _ _, ?_,fun _ _=>trivial, ?_,fun e=>(by cases e), ?_⟩
   ·simp only[resolve,hf1];simp[go_sem]
   ·simp[invoke,callFunc,hfd,hn1,Pn,go_sem]
   ·refine HY (Calls.mono (R:=fun e w'=>∃r O',e= .returned r∧JG D (Du T v yh) O' w') YH ?_);rintro e w3 ⟨rv,Og,rfl,xs,rest,cV,Tp,Oc,m,LK,j⟩;rw[e8] at LK;injection LK with _ LK
    try simp only[heq_eq_eq] at LK
    subst LK;have HJ:rest=[]:=by have:=j.ys;exact(List.append_cancel_left (as:=ys) (by rw[List.append_nil];exact this)).symm
    subst HJ;have hl:=j.loop;cases m with
    |zero=>cases hl
    |succ m=>
     simp only[iL] at hl;have YC:D.RB=fQ ps.toList (fun σ k'=>aJ T Φ n x hs' σ k') (fun σ k'=>aJ T Φ n y (hs'.drop (loops x)) σ k'):=rfl;rw[YC] at hl;unfold fQ at hl;rw[j.cd] at hl;dsimp only at hl;have hl':k .normal {cV.tj with cd:=cV.cd.tail}=some r:=hl;have hrun:=run_endLoop (P:=P) j.NS (by show pa.state≠_;simp[pa]);obtain⟨q1,q2,q3⟩:=St.LH (E:=E.fV a w.heap.size) (hE.fV _ _) hJ j.st j.NS j.cl (hlen _ (.inl (.inr rfl))) {pa with state:= .exhausted};have hks:=KC j.fr (fun i hi=>by
      have hi:i∈σ.tmps.s.map (·.1):=hi;rw[←f1.ks] at hi;obtain⟨p,hp,rfl⟩:=List.mem_map.1 hi;have:=NQ.2 p hp;rw[Nat.ble_eq] at this;simp only[iu,Bool.and_eq_false_iff];exact .inr (by cases hb:Nat.blt p.1 (10000*(1+1)) with
       |false=>rfl
       |true=>rw[nU] at hb;omega))
     have WJ:=q1.WI (fun i x hx=>by
      have h1:=tn hx;have h2:i∈cV.tj.tmps.s.map (·.1):=List.mem_map_of_mem (f:=(·.1)) h1;rw[hks] at h2;have h2:i∈σ.tmps.s.map (·.1):=h2;rw[←f1.ks] at h2;obtain⟨p,hp,rfl⟩:=List.mem_map.1 h2;have:=NQ.2 p hp;rwa [Nat.ble_eq] at this) h.keep.size (fun d hd=>by
       obtain⟨r',g1,g2,_⟩:=h.marks d hd;exact⟨r',g1,g2⟩) (List.nodup_cons.2 ⟨fun hm=>by
       obtain⟨r',g1,_,g2,_⟩:=h.marks _ hm;injection g1 with g1
       injection g1 with g1
       have:=(Array.getElem?_eq_some_iff.1 g2).1;omega,h.nd⟩)
     refine⟨none,_,hrun,⟨_,hl',⟨?_,j.fr.sites,j.fr.s,j.fr.tr,hks⟩,Tp,Oc,WJ⟩⟩;show cV.cd.tail=_;rw[j.cd,hrn];rfl
 ·cases he
end
section
variable {P:Program}{T:cm}{Φ:bE T}{E:Env}{σ af:AS}{a a':Act}{w w':World}{ν aK:Nm→Value}{O O':Nat→Prop}{V V':View}{Y:Value}
theorem ArgRel.g:∀{p:jM} {x:p.den} {v:Value} (i:Nat),ArgRel V p x v→Hd V ν Y i p x v
 | .v _,_,_,_,h=>h
 | .fn _ _,_,_,_,h=>h
 | .c _,_,_,_,h=>h
 | .rp _,_,_,_,h=>h
 | .bx _,_,_,_,h=>h.elim
 | .Gw,_,_,_,h=>h.elim
theorem mQ.g:∀{ps:List jM} {x:xB ps} {vs:List Value} (i:Nat),mQ V ps x vs→FR V ν Y i ps x vs∧c9 ps x i=[]
 | [],x,vs,i,h=>⟨h,rfl⟩
 | [p],x,vs,i,h=>by obtain⟨v,rfl,h1⟩:=h;refine⟨⟨v,rfl,h1.g i⟩, ?_⟩;cases p<;>first |rfl |exact h1.elim
 |p::q::ps,x,vs,i,h=>by
  obtain⟨v,r,rfl,h1,h2⟩:=h;obtain⟨h3,h4⟩:=mQ.g (i+1) h2;refine⟨⟨v,r,rfl,h1.g i,h3⟩, ?_⟩;show c9.one p x.1 i++c9 (q::ps) x.2 (i+1)=[]
  rw[h4];cases p<;>first |rfl |exact h1.elim
theorem KF:∀{ts:List Ty} {x:nt ts} {vs:List Value},uV V ts x vs→aE (nw V σ ν) (Ht.O8 ts x) vs
 | [],x,vs,h=>by have:vs=[]:=h;subst this;trivial
 | [t],x,vs,h=>by obtain⟨v,rfl,h1⟩:=h;exact⟨h1,trivial⟩
 |t::u::ts,x,vs,h=>by obtain⟨v,r,rfl,h1,h2⟩:=h;exact⟨h1,KF h2⟩
theorem Q4 {p:jM}{x:p.den}{v:Value}{i:Nat}(h:Hd V ν Y i p x v)(hb:∀t,p= .bx t→tp σ ν i 0 (ν (.box i))):al V σ ν Y (Ht.one p x i) v:=by
 cases p with
 |v t=>exact A0 h
 |fn f ts=>obtain⟨vs,h1,h2⟩:=h;exact⟨vs,h1,KF h2⟩
 |c cs=>exact h
 |rp t=>exact h
 |bx t=>have h':v=ν (.box i):=h;subst h';exact hb t rfl
 |Gw=>exact h
theorem Dw:∀{ps:List jM} {x:xB ps} {i k:Nat} {t:Ty},ps[k]? =some (.bx t)→(look (c9 ps x i) (i+k)).isSome=true
 | [],x,i,k,t,h=>by simp at h
 | [p],x,i,0,t,h=>by simp only[List.getElem?_cons_zero,Option.some.injEq] at h;subst h;simp[c9,c9.one,look]
 | [p],x,i,k+1,t,h=>by simp at h
 |p::q::ps,x,i,0,t,h=>by simp only[List.getElem?_cons_zero,Option.some.injEq] at h;subst h;simp[c9,c9.one,look]
 |p::q::ps,x,i,k+1,t,h=>by
  have ih:=Dw (ps:=q::ps) (x:=x.2) (i:=i+1) (k:=k) (by simpa using h);rw[show i+(k+1)=i+1+k by omega];show (look (c9.one p x.1 i++c9 (q::ps) x.2 (i+1)) _).isSome=true;cases p with
  |bx u=>
   simp only[c9.one,List.cons_append,List.nil_append,look];cases hb:Nat.beq i (i+1+k) with
   |true=>rfl
   |false=>exact ih
  |_=>exact ih
theorem It:∀{ps:List jM} {x:xB ps} {vs:List Value} {i:Nat},FR V ν Y i ps x vs→(∀(k:Nat) t,ps[k]? =some (.bx t)→tp σ ν (i+k) 0 (ν (.box (i+k))))→aE (al V σ ν Y) (Ht ps x i) vs∧vs.length=ps.length
 | [],x,vs,i,h,hb=>by have:vs=[]:=h;subst this;exact⟨trivial,rfl⟩
 | [p],x,vs,i,h,hb=>by obtain⟨v,rfl,h1⟩:=h;exact⟨⟨Q4 h1 (fun t e=>hb 0 t (by simp[e])),trivial⟩,rfl⟩
 |p::q::ps,x,vs,i,h,hb=>by
  obtain⟨v,r,rfl,h1,h2⟩:=h;obtain⟨h3,h4⟩:=It (i:=i+1) h2 (fun k t e=>by
   have:=hb (k+1) t (by simpa using e);rw[show i+(k+1)=i+1+k by omega] at this;exact this)
  exact⟨⟨Q4 h1 (fun t e=>hb 0 t (by simp[e])),h3⟩,by simp[h4]⟩
theorem KG {R:AV→Value→Prop}{g:Nat→Value}:∀{l:List AV} {vs:List Value} {acc:List (Nat×AV)} {i:Nat},aE R l vs→(∀j x,look acc j=some x→R x (g j))→
  (∀k v,vs[k]? =some v→g (i+k)=v)→∀j x,look (Tt i l acc) j=some x→R x (g j)
 | [],[],acc,i,_,ha,_,j,x,h=>ha j x h
 |y::l,v::vs,acc,i,h,ha,hg,j,x,hx=>by
  refine KG (i:=i+1) (acc:=(i,y)::acc) h.2 (fun j z hz=> ?_) (fun k u hu=> ?_) j x hx
  ·simp only[look] at hz;cases hb:Nat.beq i j with
   |true=>
    have:=(beq_iff _ _).1 hb;subst this;rw[hb] at hz;obtain rfl:y=z:=by simpa using hz
    have:=hg 0 v rfl;rw[Nat.add_zero] at this;rw[this];exact h.1
   |false=>rw[hb] at hz;exact ha j z hz
  ·rw[Nat.add_assoc,Nat.add_comm 1 k];exact hg (k+1) u (by simpa using hu)
 | [],_::_,_,_,h,_,_,_,_,_=>h.elim
 |_::_,[],_,_,h,_,_,_,_,_=>h.elim
theorem EO {R:AV→Value→Prop}{l:List AV}{vs:List Value}{X:Nat→Value}(h:aE R l vs)(m:Nat){s:List (Nat×AV)}(hs:∀i x,look s i=some x→R x (X i)):yT R (dW.of l m s) (vs++List.replicate m undef) X:=by refine⟨by simp[dW.of,h.length],fun j x hx=> ?_,hs⟩;refine KG (g:=fun j=>(vs++List.replicate m undef).getD j undef) h (fun j x hx=>by cases hx) (fun k v hv=> ?_) j x hx;have hk:=(List.getElem?_eq_some_iff.1 hv).1;simp[List.getD,List.getElem?_append_left hk,hv]
theorem St.begin {fn:Func}{v:Nat}{xh:wj T v}{vals:Array Value}(hG:zu T E)(h:St E (n9 T v xh) ⟨#[],[]⟩ E.w0 ν O)
  (ha:FR (view E (n9 T v xh) ν O E.w0) ν E.Y 0 (T.sig v).args (oX _ xh) vals.toList):
  St E (C4 T fn v xh) {tmps:=vals++Array.replicate (fn.ntmps - vals.size) undef,defers:=[]} E.w0 ν O:=by
 obtain⟨h1,h2⟩:=It (σ:=n9 T v xh) ha (fun k t e=>by
  have h3:=Dw (x:=oX _ xh) (i:=0) e;obtain⟨bx,h4⟩:=Option.isSome_iff_exists.1 h3;obtain⟨g,h5,_⟩:=h.box (b:=0+k) h4;exact⟨h3,g,h5,h5⟩)
 refine h.O9 (af:=C4 T fn v xh) ⟨rfl,rfl,rfl,rfl⟩ rfl ?_;have e:(vals++Array.replicate (fn.ntmps - vals.size) undef).toList=vals.toList++List.replicate (fn.ntmps - (T.sig v).args.length) undef:=by rw[Array.toList_append,Array.toList_replicate, ←h2];simp
 show yT _ _ (vals++Array.replicate (fn.ntmps - vals.size) undef).toList _;rw[e];refine EO h1 _ (fun i x hx=> ?_);obtain⟨g,cs,rfl,rfl,h3⟩:=hG.2 i x hx;rw[hG.1 g];exact h3.mono fun key u ⟨ad,e,hlt,hv⟩=>by subst e;exact .inl ⟨hlt,hv⟩
theorem St.YI {tmps:Array Value}{d:Deferred}{ds:List Deferred}(hE:aB E)(h:St E σ ⟨tmps,d::ds⟩ w ν O)(hM:∀r,E.M r→r<E.w0.heap.size)(hb:E.base.heap.size≤E.w0.heap.size):
  ∃r,d=⟨.collected r, #[]⟩∧w.heap[r]? =some (.deferred (some []))∧St E σ ⟨tmps,ds⟩ (w.putObj r (.deferred none)) ν O:=by
 obtain⟨r,hd,h1,h2,h3⟩:=h.marks d (by simp);refine⟨r,hd,h2, ?_⟩;have hg:dp (fun k=>k=r) w (w.putObj r (.deferred none)):=zA;have hne:∀m,¬Own σ ν m r:=fun m hm=>by obtain⟨cur,e,h4⟩:=h.EZ hm;rw[h2] at h4;cases h4
 have fS:∀k o,w.heap[k]? =some o→k≠r→(w.putObj r (.deferred none)).heap[k]? =some o:=fun k o h4 h5=>by rw[hg.block k (Array.getElem?_eq_some_iff.1 h4).1 h5];exact h4
 have hV:∀key u,view E σ ν O w key u→view E σ ν O (w.putObj r (.deferred none)) key u:=fun key u hu=>by
  cases key with
  |cell ad=>
   rcases hu with hu | ⟨h4,h5,h6,h7⟩
   ·exact .inl hu
   ·have h8:ad.block≠r:=fun e=>by unfold World.cell? at h7;rw[e,h2] at h7;cases h7
    exact .inr ⟨h4,h5,h6,by rw[World.cell?_of_block (hg.block _ (xT h7) h8)];exact h7⟩
  |ref i n=>exact hu
 refine⟨h.keep.trans hg (fun k hk e=>by subst e;omega),fun d' Xt=> ?_,h.slots.mono (al.mono hV (Sub.refl _ _)),fun m o ho=> ?_,h.inj,fun m k hm=> ?_,h.new,⟨hE.stay _ _ _ _ _ h.out.1 hg (fun k e=>by subst e;exact⟨h3,fun hlt=>by omega⟩),fun k hk=>⟨Nat.lt_of_lt_of_le (h.out.2 k hk).1 hg.size,(h.out.2 k hk).2⟩⟩,h.nn,h.ro,h.kept,fun r' hr'=> ?_,h.o6.trans hg (fun k hk e=>by subst e;omega),h.pU,h.C5, ?_⟩
 ·obtain⟨r',h4,h5,h6,h7⟩:=h.marks d' (by simp[Xt]);refine⟨r',h4,h5,fS r' _ h6 (fun e=> ?_),h7⟩;subst e;have:=h.nd;rw[List.nodup_cons] at this;rw[hd, ←h4] at this;exact this.1 Xt
 ·exact(h.sQ m o ho).mono hV (fun k hk=>hg.block k (h.oW m k ⟨aZ ho,hk⟩).2.1 (fun e=>by subst e;exact hne m ⟨aZ ho,hk⟩)) (fun r' _ hr'=>⟨rfl,hr'⟩)
 ·obtain⟨h4,h5,h6⟩:=h.oW m k hm;exact⟨h4,Nat.lt_of_lt_of_le h5 hg.size,h6⟩
 ·obtain⟨h4,h5⟩:=h.waits r' hr';exact⟨fS r' _ h4 (fun e=>by subst e;have:=hM _ hr';omega),h5⟩
 ·have:=h.nd;rw[List.nodup_cons] at this;exact this.2
theorem xX {F:Fence}{n:Nat}{fn:Func}{tmps:Array Value}{R:Ending→World→Prop}(hE:aB E)(hM:∀r,E.M r→r<E.w0.heap.size)(hb:E.base.heap.size≤E.w0.heap.size)
  (hend:∀w',St E σ ⟨tmps,[]⟩ w' ν O→∃v,(results fn tmps).run P w'= .ok v w'∧R (.returned v) w'):∀(ds:List Deferred) (w:World),St E σ ⟨tmps,ds⟩ w ν O→LeavesInM F n P fn tmps R ds .returning w
 | [],w,h=>hend w h
 |d::ds,w,h=>by obtain⟨r,h1,h2,h3⟩:=h.YI hE hM hb;refine⟨(by intro e;cases e), .inl ⟨r,_,by rw[h1],run_takeDeferred h2,xX hE hM hb hend ds _ h3⟩⟩
theorem St.YJ (hJ:E.J=ib)(hOm:∀k,¬E.Om k)(h:St E σ a w ν O):St E σ a w ν (fun _=>False):=by
 have hV:∀key u,view E σ ν O w key u→view E σ ν (fun _=>False) w key u:=fun key u hu=>by
  cases key with
  |cell ad=>exact hu.imp id (fun⟨h1,h2,h3,h4⟩=>⟨h1,h2,id,h4⟩)
  |ref i n=>exact hu
 refine⟨h.keep,fun d hd=> ?_,h.slots.mono (al.mono hV (Sub.refl _ _)),fun m o ho=>(h.sQ m o ho).mono hV (fun _ _=>rfl) (fun r _ hr=>⟨rfl,hr⟩),h.inj,fun m k hm=> ?_,h.new,⟨?_,fun _ hf=>hf.elim⟩,h.nn,h.ro,h.kept,fun r hr=>⟨(h.waits r hr).1,id⟩,h.o6,h.pU,fun k hk=>hOm k hk,h.nd⟩
 ·obtain⟨r,h1,h2,h3,_⟩:=h.marks d hd;exact⟨r,h1,h2,h3,id⟩
 ·obtain⟨h1,h2,_⟩:=h.oW m k hm;exact⟨h1,h2,id⟩
 ·have:=h.out.1;rw[hJ] at this ⊢;exact this
def zC (tmps:Array Value):ResultVar→Sem Value
 | .tmp t=>pure (tmps.getD t undef)
 | .cell x t=>do loadVar t (←asAddr (tmps.getD x undef))
theorem xY (hT:fT P T.rows)(h:St E σ a w ν O){rv:ResultVar}{av:AV}(he:xG T.rows σ rv=some av):
  ∃v,(zC a.tmps rv).run P w= .ok v w∧al (view E σ ν O w) σ ν E.Y av v:=by
 cases rv with
 |tmp t=>simp only[xG,Option.some.injEq] at he;subst he;refine⟨a.tmps.getD t undef,rfl, ?_⟩;have:=C6 (fun v=>by trivial) h.slots t;simpa using this
 |cell x t=>
  simp only[xG] at he;split at he
  ·rename_i b off r hb hr;obtain⟨rfl,hr'⟩:=hT t r hr;have hx:=C6 (fun v=>by trivial) h.slots x;rw[hb] at hx;obtain⟨_,g,hg,hu⟩:=hx;have XG:a.tmps.getD x undef= .pointer (some ⟨g,off,none⟩):=by simpa using hu
   split at he
   ·rename_i cs hcs;obtain⟨g',e1,cur,e,Yg,bP⟩:=h.box hcs;rw[hg] at e1;simp only[Value.pointer.injEq,Option.some.injEq,Addr.mk.injEq,and_true] at e1;subst e1;have hc:∀j u,(cur.toList.drop off)[j]? =some u→w.cell? ((⟨g,off,none⟩:Addr).add j)=some u:=by intro j u hj;rw[J5,cell_of_row w _ _ cur e (0,0) Yg];simpa using zl hj
    obtain⟨v',h1,h2⟩:=MW (P:=P) hr' hc (bP.drop off) he (σ:=σ) (ν:=ν) (Y:=E.Y);refine⟨v', ?_,h2⟩;simp only[zC,XG,asAddr,Sem.run_bind,Sem.run_pure,Result.andThen_ok,h1]
   ·rename_i q hq;obtain⟨g',e1,e,Yg,YK⟩:=h.box hq;rw[hg] at e1;simp only[Value.pointer.injEq,Option.some.injEq,Addr.mk.injEq,and_true] at e1;subst e1;split at he
    ·rename_i ut lF;cases h0:Nat.beq off 0 with
     |false=>rw[h0] at he;cases he
     |true=>
      rw[h0] at he;simp only[cond_true,Option.some.injEq] at he;subst he;have:=(beq_iff _ _).1 h0;subst this;refine⟨ν (.row q), ?_,rfl,YK⟩;have hc:w.cell? ⟨g,0,none⟩=some (ν (.row q)):=by rw[cell_of_row w _ _ _ e (0,0) Yg];rfl
      have ha:=AN hr' w;rw[lF] at ha;simp only[zC,XG,asAddr,Sem.run_bind,Sem.run_pure,Result.andThen_ok];simp[loadVar,ha,hc]
    ·cases he
   ·cases he
  ·cases he
theorem zD {fn:Func}{vs:List Value}(h:(fn.results.toList.mapM (zC a.tmps)).run P w= .ok vs w):
  (results fn a.tmps).run P w= .ok (match vs with | [v]=>v |l=> .tuple l.toArray) w:=by
 have e:results fn a.tmps=(do
   let vs ←fn.results.mapM (zC a.tmps)
   pure (if h:vs.size=1 then vs[0] else .tuple vs)):=by
  unfold results;have:(fun rv=>(match rv with |ResultVar.tmp t=>pure (a.tmps.getD t undef) | .cell x t=>do loadVar t (←asAddr (a.tmps.getD x undef)):Sem Value))=zC a.tmps:=by funext rv;cases rv<;>rfl
  rw[←this];rfl
 rw[e,Array.mapM_eq_mapM_toList];simp only[Sem.run_bind,Sem.run_map,h,Result.andThen_ok,Sem.run_pure]
 match vs with
 | []=>rfl
 | [v]=>rfl
 |v::u::r=>simp
end
section
variable {P:Program}{T:cm}{Φ:bE T}{E:Env}{σ af es:AS}{a a':Act}{w w':World}{ν aK:Nm→Value}{O O':Nat→Prop}{V V':View}{Y:Value}{fr fb:Nat→Nat}{hin:List Nat}
def NW (fr fb:Nat→Nat):Nm→Nm
 | .row k=> .row (fr k)
 | .box k=> .box (fb k)
 | .hp i n=> .hp i n
def JE (fr fb:Nat→Nat)(ν:Nm→Value)(m:Nm):Value:=ν (NW fr fb m)
def Q5 (hin:List Nat):Obj→Prop
 | .row row=>dH hin row.t=true
 | .box (.cells cs)=>∃(t:Ty) (y:t.den),cs=flat t y∧dH hin t=true
 | .box _=>False
 | .hp _ row=>dH hin row.t=true
theorem Q6 (m:Nm):E.pQ (NW fr fb m)→E.pQ m:=fun h=>by
 cases m with
 |row k=>exact absurd h Ez
 |box k=>exact absurd h Ck
 |hp i n=>exact h
theorem UB (m:Nm)(k:Nat):E.J2 (NW fr fb m) k→E.J2 m k:=fun h=>by cases m<;>exact h
structure wC (E:Env) (σ es:AS) (ν:Nm→Value) (fr fb:Nat→Nat) (hin:List Nat):Prop where
 obj:∀m o,es.obj m=some o→σ.obj (NW fr fb m)=some o∧Q5 hin o
 inj:∀m m',(es.obj m).isSome=true→(es.obj m').isSome=true→NW fr fb m=NW fr fb m'→m=m'
 hp:∀i,i∈hin→es.ab[i]? =σ.ab[i]?
 em:∀i hr,i∉hin→es.ab[i]? =some hr→hr.xs=[]
 kept:HK E.h0 E.n0 es.ab ν
 tr:es.trace=⟨.unit,()⟩
 tm:es.tmps=⟨0,[],[]⟩
 ro:∀i hr,E.ro i=some hr→es.ab[i]? =some hr
theorem wC.own (g:wC E σ es ν fr fb hin){m:Nm}{k:Nat}(h:Own es (JE fr fb ν) m k):Own σ ν (NW fr fb m) k:=by obtain⟨o,ho⟩:=Option.isSome_iff_exists.1 h.1;exact⟨by rw[(g.obj m o ho).1];rfl,h.2⟩
theorem wC.cell (g:wC E σ es ν fr fb hin)(ad:Addr)(u:Value)(hv:view E σ ν O w (.cell ad) u):view E es (JE fr fb ν) O w (.cell ad) u:=by
 rcases hv with hv | ⟨h1,h2,h3,h4⟩
 ·exact .inl hv
 ·exact .inr ⟨h1,fun⟨m,hm⟩=>h2 ⟨_,g.own hm⟩,h3,h4⟩
theorem wC.ref (g:wC E σ es ν fr fb hin)(i:Nat)(hi:hin.any (Nat.beq i)=true)(n:Nat)(u:Value)(hv:view E σ ν O w (.ref i n) u):view E es (JE fr fb ν) O w (.ref i n) u:=by obtain⟨h1,h2,h3⟩:=hv;refine⟨h1, ?_,h3⟩;unfold hlen at h2 ⊢;rw[g.hp i (iv.1 hi)];exact h2
theorem St.finish (h:St E σ a w ν (fun _=>False))(hJ:E.J=ib)(g:wC E σ es ν fr fb hin):St E es ⟨#[],[]⟩ w (JE fr fb ν) (fun _=>False):=by
 have bP:∀t x cs,dH hin t=true→Rel (view E σ ν (fun _=>False) w) t x cs→Rel (view E es (JE fr fb ν) (fun _=>False) w) t x cs:=fun t x cs hr=>Rel.tr g.cell g.ref t x cs hr;refine⟨h.keep,(fun d hd=>by cases hd),⟨by rw[g.tm];rfl,(fun i x e=>by rw[g.tm] at e;cases e),(fun i x e=>by rw[g.tm] at e;cases e)⟩,fun m o ho=> ?_,fun m m' k h1 h2=>g.inj m m' h1.1 h2.1 (h.inj _ _ k (g.own h1) (g.own h2)),fun m k hm=> ?_,fun m k hm=>(h.new _ k (g.own hm)).imp id (UB m k),⟨?_,fun _ hf=>hf.elim⟩,fun i hr n e h1 h2=> ?_,fun i hr e=>⟨g.ro i hr e,(h.ro i hr e).2⟩,⟨g.kept.num,g.kept.row,g.kept.nm⟩,h.waits,h.o6,fun m k hm=>(h.pU _ k (g.own hm)).imp (Q6 m) id,h.C5,List.nodup_nil⟩
 ·obtain⟨h1,h2⟩:=g.obj m o ho;have h3:=h.sQ _ o h1;show xH _ es _ w (ν (NW fr fb m)) o;cases o with
  |row row=>obtain⟨bl,h4,h5⟩:=h3;exact⟨bl,h4,h5.mono fun x cs=>bP _ x cs h2⟩
  |box x=>
   cases x with
   |cells cs=>obtain⟨t,y,rfl,h2⟩:=h2;obtain⟨gb,h4,cur,e,h5,h6⟩:=h3;exact⟨gb,h4,cur,e,h5,fM (bP t y _ h2 (fN h6))⟩
   |own q=>exact h2.elim
   |nil=>exact h2.elim
  |hp k row=>
   match k,h3 with
   |0,⟨h4,bl,h5,h6⟩=>exact⟨h4,bl,h5,h6.mono fun x cs=>bP _ x cs h2⟩
   |1,⟨gb,cur,ys,x,h4,h5,h6,h7,h8⟩=>exact⟨gb,cur,ys,x,h4,h5,h6,h7,bP _ _ _ h2 h8⟩
 ·obtain⟨h1,h2,h3⟩:=h.oW _ k (g.own hm);exact⟨h1.imp id (Or.imp id (Q6 m)),h2,h3⟩
 ·have:=h.out.1;rw[hJ] at this ⊢;exact g.tr
 ·by_cases hi:i∈hin
  ·rw[g.hp i hi] at e;exact h.nn i hr n e h1 h2
  ·rw[g.em i hr hi e] at h2;simp at h2;omega
theorem Iu (wr:List Nat):∀(hs:List Nat) (x:wk T hs) (l:List bh) (i:Nat),i∈hs→i<l.length→∃hr:bh,(lW T wr hs x l)[i]? =some hr∧hr.e=(T.ht i).e∧hr.t=(T.ht i).t∧hr.k=(T.ht i).k∧hr.w=wr.any (Nat.beq i)
 | [],_,l,i,h,_=>by simp at h
 | [h],x,l,i,hm,hl=>by simp only[List.mem_singleton] at hm;subst hm;simp only[lW,nJ];rw[List.getElem?_set_self hl];exact⟨_,rfl,rfl,rfl,rfl,rfl⟩
 |h::j::r,x,l,i,hm,hl=>by
  by_cases hm2:i∈j::r
  ·simp only[lW];exact Iu wr (j::r) x.2 _ i hm2 (by simpa [nJ] using hl)
  ·have:i=h:=by
    rcases List.mem_cons.1 hm with e |e
    ·exact e
    ·exact absurd e hm2
   subst this;simp only[lW];rw[hZ wr _ _ _ i hm2];simp only[nJ];rw[List.getElem?_set_self hl];exact⟨_,rfl,rfl,rfl,rfl,rfl⟩
theorem NX {s t:Ty}(h:s=t)(xs:List (Option (List s.den)))(e:TypeId)(k:Nat)(w:Bool):(⟨e,t,k,w,Fz h xs⟩:bh)=⟨e,s,k,w,xs⟩:=Kg e k w h xs
theorem NY (wr:List Nat){ab:List bh}:∀(hs:List Nat) (x:wk T hs) (l:List bh) (i:Nat),Cf T ab hs=some x→i∈hs→i<l.length→∃hr:bh,ab[i]? =some hr∧hr.t=(T.ht i).t∧(lW T wr hs x l)[i]? =some ⟨(T.ht i).e,hr.t,(T.ht i).k,wr.any (Nat.beq i),hr.xs⟩
 | [],_,l,i,_,h,_=>by simp at h
 | [h],x,l,i,hx,hm,hl=>by
   simp only[List.mem_singleton] at hm;subst hm;simp only[Cf,Qz] at hx;split at hx
   ·rename_i hr e;split at hx
    ·rename_i et;simp only[Option.some.injEq] at hx;subst hx;refine⟨hr,e,et, ?_⟩;simp only[lW,nJ];rw[List.getElem?_set_self hl];exact congrArg some (NX et hr.xs _ _ _)
    ·cases hx
   ·cases hx
 |h::j::r,x,l,i,hx,hm,hl=>by
  simp only[Cf] at hx;split at hx
  ·rename_i y hy;split at hx
   ·rename_i z hz;simp only[Option.some.injEq] at hx;subst hx;by_cases hm2:i∈j::r
    ·simp only[lW];exact NY wr (j::r) z _ i hz hm2 (by simpa [nJ] using hl)
    ·have:i=h:=by
      rcases List.mem_cons.1 hm with e |e
      ·exact e
      ·exact absurd e hm2
     subst this;simp only[Qz] at hy;split at hy
     ·rename_i hr e;split at hy
      ·rename_i et;simp only[Option.some.injEq] at hy;subst hy;refine⟨hr,e,et, ?_⟩;simp only[lW];rw[hZ wr _ _ _ i hm2];simp only[nJ];rw[List.getElem?_set_self hl];exact congrArg some (NX et hr.xs _ _ _)
      ·cases hy
     ·cases hy
   ·cases hx
  ·cases hx
theorem SI {v:Nat}{xh:wj T v}{yh:pP T v}{ν0:Nm→Value}(hC:Callee T E v xh)(PL:HK E.h0 E.n0 (aU T v xh) ν0)(h:St E σ a w ν O)(hy:Cf T σ.ab (T.sig v).hout=some (vC _ yh))(hro:∀i hr,E.ro i=some hr→σ.ab[i]? =some hr):
  (∀i,i∈(T.sig v).hin→(ni T v xh yh)[i]? =σ.ab[i]?)∧(∀i hr,i∉(T.sig v).hin→(ni T v xh yh)[i]? =some hr→hr.xs=[])∧HK E.h0 E.n0 (ni T v xh yh) ν∧(∀i hr,E.ro i=some hr→(ni T v xh yh)[i]? =some hr)∧∀i hr,i∈(T.sig v).hin→σ.ab[i]? =some hr→hr.t=(T.ht i).t:=by
 have UC:(aU T v xh).length=T.ab.length:=by unfold aU;rw[rG,lZ]
 have XI:σ.ab.length=T.ab.length:=by rw[h.kept.num, ←PL.num,UC]
 have same:∀i hr,(aU T v xh)[i]? =some hr→∃hr',σ.ab[i]? =some hr'∧sE hr hr':=fun i hr e=>by
  have hlt:=(List.getElem?_eq_some_iff.1 e).1;rw[PL.num] at hlt;obtain⟨EA,h1,h2,_⟩:=PL.row i _ (List.getElem?_eq_getElem hlt);obtain⟨yD,h3,h4,_⟩:=h.kept.row i _ (List.getElem?_eq_getElem hlt);rw[e] at h1;obtain rfl:hr=EA:=by simpa using h1
  exact⟨yD,h3,⟨h4.e.trans h2.e.symm,h4.t.trans h2.t.symm,h4.k.trans h2.k.symm,h4.w.trans h2.w.symm⟩⟩
 have hsub:∀i,i∈(T.sig v).hout→i∈(T.sig v).hin:=fun i hi=>Dl (s:=T.sig v) (iv.2 hi);have hEq:∀i,i∉(T.sig v).hout→(ni T v xh yh)[i]? =(aU T v xh)[i]? :=fun i hi=>hZ _ _ _ _ i hi;have aau:∀i,i∈(T.sig v).hin→(ni T v xh yh)[i]? =σ.ab[i]? :=fun i hi=>by
  by_cases hlt:i<T.ab.length
  ·obtain⟨hs,s1,s2,s3,s4,s5⟩:=Iu (T:=T) (T.sig v).hout (T.sig v).hin (vC _ xh) (ek T) i hi (by rw[lZ];exact hlt);obtain⟨hr',h1,h2⟩:=same i hs s1;by_cases ho:i∈(T.sig v).hout
   ·obtain⟨hr,g1,g2,g3⟩:=NY (T:=T) (T.sig v).hout (T.sig v).hout (vC _ yh) (aU T v xh) i hy ho (by rw[UC];exact hlt);rw[h1] at g1;obtain rfl:hr'=hr:=by simpa using g1
    show (lW T _ _ _ _)[i]? =_;rw[g3,h1];have e1:hr'.e=(T.ht i).e:=h2.e.trans s2;have e2:hr'.k=(T.ht i).k:=h2.k.trans s4;have e3:hr'.w=(T.sig v).hout.any (Nat.beq i):=h2.w.trans s5;rw[←e1, ←e2, ←e3]
   ·have s1':(aU T v xh)[i]? =some hs:=s1;rw[hEq i ho,s1'];have Ng:=hC.ro i;have hf:(T.sig v).hout.any (Nat.beq i)=false:=eq_false_of_ne_true (fun h=>ho (iv.1 h));rw[iv.2 hi,hf] at Ng;have EA:E.ro i=(aU T v xh)[i]? :=Ng;rw[s1'] at EA;exact(hro i hs EA).symm
  ·rw[List.getElem?_eq_none (by unfold ni;rw[rG,UC];omega),List.getElem?_eq_none (by rw[XI];omega)]
 have hEm:∀i hr,i∉(T.sig v).hin→(ni T v xh yh)[i]? =some hr→(aU T v xh)[i]? =some hr∧hr.xs=[]:=fun i hr hi e=>by rw[hEq i (fun ho=>hi (hsub i ho))] at e;refine⟨e, ?_⟩;unfold aU at e;rw[hZ _ _ _ _ i hi] at e;exact qB i hr e
 refine⟨aau,fun i hr hi e=>(hEm i hr hi e).2,⟨?_,fun i hr e=> ?_,fun i n h1 h2=>h.kept.nm i n h1 h2⟩,fun i hr e=> ?_,fun i hr hi e=> ?_⟩
 ·show (ni T v xh yh).length=_;unfold ni;rw[rG];exact PL.num
 ·by_cases hi:i∈(T.sig v).hin
  ·rw[aau i hi];exact h.kept.row i hr e
  ·have hlt:=(List.getElem?_eq_some_iff.1 e).1;rw[←PL.num] at hlt;have e2:(aU T v xh)[i]? =some (aU T v xh)[i]:=List.getElem?_eq_getElem hlt;obtain⟨EA,h1,h2,h3⟩:=PL.row i hr e;refine⟨EA, ?_,h2,h3⟩;rw[hEq i (fun ho=>hi (hsub i ho))];exact h1
 ·have h1:=hC.ro i;rw[e] at h1;cases hb:((T.sig v).hin.any (Nat.beq i)&& !((T.sig v).hout.any (Nat.beq i))) with
  |false=>rw[hb] at h1;cases h1
  |true=>rw[hb,cond_true] at h1;simp only[Bool.and_eq_true,Bool.not_eq_true'] at hb;rw[hEq i (fun ho=>by rw[iv.2 ho] at hb;cases hb.2)];exact h1.symm
 ·have hlt:=(List.getElem?_eq_some_iff.1 e).1;rw[XI] at hlt;obtain⟨hs,s1,s2,s3,s4,s5⟩:=Iu (T:=T) (T.sig v).hout (T.sig v).hin (vC _ xh) (ek T) i hi (by rw[lZ];exact hlt);obtain⟨hr',h1,h2⟩:=same i hs s1;rw[e] at h1;obtain rfl:hr=hr':=by simpa using h1
  exact h2.t.trans s3
end
section
variable {P:Program}{T:cm}{Φ:bE T}{E:Env}{σ af es:AS}{a a':Act}{w w':World}{ν aK:Nm→Value}{O O':Nat→Prop}{V V':View}{Y:Value}{fr fb:Nat→Nat}{hin:List Nat}
def rowAt (T:List eI)(σ:AS)(rv:ResultVar):Option Nat:=
 match xG T σ rv with
 |some (.rv (.own r))=>some r
 |_=>none
theorem zE {T:List eI}:∀(l:List ResultVar) (p r:Nat),(l[p]?).bind (rowAt T σ)=some r→r∈nT T σ l
 | [],p,r,h=>by simp at h
 |v::l,0,r,h=>by
  simp only[List.getElem?_cons_zero,Option.bind_some,rowAt] at h;simp only[nT];split at h
  ·rename_i r' hr;simp only[Option.some.injEq] at h;subst h;rw[hr];simp
  ·cases h
 |v::l,p+1,r,h=>by
  have:=zE l p r (by simpa using h);simp only[nT];split
  ·simp[this]
  ·exact this
theorem Iv {T:List eI}:∀(l:List ResultVar),pT (nT T σ l)=true→∀(p q r:Nat),(l[p]?).bind (rowAt T σ)=some r→(l[q]?).bind (rowAt T σ)=some r→p=q
 | [],h,p,q,r,hp,hq=>by simp at hp
 |v::l,h,p,q,r,hp,hq=>by
  have UD:pT (nT T σ l)=true∧∀r',rowAt T σ v=some r'→r'∉nT T σ l:=by
   simp only[nT] at h;split at h
   ·rename_i r' hr;simp only[pT,Bool.and_eq_true,Bool.not_eq_true',List.any_eq_false] at h;refine⟨h.2,fun r2 h2 hm=> ?_⟩;simp only[rowAt,hr,Option.some.injEq] at h2;subst h2;exact h.1 r' hm (beq_refl r')
   ·rename_i hn;refine⟨h,fun r2 h2=> ?_⟩;simp only[rowAt] at h2;cases h2
  cases p with
  |zero=>
   cases q with
   |zero=>rfl
   |succ q=>exact absurd (zE l q r (by simpa using hq)) (UD.2 r (by simpa using hp))
  |succ p=>
   cases q with
   |zero=>exact absurd (zE l p r (by simpa using hp)) (UD.2 r (by simpa using hq))
   |succ q=>rw[Iv l UD.1 p q r (by simpa using hp) (by simpa using hq)]
theorem xZ {t:Ty}{e:TypeId}{av:AV}{x:t.den}(h:zk σ hin (t,some e) av=some x):∃r row,av= .rv (.own r)∧look σ.rows r=some row∧ownRow t e x=some row∧t= .slice row.t:=by
 have zq:(∃r,av= .rv (.own r))∨zk σ hin (t,some e) av=none:=by
  cases av with
  |rv x=>cases x<;>first |exact .inl ⟨_,rfl⟩ |exact .inr rfl
  |_=>exact .inr rfl
 rcases zq with ⟨r,rfl⟩ |zq
 ·simp only[zk] at h;split at h
  ·rename_i row hrow;cases hb:Nat.beq row.e e with
   |false=>simp[hb] at h
   |true=>simp only[hb,cond_true] at h;have Zy:=(beq_iff _ _).1 hb;have hc:=uR h;refine⟨r,row,rfl,hrow, ?_⟩;obtain⟨re,rt,rxs⟩:=row;simp only at Zy hc;subst Zy;cases hc;exact⟨rfl,rfl⟩
  ·cases h
 ·rw[zq] at h;cases h
theorem UE (h:St E σ a w ν (fun _=>False))(g:wC E σ es ν fr fb hin)(hX:∀i k,i∉hin→¬E.XH i k)(hR:∀i hr,i∉hin→E.ro i≠some hr):
  ∀(i n:Nat) (hr:bh) (l:List hr.t.den) (v:Value),(Li σ.ab hin)[i]? =some hr→ae hr.xs n=some l→bw (view E σ ν (fun _=>False) w) ⟨.ref i,n⟩ v→Src (view E σ ν (fun _=>False) w) (view E es (JE fr fb ν) (fun _=>False) w) hr.t l v:=by
 intro i n hr l v e hg hv;unfold Li at e;simp only[List.getElem?_map,Option.map_eq_some_iff] at e;obtain⟨p,hp,e⟩:=e;rw[List.getElem?_zipIdx] at hp;simp only[Option.map_eq_some_iff,Nat.zero_add] at hp;obtain⟨Ng,ai,rfl⟩:=hp;dsimp only at e;cases hi:hin.any (Nat.beq i) with
 |true=>
  rw[hi,cond_true] at e;subst e;cases n with
  |zero=>simp only[ae,Option.some.injEq] at hg;subst hg;have: [v]=[_]:=hv;simp only[List.cons.injEq,and_true] at this;exact⟨none,0,[],this,Nat.le_refl _,trivial,fun _=>rfl,fun j u hj=>by simp at hj⟩
  |succ m=>simp[ae] at hg
 |false=>
  rw[hi,cond_false] at e;subst e;have hni:i∉hin:=fun hm=>by rw[iv.2 hm] at hi;cases hi
  obtain⟨h2,h3,_⟩:=h.Dj ai hg hv;obtain⟨A,c,bl,e1,e2,e3,e4,e5⟩:=Hb h2;refine⟨A,c,bl,e1,e2,e3,e4,fun j u hj=> ?_⟩;obtain⟨ad,rfl,hc⟩:=e5 j u hj;refine⟨ad,rfl, ?_⟩;have hown:=h3 ad.block (by rw[e1];rfl);refine .inr ⟨by rw[qC];exact(h.new _ _ hown).resolve_right (hX i _ hni),fun⟨m,hm⟩=> ?_,id,hc⟩;rw[qC] at hm;have h7:=h.inj _ _ _ hown (g.own hm);cases m with
  |row k=>cases h7
  |box k=>cases h7
  |hp i' n'=>
   injection h7 with h7 h8
   subst h7 h8;have h9:=hm.1;cases n with
   |zero=>cases h9
   |succ n=>
    simp only[AS.obj,ki] at h9;split at h9
    ·rename_i yD e6;rw[g.em i yD hni e6] at h9;simp[yC] at h9
    ·cases h9
theorem Dx (h:St E σ a w ν (fun _=>False))(g:wC E σ es ν fr fb hin)(hX:∀i k,i∉hin→¬E.XH i k)(hR:∀i hr,i∉hin→E.ro i≠some hr){t:Ty}{av:AV}{x:t.den}{v:Value}
  (hi:dH hin t=true) (hu:∀r,av= .rv (.own r)→∀k,(look es.rows k).isSome=true→fr k≠r) (he:zk σ hin (t,none) av=some x) (hv:al (view E σ ν (fun _=>False) w) σ ν Y av v):
  qA (view E es (JE fr fb ν) (fun _=>False) w) t x v:=by
 have zq:(∃r,av= .rv (.own r))∨zk σ hin (t,none) av=(bif Eu av then typed (Li σ.ab hin) t av else typed [] t av):=by
  cases av with
  |rv x=>cases x<;>first |exact .inl ⟨_,rfl⟩ |exact .inr rfl
  |_=>exact .inr rfl
 rcases zq with ⟨r,rfl⟩ |zq
 ·simp only[zk] at he;obtain⟨rfl,hlk⟩:=hv;split at he
  ·rename_i row hrow;have hc:=uR he;obtain⟨A,c,bl,e1,e2,e3,e4,e5⟩:=Hb (h.row hrow);have hsrc:Src (view E σ ν (fun _=>False) w) (view E es (JE fr fb ν) (fun _=>False) w) row.t row.xs (ν (.row r)):=by
    refine⟨A,c,bl,e1,e2,e3,e4,fun j u hj=> ?_⟩;obtain⟨ad,rfl,hcell⟩:=e5 j u hj;refine⟨ad,rfl, ?_⟩;have hown:Own σ ν (.row r) ad.block:=⟨by simp[AS.obj,hrow],by rw[e1];rfl⟩
    refine .inr ⟨by rw[qC];exact(h.new _ _ hown).resolve_right id,fun⟨m,hm⟩=> ?_,id,hcell⟩;rw[qC] at hm;have h7:=h.inj _ _ _ (g.own hm) hown;cases m with
    |row k=>
     injection h7 with h7
     exact hu r rfl k (by have:=hm.1;simpa [AS.obj] using this) h7
    |box k=>cases h7
    |hp i' n'=>cases h7
   have hri:dH hin row.t=true:=by
    have:t= .slice row.t:=by cases hc;rfl
    rw[this] at hi;exact hi
   have hlr:=hsrc.tr g.cell g.ref hri;rw[hc] at hlr;refine qA.EO (fun u e=> ?_) hlr;subst e;cases hc
  ·cases he
 ·rw[zq] at he;cases hb:Eu av with
  |true=>rw[hb,cond_true] at he;exact AR g.cell g.ref (UE h g hX hR) hi he hv
  |false=>rw[hb,cond_false] at he;exact AR (ab:=[]) g.cell g.ref (fun i n hr l v e=>by simp at e) hi he hv
theorem NZ:∀{vars:List ResultVar} {ts:List Ba} {y:nt (ts.map (·.1))} {d:Nat},nu T.rows σ hin vars ts=some y→∀u∈ia d ts y,∃j r row t e,u= .row (d+j) row∧(vars[j]?).bind (rowAt T.rows σ)=some r∧look σ.rows r=some row∧ts[j]? =some (t,some e)∧t= .slice row.t
 | [],[],y,d,h,u,hu=>by simp[ia] at hu
 | [v],[(t,none)],y,d,h,u,hu=>by simp[ia] at hu
 | [v],[(t,some e)],y,d,h,u,hu=>by simp only[nu] at h;obtain⟨av,k8,h⟩:=Option.bind_eq_some_iff.1 h;obtain⟨r,row,rfl,h1,h2,h3⟩:=xZ h;simp only[ia] at hu;rw[h2] at hu;simp only[List.mem_singleton] at hu;exact⟨0,r,row,t,e,hu,by simp[rowAt,k8],h1,rfl,h3⟩
 |v::vs,(t,o)::q::ps,y,d,h,u,hu=>by
  simp only[nu] at h;split at h
  ·rename_i x1 y1 hx hy;simp only[Option.some.injEq] at h;subst h;have ih:=fun u hu=>NZ (d:=d+1) hy u hu;have tail:∀u∈ia (d+1) (q::ps) y1,∃j r row t' e,u= .row (d+j) row∧((v::vs)[j]?).bind (rowAt T.rows σ)=some r∧look σ.rows r=some row∧((t,o)::q::ps)[j]? =some (t',some e)∧t'= .slice row.t:=fun u hu=>by obtain⟨j,r,row,t',e,h1,h2,h3,h4,h5⟩:=ih u hu;exact⟨j+1,r,row,t',e,by rw[h1];congr 1;omega,by simpa using h2,h3,by simpa using h4,h5⟩
   cases o with
   |none=>exact tail u hu
   |some e=>
    obtain⟨av,k8,hx⟩:=Option.bind_eq_some_iff.1 hx;obtain⟨r,row,rfl,h1,h2,h3⟩:=xZ hx;simp only[ia] at hu;rw[show ownRow t e ((x1,y1):nt (((t,some e)::q::ps).map (·.1))).1=some row from h2] at hu;rcases List.mem_cons.1 hu with hu |hu
    ·exact⟨0,r,row,t,e,hu,by simp[rowAt,k8],h1,rfl,h3⟩
    ·exact tail u hu
  ·cases h
 | [],_::_,y,d,h,u,hu=>by simp[nu] at h
 |_::_,[],y,d,h,u,hu=>by simp[nu] at h
 |_::_::_,[_],y,d,h,u,hu=>by simp[nu] at h
theorem Q7 {us:List TU}(h:Cp us)(σ:AS):(∀k,((look σ.rows k).isSome=true∨∃row,TU.row k row∈us)→(look (σ.app us).rows k).isSome=true)∧∀k,((look σ.boxes k).isSome=true∨∃x,TU.box k x∈us)→(look (σ.app us).boxes k).isSome=true:=by
 induction us generalizing σ with
 |nil=>exact⟨fun k hk=>hk.elim id (fun⟨row,e⟩=>by simp at e),fun k hk=>hk.elim id (fun⟨row,e⟩=>by simp at e)⟩
 |cons u us ih=>
  obtain⟨h1,h2⟩:=ih (fun x hx=>h x (by simp[hx])) (σ.one u);refine⟨fun k hk=>h1 k ?_,fun k hk=>h2 k ?_⟩
  ·rcases hk with hk | ⟨row,hk⟩
   ·left;rcases h u (by simp) with ⟨j,r0,rfl⟩ | ⟨j,x0,rfl⟩
    ·show (look (put _ _ _) k).isSome=true;rw[aF];split
     ·rfl
     ·exact hk
    ·exact hk
   ·rcases List.mem_cons.1 hk with hk |hk
    ·left;subst hk;show (look (put _ _ _) k).isSome=true;rw[aF,if_pos rfl];rfl
    ·exact .inr ⟨row,hk⟩
  ·rcases hk with hk | ⟨row,hk⟩
   ·left;rcases h u (by simp) with ⟨j,r0,rfl⟩ | ⟨j,x0,rfl⟩
    ·exact hk
    ·show (look (put _ _ _) k).isSome=true;rw[aF];split
     ·rfl
     ·exact hk
   ·rcases List.mem_cons.1 hk with hk |hk
    ·left;subst hk;show (look (put _ _ _) k).isSome=true;rw[aF,if_pos rfl];rfl
    ·exact .inr ⟨row,hk⟩
theorem Iw (hT:fT P T.rows)(h:St E σ a w ν (fun _=>False))(g:wC E σ es ν fr fb hin)(hX:∀i k,i∉hin→¬E.XH i k)(hR:∀i hr,i∉hin→E.ro i≠some hr):
  ∀{vars:List ResultVar} {ts:List Ba} {y:nt (ts.map (·.1))} {d:Nat},nu T.rows σ hin vars ts=some y→(ts.all fun p=>dH hin p.1)=true→(∀(j r:Nat),(vars[j]?).bind (rowAt T.rows σ)=some r→∀t e,ts[j]? =some (t,some e)→fr (d+j)=r)→
   (∀(j r:Nat) t,(vars[j]?).bind (rowAt T.rows σ)=some r→ts[j]? =some (t,none)→∀k,(look es.rows k).isSome=true→fr k≠r)→(∀u∈ia d ts y,∀k row,u= .row k row→(look es.rows k).isSome=true)→
   ∃vs,(vars.mapM (zC a.tmps)).run P w= .ok vs w∧aE (nf (view E es (JE fr fb ν) (fun _=>False) w) es (JE fr fb ν)) (sC d ts y) vs
 | [],[],y,d,he,hi,h1,h2,h3=>⟨[],rfl,trivial⟩
 | [rv],[(t,none)],y,d,he,hi,h1,h2,h3=>by simp only[nu] at he;obtain⟨av,k8,he⟩:=Option.bind_eq_some_iff.1 he;obtain⟨v,hrun,hv⟩:=xY hT h k8;simp only[List.all_cons,List.all_nil,Bool.and_true] at hi;have hp:=Dx h g hX hR hi (fun r e k hk=>h2 0 r t (by simp[rowAt,k8,e]) rfl k hk) he hv;refine⟨[v],by simp[hrun], ?_⟩;have:=A0 (σ:=es) (ν:=JE fr fb ν) (Y:=E.Y) hp;cases t<;>exact⟨this,trivial⟩
 | [rv],[(t,some e)],y,d,he,hi,h1,h2,h3=>by
   simp only[nu] at he;obtain⟨av,k8,he⟩:=Option.bind_eq_some_iff.1 he;obtain⟨v,hrun,hv⟩:=xY hT h k8;obtain⟨r,row,rfl,g1,g2,g3⟩:=xZ he;obtain⟨rfl,_⟩:=hv;refine⟨[ν (.row r)],by simp[hrun], ?_⟩;have Kd:=h1 0 r (by simp[rowAt,k8]) t e rfl;have hm:TU.row d row∈ia d [(t,some e)] y:=by
    have e9:ia d [(t,some e)] y=[TU.row d row]:=by show (match ownRow t e y with |some row=>[TU.row d row] |none=>[])=_;rw[g2]
    rw[e9];simp
   have UF:=h3 _ hm d row rfl;have:nf (view E es (JE fr fb ν) (fun _=>False) w) es (JE fr fb ν) (.own d) (ν (.row r)):=⟨by show _=ν (.row (fr d));rw[show fr d=r from Kd],UF⟩
   cases t<;>exact⟨this,trivial⟩
 |rv::vs,(t,o)::q::ps,y,d,he,hi,h1,h2,h3=>by
  simp only[nu] at he;split at he
  ·rename_i x1 y1 hx hy;simp only[Option.some.injEq] at he;subst he;rw[List.all_cons,Bool.and_eq_true] at hi;have hsub:∀u∈ia (d+1) (q::ps) y1,u∈ia d ((t,o)::q::ps) (x1,y1):=fun u hu=>by
    cases o with
    |none=>exact hu
    |some e=>
     simp only[ia];split
     ·exact List.mem_cons_of_mem _ hu
     ·exact hu
   obtain⟨us,e1,e2⟩:=Iw hT h g hX hR (d:=d+1) hy hi.2 (fun j r hj t' e he=>by
     have:=h1 (j+1) r (by simpa using hj) t' e (by simpa using he);rw[show d+(j+1)=d+1+j by omega] at this;exact this) (fun j r t' hj he k hk=>h2 (j+1) r t' (by simpa using hj) (by simpa using he) k hk) (fun u hu k row e=>h3 u (hsub u hu) k row e)
   obtain⟨av,k8,hx⟩:=Option.bind_eq_some_iff.1 hx;obtain⟨v,hrun,hv⟩:=xY hT h k8;have fin:nf (view E es (JE fr fb ν) (fun _=>False) w) es (JE fr fb ν) (match o with |some _=> .own d |none=>match t,x1 with | .st t,x=> .agg (flat t x) |t,x=> .cv ⟨t,x⟩) v→∃vs',((rv::vs).mapM (zC a.tmps)).run P w= .ok vs' w∧aE (nf (view E es (JE fr fb ν) (fun _=>False) w) es (JE fr fb ν)) (sC d ((t,o)::q::ps) (x1,y1)) vs':=fun hr=>by
    refine⟨v::us, ?_, ?_⟩
    ·rw[List.mapM_cons];simp[hrun,e1]
    ·cases o with
     |none=>cases t<;>exact⟨hr,e2⟩
     |some e=>cases t<;>exact⟨hr,e2⟩
   cases o with
   |none=>have hp:=Dx h g hX hR hi.1 (fun r e k hk=>h2 0 r t (by simp[rowAt,k8,e]) rfl k hk) hx hv;have:=A0 (σ:=es) (ν:=JE fr fb ν) (Y:=E.Y) hp;refine fin ?_;cases t<;>exact this
   |some e=>
    obtain⟨r,row,rfl,g1,g2,g3⟩:=xZ hx;obtain⟨rfl,_⟩:=hv;have Kd:=h1 0 r (by simp[rowAt,k8]) t e rfl;have hm:TU.row d row∈ia d ((t,some e)::q::ps) (x1,y1):=by simp only[ia];rw[show ownRow t e ((x1,y1):nt (((t,some e)::q::ps).map (·.1))).1=some row from g2];simp
    have UF:=h3 _ hm d row rfl;exact fin ⟨by show _=ν (.row (fr d));rw[show fr d=r from Kd],UF⟩
  ·cases he
 | [],_::_,y,d,he,hi,h1,h2,h3=>by simp[nu] at he
 |_::_,[],y,d,he,hi,h1,h2,h3=>by simp[nu] at he
 |_::_::_,[_],y,d,he,hi,h1,h2,h3=>by simp[nu] at he
end
section
variable {P:Program}{T:cm}{Φ:bE T}{E:Env}{σ af es:AS}{a a':Act}{w w':World}{ν aK:Nm→Value}{O O':Nat→Prop}{V V':View}{Y:Value}{fr fb:Nat→Nat}{hin:List Nat}
theorem zF {boxes:List (Nat×BX)}:∀{ts:List Ty} {aP:List yy} {y:nt ts} {d:Nat},iC boxes ts aP=some y→∀u∈rH d ts y,∃j b t z,u= .box (d+j) (.cells (flat t z))∧(bf aP)[j]? =some b∧look boxes b=some (.cells (flat t z))∧t∈ts
 | [],[],y,d,h,u,hu=>by simp[rH] at hu
 | [t],[.box b],y,d,h,u,hu=>by
   simp only[iC] at h;split at h
   ·rename_i cs hb;have:=lU h;subst this;simp only[rH,List.mem_singleton] at hu;exact⟨0,b,t,y,hu,by simp[bf],hb,by simp⟩
   ·cases h
 |t::t2::ts, .box b::cs,y,d,h,u,hu=>by
  simp only[iC] at h;split at h
  ·rename_i l hb;split at h
   ·rename_i x1 hx1;split at h
    ·rename_i y1 hy;simp only[Option.some.injEq] at h;subst h;have:=lU hx1;subst this;simp only[rH,List.mem_cons] at hu;rcases hu with hu |hu
     ·exact⟨0,b,t,x1,hu,by simp[bf],hb,by simp⟩
     ·obtain⟨j,b',t',z,h1,h2,h3,h4⟩:=zF (d:=d+1) hy u hu;exact⟨j+1,b',t',z,by rw[h1];congr 1;omega,by simpa [bf] using h2,h3,List.mem_cons_of_mem _ h4⟩
    ·cases h
   ·cases h
  ·cases h
 | [],_::_,y,d,h,u,hu=>by simp[iC] at h
 | [_],[],y,d,h,u,hu=>by simp[iC] at h
 | [_],[.pO _],y,d,h,u,hu=>by simp[iC] at h
 | [_], .box _::_::_,y,d,h,u,hu=>by simp[iC] at h
 | [_], .pO _::_::_,y,d,h,u,hu=>by simp[iC] at h
 |_::_::_,[],y,d,h,u,hu=>by simp[iC] at h
 |_::_::_, .pO _::_,y,d,h,u,hu=>by simp[iC] at h
theorem Ix {boxes:List (Nat×BX)}:∀{ts:List Ty} {aP:List yy} {y:nt ts} {d:Nat} {us:List Value},iC boxes ts aP=some y→aE (nw V σ ν) aP us→(∀(j b:Nat),(bf aP)[j]? =some b→fb (d+j)=b)→
  (∀u∈rH d ts y,∀k x,u= .box k x→(look es.boxes k).isSome=true)→aE (nw V' es (JE fr fb ν)) (FJ d ts) us
 | [],[],y,d,us,h,ha,hf,hb=>by
   cases us with
   |nil=>trivial
   |cons _ _=>exact ha.elim
 | [t],[.box b],y,d,us,h,ha,hf,hb=>by
   match us,ha with
   | [v],ha=>obtain⟨⟨_,g,h1,h2⟩,_⟩:=ha;have VV:fb d=b:=hf 0 b rfl;exact⟨⟨hb (.box d (.cells (flat t y))) (by simp[rH]) _ _ rfl,g,by show ν (.box (fb d))=_;rw[VV];exact h1,h2⟩,trivial⟩
 |t::t2::ts, .box b::cs,y,d,us,h,ha,hf,hb=>by
  match us,ha with
  |v::us,ha=>
   obtain⟨⟨_,g,h1,h2⟩,ha⟩:=ha;simp only[iC] at h;split at h
   ·split at h
    ·rename_i x1 hx1;split at h
     ·rename_i y1 hy;simp only[Option.some.injEq] at h;subst h;have VV:fb d=b:=hf 0 b rfl;refine⟨⟨hb (.box d (.cells (flat t x1))) (by simp[rH]) _ _ rfl,g,by show ν (.box (fb d))=_;rw[VV];exact h1,h2⟩,Ix (d:=d+1) hy ha (fun j c hj=> ?_) (fun u hu k x e=>hb u (by simp only[rH];exact List.mem_cons_of_mem _ hu) k x e)⟩;have:=hf (j+1) c (by simpa [bf] using hj);rw[←this];congr 1;omega
     ·cases h
    ·cases h
   ·cases h
 | [],_::_,y,d,us,h,_,_,_=>by simp[iC] at h
 | [_],[],y,d,us,h,_,_,_=>by simp[iC] at h
 | [_],[.pO _],y,d,us,h,_,_,_=>by simp[iC] at h
 | [_], .box _::_::_,y,d,us,h,_,_,_=>by simp[iC] at h
 | [_], .pO _::_::_,y,d,us,h,_,_,_=>by simp[iC] at h
 |_::_::_,[],y,d,us,h,_,_,_=>by simp[iC] at h
 |_::_::_, .pO _::_,y,d,us,h,_,_,_=>by simp[iC] at h
theorem PM:∀(ts:List Ba) (d:Nat) (y:nt (ts.map (·.1))),Cp (ia d ts y):=fun ts d y u hu=>by obtain⟨k,row,t,e,rfl,_⟩:=qD ts d y u hu;exact .inl ⟨k,row,rfl⟩
theorem Iy:∀(ts:List Ty) (d:Nat) (y:nt ts),Cp (rH d ts y)
 | [],d,y,u,hu=>by simp[rH] at hu
 | [t],d,y,u,hu=>by simp only[rH,List.mem_singleton] at hu;exact .inr ⟨_,_,hu⟩
 |t::t2::ts,d,y,u,hu=>by
  simp only[rH,List.mem_cons] at hu;rcases hu with hu |hu
  ·exact .inr ⟨_,_,hu⟩
  ·exact Iy (t2::ts) (d+1) y.2 u hu
theorem WL (hT:fT P T.rows)(h:St E σ a w ν (fun _=>False)){s:za}{y:Ce s}{fn:Func}{ab:List bh}{d:Nat}(tz:s.gen=none)(hs:yA T s=true)(hf:Js T.rows fn.results.toList s σ=some y)
  (hX:∀i k,i∉s.hin→¬E.XH i k) (hR:∀i hr,i∉s.hin→E.ro i≠some hr) (h1:∀i,i∈s.hin→ab[i]? =σ.ab[i]?) (h2:∀i hr,i∉s.hin→ab[i]? =some hr→hr.xs=[]) (h3:HK E.h0 E.n0 ab ν) (h4:∀i hr,E.ro i=some hr→ab[i]? =some hr)
  (h5:∀i hr,i∈s.hin→σ.ab[i]? =some hr→hr.t=(T.ht i).t):∃fr fb val,wC E σ ((bm ab).app (Co d s y)) ν fr fb s.hin∧(results fn a.tmps).run P w= .ok val w∧
   al (view E ((bm ab).app (Co d s y)) (JE fr fb ν) (fun _=>False) w) ((bm ab).app (Co d s y)) (JE fr fb ν) E.Y (Nl d s y) val:=by
 -- zw ab
 have Z0:∀{es:AS},es.ab=ab→∀i n o,es.obj (.hp i n)=some o→σ.obj (.hp i n)=some o∧Q5 s.hin o:=fun {es} e i n o ho=>by
  simp only[AS.obj,e] at ho ⊢;cases n with
  |zero=>cases ho
  |succ n=>
   simp only[ki] at ho ⊢;split at ho
   ·rename_i hr Zw;by_cases hi:i∈s.hin
    ·have e1:=h1 i hi;rw[Zw] at e1;rw[←e1];refine⟨ho, ?_⟩;unfold yC at ho;split at ho
     ·simp only[Option.some.injEq] at ho;subst ho;show dH s.hin hr.t=true;rw[h5 i hr hi e1.symm];simp only[yA,Bool.and_eq_true] at hs;exact List.all_eq_true.1 hs.1.2 i hi
     ·cases ho
    ·rw[h2 i hr hi Zw] at ho;simp[yC] at ho
   ·cases ho
 obtain⟨args,res,Xq,hps,gen⟩:=s;simp only at tz;subst tz;cases Xq with
 |none=>
  have hf':(bif pT (nT T.rows σ fn.results.toList)|| !(Hu res) then nu T.rows σ (hps.map (·.1)) fn.results.toList res else none)=some y:=hf;cases hc:(pT (nT T.rows σ fn.results.toList)|| !(Hu res)) with
  |false=>rw[hc] at hf';cases hf'
  |true=>
   rw[hc,cond_true] at hf';have MF:=PM res d y;generalize QU:(bm ab).app (ia d res y)=es;obtain⟨a1,a2,a3,_,_⟩:=HV MF (bm ab);rw[QU] at a1 a2 a3;have Iz:∀k row,look es.rows k=some row→∃j r t e,k=d+j∧(fn.results.toList[j]?).bind (rowAt T.rows σ)=some r∧look σ.rows r=some row∧res[j]? =some (t,some e)∧t= .slice row.t:=fun k row hk=>by
    rw[←QU] at hk;rcases (rI MF (bm ab) k).1 row hk with g1 |g1
    ·cases g1
    ·obtain⟨j,r,row',t,e,g2,g3,g4,g5,g6⟩:=NZ hf' _ g1;injection g2 with g2 g7
     subst g7;exact⟨j,r,t,e,g2,g3,g4,g5,g6⟩
   have Fa:∀k x,look es.boxes k=some x→False:=fun k x hk=>by
    rw[←QU] at hk;rcases (rI MF (bm ab) k).2 x hk with g1 |g1
    ·cases g1
    ·obtain⟨_,_,_,_,g2,_⟩:=qD _ _ _ _ g1;cases g2
   let fr:Nat→Nat:=fun k=>((fn.results.toList[k - d]?).bind (rowAt T.rows σ)).getD 0
   have Kd:∀(j r:Nat),(fn.results.toList[j]?).bind (rowAt T.rows σ)=some r→fr (d+j)=r:=fun j r hj=>by show ((fn.results.toList[d+j - d]?).bind (rowAt T.rows σ)).getD 0=r;rw[show d+j - d=j by omega,hj];rfl
   have XJ:∀(p q r:Nat),(fn.results.toList[p]?).bind (rowAt T.rows σ)=some r→(fn.results.toList[q]?).bind (rowAt T.rows σ)=some r→(∃t e,res[q]? =some (t,some e))→p=q:=fun p q r g1 g2 ⟨t,e,g3⟩=>by
    rw[Bool.or_eq_true] at hc;rcases hc with hc |hc
    ·exact Iv _ hc p q r g1 g2
    ·exfalso;have:Hu res=true:=by unfold Hu;rw[List.any_eq_true];exact⟨(t,some e),List.mem_of_getElem? g3,rfl⟩
     rw[this] at hc;cases hc
   have g:wC E σ es ν fr (fun _=>0) (hps.map (·.1)):=by
    refine⟨fun m o ho=> ?_,fun m m' g1 g2 g3=> ?_,fun i hi=>by rw[a2];exact h1 i hi,fun i hr hi e=>by rw[a2] at e;exact h2 i hr hi e,by rw[a2];exact h3,a3,a1,fun i hr e=>by rw[a2];exact h4 i hr e⟩
    ·cases m with
     |row k=>
      simp only[AS.obj,Option.map_eq_some_iff] at ho;obtain⟨row,g1,rfl⟩:=ho;obtain⟨j,r,t,e,rfl,g3,g4,g5,g6⟩:=Iz k row g1;refine⟨?_, ?_⟩
      ·show (look σ.rows (fr (d+j))).map _=_;rw[Kd j r g3,g4];rfl
      ·simp only[yA,Bool.and_eq_true] at hs;have:=List.all_eq_true.1 hs.2.1.1 _ (List.mem_of_getElem? g5);rw[g6] at this;exact this
     |box k=>simp only[AS.obj,Option.map_eq_some_iff] at ho;obtain⟨x,g1,_⟩:=ho;exact(Fa k x g1).elim
     |hp i n=>exact Z0 a2 i n o ho
    ·have YL:∀k,(es.obj (.box k)).isSome=true→False:=fun k hk=>by simp only[AS.obj,Option.isSome_map] at hk;obtain⟨x,e⟩:=Option.isSome_iff_exists.1 hk;exact Fa k x e
     cases m with
     |row k=>
      cases m' with
      |row k'=>
       simp only[AS.obj,Option.isSome_map] at g1 g2;obtain⟨row,e1⟩:=Option.isSome_iff_exists.1 g1;obtain⟨row',e2⟩:=Option.isSome_iff_exists.1 g2;obtain⟨j,r,t,e,rfl,k3,k4,k5,k6⟩:=Iz k row e1;obtain⟨j',r',t',e',rfl,XK,k4',Zz,k6'⟩:=Iz k' row' e2;have g3':fr (d+j)=fr (d+j'):=by injection g3
       rw[Kd j r k3,Kd j' r' XK] at g3';subst g3';rw[XJ j j' r k3 XK ⟨_,_,Zz⟩]
      |box k'=>exact(YL k' g2).elim
      |hp i n=>cases g3
     |box k=>exact(YL k g1).elim
     |hp i n=>
      cases m' with
      |row k'=>cases g3
      |box k'=>exact(YL k' g2).elim
      |hp i' n'=>exact g3
   have hres:(res.all fun p=>dH (hps.map (·.1)) p.1)=true:=by simp only[yA,Bool.and_eq_true] at hs;exact hs.2.1.1
   obtain⟨vs,r1,r2⟩:=Iw (d:=d) hT h g hX hR hf' hres (fun j r hj t e he=>Kd j r hj) (fun j r t hj he k hk=>by
     obtain⟨row,e1⟩:=Option.isSome_iff_exists.1 hk;obtain⟨j',r',t',e',rfl,XK,k4',Zz,k6'⟩:=Iz k row e1;intro e2;rw[Kd j' r' XK] at e2;subst e2;have:=XJ j j' r' hj XK ⟨_,_,Zz⟩;subst this;rw[he] at Zz;cases Zz) (fun u hu k row e=>by
     subst e;rw[←QU];exact(Q7 MF (bm ab)).1 k (.inr ⟨row,hu⟩))
   rw[show (bm ab).app (Co d {args:=args,res:=res,Xq:=none,ab:=hps,gen:=none} y)=es from QU];refine⟨fr,fun _=>0,_,g,zD r1, ?_⟩;show al _ _ _ _ (ML (sC d res y)) _;generalize sC d res y=rvs at r2
   match rvs,vs,r2 with
   | [],[],_=>exact⟨[],rfl,trivial⟩
   | [x],[v],r2=>exact r2.1
   |x::x2::xs,v::v2::vs,r2=>exact⟨_,rfl,r2⟩
   | [],_::_,r2=>exact r2.elim
   | [_],[],r2=>exact r2.elim
   | [_],_::_::_,r2=>exact r2.2.elim
   |_::_::_,[],r2=>exact r2.elim
   |_::_::_,[_],r2=>exact r2.2.elim
 |some fc=>
  obtain⟨f,ts⟩:=fc;have hf':(match fn.results.toList with
   | [v]=>match xG T.rows σ v with
     |some (.fn g aP)=>bif Nat.beq g f&&pT (bf aP) then iC σ.boxes ts aP else none
     |_=>none
   |_=>none)=some y:=hf
  split at hf'
  ·rename_i rv Wk;split at hf'
   ·rename_i g0 aP k8;cases hc:(Nat.beq g0 f&&pT (bf aP)) with
    |false=>rw[hc] at hf';cases hf'
    |true=>
     rw[hc,cond_true] at hf';simp only[Bool.and_eq_true,beq_iff] at hc;obtain⟨rfl,hnd⟩:=hc;have MF:=Iy ts d y;generalize QU:(bm ab).app (rH d ts y)=es;obtain⟨a1,a2,a3,_,_⟩:=HV MF (bm ab);rw[QU] at a1 a2 a3;have Iz:∀k row,look es.rows k=some row→False:=fun k row hk=>by
      rw[←QU] at hk;rcases (rI MF (bm ab) k).1 row hk with g1 |g1
      ·cases g1
      ·obtain⟨_,_,_,_,g2,_⟩:=zF hf' _ g1;cases g2
     have Fa:∀k x,look es.boxes k=some x→∃j b t z,k=d+j∧x= .cells (flat t z)∧(bf aP)[j]? =some b∧look σ.boxes b=some (.cells (flat t z))∧t∈ts:=fun k x hk=>by
      rw[←QU] at hk;rcases (rI MF (bm ab) k).2 x hk with g1 |g1
      ·cases g1
      ·obtain⟨j,b,t,z,g2,g3,g4,g5⟩:=zF hf' _ g1;injection g2 with g2 g7
       exact⟨j,b,t,z,g2,g7,g3,g4,g5⟩
     let fb:Nat→Nat:=fun k=>((bf aP)[k - d]?).getD 0
     have VV:∀(j b:Nat),(bf aP)[j]? =some b→fb (d+j)=b:=fun j b hj=>by show ((bf aP)[d+j - d]?).getD 0=b;rw[show d+j - d=j by omega,hj];rfl
     have g:wC E σ es ν (fun _=>0) fb (hps.map (·.1)):=by
      refine⟨fun m o ho=> ?_,fun m m' g1 g2 g3=> ?_,fun i hi=>by rw[a2];exact h1 i hi,fun i hr hi e=>by rw[a2] at e;exact h2 i hr hi e,by rw[a2];exact h3,a3,a1,fun i hr e=>by rw[a2];exact h4 i hr e⟩
      ·cases m with
       |box k=>
        simp only[AS.obj,Option.map_eq_some_iff] at ho;obtain⟨x,g1,rfl⟩:=ho;obtain⟨j,b,t,z,rfl,rfl,g3,g4,g5⟩:=Fa k x g1;refine⟨?_,t,z,rfl, ?_⟩
        ·show (look σ.boxes (fb (d+j))).map _=_;rw[VV j b g3,g4];rfl
        ·simp only[yA,Bool.and_eq_true] at hs;exact List.all_eq_true.1 hs.2.1.2 _ g5
       |row k=>simp only[AS.obj,Option.map_eq_some_iff] at ho;obtain⟨x,g1,_⟩:=ho;exact(Iz k x g1).elim
       |hp i n=>exact Z0 a2 i n o ho
      ·have YL:∀k,(es.obj (.row k)).isSome=true→False:=fun k hk=>by simp only[AS.obj,Option.isSome_map] at hk;obtain⟨x,e⟩:=Option.isSome_iff_exists.1 hk;exact Iz k x e
       cases m with
       |box k=>
        cases m' with
        |box k'=>
         simp only[AS.obj,Option.isSome_map] at g1 g2;obtain⟨x,e1⟩:=Option.isSome_iff_exists.1 g1;obtain⟨x',e2⟩:=Option.isSome_iff_exists.1 g2;obtain⟨j,b,t,z,rfl,_,k3,k4,k5⟩:=Fa k x e1;obtain⟨j',b',t',z',rfl,_,XK,k4',Zz⟩:=Fa k' x' e2;have g3':fb (d+j)=fb (d+j'):=by injection g3
         rw[VV j b k3,VV j' b' XK] at g3';subst g3';rw[E0 hnd j j' b k3 XK]
        |row k'=>exact(YL k' g2).elim
        |hp i n=>cases g3
       |row k=>exact(YL k g1).elim
       |hp i n=>
        cases m' with
        |box k'=>cases g3
        |row k'=>exact(YL k' g2).elim
        |hp i' n'=>exact g3
     obtain⟨v,hrun,hv⟩:=xY hT h k8;obtain⟨us,e1,e2⟩:=hv;rw[show (bm ab).app (Co d {args:=args,res:=res,Xq:=some (g0,ts),ab:=hps,gen:=none} y)=es from QU];refine⟨fun _=>0,fb,v,g, ?_,us,e1, ?_⟩
     ·have:=zD (P:=P) (fn:=fn) (a:=a) (w:=w) (vs:=[v]) (by rw[Wk];simp[hrun]);exact this
     ·exact Ix hf' e2 VV (fun u hu k x e=>by
       subst e;rw[←QU];exact(Q7 MF (bm ab)).2 k (.inr ⟨x,hu⟩))
   ·cases hf'
  ·cases hf'
end
section
variable {P:Program}{T:cm}{Φ:bE T}{E:Env}{σ af es:AS}{a a':Act}{w w':World}{ν aK:Nm→Value}{O O':Nat→Prop}
theorem FY {f:FuncId}{args:Array Value}{w:World}{R:Ending→World→Prop}(h:CallsIn (FW none) 0 P f args w R):Calls P f args w R:=fun cs=>
 let ⟨e,w',fr,q,s,x⟩:=h.2 cs (room_wide _);⟨e,w',fr,q,(comesIn_wide (P:=P)).1 s,x⟩
theorem SJ {A:Type}{x:A}:∀{hs:List Nat} {o:Option (wk T hs)} {y:CY T A hs},zb x hs o=some y→oX hs y=x∧(o=some (vC hs y)∨hs=[])
 | [],o,y,e=>by simp only[zb,Option.some.injEq] at e;exact⟨e.symm, .inr rfl⟩
 |_::_,some h,y,e=>by simp only[zb,Option.some.injEq] at e;subst e;exact⟨rfl, .inl rfl⟩
 |_::_,none,y,e=>by cases e
theorem SK {A:Type}{ab:List bh}{x:A}{hs:List Nat}{y:CY T A hs}(h:zb x hs (Cf T ab hs)=some y):oX hs y=x∧Cf T ab hs=some (vC hs y):=by obtain⟨h1,h2⟩:=SJ h;refine⟨h1,h2.elim id (fun e=> ?_)⟩;subst e;rfl
theorem N0 {fn:Func}{v:Nat}{e:Ex}{yh:pP T v}(h:Bf T fn v e σ=some yh):Js T.rows fn.results.toList (T.sig v) σ=some (oX _ yh)∧Cf T σ.ab (T.sig v).hout=some (vC _ yh):=by
 have main:(match Js T.rows fn.results.toList (T.sig v) σ with
  |some y=>zb y (T.sig v).hout (Cf T σ.ab (T.sig v).hout)
  |none=>none)=some yh→Js T.rows fn.results.toList (T.sig v) σ=some (oX _ yh)∧Cf T σ.ab (T.sig v).hout=some (vC _ yh):=fun h=>by
  split at h
  ·rename_i y hy;obtain⟨h1,h2⟩:=SK h;exact⟨by rw[hy,h1],h2⟩
  ·cases h
 cases e with
 |exit i=>cases h
 |normal=>exact main h
 |ret=>exact main h
def PN (P:Program)(T:cm)(v:Nat)(xh:wj T v)(yh:pP T v):Prop:=(∃fn,P.funcs[T.real v]? =some fn∧fn.body.isSome=true∧(fn.name== "runtime.NumGoroutine")=false)∧
 ∀(E:Env) (ν:Nm→Value) (args:Array Value) (d:Nat),aB E→zu T E→Callee T E v xh→St E (bm (aU T v xh)) ⟨#[],[]⟩ E.w0 ν (fun _=>False)→
  mQ (view E (bm (aU T v xh)) ν (fun _=>False) E.w0) (T.sig v).args (oX _ xh) args.toList→Calls P (T.real v) args E.w0 (Left T E v xh yh d)
structure Cs (P:Program) (T:cm):Prop where
 mixed:P.follows .mixedOrders=true
 Zu:fT P T.rows
 hps:uT P T
 eqs:TL P T
 sigs:Cq T
 Gx:Nr P T
theorem Cs.ctx (hP:Cs P T)(Bh:Ly P T Φ)(hE:aB E)(hG:zu T E)(pR:E.h0.length=T.ab.length)(hY:xU P E)(hj:∀O w,E.J ⟨.unit,()⟩ O w→E.J=ib):Ctx P T Φ E:=
 ⟨hE,hG,hP.Zu,hP.hps,hP.eqs,hP.sigs,hP.Gx,Bh,pR,hY,hj⟩
theorem KH {v:Nat}{xh:wj T v}:(aU T v xh).length=T.ab.length:=by unfold aU;rw[rG,lZ]
theorem PO (hP:Cs P T)(Bh:Ly P T Φ)(hΓ:Q2 P T Φ){v n:Nat}{xh:wj T v}{yh:pP T v}{fn:Func}{c:Code}(hf:P.funcs[T.real v]? =some fn)(hb:fn.body=some c)(hname:(fn.name== "runtime.NumGoroutine")=false)(tz:(T.sig v).gen=none)
  (he:Lj T fn c Φ n v xh=some yh):PN P T v xh yh:=by
 refine⟨⟨fn,hf,by rw[hb];rfl,hname⟩,fun E ν args d hE hG hC hst hargs=> ?_⟩;obtain⟨hag,OT⟩:=mQ.g (ν:=ν) (Y:=E.Y) 0 hargs;have e0:n9 T v xh=bm (aU T v xh):=by
  unfold n9 bm;rw[OT];have:uO (T.sig v)=⟨.unit,()⟩:=by unfold uO;rw[tz]
  rw[this]
 have h0:=St.begin (fn:=fn) (vals:=args) hG (xh:=xh) (by rw[e0];exact hst) (by rw[e0];exact hag);have YM:=hP.ctx Bh hE hG (by rw[←hst.kept.num];exact KH) (vE hC.j) (fun _ _ _=>hC.j);have hM:∀r,E.M r→r<E.w0.heap.size:=fun r hr=>absurd hr (hC.m r);have hRo:∀i hr,i∉(T.sig v).hin→E.ro i≠some hr:=fun i hr hi e=>by have h1:=hC.ro i;have hf:(T.sig v).hin.any (Nat.beq i)=false:=eq_false_of_ne_true (fun h=>hi (iv.1 h));rw[hf,e] at h1;cases h1
 refine FY (callsIn_of_wp_marks hf hb trivial ?_);refine wpIn_mono (Io hP.mixed (fun f ps x y Sx Sy=>FX hΓ Sx Sy) c E YM (fun tr tr' _ _=>hC.acc tr) none _ _ _ _ E.w0 ν _ he h0 (fun h=>by cases h) (fun e af _ _=>hC.acc _)) (fun e a' w' hp=> ?_);have fin:∀(ex:Ex) (af:AS) (a':Act) (w':World),Bf T fn v ex af=some yh→To E af a' w'→LeavesInM (FW none) 0 P fn a'.tmps (Left T E v xh yh d) a'.defers .returning w':=by rintro ex af ⟨tmps,ds⟩ w' hk ⟨aK,O',h⟩;obtain⟨k1,k2⟩:=N0 hk;refine xX hE hM hst.o6.size (fun w2 h2=> ?_) ds w' h;have h3:=h2.YJ hC.j hC.om;obtain⟨q1,q2,q3,q4,q5⟩:=SI hC hst.kept h3 k2 (fun i hr e=>(h3.ro i hr e).1);obtain⟨fr,fb,val,g,g1,g2⟩:=WL (d:=d) hP.Zu h3 tz (hP.sigs v) k1 hC.hx hRo q1 q2 q3 q4 q5;exact⟨val,g1,val,_,rfl,h3.finish hC.j g,g2⟩
 cases e with
 |normal=>obtain⟨af,h1,_,h2⟩:=hp;exact fin _ af a' w' h1 h2
 |ret=>obtain⟨af,h1,_,h2⟩:=hp;exact fin _ af a' w' h1 h2
 |exit id=>obtain⟨af,h1,_,_⟩:=hp;cases h1
 |_=>exact hp.elim
theorem UG:∀{s:za} {y:Ce s} {vars:List ResultVar},s.gen.isSome=true→Js T.rows vars s σ=some y→vars=[]∧σ.trace=PI s y
 | ⟨_,_,_,_,some ts⟩,y,[],_,h=>⟨rfl,uR h⟩
 | ⟨_,_,_,_,some ts⟩,y,_::_,_,h=>by cases h
theorem UH (hP:Cs P T)(Bh:Ly P T Φ)(hΓ:Q2 P T Φ){v n:Nat}{xh:wj T v}{yh:pP T v}{fn:Func}{c:Code}(hf:P.funcs[T.real v]? =some fn)(hb:fn.body=some c)(tz:(T.sig v).gen.isSome=true)
  (he:Lj T fn c Φ n v xh=some yh) (E:Env) (ν:Nm→Value) (args:Array Value) (O:Nat→Prop) (hE:aB E) (hG:zu T E) (hY:xU P E) (hD:ri E) (hnj:∀O w,¬E.J ⟨.unit,()⟩ O w) (hacc:E.acc (Du T v yh))
  (hst:St E (n9 T v xh) ⟨#[],[]⟩ E.w0 ν O) (hargs:FR (view E (n9 T v xh) ν O E.w0) ν E.Y 0 (T.sig v).args (oX _ xh) args.toList):
  Calls P (T.real v) args E.w0 fun e w'=>∃r O',e= .returned r∧E.J (Du T v yh) O' w':=by
 have h0:=St.begin (fn:=fn) (vals:=args) hG (xh:=xh) hst hargs;have YM:=hP.ctx Bh hE hG (by rw[←hst.kept.num];exact KH) hY (fun O w h=>absurd h (hnj O w));have hM:∀r,E.M r→r<E.w0.heap.size:=fun r hr=>(Array.getElem?_eq_some_iff.1 (hst.waits r hr).1).1;have oS:∀(ex:Ex) (af:AS),Bf T fn v ex af=some yh→af.trace=Du T v yh∧fn.results.toList=[]:=fun ex af hk=>by obtain⟨k1,_⟩:=N0 hk;obtain⟨k2,k3⟩:=UG tz k1;exact⟨k3,k2⟩
 refine FY (callsIn_of_wp_marks hf hb trivial ?_);refine wpIn_mono (Io hP.mixed (fun f ps x y Sx Sy=>FX hΓ Sx Sy) c E YM hD none _ _ _ _ E.w0 ν _ he h0 (fun h=>by cases h) (fun e af h1 _=>by rw[(oS e af h1).1];exact hacc)) (fun e a' w' hp=> ?_);have fin:∀(ex:Ex) (af:AS) (a':Act) (w':World),Bf T fn v ex af=some yh→To E af a' w'→LeavesInM (FW none) 0 P fn a'.tmps (fun e w'=>∃r O',e= .returned r∧E.J (Du T v yh) O' w') a'.defers .returning w':=by rintro ex af ⟨tmps,ds⟩ w' hk ⟨aK,O',h⟩;obtain⟨k1,k2⟩:=oS ex af hk;refine xX hE hM hst.o6.size (fun w2 h2=> ?_) ds w' h;refine⟨_,zD (P:=P) (fn:=fn) (a:=⟨tmps,[]⟩) (w:=w2) (vs:=[]) (by rw[k2];rfl),_,O',rfl, ?_⟩;rw[←k1];exact h2.out.1
 cases e with
 |normal=>obtain⟨af,h1,_,h2⟩:=hp;exact fin _ af a' w' h1 h2
 |ret=>obtain⟨af,h1,_,h2⟩:=hp;exact fin _ af a' w' h1 h2
 |exit id=>obtain⟨af,h1,_,_⟩:=hp;cases h1
 |_=>exact hp.elim
def PQ (P:Program)(T:cm)(B:Cj T):Prop:=∀v g,B v=some g→(T.sig v).gen=none∧∀xh yh,g xh=some yh→PN P T v xh yh
def Q8 (P:Program)(T:cm)(fns:Nat→Option Func):Prop:=∀v fn,fns v=some fn→P.funcs[T.real v]? =some fn∧(fn.name== "runtime.NumGoroutine")=false
theorem N1 {B:Cj T}{fns:Nat→Option Func}(hP:Cs P T)(hB:PQ P T B)(hF:Q8 P T fns):∀n,Ly P T (yS T B fns n)∧Q2 P T (yS T B fns n)
 |0=>⟨(fun v x y h=>by cases h),(fun v x y h=>by cases h)⟩
 |n+1=>by
  obtain⟨ih1,ih2⟩:=N1 hP hB hF n;refine⟨fun v xh yh h tz=> ?_,fun v xh yh h tz=> ?_⟩
  ·simp only[yS] at h;split at h
   ·rename_i g hg;exact(hB v g hg).2 xh yh h
   ·split at h
    ·rename_i fn hfn;obtain⟨h1,h2⟩:=hF v fn hfn;split at h
     ·rename_i c hc;exact PO hP ih1 ih2 h1 hc h2 tz h
     ·cases h
    ·cases h
  ·simp only[yS] at h;split at h
   ·rename_i g hg;have:=(hB v g hg).1;rw[this] at tz;cases tz
   ·split at h
    ·rename_i fn hfn;obtain⟨h1,h2⟩:=hF v fn hfn;split at h
     ·rename_i c hc;exact⟨⟨fn,h1,by rw[hc];rfl,h2⟩,fun E ν args O hE hG hY hD hnj hacc hst hargs=>UH hP ih1 ih2 h1 hc tz h E ν args O hE hG hY hD hnj hacc hst hargs⟩
     ·cases h
    ·cases h
end
def ZA:CV→Bool
 | ⟨.int _,n⟩=>decide (n=(0:Int))
 | ⟨.bool,b⟩=> !b
 | ⟨.str,s⟩=>match s with | ⟨⟨[]⟩⟩=>true |_=>false
 | ⟨.slice t,xs⟩=>match (xs:List t.den) with | []=>true |_=>false
 | ⟨.ref _,n⟩=>Nat.beq n 0
 | ⟨.ptr _,n⟩=>Nat.beq n 0
 | ⟨.mp _,n⟩=>Nat.beq n 0
 | ⟨.fn,n⟩=>Nat.beq n 0
 | ⟨.mN t,o⟩=>match (o:Option (List t.den)) with |none=>true |_=>false
 |_=>false
theorem pb:∀{t:Ty} {l:List Value} {cs:List CV} {r:List Value},cB t l=some (cs,r)→cs.all ZA=true→cs=La t
 | .unit,l,cs,r,h,hz=>by simp only[cB,Option.some.injEq,Prod.mk.injEq] at h;exact h.1.symm
 | .pair a b,l,cs,r,h,hz=>by
   simp only[cB] at h;split at h
   ·rename_i x l' h1;split at h
    ·rename_i y VO h2;simp only[Option.some.injEq,Prod.mk.injEq] at h;obtain⟨rfl,rfl⟩:=h;rw[List.all_append,Bool.and_eq_true] at hz;rw[pb h1 hz.1,pb h2 hz.2];rfl
    ·cases h
   ·cases h
 | .st t,l,cs,r,h,hz=>pb (t:=t) h hz
 | .int k, .int k' n::l,cs,r,h,hz=>by
   simp only[cB] at h;split at h
   ·simp only[Option.some.injEq,Prod.mk.injEq] at h;obtain⟨rfl,rfl⟩:=h;simp[ZA] at hz;subst hz;rfl
   ·cases h
 | .bool, .bool b::l,cs,r,h,hz=>by simp only[cB,Option.some.injEq,Prod.mk.injEq] at h;obtain⟨rfl,rfl⟩:=h;simp[ZA] at hz;subst hz;rfl
 | .str, .string s::l,cs,r,h,hz=>by
   simp only[cB,Option.some.injEq,Prod.mk.injEq] at h;obtain⟨rfl,rfl⟩:=h;simp only[List.all_cons,List.all_nil,Bool.and_true,ZA] at hz;split at hz
   ·rfl
   ·cases hz
 | .slice t, .slice none 0 0::l,cs,r,h,hz=>by simp only[cB,Option.some.injEq,Prod.mk.injEq] at h;obtain⟨rfl,rfl⟩:=h;rfl
 | .ref _, .slice none 0 0::l,cs,r,h,hz=>by simp only[cB,Option.some.injEq,Prod.mk.injEq] at h;obtain⟨rfl,rfl⟩:=h;rfl
 | .ptr _, .pointer none::l,cs,r,h,hz=>by simp only[cB,Option.some.injEq,Prod.mk.injEq] at h;obtain⟨rfl,rfl⟩:=h;rfl
 | .mp _, .map none::l,cs,r,h,hz=>by simp only[cB,Option.some.injEq,Prod.mk.injEq] at h;obtain⟨rfl,rfl⟩:=h;rfl
 | .mN _, .slice none 0 0::l,cs,r,h,hz=>by simp only[cB,Option.some.injEq,Prod.mk.injEq] at h;obtain⟨rfl,rfl⟩:=h;rfl
 | .fn, .nilFunc::l,cs,r,h,hz=>by simp only[cB,Option.some.injEq,Prod.mk.injEq] at h;obtain⟨rfl,rfl⟩:=h;rfl
def Dy:Ty→Ty→Bool
 | .int a, .int b=>decide (a=b)
 | .bool, .bool=>true
 | .str, .str=>true
 | .slice a, .slice b=>Dy a b
 | .unit, .unit=>true
 | .pair a b, .pair c d=>Dy a c&&Dy b d
 | .st a, .st b=>Dy a b
 | .mN a, .mN b=>Dy a b
 | .ref a, .ref b=>Nat.beq a b
 | .ptr a, .ptr b=>Nat.beq a b
 | .mp a, .mp b=>Nat.beq a b
 | .fn, .fn=>true
 |_,_=>false
theorem wD:∀{a b:Ty},Dy a b=true→a=b
 | .int a, .int b,h=>by simp[Dy] at h;rw[h]
 | .bool, .bool,_=>rfl
 | .str, .str,_=>rfl
 | .slice a, .slice b,h=>by rw[wD (a:=a) (b:=b) h]
 | .unit, .unit,_=>rfl
 | .pair a b, .pair c d,h=>by simp only[Dy,Bool.and_eq_true] at h;rw[wD h.1,wD h.2]
 | .st a, .st b,h=>by rw[wD (a:=a) (b:=b) h]
 | .mN a, .mN b,h=>by rw[wD (a:=a) (b:=b) h]
 | .ref a, .ref b,h=>by rw[(beq_iff _ _).1 h]
 | .ptr a, .ptr b,h=>by rw[(beq_iff _ _).1 h]
 | .mp a, .mp b,h=>by rw[(beq_iff _ _).1 h]
 | .fn, .fn,_=>rfl
def zG (P:Program):List Field→Option (List (Nat×Nat))
 | []=>some []
 |f::fs=>match P.info? f.type with
  |some i=>match zG P fs with
   |some r=>some ((f.offset,i.size)::r)
   |none=>none
  |none=>none
theorem KI {P:Program}:∀{fs:List Field} {r:List (Nat×Nat)},zG P fs=some r→fs.mapM (fun f=>(P.info? f.type).map fun i=>(f.offset,i.size))=some r
 | [],r,h=>by simp[zG] at h;subst h;rfl
 |f::fs,r,h=>by
  simp only[zG] at h;split at h
  ·rename_i i hi;split at h
   ·rename_i r' hr;simp only[Option.some.injEq] at h;subst h;rw[List.mapM_cons,KI hr];simp[hi]
   ·cases h
  ·cases h
theorem IA {P:Program}:∀{fs:List Field} {r:List (Nat×Nat)},zG P fs=some r→∀(k off size:Nat),r[k]? =some (off,size)→∃(fd:Field) (j:TypeInfo),fs[k]? =some fd∧fd.offset=off∧P.info? fd.type=some j∧j.size=size
 | [],r,h,k,off,size,hk=>by simp[zG] at h;subst h;simp at hk
 |f::fs,r,h,k,off,size,hk=>by
  simp only[zG] at h;split at h
  ·rename_i i hi;split at h
   ·rename_i r' hr;simp only[Option.some.injEq] at h;subst h;cases k with
    |zero=>simp at hk;exact⟨f,i,by simp,hk.1,hi,hk.2⟩
    |succ k=>obtain⟨fd,j,h1,h2⟩:=IA hr k off size (by simpa using hk);exact⟨fd,j,by simpa using h1,h2⟩
   ·cases h
  ·cases h
def tB:List (Nat×Nat)→List (Nat×Nat)→Bool
 | [],[]=>true
 | (a,b)::r,(c,d)::s=>Nat.beq a c&&Nat.beq b d&&tB r s
 |_,_=>false
theorem zH:∀{a b:List (Nat×Nat)},tB a b=true→a=b
 | [],[],_=>rfl
 | (a,b)::r,(c,d)::s,h=>by simp only[tB,Bool.and_eq_true] at h;rw[(beq_iff _ _).1 h.1.1,(beq_iff _ _).1 h.1.2,zH h.2]
 | [],_::_,h=>by simp[tB] at h
 |_::_,[],h=>by simp[tB] at h
def LM (P:Program)(T:List eI)(r:eI):Ty→TypeDesc→Bool
 | .int k, .int k'=>decide (k=k')&&r.lV.isEmpty
 | .bool, .bool=>r.lV.isEmpty
 | .str, .string=>r.lV.isEmpty
 | .slice u, .slice e=>Nat.beq e r.elem&&r.lV.isEmpty&&match gE T e with
   |some re=>Dy re.ty u
   |none=>false
 | .st u, .struct fs=> !r.arr&&match zG P fs.toList with
   |some l=>tB l r.lV&&l.all fun p=>Nat.blt 0 p.2&&Nat.ble (p.1+p.2) u.size
   |none=>false
 | .st u, .array n e=>r.arr&&match P.info? e with
   |some j=>tB ((List.range n).map fun i=>(i*j.size,j.size)) r.lV&&Nat.blt 0 j.size&&Nat.beq u.size (n*j.size)
   |none=>false
 | .ptr _, .pointer _=>r.lV.isEmpty
 | .mp _, .map _ _=>r.lV.isEmpty
 | .fn, .func _ _ _=>r.lV.isEmpty
 |_,_=>false
def zOk (t:Ty)(z:Value):Bool:=match t,z with
 | .st _, .agg _=>true
 | .st _,_=>false
 | .slice _, .slice none 0 0=>true
 | .slice _,_=>false
 |_, .agg _=>false
 |_,_=>true
theorem KJ {u:Ty}{z:Value}(h:zOk (.slice u) z=true):z= .slice none 0 0:=by
 unfold zOk at h;split at h<;>first |rfl | (rename_i e _;cases e;done) | (rename_i e;cases e;done) | (cases h;done) |skip
 all_goals simp_all
theorem UI {t:Ty}{z:Value}(h:zOk t z=true):z=wrap t z.cells.toList:=by
 cases t with
 |st u=>
  cases z with
  |agg cs=>simp[wrap,Value.cells]
  |_=>cases h
 |slice u=>rw[KJ h];rfl
 |_=>
  cases z with
  |agg cs=>cases h
  |_=>rfl
def Q9 (t:Ty)(z:Value):Bool:=
 (match cB t z.cells.toList with
  |some (cs,[])=>cs.all ZA
  |_=>false)&&zOk t z
def PR (P:Program)(T:List eI)(r:eI):Bool:=
 match P.info? r.id,P.underlying r.id with
 |some i,some d=>Nat.beq i.size r.ty.size&&Nat.beq i.bytes r.bytes&&(match i.zero with |some z=>Q9 r.ty z |none=>false)&&LM P T r r.ty d
 |_,_=>false
theorem SL {T:List eI}{t:TypeId}{r:eI}(h:gE T t=some r):r∈T∧r.id=t:=by
 induction T with
 |nil=>cases h
 |cons x xs ih=>
  simp only[gE] at h;cases hb:Nat.beq x.id t with
  |true=>simp only[hb,cond_true,Option.some.injEq] at h;subst h;exact⟨by simp,(beq_iff _ _).1 hb⟩
  |false=>simp only[hb,cond_false] at h;exact⟨by simp[(ih h).1],(ih h).2⟩
theorem SM {P:Program}{T:List eI}{r:eI}(h:PR P T r=true):MU P T r:=by
 unfold PR at h;split at h
 ·rename_i i d hi hd;simp only[Bool.and_eq_true] at h;obtain⟨⟨⟨h1,h2⟩,h3⟩,h4⟩:=h;have aaw:(∀u,r.ty≠ .st u)→r.lV=[]:=by
   intro hn;unfold LM at h4;split at h4
   ·simp only[Bool.and_eq_true] at h4;simpa using h4.2
   ·simpa using h4
   ·simpa using h4
   ·simp only[Bool.and_eq_true] at h4;simpa using h4.1.2
   ·rename_i u fs ht;exact absurd ht (hn u)
   ·rename_i u n e ht;exact absurd ht (hn u)
   ·simpa using h4
   ·simpa using h4
   ·simpa using h4
   ·cases h4
  refine⟨?_, ?_,aaw⟩
  ·split at h3
   ·rename_i z hz;simp only[Q9,Bool.and_eq_true] at h3;obtain⟨h5,h6⟩:=h3;refine⟨i,z,hi,(beq_iff _ _).1 h1,(beq_iff _ _).1 h2,hz,fun V=> ?_, ?_,fun u hu=> ?_⟩
    ·split at h5
     ·rename_i cs hl;obtain⟨l1,e1,h7⟩:=fU (V:=V) hl;rw[e1,List.append_nil];refine fN ?_;have:=pb hl h5;rw[this] at h7;exact h7
     ·cases h5
    ·exact UI h6
    ·rw[hu] at h6;exact KJ h6
   ·cases h3
  ·unfold LM at h4;split at h4
   ·rename_i k k' ht;rw[ht];simp only[Bool.and_eq_true,decide_eq_true_eq] at h4;show P.underlying r.id=_;rw[h4.1];exact hd
   ·rename_i ht;rw[ht];exact hd
   ·rename_i ht;rw[ht];exact hd
   ·rename_i u e ht;rw[ht];simp only[Bool.and_eq_true] at h4;have he:=(beq_iff _ _).1 h4.1.1;subst he;refine⟨hd, ?_⟩;have h5:=h4.2;split at h5
    ·rename_i re GD;exact⟨re,GD,wD h5⟩
    ·cases h5
   ·rename_i u fs ht;rw[ht];simp only[Bool.and_eq_true,Bool.not_eq_true'] at h4;obtain⟨ha,h4⟩:=h4;left;split at h4
    ·rename_i l hl;simp only[Bool.and_eq_true] at h4;have hle:=zH h4.1;subst hle;refine⟨ha,fs,hd,KI hl,fun f off size hf=> ?_⟩;obtain⟨fd,j,h5,h6,h7,h8⟩:=IA hl f off size hf;have h9:=List.all_eq_true.1 h4.2 (off,size) (List.mem_of_getElem? hf);simp only[Bool.and_eq_true] at h9;have QK:0+1≤size:=Nat.le_of_ble_eq_true h9.1;have VS:=Nat.le_of_ble_eq_true h9.2;exact⟨fd,j,by simpa using h5,h6,h7,h8,by omega,VS⟩
    ·cases h4
   ·rename_i u n e ht;rw[ht];simp only[Bool.and_eq_true] at h4;obtain⟨ha,h4⟩:=h4;right;split at h4
    ·rename_i j hj;simp only[Bool.and_eq_true] at h4;have hle:=zH h4.1.1;have QK:0+1≤j.size:=Nat.le_of_ble_eq_true h4.1.2;exact⟨ha,n,e,j,hd,hj,hle.symm,by omega,(beq_iff _ _).1 h4.2⟩
    ·cases h4
   ·rename_i h e ht;rw[ht];exact⟨_,hd⟩
   ·rename_i h k e ht;rw[ht];exact⟨_,_,hd⟩
   ·rename_i a b c ht;rw[ht];exact⟨_,_,_,hd⟩
   ·cases h4
 ·cases h
theorem YN {P:Program}{T:List eI}(h:T.all (PR P T)=true):fT P T:=fun t r hr=>by obtain⟨h1,h2⟩:=SL hr;exact⟨h2,SM (List.all_eq_true.1 h r h1)⟩
def Ra (P:Program)(ht:HT):Bool:=match P.info? ht.e with
 |some j=>Nat.beq j.size ht.t.size&&match j.zero with
  |some z=>(match cB ht.t z.cells.toList with
   |some (cs,[])=>cs.all ZA
   |_=>false)
  |none=>false
 |none=>false
theorem UJ {P:Program}{T:cm}(h:T.ab.all (Ra P)=true):uT P T:=fun i ht hi=>by
 have h1:=List.all_eq_true.1 h ht (List.mem_of_getElem? hi);unfold Ra at h1;split at h1
 ·rename_i j hj;simp only[Bool.and_eq_true] at h1;obtain⟨h2,h3⟩:=h1;split at h3
  ·rename_i z hz;refine⟨j,z,hj,(beq_iff _ _).1 h2,hz,fun V=> ?_⟩;split at h3
   ·rename_i cs hl;obtain⟨l1,e1,h7⟩:=fU (V:=V) hl;rw[e1,List.append_nil];refine fN ?_;have:=pb hl h3;rw[this] at h7;exact h7
   ·cases h3
  ·cases h3
 ·cases h1
def WM (P:Program)(g:TypeId→Ty→Bool):Ty→Nat→List Field→Bool
 | .unit,_,[]=>true
 | .pair a b,off,f::fs=>f.name != "_" &&Nat.beq f.offset off&&(match P.info? f.type with |some i=>Nat.beq i.size a.size |none=>false)&&g f.type a&&WM P g b (off+a.size) fs
 |_,_,_=>false
def PS (P:Program):Nat→TypeId→Ty→Bool
 |0,_,_=>false
 |d+1,t,ty=>match ty,P.underlying t with
  | .int _,some (.int _)=>true
  | .bool,some .bool=>true
  | .str,some .string=>true
  | .st u,some (.struct fs)=> !(P.stoodInHeld t)&&WM P (PS P d) u 0 fs.toList
  |_,_=>false
theorem N2 {P:Program}{V:View}{d:Nat}{t:TypeId}{a:Ty}{x:a.den}{pre ys post:List Value}{w:World}(h:PS P d t a=true)(hs:(match P.info? t with |some i=>Nat.beq i.size a.size |none=>false)=true)(hr:Rel V a x ys):
  (part t (pre++(ys++post)).toArray pre.length).run P w= .ok (wrap a ys) w:=by
 have hlen:=hr.length;have YO:(isAgg t).run P w= .ok false w→a.size=1→wrap a ys=ys.headD undef→(part t (pre++(ys++post)).toArray pre.length).run P w= .ok (wrap a ys) w:=fun h1 h2 h3=>by
  rw[h2] at hlen
  match ys,hlen with
  | [v],_=>rw[h3];simp[part,h1]
 cases d with
 |zero=>cases h
 |succ d=>
  unfold PS at h;split at h
  ·rename_i hu;exact YO (by simp[isAgg,run_underlying hu]) rfl rfl
  ·rename_i hu;exact YO (by simp[isAgg,run_underlying hu]) rfl rfl
  ·rename_i hu;exact YO (by simp[isAgg,run_underlying hu]) rfl rfl
  ·rename_i u fs hu;split at hs
   ·rename_i i hi;have hsz:=(beq_iff _ _).1 hs;have e1:(isAgg t).run P w= .ok true w:=by simp[isAgg,run_underlying hu]
    have e2:(sizeOf t).run P w= .ok (Ty.st u).size w:=by
     have:(sizeOf t).run P w= .ok i.size w:=by simp[sizeOf,typeInfo,hi]
     rw[this,hsz]
    simp only[part,Sem.run_bind,e1,Result.andThen_ok,if_true,e2,Sem.run_pure];rw[←hlen];simp[wrap]
   ·cases hs
  ·cases h
theorem Rb {P:Program}:∀(d:Nat) (t:TypeId) (ty:Ty),PS P d t ty=true→∀(V:View) (x y:ty.den) (vs us:List Value) (w:World),Rel V ty x vs→Rel V ty y us→(Op.equalIn d t (wrap ty vs) (wrap ty us)).run P w= .ok (CZ ty x y) w
 |0,t,ty,h=>by cases h
 |d+1,t,ty,h=>by
  intro V x y vs us w hx hy;unfold PS at h;split at h
  ·rename_i k k' hu;have e1:vs=[.int k x]:=hx;have e2:us=[.int k y]:=hy;subst e1 e2;exact run_equalIn_int w d t k k' x y hu
  ·rename_i hu;have e1:vs=[.bool x]:=hx;have e2:us=[.bool y]:=hy;subst e1 e2;exact run_equalIn_bool' w d t x y hu
  ·rename_i hu;have e1:vs=[.string x]:=hx;have e2:us=[.string y]:=hy;subst e1 e2;exact run_equalIn_string w d t x y hu
  ·rename_i u fs hu;simp only[Bool.and_eq_true,Bool.not_eq_true'] at h;have hf:P.fieldsOf t=fs:=by simp[Program.fieldsOf,hu]
   show (Op.equalIn (d+1) t (.agg vs.toArray) (.agg us.toArray)).run P w=_;rw[run_equalIn_struct w d t _ _ (by rw[hf];exact hu) h.1,hf];have key:∀(u:Ty) (fs:List Field) (x y:u.den) (p1 p2 c1 c2:List Value),WM P (PS P d) u p1.length fs=true→p1.length=p2.length→Rel V u x c1→Rel V u y c2→
     (Op.eqFields d (p1++c1).toArray (p2++c2).toArray fs).run P w= .ok (CZ u x y) w:=by
    intro u;induction u with
    |unit=>
     intro fs x y p1 p2 c1 c2 h1 h2 h3 h4;cases fs with
     |nil=>rfl
     |cons f fs=>cases h1
    |pair a b _ K6=>
     intro fs x y p1 p2 c1 c2 h1 h2 h3 h4;cases fs with
     |nil=>cases h1
     |cons f fs=>
      simp only[WM,Bool.and_eq_true] at h1;obtain⟨⟨⟨⟨g1,g2⟩,g3⟩,g4⟩,g5⟩:=h1;obtain⟨a1,b1,rfl,r1,r2⟩:=h3;obtain⟨a2,b2,rfl,r3,r4⟩:=h4;have hoff:=(beq_iff _ _).1 g2;have R3:=r1.length;have Wj:=r3.length;have ai:=N2 (P:=P) (pre:=p1) (post:=b1) (w:=w) g4 g3 r1;have fm:=N2 (P:=P) (pre:=p2) (post:=b2) (w:=w) g4 g3 r3;have heq:=Rb d f.type a g4 V x.1 y.1 a1 a2 w r1 r3;have ih:=K6 fs x.2 y.2 (p1++a1) (p2++a2) b1 b2 (by rw[List.length_append,R3];exact g5) (by simp[h2,R3,Wj]) r2 r4;have hne:f.name≠ "_" :=by simpa using g1
      simp only[Op.eqFields,hne,ne_eq,not_false_eq_true,if_true,Sem.run_bind];rw[hoff,ai];simp only[Result.andThen_ok];rw[h2,fm];simp only[Result.andThen_ok];rw[heq];simp only[Result.andThen_ok,CZ];cases hb:CZ a x.1 y.1 with
      |false=>simp
      |true=>simpa [List.append_assoc] using ih
    |_=>intro fs x y p1 p2 c1 c2 h1;cases fs<;>cases h1
   exact key u fs.toList x y [] [] vs us h.2 rfl hx hy
  ·cases h
def XL (P:Program)(T:List eI)(t:TypeId):Bool:= !(P.eqGuardType P.depth t)&&match gE T t with
 |some r=>match r.ty with
  | .st u=>PS P 10000 t (.st u)
  |_=>true
 |none=>true
theorem YP {P:Program}{T:cm}(h:T.eqs.all (XL P T.rows)=true):TL P T:=fun t ht r u hr lF V x y vs us w op ox oy hx hy=>by obtain⟨t',hm,he⟩:=List.any_eq_true.1 ht;have:=(beq_iff _ _).1 he;subst this;have h1:=List.all_eq_true.1 h t hm;simp only[XL,Bool.and_eq_true,Bool.not_eq_true'] at h1;obtain⟨h2,h3⟩:=h1;rw[hr] at h3;simp only[lF] at h3;exact⟨run_eqGuard_agg w op t ox oy _ _ h2,Rb 10000 t (.st u) h3 V x y vs us w hx hy⟩
theorem WN {T:cm}{l:List (Nat×za)}(h:l.all (fun p=>yA T p.2)=true)(hT:∀v,T.sig v=(look l v).getD ⟨[],[],none,[],none⟩):Cq T:=fun v=>by
 rw[hT v];cases hl:look l v with
 |none=>rfl
 |some s=>have hm:=tn hl;exact List.all_eq_true.1 h (v,s) hm
def aax (P:Program)(T:cm):List (Nat×Func)→Prop
 | []=>True
 |p::r=>(P.funcs[T.real p.1]? =some p.2∧(p.2.name== "runtime.NumGoroutine")=false)∧aax P T r
theorem IB {P:Program}{T:cm}:∀{l:List (Nat×Func)},aax P T l→Q8 P T (look l)
 | [],h,f,fn,hl=>by cases hl
 | (k,g)::r,h,f,fn,hl=>by
   simp only[look] at hl;cases hb:Nat.beq k f with
   |true=>simp only[hb,cond_true,Option.some.injEq] at hl;have:=(beq_iff _ _).1 hb;subst this hl;exact h.1
   |false=>simp only[hb,cond_false] at hl;exact IB h.2 f fn hl
def PT (P:Program)(p:TypeId×String×FuncId):Bool:=match P.info? p.1 with
 |some i=>match i.methods.find? (·.name==p.2.1) with
  |some r=>r.path.isEmpty&&(match r.func with |some (g,false)=>Nat.beq g p.2.2 |_=>false)&&(match P.underlying p.1 with |some (.pointer _)=>false |some (.interface _)=>false |some _=>true |none=>false)
  |none=>false
 |none=>false
theorem KK {P:Program}{p:TypeId×String×FuncId}(h:PT P p=true)(v:Value)(w:World):(Go.method (P.types.size+Made.depth) p.1 v p.2.1).run P w= .ok (p.2.2,v) w∧(Instr.makeInterface p.1 v).run P w= .ok (.iface p.1 v) w:=by
 have hd0:0<Made.depth:=by decide
 obtain⟨m,hm⟩:∃m,P.types.size+Made.depth=m+1:=⟨P.types.size+Made.depth - 1,by omega⟩
 unfold PT at h;split at h
 ·rename_i i hi;split at h
  ·rename_i r hr;simp only[Bool.and_eq_true] at h;obtain⟨⟨h1,h2⟩,h3⟩:=h;split at h2
   ·rename_i g hg;have e:=(beq_iff _ _).1 h2;subst e;have hp:r.path.toList=[]:=by have:=Array.isEmpty_iff.1 h1;rw[this]
    cases hd:P.underlying p.1 with
    |none=>rw[hd] at h3;cases h3
    |some d=>
     rw[hd] at h3;have hpe:r.path.isEmpty=true:=h1;constructor
     ·rw[hm];cases d with
      |pointer e=>cases h3
      |interface ms=>cases h3
      |_=>simp[Go.method,typeInfo,hi,hr,hp,hg,follow,receiverAt,run_underlying hd,Place.get]
     ·cases d with
      |pointer e=>cases h3
      |interface ms=>cases h3
      |_=>simp[Instr.makeInterface,run_underlying hd]
   ·cases h2
  ·cases h
 ·cases h
theorem WO {P:Program}{T:cm}(h:T.Gx.all (PT P)=true):Nr P T:=by
 have key:∀(l:List (TypeId×String×FuncId)) t n f,MH l t n=some f→(t,n,f)∈l:=by
  intro l;induction l with
  |nil=>intro t n f h;cases h
  |cons p r ih=>
   intro t n f h;simp only[MH] at h;cases hb:(Nat.beq p.1 t&&p.2.1==n) with
   |true=>
    rw[hb,cond_true] at h;simp only[Option.some.injEq] at h;simp only[Bool.and_eq_true] at hb;have e1:=(beq_iff _ _).1 hb.1;have e2:p.2.1=n:=by simpa using hb.2
    have:p=(t,n,f):=by rw[←e1, ←e2, ←h]
    rw[this];exact List.mem_cons_self
   |false=>rw[hb,cond_false] at h;exact List.mem_cons_of_mem _ (ih t n f h)
 refine⟨fun t n f ht v w=> ?_,fun t ht v w=> ?_⟩
 ·have:=KK (List.all_eq_true.1 h _ (key _ _ _ _ ht)) v w;exact this.1
 ·obtain⟨p,h1,h2⟩:=List.any_eq_true.1 ht;have e:=(beq_iff _ _).1 h2;have:=(KK (List.all_eq_true.1 h _ h1) v w).2;rw[e] at this;exact this
section
variable {α β:Type}
def Conv (u:Nat→Option α)(v:Option α):Prop:=
 (∀y,v=some y→∃n,∀m,n≤m→u m=some y)∧∀n y,u n=some y→v=some y
theorem Conv.const (v:Option α):Conv (fun _=>v) v:=⟨fun y h=>⟨0,fun _ _=>h⟩,fun _ _ h=>h⟩
theorem Conv.bind {u:Nat→Option α}{v:Option α}{g:Nat→α→Option β}{G:α→Option β}(h:Conv u v)(hg:∀y,Conv (fun n=>g n y) (G y)):
  Conv (fun n=>(u n).bind (g n)) (v.bind G):=by
 constructor
 ·intro z hz;obtain⟨y,hy,hz⟩:=Option.bind_eq_some_iff.1 hz;obtain⟨n1,h1⟩:=h.1 y hy;obtain⟨n2,h2⟩:=(hg y).1 z hz;exact⟨max n1 n2,fun m hm=>by show (u m).bind (g m)=some z;rw[h1 m (by omega)];exact h2 m (by omega)⟩
 ·intro n z hz;obtain⟨y,hy,hz⟩:=Option.bind_eq_some_iff.1 hz;rw[h.2 n y hy];exact(hg y).2 n z hz
theorem Conv.shift {u:Nat→Option α}{v:Option α}(h:Conv u v):Conv (fun n=>u (n+1)) v:=
 ⟨fun y hy=>let ⟨n,hn⟩:=h.1 y hy;⟨n,fun m hm=>hn (m+1) (by omega)⟩,fun n y hy=>h.2 (n+1) y hy⟩
open Classical in
noncomputable def VZ (u:Nat→Option α):Option α:=if h:∃y,∃n,∀m,n≤m→u m=some y then some h.choose else none
theorem Conv.zJ {u:Nat→Option α}{v:Option α}(h:Conv u v):VZ u=v:=by
 unfold VZ;cases v with
 |none=>rw[dif_neg];rintro ⟨y,n,hn⟩;have:=h.2 n y (hn n (Nat.le_refl _));cases this
 |some y=>
  have hex:∃y,∃n,∀m,n≤m→u m=some y:=⟨y,h.1 y rfl⟩
  rw[dif_pos hex];obtain⟨n,hn⟩:=hex.choose_spec;exact(h.2 n _ (hn n (Nat.le_refl _))).symm
theorem XM {u:Nat→Option α}(hm:∀n y,u n=some y→u (n+1)=some y){n m:Nat}(h:n≤m){y:α}(hy:u n=some y):u m=some y:=by
 induction h with
 |refl=>exact hy
 |step _ ih=>exact hm _ _ ih
theorem IC {u:Nat→Option α}(hm:∀n y,u n=some y→u (n+1)=some y):Conv u (VZ u):=by
 have key:∀n y,u n=some y→VZ u=some y:=fun n y hy=>by
  have hex:∃y,∃n,∀m,n≤m→u m=some y:=⟨y,n,fun m h=>XM hm h hy⟩
  unfold VZ;rw[dif_pos hex];obtain⟨k,hk⟩:=hex.choose_spec;have h1:=hk (max n k) (by omega);have h2:=XM hm (show n≤max n k by omega) hy;rw[h1] at h2;exact h2
 refine⟨fun y hy=> ?_,key⟩;unfold VZ at hy;split at hy
 ·rename_i hex;obtain⟨k,hk⟩:=hex.choose_spec;refine⟨k,fun m hm'=> ?_⟩;rw[hk m hm'];exact hy
 ·cases hy
theorem UK {u:Nat→Option α}{y:α}(h:VZ u=some y):∃n,u n=some y:=by
 unfold VZ at h;split at h
 ·rename_i hex;obtain⟨k,hk⟩:=hex.choose_spec;exact⟨k,by rw[hk k (Nat.le_refl _)];exact h⟩
 ·cases h
end
section
variable {R:Type}{T:cm}
theorem Q.UL {α:Type}{Φ:Nat→bE T}{wE:bE T}(Bh:∀v x,Conv (fun n=>Φ n v x) (wE v x)){k:Nat→js→α→Option R}{K:js→α→Option R}(hk:∀c s,Conv (fun n=>k n c s) (K c s)):
  ∀(q:Q T α) (σ:AS) (c:js),Conv (fun n=>q.run (Φ n) σ c (k n)) (q.run wE σ c K):=by
 intro q;induction q with
 |ret a=>intro σ c;exact hk _ _
 |fail=>intro σ c;exact Conv.const _
 |opt o q ih=>intro σ c;exact Conv.bind (Conv.const o) fun y=>ih y σ c
 |gG b q ih=>intro σ c;cases b<;>simp only[Q.run,cond_true,cond_false]<;>first |exact ih σ c |exact Conv.const _
 |ite b x y Bb yR=>intro σ c;cases b<;>simp only[Q.run,cond_true,cond_false]<;>first |exact Bb σ c |exact yR σ c
 |row r q ih=>
  intro σ c;simp only[Q.run];cases look σ.rows r with
  |none=>exact Conv.const _
  |some x=>exact ih _ σ _
 |len r q ih=>
  intro σ c;simp only[Q.run];cases look σ.rows r with
  |none=>exact Conv.const _
  |some x=>exact ih _ σ _
 |box r q ih=>
  intro σ c;simp only[Q.run];cases look σ.boxes r with
  |none=>exact Conv.const _
  |some x=>exact ih _ σ _
 |heap r q ih=>
  intro σ c;simp only[Q.run];cases σ.ab[r]? with
  |none=>exact Conv.const _
  |some x=>exact ih _ σ _
 |lC r q ih=>
  intro σ c;simp only[Q.run];cases look σ.rows r with
  |none=>exact ih σ _
  |some x=>exact Conv.const _
 |lD r q ih=>
  intro σ c;simp only[Q.run];cases look σ.boxes r with
  |none=>exact ih σ _
  |some x=>exact Conv.const _
 |call v x q ih=>intro σ c;exact Conv.bind (Bh v x) fun y=>ih y σ c
 |all q ih=>intro σ c;exact ih σ σ _
 |on af q ih=>intro σ c;exact ih af _
theorem KL {Φ:Nat→bE T}{wE:bE T}(Bh:∀f x,Conv (fun n=>Φ n f x) (wE f x))(σ:AS)(o:Oper){k:Nat→js→AS→Option R}{K:js→AS→Option R}
  (hk:∀c s,Conv (fun n=>k n c s) (K c s)):Conv (fun n=>Bc T (Φ n) σ o (k n)) (Bc T wE σ o K):=by
 simp only[AK];refine Q.UL (α:=bH) (k:=fun n c (r:bH)=>match r.2 with
  | .kt us=>k n (c.wr (MJ us)) ((σ.app us).fG o.dst r.1)
  | .set af=>k n .X (af.fG o.dst r.1)) (K:=fun c (r:bH)=>match r.2 with
  | .kt us=>K (c.wr (MJ us)) ((σ.app us).fG o.dst r.1)
  | .set af=>K .X (af.fG o.dst r.1)) Bh (fun c r=> ?_) _ _ _
 obtain⟨z,e⟩:=r;cases e with
 |kt us=>exact hk _ _
 |set af=>exact hk _ _
theorem SN {Φ:Nat→bE T}{wE:bE T}(Bh:∀f x,Conv (fun n=>Φ n f x) (wE f x))(ops:Array Oper)(σ:AS)(o:Oper){k:Nat→js→AS→Option R}{K:js→AS→Option R}
  (hk:∀c s,Conv (fun n=>k n c s) (K c s)):Conv (fun n=>zh T (Φ n) ops σ o (k n)) (zh T wE ops σ o K):=by
 cases hg:o.guard with
 |none=>simp only[zh,hg];exact KL Bh σ o hk
 |some p=>
  obtain⟨j,want⟩:=p;cases ht:(ops[j]?).bind (·.dst) with
  |none=>simp only[zh,hg,ht];exact Conv.const _
  |some t=>
   simp only[zh,hg,ht];split
   ·rename_i b hb;cases b<;>cases want<;>simp only[cond_true,cond_false]<;>first |exact hk _ _ |exact KL Bh _ o hk
   ·exact hk _ _
   ·exact Conv.const _
theorem ID {Φ:Nat→bE T}{wE:bE T}(Bh:∀f x,Conv (fun n=>Φ n f x) (wE f x))(ops:Array Oper):∀(l:List Oper) (σ:AS) (cs:List js) {k:Nat→List js→AS→Option R} {K:List js→AS→Option R}
  (hk:∀c s,Conv (fun n=>k n c s) (K c s)),Conv (fun n=>J0 T (Φ n) ops l σ cs (k n)) (J0 T wE ops l σ cs K)
 | [],σ,cs,k,K,hk=>hk _ _
 |o::r,σ,cs,k,K,hk=>by simp only[J0];exact SN Bh ops σ o fun c s=>ID Bh ops r s (c::cs) hk
theorem BL {Φ:Nat→bE T}{wE:bE T}(Bh:∀f x,Conv (fun n=>Φ n f x) (wE f x))(ops:Array Oper)(draw:Bool)(σ:AS){k:Nat→AS→Option R}{K:AS→Option R}
  (hk:∀s,Conv (fun n=>k n s) (K s)):Conv (fun n=>oZ T (Φ n) ops draw σ (k n)) (oZ T wE ops draw σ K):=by
 unfold oZ;refine ID Bh ops _ _ _ fun c s=> ?_;cases draw with
 |false=>exact hk s
 |true=>
  cases (zj 0 ops.toList&&zi ops 0 (ops.toList.zip c.reverse) (Be ops.toList [])) with
  |true=>simp only[cond_true];exact hk s
  |false=>simp only[cond_true,cond_false];exact Conv.const _
noncomputable def pW (h:List (Nat×Bool))(body:AS→(Ex→AS→Option R)→Option R)(k:Ex→AS→Option R)(σ:AS):Option R:=VZ fun m=>iL h body k m σ
noncomputable def aN (T:cm)(Φ:bE T):Code→List (List (Nat×Bool))→AS→(Ex→AS→Option R)→Option R
 | .skip,_,σ,k=>k .normal σ
 | .region _ ops draw,_,σ,k=>oZ T Φ ops draw σ (k .normal)
 | .seq a b,hs,σ,k=>aN T Φ a hs σ fun e af=>match e with
   | .normal=>aN T Φ b (hs.drop (loops a)) af k
   | .exit i=>k (.exit i) af
   | .ret=>k .ret af
 | .cond c a b,hs,σ,k=>match c with
   | .tmp t=>match nth σ.tmps t with
     | .rv (.cv ⟨.bool,x⟩)=>bif x then aN T Φ a hs (σ.Ci t true) k else aN T Φ b (hs.drop (loops a)) (σ.Ci t false) k
     |_=>none
   | .const (.bool x)=>bif x then aN T Φ a hs σ k else aN T Φ b (hs.drop (loops a)) σ k
   |_=>none
 | .block id c,hs,σ,k=>aN T Φ c hs σ fun e af=>match e with
   | .normal=>k .normal af
   | .exit i=>bif Nat.beq i id then k .normal af else k (.exit i) af
   | .ret=>k .ret af
 | .loop c,hs,σ,k=>match hs with
   |h::hs'=>pW h (fun σ k'=>aN T Φ c hs' σ k') k (σ.forget h)
   | []=>none
 | .rangeFunc f ps a b,hs,σ,k=>match hs,σ.cd,σ.trace with
   |h::hs',[],⟨.unit,_⟩=>o5 T Φ σ (σ.av f) fun r bs=>
     bif qs ((σ.gS bs).forget h) then
      pW h (fQ ps.toList (fun σ k'=>aN T Φ a hs' σ k') (fun σ k'=>aN T Φ b (hs'.drop (loops a)) σ k')) (eJ k)
       {(((σ.gS bs).forget h)) with cd:=[r]}.save
     else none
   |_,_,_=>none
 | .scope c,hs,σ,k=>aN T Φ c hs σ k
 | .label _,_,σ,k=>k .normal σ
 | .exit i,_,σ,k=>k (.exit i) σ
 | .ret,_,σ,k=>k .ret σ
 |_,_,_,_=>none
def Le {α:Type}(a b:Option α):Prop:=∀y,a=some y→b=some y
theorem Le.yV {α:Type}(a:Option α):Le a a:=fun _ h=>h
theorem He {α:Type}{a b:Option α}(h:Le a b):Conv (fun n=>bif Nat.ble n 0 then a else b) b:=by
 refine⟨fun y hy=>⟨1,fun m hm=> ?_⟩,fun n y hy=> ?_⟩
 ·have:Nat.ble m 0=false:=by cases m with
   |zero=>omega
   |succ m=>rfl
  show (bif Nat.ble m 0 then a else b)=some y;rw[this];exact hy
 ·have hy':(bif Nat.ble n 0 then a else b)=some y:=hy;cases hb:Nat.ble n 0 with
  |true=>rw[hb] at hy';exact h y hy'
  |false=>rw[hb] at hy';exact hy'
theorem Rc {α:Type}{u:Nat→Option α}{b:Option α}(h:Conv u b):Le (u 0) b:=fun y hy=>h.2 0 y hy
theorem zK {h:List (Nat×Bool)}{body body':AS→(Ex→AS→Option R)→Option R}(hb:∀σ k k',(∀e s,Le (k e s) (k' e s))→Le (body σ k) (body' σ k'))
  {k k':Ex→AS→Option R} (hk:∀e s,Le (k e s) (k' e s)):∀m m' σ,m≤m'→Le (iL h body k m σ) (iL h body' k' m' σ)
 |0,m',σ,_=>fun y hy=>by cases hy
 |m+1,0,σ,hm=>by omega
 |m+1,m'+1,σ,hm=>by
  simp only[iL];refine hb σ _ _ fun e s=> ?_;cases e with
  |normal=>exact zK hb hk m m' _ (by omega)
  |exit i=>exact hk _ _
  |ret=>exact hk _ _
theorem Dz {Φ:Nat→bE T}{wE:bE T}(Bh:∀f x,Conv (fun n=>Φ n f x) (wE f x))(σ:AS)(f:AV){k:Nat→VP→List Nat→Option R}{K:VP→List Nat→Option R}(hk:∀r bs,Conv (fun n=>k n r bs) (K r bs)):
  Conv (fun n=>o5 T (Φ n) σ f (k n)) (o5 T wE σ f K):=by
 unfold o5;split
 ·rename_i g aP;split
  ·rename_i v _ _;split
   ·rename_i x _;split
    ·rename_i xh _;refine Conv.bind (Bh v xh) fun yh=> ?_;cases (pT (bf aP)&&(T.sig v).ab.isEmpty&&Nat.beq (T.real v) g) with
     |false=>exact Conv.const _
     |true=>
      simp only[cond_true];have key:∀(s:za) (y:Ce s),Conv (fun n=>match s,y with
       | ⟨_,_,_,_,some ts⟩,y=>k n ⟨ts,y⟩ (bf aP)
       |_,_=>none) (match s,y with
       | ⟨_,_,_,_,some ts⟩,y=>K ⟨ts,y⟩ (bf aP)
       |_,_=>none)
       | ⟨_,_,_,_,some ts⟩,y=>hk _ _
       | ⟨_,_,none,_,none⟩,y=>Conv.const _
       | ⟨_,_,some _,_,none⟩,y=>Conv.const _
      exact key _ _
    ·exact Conv.const _
   ·exact Conv.const _
  ·exact Conv.const _
 ·exact Conv.const _
theorem PU {Φ wE:bE T}(Bh:∀f x,Le (Φ f x) (wE f x))(σ:AS)(f:AV){k k':VP→List Nat→Option R}(hk:∀r bs,Le (k r bs) (k' r bs)):Le (o5 T Φ σ f k) (o5 T wE σ f k'):=
 Rc (Dz (Φ:=fun n f x=>bif Nat.ble n 0 then Φ f x else wE f x) (wE:=wE) (fun f x=>He (Bh f x)) σ f (k:=fun n r bs=>bif Nat.ble n 0 then k r bs else k' r bs) (K:=k') (fun r bs=>He (hk r bs)))
theorem FZ {ps:List Tmp}{Gy body:Nat→AS→(Ex→AS→Option R)→Option R}{aay XN:AS→(Ex→AS→Option R)→Option R}
  (ha:∀σ {k:Nat→Ex→AS→Option R} {K:Ex→AS→Option R},(∀e s,Conv (fun n=>k n e s) (K e s))→Conv (fun n=>Gy n σ (k n)) (aay σ K))
  (hb:∀σ {k:Nat→Ex→AS→Option R} {K:Ex→AS→Option R},(∀e s,Conv (fun n=>k n e s) (K e s))→Conv (fun n=>body n σ (k n)) (XN σ K))
  (σ:AS) {k:Nat→Ex→AS→Option R} {K:Ex→AS→Option R} (hk:∀e s,Conv (fun n=>k n e s) (K e s)):Conv (fun n=>fQ ps (Gy n) (body n) σ (k n)) (fQ ps aay XN σ K):=by
 unfold fQ;split
 ·exact Conv.const _
 ·rename_i r rs _;obtain⟨ts,xs⟩:=r;cases xs with
  |nil=>exact hk _ _
  |cons x xs=>
   simp only;split
   ·refine ha _ (k:=fun n e cV=>match e with
     | .normal=>body n cV fun e jr=>match e with
       | .normal=>k n .normal jr.back
       |_=>none
     |_=>none) fun e s=> ?_
    cases e with
    |normal=>
     refine hb _ (k:=fun n e jr=>match e with
      | .normal=>k n .normal jr.back
      |_=>none) fun e s=> ?_
     cases e with
     |normal=>exact hk _ _
     |_=>exact Conv.const _
    |_=>exact Conv.const _
   ·exact Conv.const _
theorem Fb {ps:List Tmp}{Gy body aaz body':AS→(Ex→AS→Option R)→Option R}(ha:∀σ k k',(∀e s,Le (k e s) (k' e s))→Le (Gy σ k) (aaz σ k'))(hb:∀σ k k',(∀e s,Le (k e s) (k' e s))→Le (body σ k) (body' σ k'))
  (σ:AS) (k k':Ex→AS→Option R) (hk:∀e s,Le (k e s) (k' e s)):Le (fQ ps Gy body σ k) (fQ ps aaz body' σ k'):=by
 unfold fQ;split
 ·exact Le.yV _
 ·rename_i r rs _;obtain⟨ts,xs⟩:=r;cases xs with
  |nil=>exact hk _ _
  |cons x xs=>
   simp only;split
   ·refine ha _ _ _ fun e s=> ?_;cases e with
    |normal=>
     refine hb _ _ _ fun e s=> ?_;cases e with
     |normal=>exact hk _ _
     |_=>exact Le.yV _
    |_=>exact Le.yV _
   ·exact Le.yV _
theorem IE {k:Nat→Ex→AS→Option R}{K:Ex→AS→Option R}(hk:∀e s,Conv (fun n=>k n e s) (K e s))(e:Ex)(s:AS):Conv (fun n=>eJ (k n) e s) (eJ K e s):=by
 cases e with
 |exit i=>exact hk _ _
 |_=>exact Conv.const _
theorem LN {k k':Ex→AS→Option R}(hk:∀e s,Le (k e s) (k' e s))(e:Ex)(s:AS):Le (eJ k e s) (eJ k' e s):=by
 cases e with
 |exit i=>exact hk _ _
 |_=>exact Le.yV _
theorem wF {Φ wE:bE T}(Bh:∀f x,Le (Φ f x) (wE f x)){n n':Nat}(hn:n≤n'):∀(c:Code) (hs:List (List (Nat×Bool))) (σ:AS) (k k':Ex→AS→Option R) (hk:∀e s,Le (k e s) (k' e s)),
  Le (aJ T Φ n c hs σ k) (aJ T wE n' c hs σ k'):=by
 intro c;induction c with
 |skip=>intro hs σ k k' hk;exact hk _ _
 |region id ops draw=>intro hs σ k k' hk;have:=BL (Φ:=fun n f x=>bif Nat.ble n 0 then Φ f x else wE f x) (wE:=wE) (fun f x=>He (Bh f x)) ops draw σ (k:=fun n s=>bif Nat.ble n 0 then k .normal s else k' .normal s) (K:=k' .normal) (fun s=>He (hk _ _));exact Rc this
 |seq a b MG K6=>
  intro hs σ k k' hk;simp only[aJ];refine MG _ _ _ _ fun e s=> ?_;cases e with
  |normal=>exact K6 _ _ _ _ hk
  |exit i=>exact hk _ _
  |ret=>exact hk _ _
 |cond c a b MG K6=>
  intro hs σ k k' hk;simp only[aJ];split
  ·split
   ·rename_i x _;cases x
    ·exact K6 _ _ _ _ hk
    ·exact MG _ _ _ _ hk
   ·exact Le.yV _
  ·rename_i x;cases x
   ·exact K6 _ _ _ _ hk
   ·exact MG _ _ _ _ hk
  ·exact Le.yV _
 |block id c ih=>
  intro hs σ k k' hk;simp only[aJ];refine ih _ _ _ _ fun e s=> ?_;cases e with
  |normal=>exact hk _ _
  |exit i=>cases hb:Nat.beq i id<;>simp only[hb,cond_true,cond_false]<;>exact hk _ _
  |ret=>exact hk _ _
 |loop c ih=>
  intro hs σ k k' hk;simp only[aJ];cases hs with
  |nil=>exact Le.yV _
  |cons h hs'=>exact zK (body:=fun σ k'=>aJ T Φ n c hs' σ k') (body':=fun σ k'=>aJ T wE n' c hs' σ k') (fun σ k k' hk=>ih hs' σ k k' hk) hk _ _ _ hn
 |rangeFunc f ps a b MG K6=>
  intro hs σ k k' hk;simp only[aJ];split
  ·refine PU Bh σ _ fun r bs=> ?_;rename_i h hs' _ _ _
   ·cases qs ((σ.gS bs).forget h) with
    |false=>exact Le.yV _
    |true=>simp only[cond_true];exact zK (fun σ k k' hk=>Fb (fun σ k k' hk=>MG _ σ k k' hk) (fun σ k k' hk=>K6 _ σ k k' hk) σ k k' hk) (LN hk) _ _ _ hn
  ·exact Le.yV _
 |scope c ih=>intro hs σ k k' hk;exact ih hs σ k k' hk
 |label l=>intro hs σ k k' hk;exact hk _ _
 |exit i=>intro hs σ k k' hk;exact hk _ _
 |ret=>intro hs σ k k' hk;exact hk _ _
 |_=>intro hs σ k k' hk;exact Le.yV _
theorem N3 {h:List (Nat×Bool)}{body:AS→(Ex→AS→Option R)→Option R}(hb:∀σ k k',(∀e s,Le (k e s) (k' e s))→Le (body σ k) (body σ k'))
  (k:Ex→AS→Option R) (σ:AS):∀n y,iL h body k n σ=some y→iL h body k (n+1) σ=some y:=
 fun n y hy=>zK hb (fun e s=>Le.yV _) n (n+1) σ (by omega) y hy
theorem KM {h:List (Nat×Bool)}{bn:Nat→AS→(Ex→AS→Option R)→Option R}{bI:AS→(Ex→AS→Option R)→Option R}
  (hc:∀σ {k:Nat→Ex→AS→Option R} {K:Ex→AS→Option R},(∀e s,Conv (fun n=>k n e s) (K e s))→Conv (fun n=>bn n σ (k n)) (bI σ K))
  (hbn:∀n σ (k k':Ex→AS→Option R),(∀e s,Le (k e s) (k' e s))→Le (bn n σ k) (bn n σ k'))
  {k:Nat→Ex→AS→Option R} {K:Ex→AS→Option R} (hk:∀e s,Conv (fun n=>k n e s) (K e s)) (σ:AS):Conv (fun n=>iL h (bn n) (k n) n σ) (pW h bI K σ):=by
 have hbI:∀σ (k k':Ex→AS→Option R),(∀e s,Le (k e s) (k' e s))→Le (bI σ k) (bI σ k'):=fun σ k k' hkk y hy=>by obtain⟨n,hn⟩:=(hc σ (k:=fun _=>k) (K:=k) (fun e s=>Conv.const _)).1 y hy;exact(hc σ (k:=fun _=>k') (K:=k') (fun e s=>Conv.const _)).2 n y (hbn n σ k k' hkk y (hn n (Nat.le_refl _)))
 have hm:∀m σ,Conv (fun n=>iL h (bn n) (k n) m σ) (iL h bI K m σ):=by
  intro m;induction m with
  |zero=>intro σ;exact Conv.const _
  |succ m ihm=>
   intro σ;simp only[iL];refine hc σ (k:=fun n e af=>match e with
    | .normal=>iL h (bn n) (k n) m (af.forget h)
    | .exit i=>k n (.exit i) af
    | .ret=>k n .ret af) fun e s=> ?_
   cases e with
   |normal=>exact ihm _
   |exit i=>exact hk _ _
   |ret=>exact hk _ _
 have UM:∀σ,Conv (fun m=>iL h bI K m σ) (pW h bI K σ):=fun σ=>IC (N3 hbI K σ);constructor
 ·intro y hy;obtain⟨m,h1⟩:=(UM _).1 y hy;obtain⟨n,h2⟩:=(hm m _).1 y (h1 m (Nat.le_refl _));refine⟨max n m,fun i hi=> ?_⟩;exact zK (hbn i) (fun e s=>Le.yV _) m i _ (by omega) y (h2 i (by omega))
 ·intro n y hy;exact(UM _).2 n y ((hm n _).2 n y hy)
theorem rJ {Φ:Nat→bE T}{wE:bE T}(Bh:∀f x,Conv (fun n=>Φ n f x) (wE f x)):∀(c:Code) (hs:List (List (Nat×Bool))) (σ:AS) {k:Nat→Ex→AS→Option R} {K:Ex→AS→Option R}
  (hk:∀e s,Conv (fun n=>k n e s) (K e s)),Conv (fun n=>aJ T (Φ n) n c hs σ (k n)) (aN T wE c hs σ K):=by
 intro c;induction c with
 |skip=>intro hs σ k K hk;exact hk _ _
 |region id ops draw=>intro hs σ k K hk;exact BL Bh ops draw σ fun s=>hk _ _
 |seq a b MG K6=>
  intro hs σ k K hk;simp only[aJ,aN];refine MG hs σ (k:=fun n e af=>match e with
   | .normal=>aJ T (Φ n) n b (hs.drop (loops a)) af (k n)
   | .exit i=>k n (.exit i) af
   | .ret=>k n .ret af) fun e s=> ?_
  cases e with
  |normal=>exact K6 _ _ hk
  |exit i=>exact hk _ _
  |ret=>exact hk _ _
 |cond c a b MG K6=>
  intro hs σ k K hk;simp only[aJ,aN];cases c with
  |tmp t=>
   simp only;generalize nth σ.tmps t=v;cases v with
   |rv x=>
    cases x with
    |cv d=>
     obtain⟨ty,x⟩:=d;cases ty with
     |bool=>
      cases x
      ·exact K6 _ _ hk
      ·exact MG _ _ hk
     |_=>exact Conv.const _
    |_=>exact Conv.const _
   |_=>exact Conv.const _
  |const v=>
   cases v with
   |bool x=>
    cases x
    ·exact K6 _ _ hk
    ·exact MG _ _ hk
   |_=>exact Conv.const _
  |_=>exact Conv.const _
 |block id c ih=>
  intro hs σ k K hk;simp only[aJ,aN];refine ih hs σ (k:=fun n e af=>match e with
   | .normal=>k n .normal af
   | .exit i=>bif Nat.beq i id then k n .normal af else k n (.exit i) af
   | .ret=>k n .ret af) fun e s=> ?_
  cases e with
  |normal=>exact hk _ _
  |exit i=>cases hb:Nat.beq i id<;>simp only[hb,cond_true,cond_false]<;>exact hk _ _
  |ret=>exact hk _ _
 |loop c ih=>
  intro hs σ k K hk;simp only[aJ,aN];cases hs with
  |nil=>exact Conv.const _
  |cons h hs'=>exact KM (bn:=fun n σ k'=>aJ T (Φ n) n c hs' σ k') (bI:=fun σ k'=>aN T wE c hs' σ k') (fun σ {k K} hk=>ih hs' σ hk) (fun n σ k k' hkk=>wF (T:=T) (fun f x=>Le.yV _) (Nat.le_refl n) c hs' σ k k' hkk) hk _
 |rangeFunc f ps a b MG K6=>
  intro hs σ k K hk;simp only[aJ,aN];cases hs with
  |nil=>exact Conv.const _
  |cons h hs'=>
   generalize σ.cd=rn;generalize σ.trace=tr;obtain⟨ty,x⟩:=tr;cases rn with
   |cons _ _=>exact Conv.const _
   |nil=>
    cases ty with
    |unit=>
     simp only;refine Dz Bh σ _ (k:=fun n r bs=>bif qs ((σ.gS bs).forget h) then
       iL h (fQ ps.toList (fun σ k'=>aJ T (Φ n) n a hs' σ k') (fun σ k'=>aJ T (Φ n) n b (hs'.drop (loops a)) σ k')) (eJ (k n)) n
        {(((σ.gS bs).forget h)) with cd:=[r]}.save
      else none) fun r bs=> ?_
     cases qs ((σ.gS bs).forget h) with
     |false=>exact Conv.const _
     |true=>
      simp only[cond_true];exact KM (bn:=fun n=>fQ ps.toList (fun σ k'=>aJ T (Φ n) n a hs' σ k') (fun σ k'=>aJ T (Φ n) n b (hs'.drop (loops a)) σ k')) (bI:=fQ ps.toList (fun σ k'=>aN T wE a hs' σ k') (fun σ k'=>aN T wE b (hs'.drop (loops a)) σ k'))
       (fun σ {k K} hk=>FZ (Gy:=fun n σ k'=>aJ T (Φ n) n a hs' σ k') (body:=fun n σ k'=>aJ T (Φ n) n b (hs'.drop (loops a)) σ k') (fun σ {k K} hk=>MG hs' σ hk) (fun σ {k K} hk=>K6 _ σ hk) σ hk)
       (fun n σ k k' hkk=>Fb (fun σ k k' hkk=>wF (T:=T) (fun f x=>Le.yV _) (Nat.le_refl n) a hs' σ k k' hkk) (fun σ k k' hkk=>wF (T:=T) (fun f x=>Le.yV _) (Nat.le_refl n) b _ σ k k' hkk) σ k k' hkk)
       (IE hk) _
    |_=>exact Conv.const _
 |scope c ih=>intro hs σ k K hk;exact ih hs σ hk
 |label l=>intro hs σ k K hk;exact hk _ _
 |exit i=>intro hs σ k K hk;exact hk _ _
 |ret=>intro hs σ k K hk;exact hk _ _
 |_=>intro hs σ k K hk;exact Conv.const _
theorem ya {Φ:bE T}(c:Code)(hs:List (List (Nat×Bool)))(σ:AS)(k k':Ex→AS→Option R)(hk:∀e s,Le (k e s) (k' e s)):Le (aN T Φ c hs σ k) (aN T Φ c hs σ k'):=fun y hy=>by obtain⟨n,hn⟩:=(rJ (T:=T) (Φ:=fun _=>Φ) (wE:=Φ) (fun f x=>Conv.const _) c hs σ (k:=fun _=>k) (K:=k) (fun e s=>Conv.const _)).1 y hy;have h2:=wF (T:=T) (Φ:=Φ) (wE:=Φ) (fun f x=>Le.yV _) (Nat.le_refl n) c hs σ k k' hk y (hn n (Nat.le_refl _));exact(rJ (T:=T) (Φ:=fun _=>Φ) (wE:=Φ) (fun f x=>Conv.const _) c hs σ (k:=fun _=>k') (K:=k') (fun e s=>Conv.const _)).2 n y h2
theorem yb {Φ:bE T}(c:Code)(hs:List (List (Nat×Bool)))(σ:AS){k:Nat→Ex→AS→Option R}{K:Ex→AS→Option R}(hk:∀e s,Conv (fun n=>k n e s) (K e s)):Conv (fun n=>aN T Φ c hs σ (k n)) (aN T Φ c hs σ K):=by
 constructor
 ·intro y hy;have h3:=rJ (T:=T) (Φ:=fun _=>Φ) (wE:=Φ) (fun f x=>Conv.const _) c hs σ (k:=k) (K:=K) hk;obtain⟨n,hn⟩:=h3.1 y hy;exact⟨n,fun m hm=>(rJ (T:=T) (Φ:=fun _=>Φ) (wE:=Φ) (fun f x=>Conv.const _) c hs σ (k:=fun _=>k m) (K:=k m) (fun e s=>Conv.const _)).2 m y (hn m hm)⟩
 ·intro m y hy;exact ya c hs σ _ _ (fun e s y hy=>(hk e s).2 m y hy) y hy
theorem IF {h:List (Nat×Bool)}{bI:AS→(Ex→AS→Option R)→Option R}(hle:∀σ (k k':Ex→AS→Option R),(∀e s,Le (k e s) (k' e s))→Le (bI σ k) (bI σ k'))
  (hc:∀σ {k:Nat→Ex→AS→Option R} {K:Ex→AS→Option R},(∀e s,Conv (fun n=>k n e s) (K e s))→Conv (fun n=>bI σ (k n)) (bI σ K)) (k:Ex→AS→Option R) (σ:AS):
  pW h bI k σ=bI σ fun e af=>match e with
   | .normal=>pW h bI k (af.forget h)
   | .exit i=>k (.exit i) af
   | .ret=>k .ret af:=by
 have UM:∀σ,Conv (fun m=>iL h bI k m σ) (pW h bI k σ):=fun σ=>IC (N3 hle k σ);have h1:=(UM σ).shift;have h2:Conv (fun m=>iL h bI k (m+1) σ) (bI σ fun e af=>match e with
   | .normal=>pW h bI k (af.forget h)
   | .exit i=>k (.exit i) af
   | .ret=>k .ret af):=by
  simp only[iL];refine hc σ (k:=fun m e af=>match e with
   | .normal=>iL h bI k m (af.forget h)
   | .exit i=>k (.exit i) af
   | .ret=>k .ret af) fun e s=> ?_
  cases e with
  |normal=>exact UM _
  |exit i=>exact Conv.const _
  |ret=>exact Conv.const _
 rw[←h2.zJ,h1.zJ]
theorem UN (T:cm)(Φ:bE T)(h:List (Nat×Bool))(c:Code)(hs:List (List (Nat×Bool)))(k:Ex→AS→Option R)(σ:AS):
  pW h (fun σ k'=>aN T Φ c hs σ k') k σ=aN T Φ c hs σ fun e af=>match e with
   | .normal=>pW h (fun σ k'=>aN T Φ c hs σ k') k (af.forget h)
   | .exit i=>k (.exit i) af
   | .ret=>k .ret af:=IF (fun σ k k' hk=>ya c hs σ k k' hk) (fun σ {k K} hk=>yb c hs σ hk) k σ
theorem SO (T:cm)(Φ:bE T)(h:List (Nat×Bool))(ps:List Tmp)(a b:Code)(FC Jo:List (List (Nat×Bool)))(k:Ex→AS→Option R)(σ:AS):
  pW h (fQ ps (fun σ k'=>aN T Φ a FC σ k') (fun σ k'=>aN T Φ b Jo σ k')) k σ=fQ ps (fun σ k'=>aN T Φ a FC σ k') (fun σ k'=>aN T Φ b Jo σ k') σ fun e af=>match e with
   | .normal=>pW h (fQ ps (fun σ k'=>aN T Φ a FC σ k') (fun σ k'=>aN T Φ b Jo σ k')) k (af.forget h)
   | .exit i=>k (.exit i) af
   | .ret=>k .ret af:=IF (fun σ k k' hk=>Fb (fun σ k k' hk=>ya a _ σ k k' hk) (fun σ k k' hk=>ya b _ σ k k' hk) σ k k' hk)
  (fun σ {k K} hk=>FZ (Gy:=fun _ σ k'=>aN T Φ a FC σ k') (body:=fun _ σ k'=>aN T Φ b Jo σ k') (fun σ {k K} hk=>yb a _ σ hk) (fun σ {k K} hk=>yb b _ σ hk) σ hk) k σ
end
noncomputable def LP (T:cm)(fn:Func)(c:Code)(Φ:bE T)(v:Nat)(x:wj T v):Option (pP T v):=
 aN T Φ c (T.hint v) (C4 T fn v x) (Bf T fn v)
noncomputable def ft (T:cm)(B:Cj T)(fns:Nat→Option Func)(v:Nat)(x:wj T v):Option (pP T v):=VZ fun n=>yS T B fns n v x
theorem Rd (T:cm)(B:Cj T)(fns:Nat→Option Func):∀n v x y,yS T B fns n v x=some y→yS T B fns (n+1) v x=some y
 |0,v,x,y,h=>by cases h
 |n+1,v,x,y,h=>by
  rw[yS] at h ⊢;revert h;cases B v with
  |some g=>exact id
  |none=>
   simp only;cases fns v with
   |none=>exact id
   |some fn=>
    simp only;cases fn.body with
    |none=>exact id
    |some c=>simp only[Lj];exact wF (T:=T) (fun f x y hy=>Rd T B fns n f x y hy) (by omega) c _ _ _ _ (fun e s=>Le.yV _) y
theorem IH (T:cm)(B:Cj T)(fns:Nat→Option Func)(v:Nat)(x:wj T v):Conv (fun n=>yS T B fns n v x) (ft T B fns v x):=IC fun n y=>Rd T B fns n v x y
theorem YQ {T:cm}{B:Cj T}{fns:Nat→Option Func}{v:Nat}{fn:Func}{c:Code}(hB:B v=none)(hf:fns v=some fn)(hc:fn.body=some c)(x:wj T v):
  ft T B fns v x=LP T fn c (ft T B fns) v x:=by
 have h1:=(IH T B fns v x).shift;have h2:Conv (fun n=>yS T B fns (n+1) v x) (LP T fn c (ft T B fns) v x):=by
  have e:(fun n=>yS T B fns (n+1) v x)=fun n=>aJ T (yS T B fns n) n c (T.hint v) (C4 T fn v x) (Bf T fn v):=by funext n;rw[yS,hB];simp only;rw[hf];simp only[hc];rfl
  rw[e];exact rJ (T:=T) (fun f x=>IH T B fns f x) c _ _ (k:=fun _=>Bf T fn v) fun e s=>Conv.const _
 rw[←h2.zJ,h1.zJ]
theorem UO {T:cm}{B:Cj T}{fns:Nat→Option Func}{v:Nat}{g:wj T v→Option (pP T v)}(hB:B v=some g)(x:wj T v):ft T B fns v x=g x:=by
 have h1:=(IH T B fns v x).shift;have e:(fun n=>yS T B fns (n+1) v x)=fun _=>g x:=by funext n;rw[yS,hB]
 rw[e] at h1;rw[←h1.zJ,(Conv.const (g x)).zJ]
theorem SP {P:Program}{T:cm}{B:Cj T}{fns:Nat→Option Func}(hP:Cs P T)(hB:PQ P T B)(hF:Q8 P T fns):Ly P T (ft T B fns):=fun v xh yh h=>by obtain⟨n,hn⟩:=UK h;exact(N1 hP hB hF n).1 v xh yh hn
def bs (l:List Nat):ByteArray:=⟨(l.map UInt8.ofNat).toArray⟩
inductive Frm where
 |seq (b:Code) (hs:List (List (Nat×Bool)))
 |blk (id:Nat)
 |lp (h:List (Nat×Bool)) (c:Code) (hs:List (List (Nat×Bool)))
 |rg (h:List (Nat×Bool)) (ps:List Tmp) (a b:Code) (FC Jo:List (List (Nat×Bool)))
section
variable {R:Type}
noncomputable def LQ (T:cm)(Φ:bE T):List Frm→(Ex→AS→Option R)→Ex→AS→Option R
 | [],k=>k
 | .seq b hs::fr,k=>fun e af=>match e with
   | .normal=>aN T Φ b hs af (LQ T Φ fr k)
   | .exit i=>LQ T Φ fr k (.exit i) af
   | .ret=>LQ T Φ fr k .ret af
 | .blk id::fr,k=>fun e af=>match e with
   | .normal=>LQ T Φ fr k .normal af
   | .exit i=>bif Nat.beq i id then LQ T Φ fr k .normal af else LQ T Φ fr k (.exit i) af
   | .ret=>LQ T Φ fr k .ret af
 | .lp h c hs::fr,k=>fun e af=>match e with
   | .normal=>pW h (fun σ k'=>aN T Φ c hs σ k') (LQ T Φ fr k) (af.forget h)
   | .exit i=>LQ T Φ fr k (.exit i) af
   | .ret=>LQ T Φ fr k .ret af
 | .rg h ps a b FC Jo::fr,k=>fun e af=>match e with
   | .normal=>pW h (fQ ps (fun σ k'=>aN T Φ a FC σ k') (fun σ k'=>aN T Φ b Jo σ k')) (eJ (LQ T Φ fr k)) (af.back.forget h)
   |_=>none
end
inductive acF where
 |lp (h:List (Nat×Bool)) (c:Code) (hs:List (List (Nat×Bool))) (fr:List Frm)
 |rg (h:List (Nat×Bool)) (ps:List Tmp) (a b:Code) (FC Jo:List (List (Nat×Bool))) (fr:List Frm)
def vF:Code→List (List (Nat×Bool))→List Frm→Nat→Option acF
 | .seq a b,hs,fr,i=>bif Nat.blt i (loops a) then vF a hs (.seq b (hs.drop (loops a))::fr) i else vF b (hs.drop (loops a)) fr (i - loops a)
 | .cond _ a b,hs,fr,i=>bif Nat.blt i (loops a) then vF a hs fr i else vF b (hs.drop (loops a)) fr (i - loops a)
 | .block id c,hs,fr,i=>vF c hs (.blk id::fr) i
 | .scope c,hs,fr,i=>vF c hs fr i
 | .loop c,h::hs,fr,0=>some (.lp h c hs fr)
 | .loop c,h::hs,fr,i+1=>vF c hs (.lp h c hs::fr) i
 | .rangeFunc f ps a b,h::hs,fr,0=>some (.rg h ps.toList a b hs (hs.drop (loops a)) fr)
 | .rangeFunc f ps a b,h::hs,fr,i+1=>bif Nat.blt i (loops a) then none else vF b (hs.drop (loops a)) (.rg h ps.toList a b hs (hs.drop (loops a))::fr) (i - loops a)
 |_,_,_,_=>none
noncomputable def LL (T:cm)(B:Cj T)(fns:Nat→Option Func)(v:Nat)(i:Nat)(σ:AS):Option (pP T v):=
 match fns v with
 |some fn=>match fn.body with
  |some c=>match vF c (T.hint v) [] i with
   |some (.lp h c hs fr)=>pW h (fun σ k'=>aN T (ft T B fns) c hs σ k') (LQ T (ft T B fns) fr (Bf T fn v)) σ
   |some (.rg h ps a b FC Jo fr)=>pW h (fQ ps (fun σ k'=>aN T (ft T B fns) a FC σ k') (fun σ k'=>aN T (ft T B fns) b Jo σ k')) (eJ (LQ T (ft T B fns) fr (Bf T fn v))) σ
   |none=>none
  |none=>none
 |none=>none
noncomputable def LL1 (T:cm)(B:Cj T)(fns:Nat→Option Func)(v:Nat)(i:Nat)(σ:AS):Option (pP T v):=
 match fns v with
 |some fn=>match fn.body with
  |some c=>match vF c (T.hint v) [] i with
   |some (.lp h c hs fr)=>aN T (ft T B fns) c hs σ fun e af=>match e with
    | .normal=>pW h (fun σ k'=>aN T (ft T B fns) c hs σ k') (LQ T (ft T B fns) fr (Bf T fn v)) (af.forget h)
    | .exit i=>LQ T (ft T B fns) fr (Bf T fn v) (.exit i) af
    | .ret=>LQ T (ft T B fns) fr (Bf T fn v) .ret af
   |some (.rg h ps a b FC Jo fr)=>fQ ps (fun σ k'=>aN T (ft T B fns) a FC σ k') (fun σ k'=>aN T (ft T B fns) b Jo σ k') σ fun e af=>match e with
    | .normal=>pW h (fQ ps (fun σ k'=>aN T (ft T B fns) a FC σ k') (fun σ k'=>aN T (ft T B fns) b Jo σ k')) (eJ (LQ T (ft T B fns) fr (Bf T fn v))) (af.forget h)
    | .exit i=>eJ (LQ T (ft T B fns) fr (Bf T fn v)) (.exit i) af
    | .ret=>eJ (LQ T (ft T B fns) fr (Bf T fn v)) .ret af
   |none=>none
  |none=>none
 |none=>none
theorem aaA (T:cm)(B:Cj T)(fns:Nat→Option Func)(v:Nat)(i:Nat)(σ:AS):LL T B fns v i σ=LL1 T B fns v i σ:=by
 unfold LL LL1;split
 ·split
  ·split
   ·exact UN T (ft T B fns) _ _ _ _ _
   ·exact SO T (ft T B fns) _ _ _ _ _ _ _ _
   ·rfl
  ·rfl
 ·rfl
noncomputable def YR (T:cm)(B:Cj T)(fns:Nat→Option Func)(v:Nat)(x:wj T v):Option (pP T v):=
 match B v with
 |some g=>g x
 |none=>match fns v with
  |some fn=>match fn.body with
   |some c=>LP T fn c (ft T B fns) v x
   |none=>none
  |none=>none
theorem LR (T:cm)(B:Cj T)(fns:Nat→Option Func)(v:Nat)(x:wj T v):ft T B fns v x=YR T B fns v x:=by
 unfold YR;split
 ·rename_i g hg;exact UO hg x
 ·rename_i hB;split
  ·rename_i fn hf;split
   ·rename_i c hc;exact YQ hB hf hc x
   ·rename_i hc;refine Conv.zJ ?_;refine⟨fun y hy=>(by cases hy),fun n y hy=> ?_⟩;cases n with
    |zero=>cases hy
    |succ n=>simp only[yS,hB,hf,hc] at hy;cases hy
  ·rename_i hf;refine Conv.zJ ?_;refine⟨fun y hy=>(by cases hy),fun n y hy=> ?_⟩;cases n with
   |zero=>cases hy
   |succ n=>simp only[yS,hB,hf] at hy;cases hy
section
variable {P:Program}{T:cm}{V0:View}{w:World}
def WQ (T:cm)(V0:View)(w:World):Env where
 V0:=V0
 w0:=w
 X:=fun _=>False
 J:=ib
 XS:=fun i=> .pointer (some ⟨i - 1000000000,0,none⟩)
 Y:= .nilFunc
 ro:=fun _=>none
 h0:=ek T
 n0:=fun _ _=> .nilFunc
 M:=fun _=>False
 base:=w
 CB:=fun _=>False
 Om:=fun _=>False
 acc:=fun _=>True
 XH:=fun _ _=>False
theorem WR (h:∀ad v,V0 (.cell ad) v→w.cell? ad=some v):aB (WQ T V0 w):=
 ⟨fun ad v hv=>⟨h ad v hv,id⟩,fun tr O w w' C hJ _ _=>hJ⟩
theorem SQ (h:∀ad v,V0 (.cell ad) v→w.cell? ad=some v)(hG:Pp T (fun key v=>∃ad:Addr,key= .cell ad∧V0 (.cell ad) v)):zu T (WQ T V0 w):=by
 refine⟨fun g=> ?_,fun i x hx=> ?_⟩
 ·show Value.pointer (some ⟨gk g - 1000000000,0,none⟩)=_;unfold gk;rw[show 1000000000+g - 1000000000=g by omega]
 ·obtain⟨g,cs,h1,h2,h3⟩:=hG i x hx;exact⟨g,cs,h1,h2,h3.of fun key u ⟨ad,e,hv⟩=>⟨ad,e,xT (h ad u hv),hv⟩⟩
theorem SR:St (WQ T V0 w) (bm (ek T)) ⟨#[],[]⟩ w (fun _=> .nilFunc) (fun _=>False):=by
 have ki:∀m,(bm (ek T)).obj m=none:=fun m=>by
  cases m with
  |row q=>rfl
  |box q=>rfl
  |hp i n=>
   simp only[AS.obj,bm];cases n with
   |zero=>rfl
   |succ n=>
    simp only[ki];split
    ·rename_i hr Zw;rw[qB i hr Zw];rfl
    ·rfl
 have hno:∀m k,¬Own (bm (ek T)) (fun _=> .nilFunc) m k:=fun m k h=>by have:=h.1;rw[ki m] at this;cases this
 refine⟨dp.refl _ _,(fun d hd=>by cases hd),⟨rfl,(fun i x e=>by cases e),(fun i x e=>by cases e)⟩,fun m o ho=> ?_,fun m m' k h1 h2=>absurd h1 (hno m k),fun m k hm=>absurd hm (hno m k),fun m k hm=>absurd hm (hno m k),⟨rfl,fun _ hf=>hf.elim⟩,fun i hr n e h1 h2=> ?_,(fun i hr e=>by cases e),⟨rfl,fun i hr e=>⟨hr,e,sE.refl _,Nat.le_refl _⟩,fun i n h1 h2=>rfl⟩,fun _ hf=>hf.elim,dp.refl _ _,fun m k hm=>absurd hm (hno m k),fun _ hf=>hf.elim,List.nodup_nil⟩
 ·rw[ki m] at ho;cases ho
 ·rw[qB i hr e] at h2;simp at h2;omega
theorem UP {V:View}{σ:AS}{ν:Nm→Value}{Y:Value}{d:Nat}{s:za}{args:List jM}{hs:List (Nat×Bool)}(hres:s=⟨args,[(.bool,none)],none,hs,none⟩){y:Ce s}(hy:HEq y true){r:Value}(h:al V σ ν Y (Nl d s y) r):r= .bool true:=by subst hres;have hy':y=true:=eq_of_heq hy;subst hy';have:bw V ⟨.bool,true⟩ r:=h;have h2: [r]=[.bool true]:=this;simpa using h2
theorem UQ {A:Type}{hs:List Nat}(h:hs=[])(y:CY T A hs):HEq (oX hs y) y:=by subst h;rfl
theorem aaB {v:Nat}{xh:wj T v}{yh:pP T v}(hF:PN P T v xh yh){as:List jM}(hs:T.sig v=⟨as,[(.bool,none)],none,[],none⟩)(hy:HEq yh true)(hV0:∀ad u,V0 (.cell ad) u→w.cell? ad=some u)
  (hG:Pp T (fun key u=>∃ad:Addr,key= .cell ad∧V0 (.cell ad) u)) {args:Array Value} (hargs:mQ (fun key u=>∃ad:Addr,key= .cell ad∧V0 (.cell ad) u) (T.sig v).args (oX _ xh) args.toList):
  Calls P (T.real v) args w fun e w'=>e= .returned (.bool true)∧Below w.heap.size w w':=by
 have hhe:(T.sig v).ab.isEmpty=true:=by rw[hs];rfl
 have hst:aU T v xh=ek T:=FV hhe;have hin:(T.sig v).hin=[]:=by rw[hs];rfl
 have hout:(T.sig v).hout=[]:=by rw[hs];rfl
 refine Calls.mono (hF.2 (WQ T V0 w) (fun _=> .nilFunc) args 0 (WR hV0) (SQ hV0 hG) ⟨rfl,fun _ h=>h,fun _ h=>h,fun _=>trivial,fun _ _ _ h=>h,fun i=>by rw[hin];rfl⟩ (by rw[hst];exact SR) (hargs.mono fun key u ⟨ad,e,hv⟩=>by
  subst e;exact .inl ⟨xT (hV0 ad u hv),hv⟩)) ?_
 rintro e w' ⟨r,aK,rfl,hend,hr⟩;have hk:dp (fun _=>False) w w':=hend.keep;refine⟨?_,hk.below⟩;rw[UP hs ((UQ hout yh).trans hy) hr]
end
open Go.ChangeShapes
def wt:Ty→Nat
 | .int .i64=>8
 | .slice _=>24
 | .str=>16
 |_=>1
mutual
def zN (P:Program):Ty→TypeId→Bool
 | .int k,t=>match P.underlying t with |some (.int k')=>decide (k'=k) |_=>false
 | .bool,t=>match P.underlying t with |some .bool=>true |_=>false
 | .str,t=>match P.underlying t with |some .string=>true |_=>false
 | .slice e',t=>match P.underlying t with
   |some (.slice e)=>zN P e' e&&decide (P.cellsOf e=e'.size)&&Nat.ble (wt e') (P.bytesOf e)
   |_=>false
 | .st f,t=>match P.underlying t with
   |some (.struct fs)=>tC P f fs.toList 0&&decide (P.cellsOf t=f.size)
   |_=>false
 |_,_=>false
def tC (P:Program):Ty→List Field→Nat→Bool
 | .unit,[],_=>true
 | .pair a b,f::r,off=>zN P a f.type&&decide (f.offset=off)&&decide (P.cellsOf f.type=a.size)&&tC P b r (off+a.size)
 |_,_,_=>false
end
def V1:(t:Ty)→t.den→Prop
 | .int k,n=>(Lit.int k n).wf=true
 | .str,s=>ByteArray.size s≤140737488351232
 | .slice t,xs=>List.length xs*wt t≤140737488351232∧∀x:t.den,List.Mem x xs→V1 t x
 | .pair a b,x=>V1 a x.1∧V1 b x.2
 | .st t,x=>V1 t x
 |_,_=>True
def wv (W:World):View:=fun key u=>∃ad:Addr,key= .cell ad∧W.cell? ad=some u
theorem build {α β:Type}{R:α→β→Prop}{Q:Nat→β→Prop}{B:α→Prop}:∀n:Nat,(∀i,i<n→∃x c,R x c∧Q i c∧B x)→
  ∃(xs:List α) (cs:List β),xs.length=n∧aE R xs cs∧(∀i c,cs[i]? =some c→Q i c)∧∀x,List.Mem x xs→B x
 |0,_=>⟨[],[],rfl,trivial,fun i c h=>by simp at h,fun x h=>by cases h⟩
 |n+1,h=>by
  obtain⟨xs,cs,h1,h2,h3,h4⟩:=build n fun i hi=>h i (by omega);obtain⟨x,c,g1,g2,g3⟩:=h n (by omega);have hl:cs.length=n:=by rw[←h2.length,h1]
  refine⟨xs++[x],cs++[c],by simp[h1],aE.append h2 ⟨g1,trivial⟩,fun i d hd=> ?_,fun y hy=> ?_⟩
  ·by_cases hi:i<n
   ·rw[List.getElem?_append_left (by omega)] at hd;exact h3 i d hd
   ·rw[List.getElem?_append_right (by omega)] at hd;by_cases e:i=n
    ·subst e;rw[hl,Nat.sub_self] at hd;simp at hd;subst hd;exact g2
    ·rw[List.getElem?_eq_none (by simp;omega)] at hd;cases hd
  ·rcases List.mem_append.1 (show y∈xs++[x] from hy) with h |h
   ·exact h4 y h
   ·rw[List.mem_singleton.1 h];exact g3
theorem F0 {s:Nat}:∀{bl:List (List Value)},(∀c∈bl,c.length=s)→∀{j:Nat} {u:Value},bl.flatten[j]? =some u→∃i k c,bl[i]? =some c∧c[k]? =some u∧j=i*s+k∧k<s
 | [],_,j,u,h=>by simp at h
 |c::r,hl,j,u,h=>by
  have hc:=hl c (by simp);rw[List.flatten_cons] at h;by_cases hj:j<s
  ·rw[List.getElem?_append_left (by omega)] at h;exact⟨0,j,c,rfl,h,by omega,hj⟩
  ·rw[List.getElem?_append_right (by omega)] at h;obtain⟨i,k,d,h1,h2,h3,h4⟩:=F0 (fun c hc=>hl c (by simp[hc])) h;exact⟨i+1,k,d,by simpa using h1,h2,by rw[Nat.succ_mul];omega,h4⟩
theorem N4 {α β:Type}{R:α→β→Prop}:∀{xs:List α} {ys:List β},aE R xs ys→∀y∈ys,∃x,R x y
 |x::xs,y::ys,h,z,hz=>by
  rcases List.mem_cons.1 hz with rfl |hz
  ·exact⟨x,h.1⟩
  ·exact N4 h.2 z hz
 | [],[],_,z,hz=>by cases hz
theorem F1 {H:Type}{P:Program}{e:TypeId}{d:DataW H}:∀{l:List (DataW H)},d∈l→∀n∈d.weights P e,n∈DataW.weightsAll P e l
 |c::r,h,n,hn=>by
  simp only[DataW.weightsAll,List.mem_append];rcases List.mem_cons.1 h with rfl |h
  ·exact .inl hn
  ·exact .inr (F1 h n hn)
section
variable {H:Type}{enc:TypeId×Value→H}{P:Program}{W:World}
def OkW (P:Program)(t:TypeId)(d:DataW H):Prop:=∀n∈d.weights P t,n≤140737488351232
theorem SS:∀ty:Ty,
  (∀(t:TypeId) (fuel:Nat) (cs:List Value) (x:DataW H×List MemPlace),zN P ty t=true→DataW.trod enc P W 0 (fun _=>true) true fuel t cs=some x→OkW P t x.1→∃y:ty.den,Rel (wv W) ty y cs∧V1 ty y)∧
  (∀(fs:List Field) (off n:Nat) (cs:List Value) (xs:List (DataW H×List MemPlace)),tC P ty fs off=true→xs.length=fs.length→
   (∀(i:Nat) (f:Field),fs[i]? =some f→DataW.trod enc P W 0 (fun _=>true) true n f.type ((cs.drop f.offset).take (P.cellsOf f.type))=xs[i]?)→
   (∀(i:Nat) (f:Field) x,fs[i]? =some f→xs[i]? =some x→OkW P f.type x.1)→cs.length=off+ty.size→∃y:ty.den,Rel (wv W) ty y (cs.drop off)∧V1 ty y):=by
 intro ty;induction ty with
 |int k=>
  refine⟨fun t fuel cs x hf h hw=> ?_,fun fs off n cs xs hf=>by simp[tC] at hf⟩;simp only[zN] at hf;split at hf
  ·rename_i k' hu;obtain rfl:=of_decide_eq_true hf;obtain⟨m,rfl,rfl,hwf⟩:=DataW.trod_int hu h;exact⟨m,rfl,hwf⟩
  ·cases hf
 |bool=>
  refine⟨fun t fuel cs x hf h hw=> ?_,fun fs off n cs xs hf=>by simp[tC] at hf⟩;simp only[zN] at hf;split at hf
  ·rename_i hu;obtain⟨b,rfl,rfl⟩:=DataW.trod_bool hu h;exact⟨b,rfl,trivial⟩
  ·cases hf
 |str=>
  refine⟨fun t fuel cs x hf h hw=> ?_,fun fs off n cs xs hf=>by simp[tC] at hf⟩;simp only[zN] at hf;split at hf
  ·rename_i hu;obtain⟨s,rfl,rfl,hs⟩:=DataW.trod_string hu h;refine⟨s,rfl, ?_⟩;have:=hw s.data.toList.length (by simp[DataW.weights]);rw[Array.length_toList] at this;exact this
  ·cases hf
 |slice e' ih=>
  refine⟨fun t fuel cs x hf h hw=> ?_,fun fs off n cs xs hf=>by simp[tC] at hf⟩;simp only[zN] at hf;split at hf
  ·rename_i e hu;simp only[Bool.and_eq_true,decide_eq_true_eq] at hf;obtain⟨⟨hfe,hce⟩,Zy⟩:=hf;have Zy:=Nat.le_of_ble_eq_true Zy;rcases DataW.trod_slice hu h with ⟨rfl,_⟩ | ⟨a,len,cap,elems,rest,n,_,rfl,rfl,_,hl,hm,hlen,hel,hsp,_⟩
   ·exact⟨[],⟨none,0,[],rfl,Nat.le_refl _,trivial,fun _=>rfl,fun j u hj=>by simp at hj⟩,by simp,fun x hx=>by cases hx⟩
   ·have hws:∀y∈elems,OkW P e y.1:=fun y hy m hm'=>hw m (by
     simp only[DataW.weights,hu,List.mem_cons,List.mem_append];exact .inr (.inl (F1 (List.mem_map_of_mem hy) m hm')))
    have hlw:len*wt e'≤140737488351232:=by
     have:=hw ((elems.map (·.1)).length*P.bytesOf e+(rest.map (·.1)).length*P.bytesOf e) (by
      simp only[DataW.weights,hu,List.mem_cons];exact .inl (by rw[Nat.add_mul]))
     rw[List.length_map,hlen] at this;have h2:len*wt e'≤len*P.bytesOf e:=Nat.mul_le_mul_left _ Zy;omega
    obtain⟨xs,bl,h1,h2,h3,h4⟩:=build (R:=Rel (wv W) e') (Q:=fun i c=>∀k,k<e'.size→W.cell? ((a.add (i*e'.size)).add k)=c[k]?) (B:=V1 e') len fun i hi=>by
     have:=hel i hi;have hi':i<elems.length:=by omega
     rw[List.getElem?_eq_getElem hi',Option.bind_eq_some_iff] at this;obtain⟨c,hc,Yj⟩:=this;obtain⟨y,hy1,ZV⟩:=ih.1 e n c _ hfe Yj (hws _ (List.getElem_mem hi'));obtain⟨_,_,hcell⟩:=World.cells?_some hc;rw[hce] at hcell;exact⟨y,c,hy1,hcell,ZV⟩
    have N5:∀c∈bl,c.length=e'.size:=fun c hc=>by obtain⟨x,hx⟩:=N4 h2 c hc;exact Rel.length hx
    refine⟨xs,⟨some a,cap,bl,by rw[h1],by omega,h2,(fun e=>by cases e),fun j u hj=>⟨a,rfl, ?_⟩⟩,by rw[h1];exact hlw,h4⟩;obtain⟨i,k,c,g1,g2,rfl,g4⟩:=F0 N5 hj;have:=h3 i c g1 k g4;rw[add_add,g2] at this;exact⟨_,rfl,this⟩
  ·cases hf
 |unit=>
  refine⟨fun t fuel cs x hf h hw=>by simp[zN] at hf,fun fs off n cs xs hf hl hx hw hc=> ?_⟩;refine⟨(), ?_,trivial⟩;show cs.drop off=[]
  rw[List.drop_eq_nil_of_le];have:Ty.unit.size=0:=rfl;omega
 |pair a b MG K6=>
  refine⟨fun t fuel cs x hf h hw=>by simp[zN] at hf,fun fs off n cs xs hf hl hx hw hc=> ?_⟩;cases fs with
  |nil=>simp[tC] at hf
  |cons f r=>
   simp only[tC,Bool.and_eq_true,decide_eq_true_eq] at hf;obtain⟨⟨⟨f1,f2⟩,f3⟩,f4⟩:=hf;have hsz:(Ty.pair a b).size=a.size+b.size:=rfl;cases xs with
   |nil=>simp at hl
   |cons x xr=>have h0:=hx 0 f rfl;obtain⟨y1,r1,b1⟩:=MG.1 f.type n _ x f1 h0 (hw 0 f x rfl rfl);obtain⟨y2,r2,b2⟩:=K6.2 r (off+a.size) n cs xr f4 (by simpa using hl) (fun i g hg=>hx (i+1) g (by simpa using hg)) (fun i g z hg hz=>hw (i+1) g z (by simpa using hg) (by simpa using hz)) (by omega);refine⟨(y1,y2),⟨_,_, ?_,r1,r2⟩,b1,b2⟩;rw[f2,f3, ←List.drop_drop,List.take_append_drop]
 |st f ih=>
  refine⟨fun t fuel cs x hf h hw=> ?_,fun fs off n cs xs hf=>by simp[tC] at hf⟩;simp only[zN] at hf;split at hf
  ·rename_i fs hu;simp only[Bool.and_eq_true,decide_eq_true_eq] at hf;obtain⟨xs,n,_,rfl,hl,hlen,hx⟩:=DataW.trod_struct hu h;obtain⟨y,h1,h2⟩:=ih.2 fs.toList 0 n cs xs hf.1 (by simpa using hlen) (fun i g hg=>hx i g (by simpa using hg)) (fun i g x hg hxi m hm=>hw m (by
    simp only[DataW.weights,hu];exact DataW.weights_mem_each (j:=i) (t:=g.type) (d:=x.1) (by rw[List.getElem?_map,hg];rfl) (by rw[List.getElem?_map,hxi];rfl) m hm)) (by rw[hl,hf.2];omega)
   rw[List.drop_zero] at h1;exact⟨y,h1,h2⟩
  ·cases hf
 |ref h=>exact⟨fun t fuel cs x hf=>by simp[zN] at hf,fun fs off n cs xs hf=>by simp[tC] at hf⟩
 |ptr h=>exact⟨fun t fuel cs x hf=>by simp[zN] at hf,fun fs off n cs xs hf=>by simp[tC] at hf⟩
 |mN h=>exact⟨fun t fuel cs x hf=>by simp[zN] at hf,fun fs off n cs xs hf=>by simp[tC] at hf⟩
 |mp h=>exact⟨fun t fuel cs x hf=>by simp[zN] at hf,fun fs off n cs xs hf=>by simp[tC] at hf⟩
 |fn=>exact⟨fun t fuel cs x hf=>by simp[zN] at hf,fun fs off n cs xs hf=>by simp[tC] at hf⟩
theorem YS {ty:Ty}{t:TypeId}{v:Value}{d:DataW H}{ps:List MemPlace}(hf:zN P ty t=true)(h:DataW.Trod enc P W 0 (fun _=>true) true t v d ps){ts:List TypeId}{ds:List (DataW H)}(hw:(DataW.weightsEach P ts ds).all (· ≤reachBytes)=true){j:Nat}(ht:ts[j]? =some t)(hd:ds[j]? =some d):
  ∃y:ty.den,Rel (wv W) ty y v.cells.toList∧V1 ty y:=by
 obtain⟨fuel,h⟩:=h;refine(SS ty).1 t fuel _ _ hf h fun n hn=> ?_;have:=List.all_eq_true.1 hw n (DataW.weights_mem_each ht hd n hn);exact of_decide_eq_true this
end
end Go.Abs
