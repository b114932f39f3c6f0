/- YtofjebmoebhiiaaGreatDoorWf: a part of the proof (Er, Ej, Es ..). No condition. -/
import Derived.Test.YtofjebmoebhiiaaGreatDoorWe
import Derived.Shelf.SlLaysF0
import Derived.Test.YtofjebmoebhiiaaGreatDoorProg
import Derived.Shelf.SlSortCmp.NoneTotal
import Derived.WalkKit
import Derived.Lib.Bytealg
import Derived.Laws.StandIn
import Derived.Test.YtofjebmoebhiiaaGreatDoorTie
import Derived.Test.YtofjebmoebhiiaaGreatDoorCards
import Derived.ProofKit
import Derived.OpenShut
import Derived.ShutString
import Derived.ChangeOld
import Derived.Below
import Derived.SizedLaws
import Derived.LaidMore
import Derived.Stop.Joined
set_option linter.unusedVariables false
set_option linter.unusedSimpArgs false
set_option maxRecDepth 100000
set_option exponentiation.threshold 2000
namespace Go.Proofs.YtofjebmoebhiiaaGreatDoor.Ev
open Go.Abs Go.IntWalk
def arz (v:List Int)(r:Int):Prop:=(r= -1∧∀j:Nat,v.getD j 0=0)∨(0≤r∧r<v.length∧v.getD r.toNat 0≠0∧∀j:Nat,r<j→v.getD j 0=0)
theorem akr {v:List Int}(hl:v.length≤1000000):∀k:Nat,k≤v.length→(∀j:Nat,k≤j→v.getD j 0=0)→∃r,jP v ((k:Int) - 1)=some r∧arz v r:=by
 intro k
 induction k with
 |zero=>
  intro hk h
  rw[B4,uW,tu (by omega)]
  exact⟨-1,rfl, .inl ⟨rfl,fun j=>h j (by omega)⟩⟩
 |succ k ih=>
  intro hk h
  have e:((k+1:Nat):Int) - 1=(k:Int):=by omega
  rw[e,B4,uW,tt (by omega),eL (by omega) (by omega),Int.toNat_natCast]
  by_cases h0:v.getD k 0=0
  ·rw[pe h0,i64_in _ (by omega)]
   exact ih (by omega) fun j hj=>by
    by_cases e:j=k
    ·rw[e];exact h0
    ·exact h j (by omega)
  ·rw[Cj h0]
   exact⟨k,rfl, .inr ⟨by omega,by omega,by rw[Int.toNat_natCast];exact h0,fun j hj=>h j (by omega)⟩⟩
def amd (x:List Tm):Int:=match x.getLast? with
 |some t=>t.1
 |none=> -1
theorem _root_.Go.Abs.Vr.out {n:Nat}{x:List Tm}{v:List Int}(h:Vr n x v){j:Nat}(hj:n≤j):v.getD j 0=0:=by
 have:=h.len
 simp only[List.getD]
 rw[List.getElem?_eq_none (by omega)];rfl
theorem af3 {p:Int}{n:Nat}(hn:n≤1024){x:List Tm}{v:List Int}(hx:Vc p n x)(hv:Vr n x v):sM v=some (amd x):=by
 have hlen:=hv.len
 obtain⟨r,h1,h2⟩:=akr (v:=v) (by omega) v.length (Nat.le_refl _) (fun j hj=>hv.out (by omega))
 rw[Rc,Iw]
 rw[i64_in _ (by omega),h1]
 congr 1
 unfold amd
 cases hl:x.getLast? with
 |none=>
  have hx0:x=[]:=by
   cases hx':x with
   |nil=>rfl
   |cons a b=>rw[hx'] at hl;simp[List.getLast?_cons] at hl
  rcases h2 with h2 | ⟨g1,g2,g3,g4⟩
  ·exact h2.1
  ·exfalso
   have:=hv.at_ r.toNat (by omega)
   rw[hx0,WO] at this
   exact g3 this
 |some t=>
  simp only
  have ht:=hx.r t (fm hl)
  have ht0:=Sr.mem hx.s t (fm hl)
  have ct:=Mz hx.s t (fm hl)
  have e:((t.1.toNat:Nat):Int)=t.1:=by omega
  have hvt:=hv.at_ t.1.toNat (by omega)
  rw[e,ct] at hvt
  rcases h2 with ⟨g1,g2⟩ | ⟨g1,g2,g3,g4⟩
  ·have:=g2 t.1.toNat;omega
  ·rcases Int.lt_trichotomy r t.1 with h |h |h
   ·have:=g4 t.1.toNat (by omega);omega
   ·exact h
   ·exfalso
    have:=hv.at_ r.toNat (by omega)
    rw[aau hx.s hl (by omega)] at this
    exact g3 this
def XJ (p k:Int)(y:List Int):Nat→Nat→List Int→List Int
 |0,_,x=>x
 |m+1,i,x=>XJ p k y m (i+1) (x.set i ((x.getD i 0+k*y.getD i 0) % p))
theorem T6 {p k:Int}{y:List Int}:∀(m i:Nat) (x:List Int),(XJ p k y m i x).length=x.length
 |0,_,x=>rfl
 |m+1,i,x=>by rw[XJ,T6 m];simp
theorem S8 {p k:Int}{y:List Int}:∀(m i:Nat) (x:List Int) (j:Nat),m+i=x.length→(XJ p k y m i x).getD j 0=if i≤j∧j<x.length then (x.getD j 0+k*y.getD j 0) % p else x.getD j 0
 |0,i,x,j,h=>by rw[XJ,if_neg (by omega)]
 |m+1,i,x,j,h=>by
  rw[XJ,S8 m (i+1) _ j (by rw[List.length_set];omega),List.length_set,zF]
  by_cases e:i=j
  ·subst e
   rw[if_neg (by omega),if_pos ⟨rfl,by omega⟩,if_pos ⟨Nat.le_refl _,by omega⟩]
  ·rw[if_neg (show ¬(i=j∧i<x.length) by omega)]
   by_cases h1:i≤j∧j<x.length
   ·rw[if_pos (by omega),if_pos h1]
   ·rw[if_neg (by omega),if_neg h1]
theorem ame {p k:Int}{n:Nat}(hp:0<p){x y:List Tm}{v w:List Int}(hx:Vc p n x)(hy:Vc p n y)(hv:Vr n x v)(hw:Vr n y w):Vr n (xY p x k y) (XJ p k w v.length 0 v)∧Rs p (XJ p k w v.length 0 v):=by
 have hlen:=hv.len
 obtain⟨h1,h2⟩:=M8 (k:=k) hp hx hy
 refine⟨⟨by rw[T6,hlen],fun j hj=> ?_⟩,fun j=> ?_⟩
 ·rw[S8 _ _ _ _ (by omega),if_pos ⟨by omega,by omega⟩,h2,hv.at_ j hj,hw.at_ j hj]
 ·rw[S8 _ _ _ _ (by omega)]
  split
  ·exact⟨Int.emod_nonneg _ (by omega),Int.emod_lt_of_pos _ hp⟩
  ·rename_i h
   rw[hv.out (by omega)];omega
abbrev aeA:=(Int×List Cl×Unit)×Nat×Nat×Nat×Int×Int×Unit
def h5 (p:Int)(ah:List Cl)(a k:Int):List (Option (List aeA)):=[some [((p,(ah,())),((1:Nat),((1:Nat),((1:Nat),(a,(k,()))))))]]
theorem ahP {p:Int}(hp:2≤p∧p≤251){j:Int}{w:List Int}(hw:Rs p w){k:Int}(hk:0≤k∧k<p){ah:List Cl}{a c:Int}(ha:0≤a∧a≤1000000000){aH:List (Option (List Int))}{sA:List (Option (List (Option (List Int))))}{uA:List (Option (List Bool))}:
  ∀(m i:Nat) (x:List Int),m+i=x.length→x.length≤1024→x.length≤w.length→Rs p x→c7 1 j p w k i x aH (h5 p ah a c) sA uA=bA 1 j p (XJ p k w m i x) aH (h5 p ah (a+1) c) sA uA:=by
 intro m
 induction m with
 |zero=>
  intro i x hi hl hlw hx
  rw[oQ,jM,az (by omega)]
  have e1:(!(Nat.beq 1 0))=true:=rfl
  have e2:af (h5 p ah a c) 1=some [((p,(ah,())),((1:Nat),((1:Nat),((1:Nat),(a,(c,()))))))]:=rfl
  rw[e1,cT,cT,e2,bS]
  have e3:([((p,(ah,())),((1:Nat),((1:Nat),((1:Nat),(a,(c,()))))))]:List aeA)[0]? =some ((p,(ah,())),((1:Nat),((1:Nat),((1:Nat),(a,(c,())))))):=rfl
  rw[e3,bS,cT,cT,bS,e3,bS]
  simp only
  rw[i64_in (a+1) (by omega)]
  rfl
 |succ m ih=>
  intro i x hi hl hlw hx
  have h1:=hx i
  have h2:=hw i
  have hm:0≤k*w.getD i 0∧k*w.getD i 0≤251*251:=⟨Int.mul_nonneg (by omega) (by omega),Int.mul_le_mul (by omega) (by omega) (by omega) (by omega)⟩
  rw[oQ,jM,aB (by omega),eL (by omega) (by omega),rS (by omega),eL (by omega) (by omega),Int.toNat_natCast]
  simp only
  rw[i64_in (k*w.getD i 0) (by omega),i64_in (x.getD i 0+k*w.getD i 0) (by omega),j5 (by omega),eL (by omega) (by omega),rS (by omega),bT (by omega),cq (by omega),ih (i+1) _ (by rw[List.length_set];omega) (by rw[List.length_set];exact hl) (by rw[List.length_set];exact hlw) (hx.set ⟨Int.emod_nonneg _ (by omega),Int.emod_lt_of_pos _ (by omega)⟩ _),XJ]
structure Sv (p:Int) (n:Nat) (st:List (Option (List Tm))) (sd:List (Option (List Int))):Prop where
 len:sd.length=n
 none_:∀i,st.getD i none=none→sd.getD i none=none
 some_:∀i y,st.getD i none=some y→∃w,sd.getD i none=some w∧Vr n y w∧Rs p w
def aks (j:Nat)(x:List Tm)(v:List Int)(sd:List (Option (List Int)))(OL:List Int)(em:List Bool)(p:Int)(ah:List Cl)(a c:Int):Option (Unit×List (Option (List aeA))×List (Option (List (Option (List Int))))×List (Option (List Int))×List (Option (List Bool))):=
 match x.getLast? with
 |some t=>some ((),(h5 p ah a c,([some (sd.set t.1.toNat (some v))],([some (OL.set t.1.toNat j)],[some em]))))
 |none=>some ((),(h5 p ah a c,([some sd],([some OL],[some (em.set j true)]))))
theorem ahQ {p:Int}(hp:Pr p){n:Nat}(hn:n≤1024){st:List (Option (List Tm))}(hst:Sto p n st){sd:List (Option (List Int))}(hsd:Sv p n st sd){OL:List Int}(hby:OL.length=n){em:List Bool}(hem:em.length=n){j:Nat}(hj:j<n){ah:List Cl}{c:Int}:
  ∀(f:Nat) (x:List Tm) (v:List Int) (a:Int),Vc p n x→Vr n x v→Rs p v→(∀t∈x,t.1<f)→0≤a→a+f≤1000000000→
   ∃v',Vr n (pf p st f x a).1 v'∧Rs p v'∧Vc p n (pf p st f x a).1∧(∀t,(pf p st f x a).1.getLast?=some t→st.getD t.1.toNat none=none)∧0≤(pf p st f x a).2∧(pf p st f x a).2≤a+f∧
    bA 1 j p v [some OL] (h5 p ah a c) [some sd] [some em]=aks j (pf p st f x a).1 v' sd OL em p ah (pf p st f x a).2 c:=by
 intro f
 have e1:(!(Nat.beq 1 0))=true:=rfl
 have e2:∀a,af (h5 p ah a c) 1=some [((p,(ah,())),((1:Nat),((1:Nat),((1:Nat),(a,(c,()))))))]:=fun _=>rfl
 have e3:∀a,([((p,(ah,())),((1:Nat),((1:Nat),((1:Nat),(a,(c,()))))))]:List aeA)[0]? =some ((p,(ah,())),((1:Nat),((1:Nat),((1:Nat),(a,(c,())))))):=fun _=>rfl
 have g6:∀{α:Type} (l:List α),af [some l] 1=some l:=fun _=>rfl
 have s6:∀{α:Type} (l m:List α),b9 [some l] 1 m=[some m]:=fun _ _=>rfl
 have stop:∀(x:List Tm) (v:List Int) (a:Int),Vc p n x→Vr n x v→(∀t,x.getLast?=some t→st.getD t.1.toNat none=none)→bA 1 j p v [some OL] (h5 p ah a c) [some sd] [some em]=aks j x v sd OL em p ah a c:=by
  intro x v a hx hv hno
  have ahu:=af3 hn hx hv
  rw[oP,jK,ahu,bS]
  unfold aks amd
  cases hl:x.getLast? with
  |none=>
   simp only
   rw[tu (by omega),bS,aB (by omega),e1,cT,cT,e2,bS,e3,bS]
   simp only
   rw[g6,bS,WN false (by omega) (by omega),bS]
   have eb:em[(j:Int).toNat]? =some (em.getD j false):=by rw[Int.toNat_natCast];simp[List.getD,show j<em.length by omega]
   rw[eb,bS,s6,Int.toNat_natCast]
  |some t=>
   have ht:=hx.r t (fm hl)
   have ht0:=Sr.mem hx.s t (fm hl)
   have Xc:=hsd.len
   have hvl:=hv.len
   have au0:v≠ []:=fun e=>by rw[e] at hvl;simp at hvl;omega
   have au1:=hsd.none_ _ (hno t hl)
   simp only
   rw[tt (by omega),e1,cT,cT,e2,bS,e3,bS,bS]
   simp only
   have e4:(!(Option.isNone (none:Option (List Int))))=false:=rfl
   rw[g6,bS,RM (by omega) (by omega),bS,aav (by omega),au1,e4,cF,bS,az (by omega),cT,cT,bS,e3,bS,bS]
   simp only
   rw[g6,bS,RM (by omega) (by omega),bS,aav (by omega),ahN au0,bS,cT,cT,bS,e3,bS,bS]
   simp only
   rw[g6,bS,eL (by omega) (by omega),bS,rS (by omega),s6,s6]
 induction f with
 |zero=>
  intro x v a hx hv hr hf ha hb
  have:x=[]:=by
   cases x with
   |nil=>rfl
   |cons t r=>
    have h1:=hf t (by simp)
    have h2:=Sr.mem hx.s t (by simp)
    omega
  subst this
  rw[pf]
  exact⟨v,hv,hr,hx,fun t ht=>(by cases ht),ha,by simp,stop [] v a hx hv (fun t ht=>by cases ht)⟩
 |succ f ih=>
  intro x v a hx hv hr hf ha hb
  rw[pf]
  cases hl:x.getLast? with
  |none=>exact⟨v,hv,hr,hx,fun t ht=>(by rw[hl] at ht;cases ht),ha,by simp only;omega,stop x v a hx hv (fun t ht=>by rw[hl] at ht;cases ht)⟩
  |some t=>
   simp only
   cases hy:st.getD t.1.toNat none with
   |none=>exact⟨v,hv,hr,hx,fun u hu=>(by rw[hl] at hu;cases hu;exact hy),ha,by simp only;omega,stop x v a hx hv (fun u hu=>by rw[hl] at hu;cases hu;exact hy)⟩
   |some y=>
    simp only
    have hpp:0<p:=by have:=hp.1;omega
    have ht:=hx.r t (fm hl)
    have ht0:=Sr.mem hx.s t (fm hl)
    have hf':=hf t (fm hl)
    obtain⟨hvy,u,hu,hu1⟩:=hst.ok _ y hy
    obtain⟨w,hw1,hw2,hw3⟩:=hsd.some_ _ y hy
    have hur:=hvy.r u (fm hu)
    have ahu:sM v=some t.1:=by rw[af3 hn hx hv];unfold amd;rw[hl]
    have Xc:=hsd.len
    have hvl:=hv.len
    have hwl:=hw2.len
    have et:((t.1.toNat:Nat):Int)=t.1:=by omega
    have vt:v.getD t.1.toNat 0=t.2.1:=by rw[hv.at_ _ (by omega),et,Mz hx.s t (fm hl)]
    have wt:w.getD t.1.toNat 0=u.2.1:=by
     rw[hw2.at_ _ (by omega),et]
     have:t.1=u.1:=by omega
     rw[this,Mz hvy.s u (fm hu)]
    have hiv:=RJ hp hur.2
    have hm1:0≤(p - t.2.1)*iv p u.2.1:=Int.mul_nonneg (by omega) (by omega)
    have hm2:(p - t.2.1)*iv p u.2.1≤251*251:=Int.mul_le_mul (by have:=hp.2.1;omega) (by have:=hp.2.1;omega) (by omega) (by omega)
    have hk:(p - t.2.1)*iv p u.2.1 % p=(-t.2.1*iv p u.2.1) % p:=by
     have:(p - t.2.1)*iv p u.2.1= -t.2.1*iv p u.2.1+p*iv p u.2.1:=by rw[Int.sub_mul,Int.neg_mul];omega
     rw[this,Int.add_mul_emod_self_left]
    have hd:(y.getLast?.getD (0,(0,())))=u:=by rw[hu];rfl
    have hpl:=acK hp hx hvy hl hu (by omega)
    have hv':=(M8 (k:=(-t.2.1*iv p u.2.1) % p) hpp hx hvy).1
    obtain⟨r1,r2⟩:=ame (k:=(-t.2.1*iv p u.2.1) % p) hpp hx hvy hv hw2
    obtain⟨v',q1,q2,q3,q4,q5,q6,q7⟩:=ih (xY p x ((-t.2.1*iv p u.2.1) % p) y) _ (a+1) hv' r1 r2 (fun s hs=>by have:=hpl s hs;omega) (by omega) (by omega)
    rw[hd]
    refine⟨v',q1,q2,q3,q4,q5,by omega, ?_⟩
    rw[←q7,oP,jK,ahu,bS,tt (by omega),e1,cT,cT,e2,bS,e3,bS,bS]
    simp only
    have e4:(!(Option.isNone (some w)))=true:=rfl
    have e5:lst (some w)=w:=rfl
    rw[g6,bS,RM (by omega) (by omega),bS,aav (by omega),hw1,e4,cT,cT,cT,bS,e3,bS,bS]
    simp only
    rw[g6,bS,RM (by omega) (by omega),bS,aav (by omega),hw1,bS,eL (by omega) (by omega),rS (by omega),vt,bS,e5,eL (by omega) (by omega),wt,WS hp hur.2,bS]
    have hp2:=hp.2.1
    have hkr:0≤(-t.2.1*iv p u.2.1) % p∧(-t.2.1*iv p u.2.1) % p<p:=⟨Int.emod_nonneg _ (by omega),Int.emod_lt_of_pos _ hpp⟩
    have e0:((0:Nat):Int)=0:=rfl
    have hw:=ahP (j:=(j:Int)) (ah:=ah) (c:=c) (aH:=[some OL]) (sA:=[some sd]) (uA:=[some em]) ⟨hp.1,hp2⟩ hw3 hkr (a:=a) (by omega) v.length 0 v (by omega) (by omega) (by omega) hr
    rw[e0] at hw
    rw[i64_in (p - t.2.1) (by omega),i64_in _ (by omega),j5 (by omega),bT (by omega),hk,hw]
end Go.Proofs.YtofjebmoebhiiaaGreatDoor.Ev
namespace Go.Proofs.YtofjebmoebhiiaaGreatDoor.Ev
open Go.Abs Go.IntWalk
theorem WU {x:List Tm}{n:Nat}(hl:x.length≤1000000000)(hx:∀t∈x,0≤t.1∧t.1<n):∀(m i:Nat) (out:List Int),m+i=x.length→out.length=n→aaO x i out=some (mw out (x.drop i)):=by
 intro m
 induction m with
 |zero=>intro i out hi ho;rw[sq,lB,az (by omega),List.drop_eq_nil_of_le (by omega)];rfl
 |succ m ih=>
  intro i out hi ho
  have hb:∀{β:Type} {f:Tm→Option β},(idx x (i:Int)).bind f=f (x.getD i nY):=iT nY (by omega)
  have hm:x.getD i nY∈x:=by
   have:x.getD i nY=x[i]'(by omega):=by simp[List.getD,show i<x.length by omega]
   rw[this];exact List.getElem_mem _
  have hr:=hx _ hm
  rw[sq,lB,aB (by omega),hb,hb,eL (by omega) (by omega),rS (by omega),cq (by omega),ih (i+1) _ (by omega) (by simpa using ho),qA nY (show i<x.length by omega),mw]
theorem aaw {p:Int}{x:List Tm}{n:Nat}(hn:n≤1000000)(hx:Vc p n x):∃v,lM x n=some v∧Vr n x v∧(0<p→Rs p v):=by
 have hl:=hx.length (by omega)
 have hx':∀t∈x,0≤t.1∧t.1<n:=fun t ht=>⟨by have:=Sr.mem hx.s t ht;omega,(hx.r t ht).1⟩
 have hg:∀j:Nat,(mw (List.replicate n 0) x).getD j 0=cf x j:=fun j=>by
  rw[RK hx.s (by omega) hx.c (fun t ht=>by rw[List.length_replicate];exact(hx' t ht).2),Cm]
  split<;>omega
 refine⟨mw (List.replicate n 0) x, ?_,⟨by rw[J0,List.length_replicate],fun j _=>hg j⟩,fun hp j=>by rw[hg];exact RH hp hx.c j⟩
 rw[Hj,xG,GM (by omega) (by omega) (by omega),Int.toNat_natCast]
 exact WU (by omega) hx' x.length 0 _ (by omega) (by simp)
theorem akt {s:List Tm}(h:s.length≤1000000):mT s=some s:=by
 have e:mT s=(bif aP 16 2 0 s.length then some s else none):=Ju T B (Go.Abs.look fns) 84 s
 rw[e,kg (by omega) (by omega)]
structure Rel (p:Int) (n:Nat) (st:List (Option (List Tm))) (dt:List Int) (sd:List (Option (List Int))) (OL:List Int) (em:List Bool):Prop where
 sto:Sto p n st
 sv:Sv p n st sd
 ldt:dt.length=n
 lby:OL.length=n
 lem:em.length=n
 d:∀i,i<n→dt.getD i 0=match st.getD i none with |some _=>OL.getD i 0 |none=>bif em.getD i false then -1 else -2
 b:∀i,i<n→0≤OL.getD i 0
theorem amf {α:Type}{l:List (Option α)}{k j:Nat}{v:Option α}:(l.set k v).getD j none=if k=j∧k<l.length then v else l.getD j none:=by
 simp only[List.getD,List.getElem?_set]
 by_cases h:k=j
 ·subst h
  by_cases hk:k<l.length
  ·simp[hk]
  ·simp[hk]
 ·simp[h]
theorem arB {l:List Bool}{k j:Nat}{v:Bool}:(l.set k v).getD j false=if k=j∧k<l.length then v else l.getD j false:=by
 simp only[List.getD,List.getElem?_set]
 by_cases h:k=j
 ·subst h
  by_cases hk:k<l.length
  ·simp[hk]
  ·simp[hk]
 ·simp[h]
theorem Rel.put {p:Int}{n:Nat}{st:List (Option (List Tm))}{dt:List Int}{sd:List (Option (List Int))}{OL:List Int}{em:List Bool}(h:Rel p n st dt sd OL em){x:List Tm}{v:List Int}{t:Tm}(hx:Vc p n x)(hv:Vr n x v)(hr:Rs p v)(ht:x.getLast?=some t){j:Nat}:
  Rel p n (st.set t.1.toNat (some x)) (dt.set t.1.toNat j) (sd.set t.1.toNat (some v)) (OL.set t.1.toNat j) em:=by
 have htr:=hx.r t (fm ht)
 have ht0:=Sr.mem hx.s t (fm ht)
 have l1:=h.sto.len
 have l2:=h.sv.len
 have l3:=h.ldt
 have l4:=h.lby
 refine⟨⟨by simpa using l1,fun i y hy=> ?_⟩,⟨by simpa using l2,fun i hi=> ?_,fun i y hy=> ?_⟩,by simpa using l3,by simpa using l4,h.lem,fun i hi=> ?_,fun i hi=> ?_⟩
 ·rw[amf] at hy
  split at hy
  ·rename_i e
   cases hy
   exact⟨hx,t,ht,by omega⟩
  ·exact h.sto.ok i y hy
 ·rw[amf] at hi ⊢
  split at hi
  ·cases hi
  ·rename_i e
   rw[if_neg (by omega)]
   exact h.sv.none_ i hi
 ·rw[amf] at hy ⊢
  split at hy
  ·rename_i e
   cases hy
   rw[if_pos (by omega)]
   exact⟨v,rfl,hv,hr⟩
  ·rename_i e
   rw[if_neg (by omega)]
   exact h.sv.some_ i y hy
 ·rw[zF,amf,zF]
  by_cases e:t.1.toNat=i
  ·rw[if_pos (by omega),if_pos (by omega)]
   simp only
   rw[if_pos (by omega)]
  ·rw[if_neg (by omega),if_neg (by omega)]
   rw[h.d i hi]
   cases st.getD i none with
   |none=>rfl
   |some y=>simp only;rw[if_neg (by omega)]
 ·rw[zF]
  split
  ·omega
  ·exact h.b i hi
theorem Rel.empty {p:Int}{n:Nat}{st:List (Option (List Tm))}{dt:List Int}{sd:List (Option (List Int))}{OL:List Int}{em:List Bool}(h:Rel p n st dt sd OL em){j:Nat}(hj:j<n):
  Rel p n st (if dt.getD j 0= -2 then dt.set j (-1) else dt) sd OL (em.set j true):=by
 have l3:=h.ldt
 have l5:=h.lem
 refine⟨h.sto,h.sv,by split<;>simpa using l3,h.lby,by simpa using l5,fun i hi=> ?_,h.b⟩
 have hd:=h.d i hi
 by_cases e:j=i
 ·subst e
  have e5:(em.set j true).getD j false=true:=by rw[arB,if_pos ⟨rfl,by omega⟩]
  rw[e5]
  cases hs:st.getD j none with
  |some y=>
   rw[hs] at hd
   have hb:=h.b j hi
   simp only at hd ⊢
   rw[if_neg (by omega)]
   exact hd
  |none=>
   rw[hs] at hd
   simp only at hd ⊢
   rw[cT]
   cases he:em.getD j false with
   |true=>rw[he,cT] at hd;rw[if_neg (by omega)];exact hd
   |false=>rw[he,cF] at hd;rw[if_pos hd,zF,if_pos (by omega)]
 ·have e5:(em.set j true).getD i false=em.getD i false:=by rw[arB,if_neg (by omega)]
  rw[e5, ←hd]
  split
  ·rw[zF,if_neg (by omega)]
  ·rfl
theorem Rel.start {p:Int}{n:Nat}:Rel p n (List.replicate n none) (List.replicate n (-2)) (List.replicate n none) (List.replicate n 0) (List.replicate n false):=by
 have hO:∀{α:Type} (m i:Nat),(List.replicate m (none:Option α)).getD i none=none:=fun m i=>by
  simp only[List.getD,List.getElem?_replicate];split<;>rfl
 refine⟨⟨by simp,fun i y hy=> ?_⟩,⟨by simp,fun i hi=>hO n i,fun i y hy=> ?_⟩,by simp,by simp,by simp,fun i hi=> ?_,fun i hi=>by rw[Cm];omega⟩
 ·rw[hO] at hy;cases hy
 ·rw[hO] at hy;cases hy
 ·rw[hO]
  simp only[List.getD,List.getElem?_replicate,if_pos hi]
  rfl
theorem arC {p:Int}(hp:Pr p){n:Nat}(hn:n≤1024){ah:List Cl}(hc:ah.length=n){st:List (Option (List Tm))}{dt:List Int}{sd:List (Option (List Int))}{OL:List Int}{em:List Bool}(h:Rel p n st dt sd OL em){j:Nat}(hj:j<n)(hx:Vc p n (oW ah j)){a c:Int}(ha:0≤a)(hb:a+n≤1000000000):
  ∃sd' by' em',fV 1 j (h5 p ah a c) [some sd] [some OL] [some em]=some ((),(h5 p ah (pf p st n (oW ah j) a).2 c,([some sd'],([some by'],[some em']))))∧0≤(pf p st n (oW ah j) a).2∧(pf p st n (oW ah j) a).2≤a+n∧
   match (pf p st n (oW ah j) a).1.getLast? with
   |some t=>Rel p n (st.set t.1.toNat (some (pf p st n (oW ah j) a).1)) (dt.set t.1.toNat j) sd' by' em'
   |none=>Rel p n st (if dt.getD j 0= -2 then dt.set j (-1) else dt) sd' by' em':=by
 have hpp:0<p:=by have:=hp.1;omega
 obtain⟨v,h1,h2,h3⟩:=aaw (by omega) hx
 obtain⟨v',q1,q2,q3,q4,q5,q6,q7⟩:=ahQ hp hn h.sto h.sv h.lby h.lem hj (ah:=ah) (c:=c) n (oW ah j) v a hx h2 (h3 hpp) (fun t ht=>(hx.r t ht).1) ha hb
 have e1:(!(Nat.beq 1 0))=true:=rfl
 have e2:af (h5 p ah a c) 1=some [((p,(ah,())),((1:Nat),((1:Nat),((1:Nat),(a,(c,()))))))]:=rfl
 have e3:([((p,(ah,())),((1:Nat),((1:Nat),((1:Nat),(a,(c,()))))))]:List aeA)[0]? =some ((p,(ah,())),((1:Nat),((1:Nat),((1:Nat),(a,(c,())))))):=rfl
 have hrun:fV 1 j (h5 p ah a c) [some sd] [some OL] [some em]=aks j (pf p st n (oW ah j) a).1 v' sd OL em p ah (pf p st n (oW ah j) a).2 c:=by
  rw[aih,tj,e1,cT,cT,e2,bS,e3,bS,cT,cT,bS,e3,bS]
  simp only
  rw[iT sB (by omega),cT,cT,bS,e3,bS]
  simp only
  have eb:(ah.getD j sB).2.2.1=oW ah j:=by rw[IY]
  rw[eb,hc,h1,bS,q7]
 rw[hrun]
 unfold aks
 cases hl:(pf p st n (oW ah j) a).1.getLast? with
 |some t=>exact⟨_,_,_,rfl,q5,q6,h.put q3 q1 q2 hl⟩
 |none=>exact⟨_,_,_,rfl,q5,q6,h.empty hj⟩
def prL (dt:List Int):Nat→Nat→List Tm
 |_,0=>[]
 |i,m+1=>if dt.getD i 0> -2 then ((i:Int),(dt.getD i 0,()))::prL dt (i+1) m else prL dt (i+1) m
theorem WV (dt:List Int):∀(m i:Nat),(prL dt i m).length≤m
 |0,i=>by simp[prL]
 |m+1,i=>by rw[prL];have:=WV dt m (i+1);split<;>simp<;>omega
theorem acM {p:Int}{n:Nat}(hn:n≤1024){st:List (Option (List Tm))}{dt:List Int}{sd:List (Option (List Int))}{OL:List Int}{em:List Bool}(h:Rel p n st dt sd OL em){ah:List Cl}{a c:Int}:∀(m i:Nat) (out:List Tm),m+i=n→out.length≤i→
  dn 1 i out [some OL] (h5 p ah a c) [some sd] [some em]=some (out++prL dt i m):=by
 have e1:(!(Nat.beq 1 0))=true:=rfl
 have e2:af (h5 p ah a c) 1=some [((p,(ah,())),((1:Nat),((1:Nat),((1:Nat),(a,(c,()))))))]:=rfl
 have e3:([((p,(ah,())),((1:Nat),((1:Nat),((1:Nat),(a,(c,()))))))]:List aeA)[0]? =some ((p,(ah,())),((1:Nat),((1:Nat),((1:Nat),(a,(c,())))))):=rfl
 have g6:∀{α:Type} (l:List α),af [some l] 1=some l:=fun _=>rfl
 have l2:=h.sv.len
 have l4:=h.lby
 have l5:=h.lem
 intro m
 induction m with
 |zero=>
  intro i out hi hl
  rw[o9,kf,e1,cT,cT,e2,bS,e3,bS]
  simp only
  rw[g6,bS,az (by omega),prL,List.append_nil]
 |succ m ih=>
  intro i out hi hl
  rw[o9,kf,e1,cT,cT,e2,bS,e3,bS]
  simp only
  rw[g6,bS,aB (by omega),cT,cT,bS,e3,bS]
  simp only
  rw[g6,bS,RM (by omega) (by omega),bS,aav (by omega),Int.toNat_natCast,prL]
  have hd:=h.d i (by omega)
  have hb:=h.b i (by omega)
  cases hs:st.getD i none with
  |some y=>
   obtain⟨w,hw,_⟩:=h.sv.some_ i y hs
   have e4:(!(Option.isNone (some w)))=true:=rfl
   rw[hs] at hd
   simp only at hd
   rw[hw,e4,cT,cT,cT,bS,e3,bS]
   simp only
   rw[g6,bS,eL (by omega) (by omega),bS,rS (by omega),kg (by omega) (by omega), ←hd,cq (by omega),ih (i+1) _ (by omega) (by simp;omega),if_pos (by omega),List.append_assoc]
   rfl
  |none=>
   have e4:(!(Option.isNone (none:Option (List Int))))=false:=rfl
   rw[hs] at hd
   simp only at hd
   rw[h.sv.none_ i hs,e4,cF,cT,cT,bS,e3,bS]
   simp only
   have eb:em[i]? =some (em.getD i false):=by simp[List.getD,show i<em.length by omega]
   rw[g6,bS,WN false (by omega) (by omega),bS,eb,bS,cq (by omega)]
   cases he:em.getD i false with
   |true=>
    rw[he,cT] at hd
    rw[cT,kg (by omega) (by omega),ih (i+1) _ (by omega) (by simp;omega),hd,if_pos (by omega),List.append_assoc]
    rfl
   |false=>
    rw[he,cF] at hd
    rw[cF,ih (i+1) _ (by omega) (by omega),hd,if_neg (by omega)]
end Go.Proofs.YtofjebmoebhiiaaGreatDoor.Ev
namespace Go.Abs
abbrev tP:Ty:= .st (.pair (.int .i64) (.pair (.int .i64) (.unit)))
theorem MC {α:Type}{f:α→Option α}(h:∀y,f y=some y):∀ys:List α,mP f ys=some ys
 | []=>rfl
 |a::r=>by rw[mP,h a,MC h r]
theorem aeB {ag:List bK}{hp:List (Option (List Tm))}(h3:ag[3]? =some ⟨58,tP,0,true,hp⟩){n:Nat}{l:List Tm}(hg:af hp n=some l):typed ag (.slice tP) (.rv (.cv ⟨.ref 3,n⟩))=some l:=by
 unfold typed
 simp only
 unfold va snap OR
 simp only
 rw[h3]
 simp only
 cases n with
 |zero=>
  have:l=[]:=by simpa [af] using hg.symm
  subst this
  rfl
 |succ k=>
  have hb:Nat.beq (k+1) 0=false:=rfl
  rw[hb,hg]
  simp only[cond_false,Option.bind_some]
  rw[MC (fun y=>by obtain⟨a,b,u⟩:=y;rfl)]
  rfl
end Go.Abs
namespace Go.Proofs.YtofjebmoebhiiaaGreatDoor.Ev
open Go.Abs Go.IntWalk
def rg:Nat→Nat→List (Int×Unit)
 |_,0=>[]
 |j,m+1=>((j:Int),())::rg (j+1) m
theorem rstart {p:Int}{ah:List Cl}(hn:ah.length≤1024):tH (p,(ah,())) [] [] [] []=some ((1:Nat),(h5 p ah 0 0,([some (List.replicate ah.length none)],([some (List.replicate ah.length 0)],[some (List.replicate ah.length false)])))):=by
 rw[NK,Fg]
 simp only
 rw[GM (by omega) (by omega) (by omega),GM (by omega) (by omega) (by omega),GM (by omega) (by omega) (by omega),Int.toNat_natCast]
 rfl
theorem akw (x:Tm):zP (.pair (.int .i64) (.pair (.int .i64) (.unit))) (x.1,(x.2.1,())) (x.1,(x.2.1,()))=true:=by
 show ((x.1==x.1)&&((x.2.1==x.2.1)&&true))=true
 simp
theorem ahT {l:List Tm}(hl:l.length≤1000000):∀(m i:Nat),m+i=l.length→cA l l i=some true:=by
 intro m
 induction m with
 |zero=>intro i hi;rw[lG,iM,az (by omega)]
 |succ m ih=>
  intro i hi
  rw[lG,iM,aB (by omega),iT nY (by omega),iT nY (by omega),akw,Bool.not_true,cF,cq (by omega)]
  exact ih (i+1) (by omega)
theorem amh {l:List Tm}(hl:l.length≤1000000):dA l l=some true:=by
 rw[xJ,qf,pe rfl]
 exact ahT hl l.length 0 (by omega)
end Go.Proofs.YtofjebmoebhiiaaGreatDoor.Ev
namespace Go.Proofs.YtofjebmoebhiiaaGreatDoor.Ev
open Go.Abs Go.IntWalk
noncomputable def alV (j:Nat)(x:List Tm)(out:Nat)(st:List (Option (List Tm)))(dt:List Int)(e:Bool)(p:Int)(ah:List Cl)(a w2:Int)(ak:Hp3)(rest:List (Int×Unit)):Option ((Nat×Int×Int×Unit)×Hp3):=
 match x.getLast? with
 |some t=>bR out out (st.set t.1.toNat (some x)) (dt.set t.1.toNat j) e p ah a w2 ak rest
 |none=>if dt.getD j 0= -2 then bR out out st (dt.set j (-1)) e p ah a w2 ak rest else bR out out st dt e p ah a w2 ak rest
theorem aoV {p:Int}(hp:Pr p){n:Nat}(hn:n≤1024){st:List (Option (List Tm))}(hst:Sto p n st){dt:List Int}(hdt:dt.length=n){j:Nat}(hj:j<n){e:Bool}{ah:List Cl}{w2:Int}{out:Nat}{ak:Hp3}{rest:List (Int×Unit)}:
  ∀(f:Nat) (x:List Tm) (a:Int),Vc p n x→(∀t∈x,t.1<f)→0≤a→a+f≤1000000000→
   dv j x (aez x).1 (aez x).2 out st dt e p ah a w2 ak rest=alV j (pf p st f x a).1 out st dt e p ah (pf p st f x a).2 w2 ak rest:=by
 intro f
 have stop:∀(x:List Tm) (a:Int),Vc p n x→(∀t,x.getLast?=some t→st.getD t.1.toNat none=none)→dv j x (aez x).1 (aez x).2 out st dt e p ah a w2 ak rest=alV j x out st dt e p ah a w2 ak rest:=by
  intro x a hx hno
  rw[Eu,ud]
  unfold alV aez
  cases hl:x.getLast? with
  |none=>
   simp only
   rw[cF,cF,eL (by omega) (by omega),rS (by omega),Int.toNat_natCast]
   by_cases h2:dt.getD j 0= -2
   ·rw[ur h2,eL (by omega) (by omega),rS (by omega),if_pos h2]
   ·rw[ko h2,if_neg h2]
  |some t=>
   have ht:=hx.r t (fm hl)
   have ht0:=Sr.mem hx.s t (fm hl)
   have hne:x≠ []:=fun e=>by rw[e] at hl;cases hl
   have hlen:=hst.len
   simp only
   rw[cT,RM (by omega) (by omega),aav (by omega),hno t hl]
   have e1:(!(Option.isNone (none:Option (List Tm))))=false:=rfl
   rw[e1,cF,cT,RM (by omega) (by omega),aav (by omega),akp hne,bS,eL (by omega) (by omega),rS (by omega)]
 induction f with
 |zero=>
  intro x a hx hf ha hb
  have:x=[]:=by
   cases x with
   |nil=>rfl
   |cons t r=>
    have h1:=hf t (by simp)
    have h2:=Sr.mem hx.s t (by simp)
    omega
  subst this
  rw[pf]
  exact stop [] a hx (fun t ht=>by cases ht)
 |succ f ih=>
  intro x a hx hf ha hb
  rw[pf]
  cases hl:x.getLast? with
  |none=>exact stop x a hx (fun t ht=>by rw[hl] at ht;cases ht)
  |some t=>
   simp only
   cases hy:st.getD t.1.toNat none with
   |none=>exact stop x a hx (fun u hu=>by rw[hl] at hu;cases hu;exact hy)
   |some y=>
    simp only
    have ht:=hx.r t (fm hl)
    have ht0:=Sr.mem hx.s t (fm hl)
    have hne:x≠ []:=fun e=>by rw[e] at hl;cases hl
    have hlen:=hst.len
    have hf':=hf t (fm hl)
    obtain⟨hvy,u,hu,hu1⟩:=hst.ok _ y hy
    have hur:=hvy.r u (fm hu)
    have hxl:=hx.length (by omega)
    have hyl:=hvy.length (by omega)
    have ayT:y.length≠0:=fun e=>by rw[List.length_eq_zero_iff.1 e] at hu;cases hu
    have ayU:x.length≠0:=fun e=>hne (List.length_eq_zero_iff.1 e)
    have gl:∀{z:List Tm} {v:Tm},z.getLast?=some v→z.getD (z.length - 1) nY=v:=fun {z v} h=>by
     obtain⟨r,rfl⟩:=WT h
     simp[List.getD]
    have ey:IntKind.wrap .i64 (((lst (some y)).length:Int) - 1)=((y.length - 1:Nat):Int):=by
     show IntKind.wrap .i64 ((y.length:Int) - 1)=_
     rw[i64_in _ (by omega)];omega
    have ex:IntKind.wrap .i64 ((x.length:Int) - 1)=((x.length - 1:Nat):Int):=by rw[i64_in _ (by omega)];omega
    have hiv:=RJ hp hur.2
    have hm1:0≤t.2.1*iv p u.2.1:=Int.mul_nonneg (by omega) (by omega)
    have hm2:t.2.1*iv p u.2.1≤251*251:=Int.mul_le_mul (by have:=hp.2.1;omega) (by have:=hp.2.1;omega) (by omega) (by omega)
    have e7:IntKind.wrap .i64 (IntKind.wrap .i64 (0 - t.2.1)*iv p u.2.1)= -t.2.1*iv p u.2.1:=by
     have:=hp.2.1
     rw[i64_in (0 - t.2.1) (by omega)]
     have:(0 - t.2.1)*iv p u.2.1= -(t.2.1*iv p u.2.1):=by rw[Int.zero_sub,Int.neg_mul]
     rw[this,i64_in _ (by omega),Int.neg_mul]
    have hpp:0<p:=by have:=hp.1;omega
    have hk:(-t.2.1*iv p u.2.1) % p % p=(-t.2.1*iv p u.2.1) % p:=Int.emod_emod_of_dvd _ (Int.dvd_refl p)
    have hpl:=acK hp hx hvy hl hu (by omega)
    have hv':=(M8 (k:=(-t.2.1*iv p u.2.1) % p) hpp hx hvy).1
    have afe:=hv'.length (by omega)
    have hd:(y.getLast?.getD (0,(0,())))=u:=by rw[hu];rfl
    have ym:=ih (xY p x ((-t.2.1*iv p u.2.1) % p) y) (a+1) hv' (fun s hs=>by have:=hpl s hs;omega) (by omega) (by omega)
    rw[hd, ←ym,Eu,ud]
    have el:aez x=(t.1,true):=by unfold aez;rw[hl]
    rw[el]
    simp only
    rw[cT,RM (by omega) (by omega),aav (by omega),hy]
    have e1:(!(Option.isNone (some y)))=true:=rfl
    rw[e1,cT,RM (by omega) (by omega),aav (by omega),hy,ey]
    have e2:lst (some y)=y:=rfl
    rw[e2,iT nY (by omega),gl hu,acD hp hur.2,bS,ex,iT nY (by omega),gl hl,e7,T4 hp,bS,OJ hp (hx.mono (by omega)) (hvy.mono (by omega)) (by omega) (by omega),bS,hk]
    simp only
    rw[akl (by omega),bS,i64_in (a+1) (by omega)]
    rfl
theorem aoW {dt:List Int}(hn:dt.length≤1024){w w2:Int}:∀(m i out:Nat) (ak:Hp3) (l:List Tm),m+i=dt.length→af ak out=some l→l.length≤i→
  ∃out' hp',du out (dt.length:Int) i dt w w2 ak=some ((out',(w,(w2,()))),hp')∧af hp' out'=some (l++prL dt i m):=by
 intro m
 induction m with
 |zero=>
  intro i out ak l hi hg hl
  rw[Et,uc,az (by omega)]
  exact⟨out,ak,rfl,by rw[prL,List.append_nil];exact hg⟩
 |succ m ih=>
  intro i out ak l hi hg hl
  rw[Et,uc,aB (by omega),eL (by omega) (by omega),rS (by omega),Int.toNat_natCast,prL,cq (by omega)]
  by_cases h:dt.getD i 0> -2
  ·rw[cZ h,hg,bS,kg (by omega) (by omega),if_pos h]
   simp only
   have hg':af (ix ak out++[some (l++[((i:Int),(dt.getD i 0,()))])]) ((ix ak out).length+1)=some (l++[((i:Int),(dt.getD i 0,()))]):=by
    simp[af]
   obtain⟨o',h',g1,g2⟩:=ih (i+1) _ _ _ (by omega) hg' (by simp;omega)
   refine⟨o',h',g1, ?_⟩
   rw[g2,List.append_assoc]
   rfl
  ·rw[c8 h,if_neg h]
   exact ih (i+1) out ak l (by omega) hg (by omega)
def am6 (ah:List Cl)(d:Int):Nat→Nat→List (Int×Unit)
 |_,0=>[]
 |j,m+1=>if (ah.getD j sB).1=d then ((j:Int),())::am6 ah d (j+1) m else am6 ah d (j+1) m
def dtr (ah:List Cl)(n:Nat):Nat→List (Int×Unit)
 |0=>[]
 |k+1=>am6 ah k 0 n++dtr ah n k
theorem ap6 {ah:List Cl}{n:Nat}(hc:ah.length=n)(hn:n≤1000000){d t:Int}{t5:List Cl}:∀(m j:Nat) (tr:List (Int×Unit)),m+j=n→
  eC d ah n j t t5 tr=eB (IntKind.wrap .i64 (d - 1)) t t5 (tr++am6 ah d j m):=by
 intro m
 induction m with
 |zero=>intro j tr h;rw[G6,xj,az (by omega),am6,List.append_nil]
 |succ m ih=>
  intro j tr h
  rw[G6,xj,aB (by omega),iT sB (by omega),cq (by omega),am6]
  by_cases e:(ah.getD j sB).1=d
  ·rw[ur e,if_pos e,ih (j+1) _ (by omega),List.append_assoc];rfl
  ·rw[ko e,if_neg e,ih (j+1) _ (by omega)]
theorem arV {ah:List Cl}{n:Nat}(hc:ah.length=n)(hn:n≤1000000){t:Int}:∀(k:Nat) (tr:List (Int×Unit)),k≤5→
  eB ((k:Int) - 1) t ah tr=some (tr++dtr ah n k):=by
 intro k
 induction k with
 |zero=>intro tr h;rw[G5,xi,dtr,List.append_nil];rfl
 |succ k ih=>
  intro tr h
  have e1:((k+1:Nat):Int) - 1=(k:Int):=by omega
  have hg:decide ((k:Int)≥0)=true:=by simp
  have e0:((0:Nat):Int)=0:=rfl
  have hw:=ap6 hc hn (d:=(k:Int)) (t:=t) (t5:=ah) n 0 tr (by omega)
  rw[e0] at hw
  rw[G5,xi,e1,hg,cT,hc,hw,i64_in ((k:Int) - 1) (by omega),ih _ (by omega),dtr,List.append_assoc]
theorem asY {p:Int}(hp:Pr p){n:Nat}(hn:n≤1024){ah:List Cl}(hc:ah.length=n){st:List (Option (List Tm))}(hst:Sto p n st){dt:List Int}(hdt:dt.length=n){j:Nat}(hj:j<n)(hx:Vc p n (oW ah j)){a w2:Int}(ha:0≤a)(hb:a+n≤1000000000)(h2:0≤w2∧w2≤1000000000){out:Nat}{ak:Hp3}{rest:List (Int×Unit)}:
  bR out out st dt true p ah a w2 ak (((j:Int),())::rest)=match st.getD j none with
   |some _=>bR out out st dt true p ah a (w2+1) ak rest
   |none=>alV j (pf p st n (oW ah j) a).1 out st dt true p ah (pf p st n (oW ah j) a).2 w2 ak rest:=by
 have hl:=hx.length (by omega)
 have Xc:=hst.len
 rw[Es,ub]
 simp only
 rw[cT,RM (by omega) (by omega),aav (by omega),Int.toNat_natCast]
 cases hs:st.getD j none with
 |some y=>
  have e1:(!(Option.isNone (some y)))=true:=rfl
  rw[e1,cT,i64_in (w2+1) (by omega)]
 |none=>
  have e1:(!(Option.isNone (none:Option (List Tm))))=false:=rfl
  rw[e1,cF,iT sB (by omega)]
  have eb:(ah.getD j sB).2.2.1=oW ah j:=by rw[IY]
  rw[eb,akt (by omega),bS,akl (by omega),bS]
  exact aoV hp hn hst hdt hj n (oW ah j) a hx (fun t ht=>(hx.r t ht).1) ha hb
def Dn (ah:List Cl)(d:Int)(j i:Nat):Prop:=d<(ah.getD i sB).1∨((ah.getD i sB).1=d∧i<j)
structure Kv (ah:List Cl) (n:Nat) (d:Int) (j:Nat) (dt:List Int):Prop where
 ex:∃s:Nat→Bool,(∀i,i<n→dt.getD i 0= -1→Dn ah d j i∧s i=false)∧(∀i k:Nat,i<n→dt.getD i 0=(k:Int)→k<n∧Dn ah d j k∧s k=true)
 inj:∀i i' k:Nat,i<n→i'<n→dt.getD i 0=(k:Int)→dt.getD i' 0=(k:Int)→i=i'
 lo:∀i,i<n→ -2≤dt.getD i 0
theorem Kv.skip {ah:List Cl}{n:Nat}{d:Int}{j:Nat}{dt:List Int}(h:Kv ah n d j dt):Kv ah n d (j+1) dt:=by
 have up:∀i,Dn ah d j i→Dn ah d (j+1) i:=fun i hi=>hi.imp id fun⟨a,b⟩=>⟨a,by omega⟩
 obtain⟨s,h1,h2⟩:=h.ex
 exact⟨⟨s,fun i hi e=>⟨up i (h1 i hi e).1,(h1 i hi e).2⟩,fun i k hi e=>⟨(h2 i k hi e).1,up k (h2 i k hi e).2.1,(h2 i k hi e).2.2⟩⟩,h.inj,h.lo⟩
theorem Kv.down {ah:List Cl}{n:Nat}{d:Int}{j:Nat}{dt:List Int}(h:Kv ah n d j dt):Kv ah n (d - 1) 0 dt:=by
 have up:∀i,Dn ah d j i→Dn ah (d - 1) 0 i:=fun i hi=> .inl (by rcases hi with hi | ⟨hi,_⟩<;>omega)
 obtain⟨s,h1,h2⟩:=h.ex
 exact⟨⟨s,fun i hi e=>⟨up i (h1 i hi e).1,(h1 i hi e).2⟩,fun i k hi e=>⟨(h2 i k hi e).1,up k (h2 i k hi e).2.1,(h2 i k hi e).2.2⟩⟩,h.inj,h.lo⟩
theorem Kv.start {ah:List Cl}{n:Nat}{d:Int}:Kv ah n d 0 (List.replicate n (-2)):=by
 have e:∀i,i<n→(List.replicate n (-2:Int)).getD i 0= -2:=fun i hi=>by simp[List.getD,hi]
 exact⟨⟨fun _=>false,fun i hi h=>by rw[e i hi] at h;omega,fun i k hi h=>by rw[e i hi] at h;omega⟩,fun i i' k hi hi' h=>by rw[e i hi] at h;omega,fun i hi=>by rw[e i hi];omega⟩
theorem Dn.self {ah:List Cl}{d:Int}{j:Nat}(hd:(ah.getD j sB).1=d):¬Dn ah d j j:=by
 rintro (h | ⟨_,h⟩)<;>omega
theorem Kv.axO {ah:List Cl}{n:Nat}{d:Int}{j:Nat}{dt:List Int}(h:Kv ah n d j dt)(hj:j<n)(hd:(ah.getD j sB).1=d)(m:Nat):Kv ah n d (j+1) (dt.set m (j:Int)):=by
 have up:∀i,Dn ah d j i→Dn ah d (j+1) i:=fun i hi=>hi.imp id fun⟨a,b⟩=>⟨a,by omega⟩
 have nj:∀i,Dn ah d j i→i≠j:=fun i hi e=>Dn.self hd (e ▸ hi)
 have HC:Dn ah d (j+1) j:= .inr ⟨hd,by omega⟩
 obtain⟨s,h1,h2⟩:=h.ex
 refine⟨⟨fun x=>if x=j then true else s x,fun i hi e=> ?_,fun i k hi e=> ?_⟩,fun i i' k hi hi' e e'=> ?_,fun i hi=> ?_⟩
 ·rw[zF] at e
  split at e
  ·omega
  ·obtain⟨a,b⟩:=h1 i hi e
   exact⟨up i a,by simp only[if_neg (nj i a)];exact b⟩
 ·rw[zF] at e
  split at e
  ·obtain rfl:j=k:=by omega
   exact⟨hj,HC,by simp⟩
  ·obtain⟨a,b,c⟩:=h2 i k hi e
   exact⟨a,up k b,by simp only[if_neg (nj k b)];exact c⟩
 ·rw[zF] at e e'
  split at e
  ·rename_i g
   split at e'
   ·rename_i g'
    rw[←g.1, ←g'.1]
   ·obtain rfl:j=k:=by omega
    exact absurd rfl (nj _ (h2 i' _ hi' e').2.1)
  ·split at e'
   ·obtain rfl:j=k:=by omega
    exact absurd rfl (nj _ (h2 i _ hi e).2.1)
   ·exact h.inj i i' k hi hi' e e'
 ·rw[zF]
  split
  ·omega
  ·exact h.lo i hi
theorem Kv.mark {ah:List Cl}{n:Nat}{d:Int}{j:Nat}{dt:List Int}(h:Kv ah n d j dt)(hd:(ah.getD j sB).1=d):Kv ah n d (j+1) (dt.set j (-1)):=by
 have up:∀i,Dn ah d j i→Dn ah d (j+1) i:=fun i hi=>hi.imp id fun⟨a,b⟩=>⟨a,by omega⟩
 have nj:∀i,Dn ah d j i→i≠j:=fun i hi e=>Dn.self hd (e ▸ hi)
 have HC:Dn ah d (j+1) j:= .inr ⟨hd,by omega⟩
 obtain⟨s,h1,h2⟩:=h.ex
 refine⟨⟨fun x=>if x=j then false else s x,fun i hi e=> ?_,fun i k hi e=> ?_⟩,fun i i' k hi hi' e e'=> ?_,fun i hi=> ?_⟩
 ·rw[zF] at e
  split at e
  ·rename_i g
   rw[←g.1]
   exact⟨HC,by simp⟩
  ·obtain⟨a,b⟩:=h1 i hi e
   exact⟨up i a,by simp only[if_neg (nj i a)];exact b⟩
 ·rw[zF] at e
  split at e
  ·omega
  ·obtain⟨a,b,c⟩:=h2 i k hi e
   exact⟨a,up k b,by simp only[if_neg (nj k b)];exact c⟩
 ·rw[zF] at e e'
  split at e
  ·omega
  ·split at e'
   ·omega
   ·exact h.inj i i' k hi hi' e e'
 ·rw[zF]
  split
  ·omega
  ·exact h.lo i hi
theorem arW {p:Int}(hp:Pr p){n:Nat}(hn:n≤1024){ah:List Cl}(hc:ah.length=n)(hx:∀j,j<n→Vc p n (oW ah j)){d:Int}{ak:Hp3}{tail:List (Int×Unit)}:∀(m j:Nat) (it:Nat) (st:List (Option (List Tm))) (dt:List Int) (sd:List (Option (List Int))) (OL:List Int) (em:List Bool) (a c:Int),m+j=n→it+m≤5120→Rel p n st dt sd OL em→Kv ah n d j dt→0≤a→a≤it*1024→0≤c→c≤it→
  ∃st' dt' sd' by' em' a' c',Rel p n st' dt' sd' by' em'∧Kv ah n d n dt'∧0≤a'∧a'≤((it+m:Nat):Int)*1024∧0≤c'∧c'≤((it+m:Nat):Int)∧
   bR 0 0 st dt true p ah a c ak (am6 ah d j m++tail)=bR 0 0 st' dt' true p ah a' c' ak tail∧
   ac9 1 d j p ah [some OL] (h5 p ah a c) [some sd] [some em]=ac3 1 (IntKind.wrap .i64 (d - 1)) p ah [some by'] (h5 p ah a' c') [some sd'] [some em']:=by
 intro m
 induction m with
 |zero=>
  intro j it st dt sd OL em a c hj hit h hk ha hb hc0 hc1
  obtain rfl:j=n:=by omega
  refine⟨st,dt,sd,OL,em,a,c,h,hk,ha,hb,hc0,hc1,by rw[am6,List.nil_append], ?_⟩
  rw[ah5,agr,az (by omega)]
 |succ m ih=>
  intro j it st dt sd OL em a c hj hit h hk ha hb hc0 hc1
  have hj':j<n:=by omega
  have hxj:=hx j hj'
  have hmul:((it+1:Nat):Int)*1024=(it:Int)*1024+1024:=by
   rw[show ((it+1:Nat):Int)=(it:Int)+1 by omega,Int.add_mul,Int.one_mul]
  have hsum:it+1+m=it+(m+1):=by omega
  have nx:∀(st:List (Option (List Tm))) (dt:List Int) (sd:List (Option (List Int))) (OL:List Int) (em:List Bool) (a c:Int),Rel p n st dt sd OL em→Kv ah n d (j+1) dt→0≤a→a≤((it+1:Nat):Int)*1024→0≤c→c≤((it+1:Nat):Int)→_:=fun st dt sd OL em a c h1 h0 h2 h3 h4 h5=>ih (j+1) (it+1) st dt sd OL em a c (by omega) (by omega) h1 h0 h2 h3 h4 h5
  rw[hsum] at nx
  rw[am6,ah5,agr,aB (by omega),iT sB (by omega),cq (by omega)]
  by_cases e:(ah.getD j sB).1=d
  ·rw[if_pos e,pe e,List.cons_append,asY hp hn hc h.sto h.ldt hj' hxj (out:=0) ha (by omega) (by omega)]
   have e1:(!(Nat.beq 1 0))=true:=rfl
   have e2:af (h5 p ah a c) 1=some [((p,(ah,())),((1:Nat),((1:Nat),((1:Nat),(a,(c,()))))))]:=rfl
   have e3:([((p,(ah,())),((1:Nat),((1:Nat),((1:Nat),(a,(c,()))))))]:List aeA)[0]? =some ((p,(ah,())),((1:Nat),((1:Nat),((1:Nat),(a,(c,())))))):=rfl
   have g6:af [some sd] 1=some sd:=rfl
   have l2:=h.sv.len
   rw[e1,cT,cT,e2,bS,e3,bS]
   simp only
   rw[g6,bS,RM (by omega) (by omega),bS,aav (by omega),Int.toNat_natCast]
   cases hs:st.getD j none with
   |some y=>
    obtain⟨w,hw,_⟩:=h.sv.some_ j y hs
    have e4:(!(Option.isNone (some w)))=true:=rfl
    have e5:b9 (h5 p ah a c) 1 ([((p,(ah,())),((1:Nat),((1:Nat),((1:Nat),(a,(c,()))))))].set 0 ((p,(ah,())),((1:Nat),((1:Nat),((1:Nat),(a,(c+1,())))))))=h5 p ah a (c+1):=rfl
    rw[hw,e4,cT,cT,cT,bS,e3,bS,cT,cT,bS,e3,bS]
    simp only
    rw[i64_in (c+1) (by omega),e5]
    exact nx st dt sd OL em a (c+1) h hk.skip ha (by omega) (by omega) (by omega)
   |none=>
    have e4:(!(Option.isNone (none:Option (List Int))))=false:=rfl
    obtain⟨sd',by',em',r1,r2,r3,r4⟩:=arC hp hn hc h hj' hxj (c:=c) ha (by omega)
    rw[h.sv.none_ j hs,e4,cF,r1,bS]
    simp only
    unfold alV
    cases hl:(pf p st n (oW ah j) a).1.getLast? with
    |some t=>
     rw[hl] at r4
     exact nx _ _ _ _ _ _ _ r4 (hk.axO hj' e _) r2 (by omega) hc0 (by omega)
    |none=>
     rw[hl] at r4
     simp only
     by_cases h2:dt.getD j 0= -2
     ·rw[if_pos h2]
      simp only[if_pos h2] at r4
      exact nx _ _ _ _ _ _ _ r4 (hk.mark e) r2 (by omega) hc0 (by omega)
     ·rw[if_neg h2]
      simp only[if_neg h2] at r4
      exact nx _ _ _ _ _ _ _ r4 hk.skip r2 (by omega) hc0 (by omega)
  ·rw[if_neg e,Cj e]
   exact nx st dt sd OL em a c h hk.skip ha (by omega) hc0 (by omega)
theorem asZ {p:Int}(hp:Pr p){n:Nat}(hn:n≤1024){ah:List Cl}(hc:ah.length=n)(hx:∀j,j<n→Vc p n (oW ah j)){ak:Hp3}:∀(k it:Nat) (st:List (Option (List Tm))) (dt:List Int) (sd:List (Option (List Int))) (OL:List Int) (em:List Bool) (a c:Int),it+k*1024≤5120→Rel p n st dt sd OL em→Kv ah n ((k:Int) - 1) 0 dt→0≤a→a≤it*1024→0≤c→c≤it→
  ∃dt' a' c',dt'.length=n∧Kv ah n (-1) 0 dt'∧bR 0 0 st dt true p ah a c ak (dtr ah n k)=du 0 (dt'.length:Int) 0 dt' a' c' ak∧ac3 1 ((k:Int) - 1) p ah [some OL] (h5 p ah a c) [some sd] [some em]=some (prL dt' 0 n,a',c'):=by
 intro k
 induction k with
 |zero=>
  intro it st dt sd OL em a c hit h hk ha hb hc0 hc1
  refine⟨dt,a,c,h.ldt,hk, ?_, ?_⟩
  ·rw[dtr,Es,ub]
  ·have e1:(!(Nat.beq 1 0))=true:=rfl
   have e2:af (h5 p ah a c) 1=some [((p,(ah,())),((1:Nat),((1:Nat),((1:Nat),(a,(c,()))))))]:=rfl
   have e3:([((p,(ah,())),((1:Nat),((1:Nat),((1:Nat),(a,(c,()))))))]:List aeA)[0]? =some ((p,(ah,())),((1:Nat),((1:Nat),((1:Nat),(a,(c,())))))):=rfl
   have e0:((0:Nat):Int)=0:=rfl
   have hd:decide (((0:Nat):Int) - 1≥0)=false:=rfl
   have hw:=acM hn h (ah:=ah) (a:=a) (c:=c) n 0 [] (by omega) (by simp)
   rw[e0,List.nil_append] at hw
   rw[ah4,agm,hd,cF,Fh,uk,hw,bS,e1,cT,cT,e2,bS,e3,bS,cT,cT,bS,e3,bS]
 |succ k ih=>
  intro it st dt sd OL em a c hit h hk ha hb hc0 hc1
  have e1:((k+1:Nat):Int) - 1=(k:Int):=by omega
  have hg:decide ((k:Int)≥0)=true:=by simp
  have e0:((0:Nat):Int)=0:=rfl
  have axP:it+n≤5120:=by omega
  rw[e1] at hk
  obtain⟨st',dt',sd',by',em',a',c',q1,q0,q2,q3,q4,q5,q6,q7⟩:=arW hp hn hc hx (d:=(k:Int)) (ak:=ak) (tail:=dtr ah n k) n 0 it st dt sd OL em a c (by omega) axP h hk ha hb hc0 hc1
  rw[e0,i64_in ((k:Int) - 1) (by omega)] at q7
  have hm:((it+n:Nat):Int)*1024≤((it+1024:Nat):Int)*1024:=by omega
  obtain⟨dt2,a2,c2,z1,z0,z2,z3⟩:=ih (it+1024) st' dt' sd' by' em' a' c' (by omega) q1 q0.down q2 (by omega) q4 (by omega)
  refine⟨dt2,a2,c2,z1,z0,by rw[dtr,q6,z2], ?_⟩
  rw[ah4,agm,e1,hg,cT,q7,z3]
theorem as0 {n:Nat}(hn:n≤1024){st:List (Option (List Tm))}{p:Int}{ah:List Cl}(hc:ah.length=n){ak:Hp3}:∀(m i:Nat),m+i=n→
  dr 0 (n:Int) i st (List.replicate i (-2)++List.replicate m 0) true p ah 0 0 ak=bR 0 0 st (List.replicate n (-2)) true p ah 0 0 ak (dtr ah n 5):=by
 intro m
 induction m with
 |zero=>
  intro i hi
  have e0:((0:Nat):Int)=0:=rfl
  have hw:=arV (ah:=ah) hc (by omega) (t:=p) 5 [] (by omega)
  have e4:((5:Nat):Int) - 1=4:=rfl
  rw[e4,List.nil_append] at hw
  have hi':i=n:=by omega
  subst hi'
  rw[Er,ua,az (by omega),Nk,Eo,bS,KF,BJ]
  simp only
  rw[hw,bS,List.replicate_zero,List.append_nil]
 |succ m ih=>
  intro i hi
  have hl:(List.replicate i (-2:Int)++List.replicate (m+1) 0).length=n:=by simp;omega
  rw[Er,ua,aB (by omega),eL (by omega) (by omega),Int.toNat_natCast,rS (by omega),cq (by omega)]
  have e:(List.replicate i (-2:Int)++List.replicate (m+1) 0).set i (-2)=List.replicate (i+1) (-2)++List.replicate m 0:=by
   rw[List.set_append_right _ _ (by simp)]
   simp only[List.length_replicate,Nat.sub_self,List.replicate_succ,List.set_cons_zero]
   rw[←List.replicate_succ,List.replicate_succ',List.append_assoc]
   rfl
  rw[e]
  exact ih (i+1) (by omega)
theorem ap7 {p:Int}(hp:Pr p){ah:List Cl}(hl:ah.length≤1024)(hx:∀j,j<ah.length→Vc p ah.length (oW ah j)):∃dt a c,dt.length=ah.length∧Kv ah ah.length (-1) 0 dt∧ahd (p,(ah,()))=some (prL dt 0 ah.length,a,c)∧
  ∃out hp',fa (p,(ah,())) []=some ((out,(a,(c,()))),hp')∧af hp' out=some (prL dt 0 ah.length):=by
 obtain⟨dt',a',c',d1,d0,d2,d3⟩:=asZ hp hl rfl hx (ak:=[]) 5 0 _ _ _ _ _ 0 0 (by omega) Rel.start Kv.start (by omega) (by omega) (by omega) (by omega)
 have e4:((5:Nat):Int) - 1=4:=rfl
 have e0:((0:Nat):Int)=0:=rfl
 rw[e4] at d3
 refine⟨dt',a',c',d1,d0, ?_, ?_⟩
 ·rw[akW,aij]
  simp only
  rw[rstart hl,bS]
  simp only
  exact d3
 ·obtain⟨out',hp',g1,g2⟩:=aoW (dt:=dt') (by omega) (w:=a') (w2:=c') dt'.length 0 0 [] [] (by omega) rfl (by simp)
  rw[e0] at g1
  rw[List.nil_append,d1] at g2
  have hf:=as0 (st:=List.replicate ah.length none) (p:=p) hl rfl (ak:=[]) ah.length 0 (by omega)
  rw[e0,List.replicate_zero,List.nil_append] at hf
  refine⟨out',hp', ?_,g2⟩
  rw[HV,yy]
  simp only
  rw[GM (by omega) (by omega) (by omega),GM (by omega) (by omega) (by omega),Int.toNat_natCast,List.length_replicate,hf,d2,g1]
end Go.Proofs.YtofjebmoebhiiaaGreatDoor.Ev
namespace Go.Proofs.YtofjebmoebhiiaaGreatDoor.Ev
open Go.Abs
abbrev Up (l:List (Int×Int×Unit)):Prop:=l.Pairwise fun a b=>a.1<b.1
theorem alW {x y:Int×Int×Unit}:∀{l:List (Int×Int×Unit)},y∈anV x l↔y=x∨y∈l
 | []=>by simp[anV]
 |z::r=>by
  unfold anV
  cases decide (x.1<z.1) with
  |true=>simp
  |false=>simp only[cond_false,List.mem_cons,alW (l:=r)];constructor<;>rintro (h |h |h)<;>simp[h]
theorem akS {y:Int×Int×Unit}:∀{l:List (Int×Int×Unit)},y∈ahe l↔y∈l
 | []=>by simp[ahe]
 |x::r=>by rw[ahe,alW,akS (l:=r)];simp
theorem ao9 {x:Int×Int×Unit}:∀{l:List (Int×Int×Unit)},Up l→(∀y∈l,x.1≠y.1)→Up (anV x l)
 | [],_,_=>by simp[anV,Up]
 |z::r,h,hn=>by
  unfold anV
  have h':=List.pairwise_cons.1 h
  by_cases e:x.1<z.1
  ·rw[show decide (x.1<z.1)=true by simpa using e,cond_true]
   exact List.pairwise_cons.2 ⟨fun y hy=>by
    rcases List.mem_cons.1 hy with rfl |hy
    ·exact e
    ·have:=h'.1 y hy;omega,h⟩
  ·rw[show decide (x.1<z.1)=false by simpa using e,cond_false]
   refine List.pairwise_cons.2 ⟨fun y hy=> ?_,ao9 h'.2 fun y hy=>hn y (List.mem_cons_of_mem _ hy)⟩
   rcases alW.1 hy with rfl |hy
   ·have:=hn z (List.mem_cons_self);omega
   ·exact h'.1 y hy
abbrev Ds (l:List (Int×Int×Unit)):Prop:=l.Pairwise fun a b=>a.1≠b.1
theorem alX:∀{l:List (Int×Int×Unit)},Ds l→Up (ahe l)
 | [],_=>List.Pairwise.nil
 |x::r,h=>by
  have h':=List.pairwise_cons.1 h
  exact ao9 (alX h'.2) fun y hy=>h'.1 y (akS.1 hy)
theorem aoY:∀{a b:List (Int×Int×Unit)},Up a→Up b→(∀x,x∈a↔x∈b)→a=b
 | [],[],_,_,_=>rfl
 | [],y::s,_,_,h=>by have:=(h y).2 List.mem_cons_self;cases this
 |x::r,[],_,_,h=>by have:=(h x).1 List.mem_cons_self;cases this
 |x::r,y::s,ha,hb,h=>by
  have ha':=List.pairwise_cons.1 ha
  have hb':=List.pairwise_cons.1 hb
  have e:x=y:=by
   rcases List.mem_cons.1 ((h x).1 List.mem_cons_self) with e |h1
   ·exact e
   ·rcases List.mem_cons.1 ((h y).2 List.mem_cons_self) with e |h2
    ·exact e.symm
    ·have:=hb'.1 x h1;have:=ha'.1 y h2;omega
  subst e
  rw[aoY ha'.2 hb'.2 fun z=> ?_]
  constructor
  ·intro hz
   rcases List.mem_cons.1 ((h z).1 (List.mem_cons_of_mem _ hz)) with rfl |h3
   ·have:=ha'.1 _ hz;omega
   ·exact h3
  ·intro hz
   rcases List.mem_cons.1 ((h z).2 (List.mem_cons_of_mem _ hz)) with rfl |h3
   ·have:=hb'.1 _ hz;omega
   ·exact h3
theorem am9:∀{l:List (Int×Int×Unit)},okT l=true↔(∀x∈l,0≤x.1∧x.1<1000000000)∧Ds l
 | []=>by simp[okT,Ds]
 |x::r=>by
  rw[okT]
  simp only[Bool.and_eq_true,decide_eq_true_eq,List.all_eq_true,Bool.not_eq_true',decide_eq_false_iff_not,am9 (l:=r),List.mem_cons,forall_eq_or_imp,Ds,List.pairwise_cons]
  constructor
  ·rintro ⟨⟨⟨h1,h2⟩,h3⟩,h4,h5⟩;exact⟨⟨⟨h1,h2⟩,h4⟩,h3,h5⟩
  ·rintro ⟨⟨⟨h1,h2⟩,h4⟩,h3,h5⟩;exact⟨⟨⟨h1,h2⟩,h3⟩,h4,h5⟩
theorem Ds.perm {a b:List (Int×Int×Unit)}(h:a.Perm b)(hd:Ds a):Ds b:=(h.pairwise_iff (R:=fun a b:Int×Int×Unit=>a.1≠b.1) (fun h=>Ne.symm h)).1 hd
theorem arX {l l':List (Int×Int×Unit)}(hd:Ds l)(hp:l'.Perm l)(hs:l'.Pairwise fun a b=>a.1≤b.1):l'=ahe l:=by
 have hd':Ds l':=hd.perm hp.symm
 refine aoY ?_ (alX hd) fun x=>by rw[akS,hp.mem_iff]
 exact(hs.and hd').imp fun⟨h1,h2⟩=>by omega
end Go.Proofs.YtofjebmoebhiiaaGreatDoor.Ev
namespace Go.Proofs.YtofjebmoebhiiaaGreatDoor.Ev
open Go.Abs Go.IntWalk
abbrev Hz:=List (List Int)
theorem vK {β:Type}{xs:Hz}{k:Nat}{f:List Int→Option β}(h:k<xs.length):(idx xs (k:Int)).bind f=f (xs.getD k []):=iT [] h
theorem b6 {α:Type}{d:α}{l:List α}{k:Nat}(h:k<l.length):l.getD k d∈l:=by
 have:l.getD k d=l[k]:=by simp[List.getD,h]
 rw[this];exact List.getElem_mem _
theorem ami {a:List Int}(hl:a.length≤1000000)(v:Int):∀(m i:Nat),m+i=a.length→∃b,kY a v i=some b:=by
 intro m
 induction m with
 |zero=>intro i hi;rw[C9,wE,az (by omega)];exact⟨_,rfl⟩
 |succ m ih=>
  intro i hi
  rw[C9,wE,aB (by omega),eL (by omega) (by omega),cq (by omega)]
  cases (a.getD (i:Int).toNat 0==v) with
  |true=>exact⟨_,rfl⟩
  |false=>rw[cF];exact ih (i+1) (by omega)
theorem ani {a:List Int}(hl:a.length≤1000000)(v:Int):∃b,qH a v=some b:=by
 rw[SJ,Ki];exact ami hl v a.length 0 (by omega)
theorem akx {a b:List Int}(ha:a.length≤1000000)(hl:b.length≤1000000):∀(m i:Nat),m+i=b.length→∃r,jQ a b i=some r:=by
 intro m
 induction m with
 |zero=>intro i hi;rw[B1,uQ,az (by omega)];exact⟨_,rfl⟩
 |succ m ih=>
  intro i hi
  obtain⟨r,hr⟩:=ani ha (b.getD (i:Int).toNat 0)
  rw[B1,uQ,aB (by omega),eL (by omega) (by omega),hr,bS,cq (by omega)]
  cases r with
  |true=>rw[Bool.not_true,cF];exact ih (i+1) (by omega)
  |false=>exact⟨_,rfl⟩
theorem aoy {a b:List Int}(ha:a.length≤1000000)(hl:b.length≤1000000):∃r,yr a b=some r:=by
 rw[Q9,Ip];exact akx ha hl b.length 0 (by omega)
theorem aky {a b:List Int}(hl:a.length≤1000000)(hab:a.length=b.length):∀(m i:Nat),m+i=a.length→∃r,fI a b i=some r:=by
 intro m
 induction m with
 |zero=>intro i hi;rw[s8,nR,az (by omega)];exact⟨_,rfl⟩
 |succ m ih=>
  intro i hi
  rw[s8,nR,aB (by omega),eL (by omega) (by omega),eL (by omega) (by omega),eL (by omega) (by omega),eL (by omega) (by omega),cq (by omega)]
  cases decide (a.getD (i:Int).toNat 0<b.getD (i:Int).toNat 0) with
  |true=>exact⟨_,rfl⟩
  |false=>
   rw[cF]
   cases decide (a.getD (i:Int).toNat 0>b.getD (i:Int).toNat 0) with
   |true=>exact⟨_,rfl⟩
   |false=>rw[cF];exact ih (i+1) (by omega)
theorem M9 {a b:List Int}(hl:a.length≤1000000):∃r,bu a b=some r:=by
 rw[Gt,AU]
 by_cases h:(a.length:Int)=(b.length:Int)
 ·rw[pe h];exact aky hl (by omega) a.length 0 (by omega)
 ·rw[Cj h]
  cases decide ((a.length:Int)<(b.length:Int)) with
  |true=>exact⟨_,rfl⟩
  |false=>exact⟨_,rfl⟩
theorem aeC {n:Int}{i:Nat}:∀(k:Nat) (n:Int) (out:List Int),k<out.length→out.length≤1000000→i<out.length→∃n' out',gC n i k out=eV n' (IntKind.wrap .i64 ((i:Int)+1)) out'∧out'.length=out.length:=by
 intro k
 induction k with
 |zero=>intro n out hk hl hi;rw[xq,pM,c8 (by omega)];exact⟨_,_,rfl,rfl⟩
 |succ k ih=>
  intro n out hk hl hi
  have e1:IntKind.wrap .i64 (((k+1:Nat):Int) - 1)=(k:Int):=by rw[i64_in _ (by omega)];omega
  rw[xq,pM,cZ (by omega),e1,eL (by omega) (by omega),rS (by omega),eL (by omega) (by omega),rS (by omega)]
  cases decide (out.getD (k:Int).toNat 0>out.getD ((k+1:Nat):Int).toNat 0) with
  |true=>
   rw[cT,eL (by omega) (by omega),rS (by omega),eL (by omega) (by omega),rS (by omega),eL (by omega) (by omega),rS (by omega)]
   simp only
   rw[eL (by omega) (by rw[List.length_set];omega),rS (by rw[List.length_set];omega)]
   obtain⟨n',out',h1,h2⟩:=ih (IntKind.wrap .i64 (1 - n)) ((out.set (k:Int).toNat (out.getD ((k+1:Nat):Int).toNat 0)).set ((k+1:Nat):Int).toNat (out.getD (k:Int).toNat 0)) (by rw[List.length_set,List.length_set];omega) (by rw[List.length_set,List.length_set];exact hl) (by rw[List.length_set,List.length_set];exact hi)
   exact⟨n',out',h1,by rw[h2,List.length_set,List.length_set]⟩
  |false=>rw[cF];exact⟨_,_,rfl,rfl⟩
theorem aeD:∀(m i:Nat) (n:Int) (out:List Int),m+i=out.length→out.length≤1000000→∃n' out',eV n i out=some (out',n')∧out'.length=out.length:=by
 intro m
 induction m with
 |zero=>intro i n out hi hl;rw[xp,pK,az (by omega)];exact⟨_,_,rfl,rfl⟩
 |succ m ih=>
  intro i n out hi hl
  obtain⟨n',out',h1,h2⟩:=aeC (n:=n) (i:=i) i n out (by omega) hl (by omega)
  obtain⟨n2,ax,h3,h4⟩:=ih (i+1) n' out' (by omega) (by omega)
  rw[xp,pK,aB (by omega),h1,cq (by omega)]
  exact⟨n2,ax,h3,by omega⟩
theorem WW {l:List Int}(hl:l.length≤1000000):∃n' out',jS l=some (out',n')∧out'.length=l.length:=by
 rw[LS,Da,kg (by omega) (by omega),List.nil_append]
 exact aeD l.length 0 0 l (by omega) hl
theorem Y0 {out:List Int}(ho:out.length≤4):∃s,(bif ((out.length:Int)==0) then bif (aP 8 1 out.length 1) then (jS (out++([(0:Int)]:List Int))).bind fun r3=>some r3.1 else none else (jS out).bind fun r4=>some r4.1)=some s∧s.length≤4:=by
 by_cases h:(out.length:Int)=0
 ·obtain⟨n',s,h1,h2⟩:=WW (l:=out++[0]) (by simp;omega)
  rw[ur h,kg (by omega) (by omega),h1,bS]
  exact⟨s,rfl,by rw[h2];simp;omega⟩
 ·obtain⟨n',s,h1,h2⟩:=WW (l:=out) (by omega)
  rw[ko h,h1,bS]
  exact⟨s,rfl,by omega⟩
theorem aax {l:List Int}(hl:l.length≤1000000000000000000):∀(m i:Nat) (out:List Int),m+i=l.length→out.length≤4→∃s,ik l 4 6 i out=some s∧s.length≤4:=by
 intro m
 induction m with
 |zero=>
  intro i out hi ho
  rw[y3,q8,az (by omega)]
  exact Y0 ho
 |succ m ih=>
  intro i out hi ho
  rw[y3,q8,aB (by omega)]
  by_cases h:(out.length:Int)<4
  ·have e1:IntKind.wrap .i64 ((i:Int)+1)=((i+1:Nat):Int):=by rw[i64_in _ (by omega)];omega
   rw[aB h,eL (by omega) (by omega),j5 (by omega),j5 (by omega),e1]
   obtain⟨b,hb⟩:=ani (a:=out) (by omega) ((IntKind.wrap .i64 ((l.getD (i:Int).toNat 0).tmod 6+6)).tmod 6)
   rw[hb,bS]
   cases b with
   |true=>rw[Bool.not_true,cF];exact ih (i+1) out (by omega) ho
   |false=>
    rw[Bool.not_false,cT,kg (by omega) (by omega)]
    exact ih (i+1) _ (by omega) (by simp;omega)
  ·rw[az h]
   exact Y0 ho
theorem aeE {l:List Int}(hl:l.length≤1000000000000000000):∃s,tM l 4 6=some s∧s.length≤4:=by
 rw[Nq,EY]
 exact aax hl l.length 0 [] (by omega) (by simp)
def Sx (n:Nat)(l:Hz):Prop:=l.length≤n∧∀s∈l,s.length≤4
theorem Sx.getD {n:Nat}{l:Hz}(h:Sx n l){k:Nat}(hk:k<l.length):(l.getD k []).length≤4:=h.2 _ (b6 hk)
theorem Sx.snoc {n m:Nat}{l:Hz}(h:∀s∈l,s.length≤4){s:List Int}(hs:s.length≤4):∀t∈l++[s],t.length≤4:=fun t ht=>by
 rcases List.mem_append.1 ht with ht |ht
 ·exact h t ht
 ·rw[List.mem_singleton.1 ht];exact hs
theorem akz {l:Hz}{s:List Int}(hl:Sx 1000 l)(hs:s.length≤4):∀(m i:Nat) (d:Bool) (out:Hz),m+i=l.length→out.length=i+(if d=true then 1 else 0)→(∀t∈out,t.length≤4)→
  ∃r,jT l s d i out=some r∧Sx (l.length+1) r:=by
 have hll:=hl.1
 intro m
 induction m with
 |zero=>
  intro i d out hi ho hx
  rw[B2,uS,az (by omega)]
  cases d with
  |true=>rw[Bool.not_true,cF];exact⟨out,rfl,by rw[if_pos rfl] at ho;omega,hx⟩
  |false=>
   rw[if_neg (by decide)] at ho
   rw[Bool.not_false,cT,kg (by omega) (by omega)]
   exact⟨_,rfl,by simp;omega,Sx.snoc (n:=0) (m:=0) hx hs⟩
 |succ m ih=>
  intro i d out hi ho hx
  obtain⟨r,hr⟩:=M9 (a:=s) (b:=l.getD i []) (by omega)
  have hg:=hl.getD (show i<l.length by omega)
  have ho2:out.length≤i+1:=by split at ho<;>omega
  rw[B2,uS,aB (by omega),vK (by omega),hr,bS,cq (by omega)]
  cases (r==0) with
  |true=>rw[cT];exact⟨l,rfl,by omega,hl.2⟩
  |false=>
   rw[cF]
   cases decide (r<0) with
   |true=>
    rw[cT]
    cases d with
    |true=>
     rw[Bool.not_true,cF,vK (by omega),kg (by omega) (by omega)]
     exact ih (i+1) true _ (by omega) (by rw[if_pos rfl] at ho ⊢;simp;omega) (Sx.snoc (n:=0) (m:=0) hx hg)
    |false=>
     rw[if_neg (by decide)] at ho
     rw[Bool.not_false,cT,kg (by omega) (by omega),vK (by omega),kg (by omega) (by simp;omega)]
     exact ih (i+1) true _ (by omega) (by rw[if_pos rfl];simp;omega) (Sx.snoc (n:=0) (m:=0) (Sx.snoc (n:=0) (m:=0) hx hs) hg)
   |false=>
    rw[cF,vK (by omega),kg (by omega) (by omega)]
    exact ih (i+1) d _ (by omega) (by simp;omega) (Sx.snoc (n:=0) (m:=0) hx hg)
theorem aay {l:Hz}{s:List Int}(hl:Sx 1000 l)(hs:s.length≤4):∃r,fW l s=some r∧Sx (l.length+1) r:=by
 rw[Ra,Iq]
 exact akz hl hs l.length 0 false [] (by omega) (by simp) (by simp)
theorem acO {s:List Int}(hs:s.length≤4){m:Int}{out:Hz}(ho:Sx 900 out):∀(q i:Nat) (f:List Int),q+i=s.length→f.length≤i→
  ∃r,gD s out m i f=dE s r (IntKind.wrap .i64 (m+1))∧Sx (out.length+1) r:=by
 intro q
 induction q with
 |zero=>
  intro i f hi hf
  obtain⟨r,h1,h2⟩:=aay (l:=out) (s:=f) ⟨by have:=ho.1;omega,ho.2⟩ (by omega)
  rw[xv,pP,az (by omega),h1,bS]
  exact⟨r,rfl,h2⟩
 |succ q ih=>
  intro i f hi hf
  rw[xv,pP,aB (by omega),OF (by omega),cq (by omega)]
  cases ((shr .i64 m (i:Int)).tmod 2==1) with
  |true=>
   rw[cT,eL (by omega) (by omega),kg (by omega) (by omega)]
   exact ih (i+1) _ (by omega) (by simp;omega)
  |false=>rw[cF];exact ih (i+1) f (by omega) (by omega)
theorem aaz {s:List Int}(hs:s.length≤4){m:Int}{out:Hz}(ho:Sx 900 out):∀(q i:Nat) (f:List Int),q+i=s.length→f.length≤i→
  ∃r,iq s m i out f=dE s r (IntKind.wrap .i64 (m+1))∧Sx (out.length+1) r:=by
 intro q
 induction q with
 |zero=>
  intro i f hi hf
  obtain⟨r,h1,h2⟩:=aay (l:=out) (s:=f) ⟨by have:=ho.1;omega,ho.2⟩ (by omega)
  rw[y4,q9,az (by omega),h1,bS]
  exact⟨r,rfl,h2⟩
 |succ q ih=>
  intro i f hi hf
  rw[y4,q9,aB (by omega),OF (by omega),cq (by omega)]
  cases ((shr .i64 m (i:Int)).tmod 2==1) with
  |true=>
   rw[cT,eL (by omega) (by omega),kg (by omega) (by omega)]
   exact ih (i+1) _ (by omega) (by simp;omega)
  |false=>rw[cF];exact ih (i+1) f (by omega) (by omega)
theorem Y1 {n:Nat}(h:n≤4):shl .i64 1 (n:Int)=((2^n:Nat):Int)∧2^n≤16:=by
 have:n=0∨n=1∨n=2∨n=3∨n=4:=by omega
 rcases this with rfl |rfl |rfl |rfl |rfl<;>exact⟨rfl,by decide⟩
theorem acP {s:List Int}(hs:s.length≤4):∀(q m:Nat) (out:Hz),q+m=2^s.length→Sx (500+m) out→∃r,dE s out m=some r∧Sx (out.length+q) r:=by
 obtain⟨hsh,hp⟩:=Y1 hs
 intro q
 induction q with
 |zero=>
  intro m out hm ho
  rw[xu,pO,OF (by omega),hsh,az (by omega)]
  exact⟨out,rfl,by omega,ho.2⟩
 |succ q ih=>
  intro m out hm ho
  have h0:=ho.1
  obtain⟨r,h1,h2⟩:=acO hs (m:=(m:Int)) (out:=out) ⟨by omega,ho.2⟩ s.length 0 [] (by omega) (by simp)
  have e0:((0:Nat):Int)=0:=rfl
  rw[e0] at h1
  have h20:=h2.1
  obtain⟨r2,h3,h4⟩:=ih (m+1) r (by omega) ⟨by omega,h2.2⟩
  rw[xu,pO,OF (by omega),hsh,aB (by omega),h1,cq (by omega),h3]
  exact⟨r2,rfl,by have:=h4.1;omega,h4.2⟩
theorem acQ {s:List Int}(hs:s.length≤4):∃r,kZ s=some r∧Sx 16 r:=by
 obtain⟨hsh,hp⟩:=Y1 hs
 rw[Nr,EZ,JL,aib,OF (by omega),hsh]
 by_cases h:(1:Int)<((2^s.length:Nat):Int)
 ·rw[aB h]
  obtain⟨r,h1,h2⟩:=aaz hs (m:=1) (out:=[]) ⟨by simp,by simp⟩ s.length 0 [] (by omega) (by simp)
  have e0:((0:Nat):Int)=0:=rfl
  rw[e0] at h1
  have h20:=h2.1
  have e1:IntKind.wrap .i64 ((1:Int)+1)=((2:Nat):Int):=rfl
  obtain⟨r2,h3,h4⟩:=acP hs (2^s.length - 2) 2 r (by omega) ⟨by simp at h20;omega,h2.2⟩
  rw[h1,e1,h3]
  exact⟨r2,rfl,by have:=h4.1;simp at h20;omega,h4.2⟩
 ·rw[az h];exact⟨[],rfl,by simp,by simp⟩
theorem RN {l f:Hz}(hf:Sx 16 f){i:Int}:∀(q k:Nat) (out:Hz),q+k=f.length→Sx (900 - q) out→∃r,db l out i f k=iP l r (IntKind.wrap .i64 (i+1))∧Sx (out.length+q) r:=by
 have Td:=hf.1
 intro q
 induction q with
 |zero=>intro k out hk ho;rw[vz,oL,az (by omega)];exact⟨out,rfl,by omega,ho.2⟩
 |succ q ih=>
  intro k out hk ho
  have h0:=ho.1
  obtain⟨r,h1,h2⟩:=aay (l:=out) (s:=f.getD k []) ⟨by omega,ho.2⟩ (hf.getD (by omega))
  have h20:=h2.1
  rw[vz,oL,aB (by omega),vK (by omega),h1,bS,cq (by omega)]
  obtain⟨r2,h3,h4⟩:=ih (k+1) r (by omega) ⟨by omega,h2.2⟩
  exact⟨r2,h3,by have:=h4.1;omega,h4.2⟩
theorem aaA {l:Hz}(hl:Sx 5 l):∀(q i:Nat) (out:Hz),q+i=l.length→Sx (800 - 16*q) out→∃r,iP l out i=some r∧Sx 800 r:=by
 have hll:=hl.1
 intro q
 induction q with
 |zero=>intro i out hi ho;rw[vA,oM,az (by omega)];exact⟨out,rfl,by have:=ho.1;omega,ho.2⟩
 |succ q ih=>
  intro i out hi ho
  have h0:=ho.1
  obtain⟨f,h1,h2⟩:=acQ (hl.getD (show i<l.length by omega))
  have h20:=h2.1
  obtain⟨r,h3,h4⟩:=RN (l:=l) h2 (i:=(i:Int)) f.length 0 out (by omega) ⟨by omega,ho.2⟩
  have h40:=h4.1
  have e0:((0:Nat):Int)=0:=rfl
  rw[e0] at h3
  rw[vA,oM,aB (by omega),vK (by omega),h1,bS,h3,cq (by omega)]
  exact ih (i+1) r (by omega) ⟨by omega,h4.2⟩
theorem aaB {l:Hz}(hl:Sx 5 l):∀(q i:Nat) (out:Hz),q+i=l.length→Sx (800 - 16*q) out→∃r,gv l i out=some r∧Sx 800 r:=by
 have hll:=hl.1
 intro q
 induction q with
 |zero=>intro i out hi ho;rw[xw,pS,az (by omega)];exact⟨out,rfl,by have:=ho.1;omega,ho.2⟩
 |succ q ih=>
  intro i out hi ho
  have h0:=ho.1
  obtain⟨f,h1,h2⟩:=acQ (hl.getD (show i<l.length by omega))
  have h20:=h2.1
  rw[xw,pS,aB (by omega),vK (by omega),h1,bS,Ir,y8]
  by_cases hf:f.length=0
  ·rw[az (by omega),cq (by omega)]
   exact ih (i+1) out (by omega) ⟨by omega,ho.2⟩
  ·obtain⟨r,h3,h4⟩:=aay (l:=out) (s:=f.getD 0 []) ⟨by omega,ho.2⟩ (h2.getD (by omega))
   have h40:=h4.1
   obtain⟨r2,h5,h6⟩:=RN (l:=l) h2 (i:=(i:Int)) (f.length - 1) 1 r (by omega) ⟨by omega,h4.2⟩
   have h60:=h6.1
   have e0:((0:Nat):Int)=0:=rfl
   have e1:IntKind.wrap .i64 ((0:Int)+1)=((1:Nat):Int):=rfl
   have hb:∀{β:Type} {g:List Int→Option β},(idx f (0:Int)).bind g=g (f.getD 0 []):=fun {β g}=>by
    have:=vK (xs:=f) (k:=0) (f:=g) (by omega)
    rw[e0] at this;exact this
   rw[aB (by omega),hb,h3,bS,e1,h5,cq (by omega)]
   exact aaA hl q (i+1) r2 (by omega) ⟨by omega,h6.2⟩
theorem ahU {l:Hz}(hl:Sx 5 l):∃r,mU l=some r∧Sx 800 r:=by
 have:=hl.1
 rw[LU,Dd]
 exact aaB hl l.length 0 [] (by omega) ⟨by simp,by simp⟩
theorem akA {t:Hz}(ht:Sx 800 t):∀(q i:Nat) (out:Hz),q+i=t.length→Sx i out→∃r,fC t (t.length:Int) i out=some r∧Sx 800 r:=by
 have htl:=ht.1
 intro q
 induction q with
 |zero=>intro i out hi ho;rw[y7,rk,az (by omega)];exact⟨out,rfl,by have:=ho.1;omega,ho.2⟩
 |succ q ih=>
  intro i out hi ho
  have h0:=ho.1
  rw[y7,rk,aB (by omega),vK (by omega),kg (by omega) (by omega),cq (by omega)]
  exact ih (i+1) _ (by omega) ⟨by simp;omega,Sx.snoc (n:=0) (m:=0) ho.2 (ht.getD (by omega))⟩
theorem af4 {few:Hz}(hf:Sx 5 few):∃r,((mU few).bind fun r3=>fC r3 (r3.length:Int) (0:Int) ([]:List (List Int)))=some r∧Sx 800 r:=by
 obtain⟨t,h1,h2⟩:=ahU hf
 rw[h1,bS]
 exact akA h2 t.length 0 [] (by omega) ⟨by simp,by simp⟩
theorem akB {l:Hz}(hl:l.length≤1000000)(hs:∀s∈l,s.length≤1000000000000000000):∀(q i:Nat) (few:Hz),q+i=l.length→Sx i few→i≤5→∃r,ig l 5 3 6 i few=some r∧Sx 800 r:=by
 intro q
 induction q with
 |zero=>
  intro i few hi hf h5
  rw[y6,ri,az (by omega)]
  exact af4 ⟨by have:=hf.1;omega,hf.2⟩
 |succ q ih=>
  intro i few hi hf h5
  have h0:=hf.1
  rw[y6,ri,aB (by omega)]
  by_cases h:i<5
  ·obtain⟨s,h1,h2⟩:=aeE (hs _ (b6 (d:=[]) (show i<l.length by omega)))
   have e4:IntKind.wrap .i64 ((3:Int)+1)=4:=rfl
   rw[aB (by omega),vK (by omega),e4,h1,bS,kg (by omega) (by omega),cq (by omega)]
   exact ih (i+1) _ (by omega) ⟨by simp;omega,Sx.snoc (n:=0) (m:=0) hf.2 h2⟩ (by omega)
  ·rw[az (by omega)]
   exact af4 ⟨by omega,hf.2⟩
theorem aeF {l:Hz}(hl:l.length≤1000000)(hs:∀s∈l,s.length≤1000000000000000000):∃r,tJ l 5 3 6=some r∧Sx 800 r:=by
 rw[Nt,E1]
 exact akB hl hs l.length 0 [] (by omega) ⟨by simp,by simp⟩ (by omega)
theorem aeG {l:Hz}(hl:Sx 800 l):∀(q i:Nat) (out:Hz),q+i=l.length→Sx i out→∃r,ie l i out=some r∧Sx 800 r:=by
 have hll:=hl.1
 intro q
 induction q with
 |zero=>intro i out hi ho;rw[y5,rf,az (by omega)];exact⟨out,rfl,by have:=ho.1;omega,ho.2⟩
 |succ q ih=>
  intro i out hi ho
  have h0:=ho.1
  have hg:=hl.getD (show i<l.length by omega)
  rw[y5,rf,aB (by omega),vK (by omega),kg (by omega) (by omega),kg (by omega) (by omega),cq (by omega),List.nil_append]
  exact ih (i+1) _ (by omega) ⟨by simp;omega,Sx.snoc (n:=0) (m:=0) ho.2 hg⟩
theorem akC {l:Hz}(hl:Sx 800 l):∃r,tI l=some r∧Sx 800 r:=by
 rw[Ns,E0]
 exact aeG hl l.length 0 [] (by omega) ⟨by simp,by simp⟩
theorem aaC {s:List Int}(hs:s.length≤4)(k:Int):∀(q i:Nat) (out:List Int),q+i=s.length→out.length≤i→∃r,dc s k i out=some r∧r.length≤4:=by
 intro q
 induction q with
 |zero=>intro i out hi ho;rw[nB,jX,az (by omega)];exact⟨out,rfl,by omega⟩
 |succ q ih=>
  intro i out hi ho
  rw[nB,jX,aB (by omega),cq (by omega)]
  cases ((i:Int) != k) with
  |true=>
   rw[cT,eL (by omega) (by omega),kg (by omega) (by omega)]
   exact ih (i+1) _ (by omega) (by simp;omega)
  |false=>rw[cF];exact ih (i+1) out (by omega) (by omega)
theorem aeH {s:List Int}(hs:s.length≤4)(k:Int):∃r,i7 s k=some r∧r.length≤4:=by
 rw[z8,s9]
 exact aaC hs k s.length 0 [] (by omega) (by simp)
theorem acR {s:List Int}(hs:s.length≤4):∀(q i:Nat) (out:Hz),q+i=s.length→Sx i out→∃r,dB s i out=some r∧Sx 4 r:=by
 intro q
 induction q with
 |zero=>
  intro i out hi ho
  rw[oK,kC]
  by_cases hg:(s.length:Int)>1
  ·rw[cZ hg,az (by omega)];exact⟨out,rfl,by have:=ho.1;omega,ho.2⟩
  ·rw[c8 hg];exact⟨out,rfl,by have:=ho.1;omega,ho.2⟩
 |succ q ih=>
  intro i out hi ho
  have h0:=ho.1
  obtain⟨w,h1,h2⟩:=aeH hs (i:Int)
  rw[oK,kC]
  by_cases hg:(s.length:Int)>1
  ·rw[cZ hg,aB (by omega),h1,bS,kg (by omega) (by omega),cq (by omega)]
   exact ih (i+1) _ (by omega) ⟨by simp;omega,Sx.snoc (n:=0) (m:=0) ho.2 h2⟩
  ·rw[c8 hg];exact⟨out,rfl,by omega,ho.2⟩
theorem Na {s:List Int}(hs:s.length≤4):∃r,b7 s=some r∧Sx 4 r:=by
 rw[B0,uO]
 exact acR hs s.length 0 [] (by omega) ⟨by simp,by simp⟩
theorem aeI {s:List Int}(hs:s.length≤4):∀(q i:Nat),q+i=s.length→1≤i→∃r,eg s i=some r:=by
 intro q
 induction q with
 |zero=>intro i hi h1;rw[pR,ma,az (by omega)];exact⟨_,rfl⟩
 |succ q ih=>
  intro i hi h1
  have e1:IntKind.wrap .i64 ((i:Int) - 1)=((i - 1:Nat):Int):=by rw[i64_in _ (by omega)];omega
  rw[pR,ma,aB (by omega),eL (by omega) (by omega),e1,eL (by omega) (by omega),cq (by omega)]
  cases decide (s.getD (i:Int).toNat 0≤s.getD ((i - 1:Nat):Int).toNat 0) with
  |true=>exact⟨_,rfl⟩
  |false=>rw[cF];exact ih (i+1) (by omega) (by omega)
theorem aeJ {s:List Int}(hs:s.length≤4)(h0:s.length≠0):∀(q i:Nat),q+i=s.length→∃r,ef s i=some r:=by
 intro q
 induction q with
 |zero=>
  intro i hi
  have e1:((1:Nat):Int)=1:=rfl
  have:=aeI hs (s.length - 1) 1 (by omega) (by omega)
  rw[e1] at this
  rw[pQ,l9,az (by omega)]
  exact this
 |succ q ih=>
  intro i hi
  rw[pQ,l9,aB (by omega),eL (by omega) (by omega),eL (by omega) (by omega),cq (by omega)]
  cases decide (s.getD (i:Int).toNat 0<0) with
  |true=>exact⟨_,rfl⟩
  |false=>
   rw[cF]
   cases decide (s.getD (i:Int).toNat 0≥64) with
   |true=>exact⟨_,rfl⟩
   |false=>rw[cF];exact ih (i+1) (by omega)
theorem WX {s:List Int}(hs:s.length≤4):∃r,gE s=some r:=by
 rw[Db,wG]
 by_cases h:(s.length:Int)=0
 ·rw[ur h];exact⟨_,rfl⟩
 ·rw[ko h,c8 (by omega)]
  exact aeJ hs (by omega) s.length 0 (by omega)
theorem aaD {l:Hz}(hl:Sx 800 l){s:List Int}:∀(q i:Nat),q+i=l.length→∃r,ir l s i=some r:=by
 have hll:=hl.1
 intro q
 induction q with
 |zero=>intro i hi;rw[zb,ry,az (by omega)];exact⟨_,rfl⟩
 |succ q ih=>
  intro i hi
  obtain⟨r,hr⟩:=M9 (a:=l.getD i []) (b:=s) (by have:=hl.getD (show i<l.length by omega);omega)
  rw[zb,ry,aB (by omega),vK (by omega),hr,bS,cq (by omega)]
  cases (r==0) with
  |true=>exact⟨_,rfl⟩
  |false=>rw[cF];exact ih (i+1) (by omega)
theorem aeK {l f:Hz}(hl:Sx 800 l)(hf:Sx 4 f){i:Nat}(hi:i<l.length)(nxt:∃r,fE l ((i+1:Nat):Int)=some r):∀(q k:Nat),q+k=f.length→∃r,im l i f k=some r:=by
 have hll:=hl.1
 have Td:=hf.1
 intro q
 induction q with
 |zero=>intro k hk;rw[za,rm,az (by omega),cq (by omega)];exact nxt
 |succ q ih=>
  intro k hk
  have e0:((0:Nat):Int)=0:=rfl
  obtain⟨r,hr⟩:=aaD hl (s:=f.getD k []) l.length 0 (by omega)
  rw[e0] at hr
  rw[za,rm,aB (by omega),vK (by omega),Nv,E3,hr,bS,cq (by omega)]
  cases decide (r<0) with
  |true=>exact⟨_,rfl⟩
  |false=>rw[cF];exact ih (k+1) (by omega)
theorem aeM {l:Hz}(hl:Sx 800 l):∀(q i:Nat),q+i=l.length→∃r,fE l i=some r:=by
 have hll:=hl.1
 intro q
 induction q with
 |zero=>intro i hi;rw[y9,rl,az (by omega)];exact⟨_,rfl⟩
 |succ q ih=>
  intro i hi
  have hg:=hl.getD (show i<l.length by omega)
  have nxt:=ih (i+1) (by omega)
  obtain⟨r1,h1⟩:=WX hg
  obtain⟨f,h2,h3⟩:=Na hg
  have hL:=aeK hl h3 (show i<l.length by omega) nxt f.length 0 (by omega)
  have e0:((0:Nat):Int)=0:=rfl
  rw[e0] at hL
  have hb:∀{β:Type} {g:List Int→Option β},(idx l (i:Int)).bind g=g (l.getD i []):=vK (by omega)
  rw[y9,rl,aB (by omega),hb,h1,bS]
  cases (r1 != 0) with
  |true=>exact⟨_,rfl⟩
  |false=>
   rw[cF]
   by_cases hi0:(i:Int)>0
   ·have e1:IntKind.wrap .i64 ((i:Int) - 1)=((i - 1:Nat):Int):=by rw[i64_in _ (by omega)];omega
    obtain⟨r4,h4⟩:=M9 (a:=l.getD i []) (b:=l.getD (i - 1) []) (by omega)
    rw[cZ hi0,hb,e1,vK (by omega),h4,bS]
    cases (r4==0) with
    |true=>exact⟨_,rfl⟩
    |false=>
     rw[cF,cZ hi0,hb,vK (by omega),h4,bS]
     cases decide (r4<0) with
     |true=>exact⟨_,rfl⟩
     |false=>rw[cF,hb,h2,bS];exact hL
   ·rw[c8 hi0,c8 hi0,hb,h2,bS]
    exact hL
theorem aeN {l:Hz}(hl:Sx 800 l):∃r,tN l=some r:=by
 rw[Nu,E2]
 by_cases h:(l.length:Int)>1024
 ·rw[cZ h];exact⟨_,rfl⟩
 ·rw[c8 h];exact aeM hl l.length 0 (by omega)
end Go.Proofs.YtofjebmoebhiiaaGreatDoor.Ev
namespace Go.Abs
abbrev Ce:=List Int×ByteArray×Unit
abbrev XK:Ce:=([],(ByteArray.empty,()))
abbrev W7:=Nat×ByteArray×Unit
abbrev IZ:W7:=(0,(ByteArray.empty,()))
abbrev tCe:Ty:= .st (.pair (.slice (.int .i64)) (.pair (.str) (.unit)))
abbrev aoz:Ty:= .st (.pair (.ref 4) (.pair (.str) (.unit)))
theorem MD {α:Type}{xs ys:List (Option (List α))}{n:Nat}{l:List α}(h:af xs n=some l):af (xs++ys) n=some l:=by
 cases n with
 |zero=>exact h
 |succ m=>
  simp only[af] at h ⊢
  cases hx:xs[m]? with
  |none=>rw[hx] at h;cases h
  |some o=>
   rw[hx] at h
   rw[List.getElem?_append_left (List.getElem?_eq_some_iff.1 hx).1,hx]
   exact h
theorem kq {α:Type}{xs:List (Option (List α))}{l:List α}:af (xs++[some l]) (xs.length+1)=some l:=by simp[af]
theorem aeO {α:Type}{xs:List (Option (List α))}{y:Option (List α)}:ix (xs++[y]) (xs.length+1)=xs++[none]:=by simp[ix]
theorem amj {α:Type}{xs:List (Option (List α))}{n:Nat}{l:List α}(h:af xs n=some l)(hn:n≠0):∃m,n=m+1∧m<xs.length:=by
 cases n with
 |zero=>exact absurd rfl hn
 |succ m=>
  simp only[af] at h
  cases hx:xs[m]? with
  |none=>rw[hx] at h;cases h
  |some o=>exact⟨m,rfl,(List.getElem?_eq_some_iff.1 hx).1⟩
theorem tY {α:Type}{xs:List (Option (List α))}{n:Nat}{l l':List α}(h:af xs n=some l)(hn:n≠0):af (b9 xs n l') n=some l':=by
 obtain⟨m,rfl,hm⟩:=amj h hn
 simp[af,b9,hm]
theorem aaE {α:Type}{xs:List (Option (List α))}{n:Nat}{l:List α}(h:af xs n=some l)(hl:l≠ []):n≠0:=fun e=>by
 subst e
 simp only[af,Option.some.injEq] at h
 exact hl h.symm
theorem ME {α β:Type}{f:α→Option β}{g:α→β}:∀ys:List α,(∀y∈ys,f y=some (g y))→mP f ys=some (ys.map g)
 | [],_=>rfl
 |a::r,h=>by rw[mP,h a (by simp),ME r fun y hy=>h y (by simp[hy])];rfl
theorem Y2 {ag:List bK}{hp:List (Option (List Int))}(h4:ag[4]? =some ⟨3, .int .i64,0,true,hp⟩){n:Nat}{l:List Int}(hg:af hp n=some l)(r:List CV):snap ag (.slice (.int .i64)) (⟨.ref 4,n⟩::r)=some (l,r):=by
 unfold snap OR
 simp only
 rw[h4]
 simp only
 cases n with
 |zero=>
  have:l=[]:=by simpa [af] using hg.symm
  subst this
  rfl
 |succ k=>
  have hb:Nat.beq (k+1) 0=false:=rfl
  rw[hb,hg]
  simp only[cond_false,Option.bind_some]
  rw[MC (fun y=>by rfl)]
  rfl
theorem WY {ag:List bK}{hp:List (Option (List Int))}(h4:ag[4]? =some ⟨3, .int .i64,0,true,hp⟩){n:Nat}{l:List Int}(hg:af hp n=some l):typed ag (.slice (.int .i64)) (.rv (.cv ⟨.ref 4,n⟩))=some l:=by
 unfold typed
 simp only
 unfold va
 rw[Y2 h4 hg]
theorem aeP {ag:List bK}{aH:List (Option (List Int))}{lL:List (Option (List W7))}(h4:ag[4]? =some ⟨3, .int .i64,0,true,aH⟩)(h8:ag[8]? =some ⟨101,aoz,0,true,lL⟩){n:Nat}{rows:List W7}(hg:af lL n=some rows)
  (hr:∀x∈rows,∃s,af aH x.1=some s):typed ag (.slice tCe) (.rv (.cv ⟨.ref 8,n⟩))=some (rows.map fun x=>((af aH x.1).getD [],(x.2.1,()))):=by
 unfold typed
 simp only
 unfold va snap OR
 simp only
 rw[h8]
 simp only
 cases n with
 |zero=>
  have:rows=[]:=by simpa [af] using hg.symm
  subst this
  rfl
 |succ k=>
  have hb:Nat.beq (k+1) 0=false:=rfl
  rw[hb,hg]
  simp only[cond_false,Option.bind_some]
  rw[ME (g:=fun x:W7=>((af aH x.1).getD [],(x.2.1,()))) rows (fun y hy=>by
   obtain⟨s,hs⟩:=hr y hy
   obtain⟨a,b,u⟩:=y
   have e:snap ag tCe (flat aoz ((a,(b,u)):W7))=some ((s,(b,())),[]):=by
    have e0:flat aoz ((a,(b,u)):W7)=[⟨.ref 4,a⟩,⟨.str,b⟩]:=rfl
    rw[e0,snap,snap,Y2 h4 hs]
    rfl
   rw[e,hs]
   rfl)]
  rfl
end Go.Abs
namespace Go.Proofs.YtofjebmoebhiiaaGreatDoor.Ev
open Go.Abs Go.IntWalk
theorem acS:((List.range 24).all fun i=>match Aj 400 ((i:Int) - 8) 4 with
  |some s=>zE s&&Nat.ble s.size 20
  |none=>false)=true:=by kernel_rfl
def At (s:ByteArray):Prop:=zE s=true∧s.size≤20
theorem acT (n:Int):∃s,tK n=some s∧At s:=by
 have h1:=Int.tmod_lt_of_pos n (show (0:Int)<24 by omega)
 have h2:=Int.lt_tmod_of_pos n (show (0:Int)<24 by omega)
 rw[Nx,E6]
 rw[i64_in (n.tmod 24+24) (by omega),bT (by omega)]
 have h3:=Int.emod_nonneg (n.tmod 24+24) (show (24:Int)≠0 by omega)
 have h4:=Int.emod_lt_of_pos (n.tmod 24+24) (show (0:Int)<24 by omega)
 rw[i64_in _ (by omega)]
 obtain⟨i,hi⟩:=Int.eq_ofNat_of_zero_le h3
 rw[hi]
 have ht:=List.all_eq_true.1 acS i (List.mem_range.2 (by omega))
 rw[JU] at ht
 cases hf:il ((i:Int) - 8) 4 with
 |none=>rw[hf] at ht;cases ht
 |some s=>
  rw[hf] at ht
  simp only[Bool.and_eq_true] at ht
  exact⟨s,by rw[bS],ht.1,Nat.le_of_ble_eq_true ht.2⟩
def Cs (l:List Ce):Prop:=l.length≤800∧∀x∈l,x.1.length≤4∧At x.2.1
def Cr (aH:List (Option (List Int)))(rows:List W7):Prop:=∀x∈rows,(∃s,af aH x.1=some s∧s.length≤4)∧At x.2.1
theorem Cr.append {aH ys:List (Option (List Int))}{rows:List W7}(h:Cr aH rows):Cr (aH++ys) rows:=fun x hx=>by
 obtain⟨⟨s,h1,h2⟩,h3⟩:=h x hx
 exact⟨⟨s,MD h1,h2⟩,h3⟩
theorem acU {l:List Ce}(hl:Cs l):∀(q i out:Nat) (aH:List (Option (List Int))) (lL:List (Option (List W7))) (rows:List W7),q+i=l.length→af lL out=some rows→rows.length=i→Cr aH rows→
  ∃out' DY P8 zG,gF l out i aH lL=some (out',(P8,DY))∧af P8 out'=some zG∧zG.length=l.length∧Cr DY zG:=by
 have hll:=hl.1
 intro q
 induction q with
 |zero=>
  intro i out aH lL rows hi hg hr hc
  rw[xz,pZ,az (by omega)]
  exact⟨_,_,_,rows,rfl,hg,by omega,hc⟩
 |succ q ih=>
  intro i out aH lL rows hi hg hr hc
  obtain⟨hx1,hx2⟩:=hl.2 _ (b6 (d:=XK) (show i<l.length by omega))
  have hb:∀{β:Type} {f:Ce→Option β},(idx l (i:Int)).bind f=f (l.getD i XK):=iT XK (by omega)
  rw[xz,pZ,aB (by omega),hb,kq,bS,List.length_nil,kg (by omega) (by omega),cq (by omega)]
  generalize l.getD i XK=x at hx1 hx2 hb ⊢
  cases he:x.1.isEmpty with
  |true=>
   rw[cT,hb]
   simp only
   have h1:af (lL++[some [((aH.length+1:Nat),(x.2.1,()))]]) out=some rows:=MD hg
   rw[h1,bS,kq,bS,List.length_singleton,kg (by omega) (by omega)]
   have e1:([((aH.length+1:Nat),(x.2.1,()))]:List W7).isEmpty=false:=rfl
   rw[e1,cF]
   exact ih (i+1) _ _ _ (rows++[((aH.length+1:Nat),(x.2.1,()))]) (by omega) kq (by simp;omega) (fun y hy=>by
    rcases List.mem_append.1 hy with hy |hy
    ·exact hc.append y hy
    ·rw[List.mem_singleton.1 hy]
     exact⟨⟨[],kq,by simp⟩,hx2⟩)
  |false=>
   rw[cF,hb]
   simp only
   rw[aeO,List.length_append,List.length_singleton]
   have h1:af (lL++[some [((aH.length+1+1:Nat),(x.2.1,()))]]) out=some rows:=MD hg
   rw[h1,bS,kq,bS,List.length_singleton,kg (by omega) (by omega)]
   have e1:([((aH.length+1+1:Nat),(x.2.1,()))]:List W7).isEmpty=false:=rfl
   rw[e1,cF]
   have h2:af (aH++[none]++[some ([]++x.1)]) (aH.length+1+1)=some ([]++x.1):=by
    have:=kq (xs:=aH++[none]) (l:=[]++x.1)
    rw[List.length_append,List.length_singleton] at this
    exact this
   exact ih (i+1) _ _ _ (rows++[((aH.length+1+1:Nat),(x.2.1,()))]) (by omega) kq (by simp;omega) (fun y hy=>by
    rcases List.mem_append.1 hy with hy |hy
    ·rw[List.append_assoc];exact hc.append y hy
    ·rw[List.mem_singleton.1 hy]
     exact⟨⟨_,h2,by simpa using hx1⟩,hx2⟩)
theorem acV {l:List Ce}(hl:Cs l):∃out' DY P8 zG,sg l [] []=some (out',(P8,DY))∧af P8 out'=some zG∧zG.length=l.length∧Cr DY zG:=by
 rw[LW,Dk]
 exact acU hl l.length 0 0 [] [] [] (by omega) rfl rfl (fun x hx=>by cases hx)
end Go.Proofs.YtofjebmoebhiiaaGreatDoor.Ev
namespace Go.Proofs.YtofjebmoebhiiaaGreatDoor.Ev
open Go.Abs Go.IntWalk
theorem akD {a b:ByteArray}(ha:At a)(hb:At b):∃r,bD a b=some r:=by
 obtain⟨n,d,h⟩:=IW.1 ha.1
 obtain⟨m,k,g⟩:=IW.1 hb.1
 exact⟨_,RG h g (by have:=ha.2;omega) (by have:=hb.2;omega)⟩
theorem Cr.set {aH:List (Option (List Int))}{rows:List W7}(h:Cr aH rows){x:W7}(hx:(∃s,af aH x.1=some s∧s.length≤4)∧At x.2.1)(k:Nat):Cr aH (rows.set k x):=fun y hy=>by
 rcases List.mem_or_eq_of_mem_set hy with hy |rfl
 ·exact h y hy
 ·exact hx
theorem aaF {out:Nat}{i:Int}{aH:List (Option (List Int))}{n:Nat}(hn:n≤800):∀(k:Nat) (lL:List (Option (List W7))) (rows:List W7),af lL out=some rows→rows.length=n→k<n→Cr aH rows→
  ∃P8 zG,eS out i k aH lL=dC out (IntKind.wrap .i64 (i+1)) aH P8∧af P8 out=some zG∧zG.length=n∧Cr aH zG:=by
 intro k
 induction k with
 |zero=>
  intro lL rows hg hr hk hc
  rw[xy,pX,c8 (by omega)]
  exact⟨lL,rows,rfl,hg,hr,hc⟩
 |succ k ih=>
  intro lL rows hg hr hk hc
  have e1:IntKind.wrap .i64 (((k+1:Nat):Int) - 1)=(k:Int):=by rw[i64_in _ (by omega)];omega
  have hne:rows≠ []:=fun e=>by rw[e] at hr;simp at hr;omega
  have hout:=aaE hg hne
  have b1:∀{β:Type} {f:W7→Option β},(idx rows ((k+1:Nat):Int)).bind f=f (rows.getD (k+1) IZ):=iT IZ (by omega)
  have b2:∀{β:Type} {f:W7→Option β},(idx rows (k:Int)).bind f=f (rows.getD k IZ):=iT IZ (by omega)
  have g1:rows[((k+1:Nat):Int).toNat]? =some (rows.getD (k+1) IZ):=by rw[Int.toNat_natCast];simp[List.getD,show k+1<rows.length by omega]
  have g2:rows[((k:Nat):Int).toNat]? =some (rows.getD k IZ):=by rw[Int.toNat_natCast];simp[List.getD,show k<rows.length by omega]
  obtain⟨⟨s1,p1,q1⟩,a1⟩:=hc _ (b6 (d:=IZ) (show k+1<rows.length by omega))
  obtain⟨⟨s2,p2,q2⟩,a2⟩:=hc _ (b6 (d:=IZ) (show k<rows.length by omega))
  obtain⟨r,hcmp⟩:=akD a1 a2
  -- Oa exchange
  have swap:∃P8 zG,((af lL out).bind fun v30=>(idx v30 (k:Int)).bind fun _=>(af lL out).bind fun v31=>(v31[(k:Int).toNat]?).bind fun v32=>(af lL out).bind fun v33=>(idx v33 ((k+1:Nat):Int)).bind fun _=>(af lL out).bind fun v34=>(v34[((k+1:Nat):Int).toNat]?).bind fun v35=>(af lL out).bind fun v36=>(idx v36 ((k+1:Nat):Int)).bind fun _=>(af lL out).bind fun v37=>(v37[((k+1:Nat):Int).toNat]?).bind fun v38=>
    let e39:List (Option (List (Nat×ByteArray×Unit))):=(b9 lL out (v37.set ((k+1:Nat):Int).toNat (v32.1,(v32.2.1,()))))
    (af e39 out).bind fun v40=>(idx v40 (k:Int)).bind fun _=>(af e39 out).bind fun v41=>(v41[(k:Int).toNat]?).bind fun v42=>
    let e43:List (Option (List (Nat×ByteArray×Unit))):=(b9 e39 out (v41.set (k:Int).toNat (v35.1,(v35.2.1,()))))
    eS out i (k:Int) aH e43)=dC out (IntKind.wrap .i64 (i+1)) aH P8∧af P8 out=some zG∧zG.length=n∧Cr aH zG:=by
   rw[hg,bS,b2,bS,g2,bS,bS,b1,bS,g1,bS,bS,b1,bS,g1,bS]
   simp only
   have hs:=tY (l':=rows.set ((k+1:Nat):Int).toNat ((rows.getD k IZ).1,((rows.getD k IZ).2.1,()))) hg hout
   have hl:(rows.set ((k+1:Nat):Int).toNat ((rows.getD k IZ).1,((rows.getD k IZ).2.1,()))).length=n:=by rw[List.length_set];exact hr
   have hc1:Cr aH (rows.set ((k+1:Nat):Int).toNat ((rows.getD k IZ).1,((rows.getD k IZ).2.1,()))):=hc.set ⟨⟨s2,p2,q2⟩,a2⟩ _
   generalize rows.set ((k+1:Nat):Int).toNat ((rows.getD k IZ).1,((rows.getD k IZ).2.1,()))=R at hs hl hc1 ⊢
   have g3:R[((k:Nat):Int).toNat]? =some (R.getD k IZ):=by rw[Int.toNat_natCast];simp[List.getD,show k<R.length by omega]
   rw[hs,bS,iT IZ (by omega),bS,g3,bS]
   exact ih _ _ (tY hs hout) (by rw[List.length_set];exact hl) (by omega) (hc1.set ⟨⟨s1,p1,q1⟩,a1⟩ _)
  rw[xy,pX,cZ (by omega),e1]
  have pre:∀{β:Type} {f:W7→W7→Option β},((af lL out).bind fun v0=>(idx v0 ((k+1:Nat):Int)).bind fun _=>(af lL out).bind fun v1=>(v1[((k+1:Nat):Int).toNat]?).bind fun v2=>(af lL out).bind fun v3=>(idx v3 (k:Int)).bind fun _=>(af lL out).bind fun v4=>(v4[(k:Int).toNat]?).bind fun v5=>f v2 v5)=f (rows.getD (k+1) IZ) (rows.getD k IZ):=fun {β f}=>by
   rw[hg,bS,b1,bS,g1,bS,bS,b2,bS,g2,bS]
  rw[pre,hcmp,bS]
  cases decide (r>0) with
  |true=>rw[cT];exact⟨lL,rows,rfl,hg,hr,hc⟩
  |false=>
   rw[cF]
   cases (r==0) with
   |true=>
    rw[cT,pre,WY rfl p1,bS,WY rfl p2,bS]
    obtain⟨r2,hc2⟩:=M9 (a:=s1) (b:=s2) (by omega)
    rw[hc2,bS]
    cases decide (r2>0) with
    |true=>rw[cT];exact⟨lL,rows,rfl,hg,hr,hc⟩
    |false=>rw[cF];exact swap
   |false=>rw[cF];exact swap
theorem aaG {out:Nat}{aH:List (Option (List Int))}{n:Nat}(hn:n≤800):∀(q i:Nat) (lL:List (Option (List W7))) (rows:List W7),af lL out=some rows→rows.length=n→q+i=n→Cr aH rows→
  ∃r,dC out i aH lL=some r∧r.length=n∧∀x∈r,x.1.length≤4∧At x.2.1:=by
 intro q
 induction q with
 |zero=>
  intro i lL rows hg hr hi hc
  rw[xx,pW,hg,bS,az (by omega),aeP rfl rfl hg (fun x hx=>by obtain⟨⟨s,h1,_⟩,_⟩:=hc x hx;exact⟨s,h1⟩),bS]
  refine⟨_,rfl,by simpa using hr,fun x hx=> ?_⟩
  obtain⟨y,hy,rfl⟩:=List.mem_map.1 hx
  obtain⟨⟨s,h1,h2⟩,h3⟩:=hc y hy
  simp only[h1,Option.getD_some]
  exact⟨h2,h3⟩
 |succ q ih=>
  intro i lL rows hg hr hi hc
  obtain⟨P8,zG,h1,h2,h3,h4⟩:=aaF (i:=(i:Int)) hn i lL rows hg hr (by omega) hc
  rw[xx,pW,hg,bS,aB (by omega),h1,cq (by omega)]
  exact ih (i+1) P8 zG h2 h3 (by omega) h4
theorem acW {l:List Ce}(hl:Cs l):∃r,sf l=some r∧Cs r:=by
 obtain⟨out',DY,P8,zG,h1,h2,h3,h4⟩:=acV hl
 have hll:=hl.1
 obtain⟨r,g1,g2,g3⟩:=aaG (n:=l.length) hll l.length 0 P8 zG h2 h3 (by omega) h4
 rw[LV,Di,h1,bS]
 exact⟨r,g1,by omega,g3⟩
def Ats (n:Nat)(l:List ByteArray):Prop:=l.length=n∧∀s∈l,At s
theorem af5 {β:Type}{xs:List ByteArray}{k:Nat}{f:ByteArray→Option β}(h:k<xs.length):(idx xs (k:Int)).bind f=f (xs.getD k ByteArray.empty):=iT _ h
theorem amk {l:Hz}(hl:Sx 800 l){values:List ByteArray}(hv:Ats l.length values){i:Nat}(hi:i<l.length)(nxt:∀out:List Ce,out.length=i+1→(∀x∈out,x.1.length≤4∧At x.2.1)→∃r e,iZ l values ((i+1:Nat):Int) out=some (r,e)∧Cs r):
  ∀(q k:Nat) (a:ByteArray) (out:List Ce),q+k=l.length→At a→out.length=i→(∀x∈out,x.1.length≤4∧At x.2.1)→∃r e,kW l values i a k out=some (r,e)∧Cs r:=by
 have hll:=hl.1
 have hvl:=hv.1
 intro q
 induction q with
 |zero=>
  intro k a out hk ha ho hx
  rw[Dg,wN,az (by omega),vK hi]
  simp only
  rw[kg (by omega) (by omega),cq (by omega)]
  refine nxt _ (by simp;omega) fun x hx'=> ?_
  rcases List.mem_append.1 hx' with h |h
  ·exact hx x h
  ·rw[List.mem_singleton.1 h];exact⟨hl.getD hi,ha⟩
 |succ q ih=>
  intro k a out hk ha ho hx
  have hk':k<l.length:=by omega
  have hg1:=hl.getD hi
  have hg2:=hl.getD hk'
  obtain⟨b,hb⟩:=aoy (a:=l.getD i []) (b:=l.getD k []) (by omega) (by omega)
  have hat:At (values.getD k ByteArray.empty):=hv.2 _ (b6 (by omega))
  obtain⟨r,hr⟩:=akD hat ha
  rw[Dg,wN,aB (by omega),vK hi,vK hk',hb,bS,cq (by omega)]
  cases b with
  |true=>
   rw[cT,af5 (by omega),hr,bS]
   cases decide (r>0) with
   |true=>rw[cT,af5 (by omega)];exact ih (k+1) _ out (by omega) hat ho hx
   |false=>rw[cF];exact ih (k+1) a out (by omega) ha ho hx
  |false=>rw[cF];exact ih (k+1) a out (by omega) ha ho hx
theorem aml {l:Hz}(hl:Sx 800 l){values:List ByteArray}(hv:Ats l.length values):∀(q i:Nat) (out:List Ce),q+i=l.length→out.length=i→(∀x∈out,x.1.length≤4∧At x.2.1)→∃r e,iZ l values i out=some (r,e)∧Cs r:=by
 have hll:=hl.1
 have hvl:=hv.1
 intro q
 induction q with
 |zero=>
  intro i out hi ho hx
  obtain⟨r,h1,h2⟩:=acW (l:=out) ⟨by omega,hx⟩
  rw[Df,wM,az (by omega),h1,bS]
  exact⟨r,0,rfl,h2⟩
 |succ q ih=>
  intro i out hi ho hx
  have e0:((0:Nat):Int)=0:=rfl
  have:=amk hl hv (show i<l.length by omega) (fun o h1 h2=>ih (i+1) o (by omega) h1 h2) l.length 0 (values.getD i ByteArray.empty) out (by omega) (hv.2 _ (b6 (by omega))) ho hx
  rw[e0] at this
  rw[Df,wM,aB (by omega),af5 (by omega)]
  exact this
theorem amm {l:Hz}(hl:Sx 800 l){values:List ByteArray}(hv:Ats l.length values):∀(q i:Nat),q+i=l.length→∃r e,kV l values i=some (r,e)∧Cs r:=by
 have hll:=hl.1
 have hvl:=hv.1
 intro q
 induction q with
 |zero=>
  intro i hi
  have e0:((0:Nat):Int)=0:=rfl
  have:=aml hl hv l.length 0 [] (by omega) rfl (fun x hx=>by cases hx)
  rw[e0] at this
  rw[De,wJ,az (by omega)]
  exact this
 |succ q ih=>
  intro i hi
  have hat:At (values.getD i ByteArray.empty):=hv.2 _ (b6 (by omega))
  rw[De,wJ,aB (by omega),af5 (by omega),P6 (by have:=hat.2;omega),bS,hat.1,Bool.not_true,cF,cq (by omega)]
  exact ih (i+1) (by omega)
theorem Cs.nil:Cs []:=⟨by simp,fun x hx=>by cases hx⟩
theorem amn {l:Hz}(hl:Sx 800 l){values:List ByteArray}(hv:Ats l.length values):∃r e,Ba l values=some (r,e)∧Cs r:=by
 obtain⟨e,he⟩:=aeN hl
 have hvl:=hv.1
 rw[SL,Kj,he,bS]
 by_cases h:e=0
 ·rw[pe h,pe (by omega)]
  exact amm hl hv l.length 0 (by omega)
 ·rw[Cj h];exact⟨[],e,rfl,Cs.nil⟩
theorem aaH {values:List Int}(hvl:values.length≤1000000000000000000){c:Hz}(hc:Sx 800 c):∀(q i:Nat) (a:List ByteArray),q+i=c.length→Ats i a→∃r,ib values c i a=some r∧Cs r:=by
 have hcl:=hc.1
 intro q
 induction q with
 |zero=>
  intro i a hi ha
  obtain⟨r,e,h1,h2⟩:=amn hc (values:=a) ⟨by have:=ha.1;omega,ha.2⟩
  rw[zc,rA,az (by omega),h1,bS]
  exact⟨r,rfl,h2⟩
 |succ q ih=>
  intro i a hi ha
  have hal:=ha.1
  have push:∀s,At s→Ats (i+1) (a++[s]):=fun s hs=>⟨by simp;omega,fun x hx=>by
   rcases List.mem_append.1 hx with h |h
   ·exact ha.2 x h
   ·rw[List.mem_singleton.1 h];exact hs⟩
  rw[zc,rA,aB (by omega),cq (by omega)]
  by_cases hv:(values.length:Int)>0
  ·have h1:=Int.emod_nonneg (i:Int) (show (values.length:Int)≠0 by omega)
   have h2:=Int.emod_lt_of_pos (i:Int) hv
   have e:(i:Int).tmod (values.length:Int)=(i:Int) % (values.length:Int):=bT (by omega)
   rw[cZ hv,j5 (by omega),e,eL h1 h2,j5 (by omega)]
   obtain⟨s,h3,h4⟩:=acT (IntKind.wrap .i64 (values.getD ((i:Int) % (values.length:Int)).toNat 0+IntKind.wrap .i64 ((i:Int).tdiv (values.length:Int))))
   simp only
   rw[h3,bS,kg (by omega) (by omega)]
   exact ih (i+1) _ (by omega) (push s h4)
  ·obtain⟨s,h3,h4⟩:=acT (i:Int)
   rw[c8 hv,h3,bS,kg (by omega) (by omega)]
   exact ih (i+1) _ (by omega) (push s h4)
theorem aeQ {l:Hz}(hl:l.length≤1000000)(hs:∀s∈l,s.length≤1000000000000000000){values:List Int}(hv:values.length≤1000000000000000000):∃r,tE l values 5 3 6=some r∧Cs r:=by
 obtain⟨c,h1,h2⟩:=aeF hl hs
 obtain⟨c2,h3,h4⟩:=akC h2
 rw[Nw,E5,h1,bS,h3,bS]
 exact aaH hv h4 c2.length 0 [] (by omega) ⟨rfl,fun s hs=>by cases hs⟩
theorem I0 {β:Type}{xs:List Ce}{k:Nat}{f:Ce→Option β}(h:k<xs.length):(idx xs (k:Int)).bind f=f (xs.getD k XK):=iT XK h
theorem aaI {f:List Ce}(hf:Cs f){n:Nat}(hn:n≤f.length){s:List Int}:∀(q i:Nat),q+i=n→∃r,ed f n s i=some r:=by
 have Td:=hf.1
 intro q
 induction q with
 |zero=>intro i hi;rw[pY,mj,az (by omega)];exact⟨_,rfl⟩
 |succ q ih=>
  intro i hi
  have hg:=(hf.2 _ (b6 (d:=XK) (show i<f.length by omega))).1
  obtain⟨r,hr⟩:=M9 (a:=(f.getD i XK).1) (b:=s) (by omega)
  rw[pY,mj,aB (by omega),I0 (by omega),hr,bS,cq (by omega)]
  cases (r==0) with
  |true=>exact⟨_,rfl⟩
  |false=>rw[cF];exact ih (i+1) (by omega)
theorem WZ {f:List Ce}(hf:Cs f){n:Nat}(hn:n≤f.length)(s:List Int):∃r,gw f n s=some r:=by
 rw[Dj,wQ]
 exact aaI hf hn n 0 (by omega)
theorem ahV {f:List Ce}(hf:Cs f){i:Nat}(hi:i<f.length):∃r,mM f i=some r:=by
 obtain⟨h1,h2⟩:=hf.2 _ (b6 (d:=XK) hi)
 obtain⟨r1,e1⟩:=WX h1
 obtain⟨r2,e2⟩:=WZ hf (show i≤f.length by omega) (f.getD i XK).1
 rw[E7,zd,I0 hi,e1,bS]
 cases (r1 != 0) with
 |true=>exact⟨_,rfl⟩
 |false=>
  rw[cF,I0 hi,P6 (by have:=h2.2;omega),bS,h2.1,Bool.not_true,cF,I0 hi,e2,bS]
  cases decide (r2≥0)<;>exact⟨_,rfl⟩
theorem aeR {f:List Ce}(hf:Cs f){i:Nat}(hi:i<f.length){fc:Hz}(hfc:Sx 4 fc)(nxt:∃r,dg f ((i+1:Nat):Int)=some r):∀(q k:Nat),q+k=fc.length→∃r,ab2 f i fc k=some r:=by
 have Td:=hf.1
 have hcl:=hfc.1
 intro q
 induction q with
 |zero=>
  intro k hk
  rw[pV,mh,az (by omega),cq (by omega)]
  by_cases h:(i:Int)>0
  ·have e1:IntKind.wrap .i64 ((i:Int) - 1)=((i - 1:Nat):Int):=by rw[i64_in _ (by omega)];omega
   obtain⟨r,hr⟩:=akD (hf.2 _ (b6 (d:=XK) hi)).2 (hf.2 _ (b6 (d:=XK) (show i - 1<f.length by omega))).2
   rw[cZ h,I0 hi,e1,I0 (by omega),hr,bS]
   cases decide (r<0) with
   |true=>exact⟨_,rfl⟩
   |false=>rw[cF];exact nxt
  ·rw[c8 h];exact nxt
 |succ q ih=>
  intro k hk
  obtain⟨r,hr⟩:=WZ hf (show i≤f.length by omega) (fc.getD k [])
  rw[pV,mh,aB (by omega),vK (by omega),hr,bS,cq (by omega)]
  cases decide (r<0) with
  |true=>exact⟨_,rfl⟩
  |false=>rw[cF];exact ih (k+1) (by omega)
theorem aeS {f:List Ce}(hf:Cs f):∀(q i:Nat),q+i=f.length→∃r,dg f i=some r:=by
 have Td:=hf.1
 intro q
 induction q with
 |zero=>intro i hi;rw[pU,mf,az (by omega)];exact⟨_,rfl⟩
 |succ q ih=>
  intro i hi
  have hi':i<f.length:=by omega
  obtain⟨r1,e1⟩:=ahV hf hi'
  obtain⟨fc,e2,h2⟩:=Na (hf.2 _ (b6 (d:=XK) hi')).1
  have e0:((0:Nat):Int)=0:=rfl
  have:=aeR hf hi' h2 (ih (i+1) (by omega)) fc.length 0 (by omega)
  rw[e0] at this
  rw[pU,mf,aB (by omega),e1,bS]
  cases (r1 != 0) with
  |true=>exact⟨_,rfl⟩
  |false=>rw[cF,I0 hi',e2,bS];exact this
theorem aeT {f:List Ce}(hf:Cs f):∃r,kX f=some r:=by
 have Td:=hf.1
 rw[Dh,wP,c8 (by omega)]
 exact aeS hf f.length 0 (by omega)
end Go.Proofs.YtofjebmoebhiiaaGreatDoor.Ev
namespace Go.Abs
abbrev tTm:Ty:= .st (.pair (.int .i64) (.pair (.int .i64) .unit))
abbrev tCl:Ty:= .st (.pair (.int .i64) (.pair (.str) (.pair (.slice tTm) (.unit))))
abbrev tCh:Ty:= .st (.pair (.int .i64) (.pair (.slice tCl) (.unit)))
theorem amo (ag:List bK)(y:Cl):snap ag tCl (flat tCl y)=some (y,[]):=by
 obtain⟨a,b,c,u⟩:=y
 rfl
theorem J1 {ag:List bK}{hp:List (Option (List Cl))}(h0:ag[0]? =some ⟨42,tCl,0,true,hp⟩){p:Int}{n:Nat}{l:List Cl}(hg:af hp n=some l):
  typed ag tCh (.rv (.agg [⟨.int .i64,p⟩,⟨.ref 0,n⟩]))=some (p,(l,())):=by
 unfold typed
 simp only
 have e:snap ag (.slice tCl) [⟨.ref 0,n⟩]=some (l,[]):=by
  unfold snap OR
  simp only
  rw[h0]
  simp only
  cases n with
  |zero=>
   have:l=[]:=by simpa [af] using hg.symm
   subst this
   rfl
  |succ k=>
   have hb:Nat.beq (k+1) 0=false:=rfl
   rw[hb,hg]
   simp only[cond_false,Option.bind_some]
   rw[ME (g:=fun x:Cl=>x) l (fun y _=>by rw[amo])]
   simp
 unfold va
 rw[show snap ag (.pair (.int .i64) (.pair (.slice tCl) (.unit))) [⟨.int .i64,p⟩,⟨.ref 0,n⟩]=some ((p,(l,())),[]) from by
  unfold snap
  rw[show snap ag (.int .i64) [⟨.int .i64,p⟩,⟨.ref 0,n⟩]=some (p,[⟨.ref 0,n⟩]) from rfl]
  simp only
  unfold snap
  rw[e]
  rfl]
theorem aeU {p:Int}{n:Nat}{v:List Int}(hv:v.length≤n)(hr:Rs p v):Vc p n (XG 0 v):=⟨aes v 0 (-1) (by omega),fun t ht=>by
 obtain⟨h1,h2,h3,h4⟩:=aaq ht
 obtain⟨k,hk,he⟩:=List.getElem_of_mem h3
 have:=hr k
 simp only[List.getD,List.getElem?_eq_getElem hk,Option.getD_some] at this
 omega⟩
theorem Rs.rep {p:Int}(hp:0<p)(n:Nat):Rs p (List.replicate n 0):=fun j=>by rw[Cm];omega
end Go.Abs
namespace Go.Proofs.YtofjebmoebhiiaaGreatDoor.Ev
open Go.Abs Go.IntWalk
def Gd (p:Int)(ah:List Cl)(n:Nat):Prop:=∀x∈ah,At x.2.1∧Vc p n x.2.2.1
theorem Gd.snoc {p:Int}{ah:List Cl}{n:Nat}(h:Gd p ah n){x:Cl}(hx:At x.2.1∧Vc p n x.2.2.1):Gd p (ah++[x]) n:=fun y hy=>by
 rcases List.mem_append.1 hy with hy |hy
 ·exact h y hy
 ·rw[List.mem_singleton.1 hy];exact hx
theorem Gd.set {p:Int}{ah:List Cl}{n:Nat}(h:Gd p ah n){x:Cl}(hx:At x.2.1∧Vc p n x.2.2.1)(k:Nat):Gd p (ah.set k x) n:=fun y hy=>by
 rcases List.mem_or_eq_of_mem_set hy with hy |rfl
 ·exact h y hy
 ·exact hx
def Go1 (p:Int)(ah:List Cl):Prop:=ah.length≤30∧(ah=[]∨Pr p)∧Gd p ah ah.length
theorem XL {v:Nat}{aH:List (Option (List Int))}{l:List Int}(hg:af aH v=some l)(hl:l.length≤1000000):∀(m i:Nat) (out:List Tm),m+i=l.length→out.length≤i→cB v i out aH=some (out++XG i (l.drop i)):=by
 intro m
 induction m with
 |zero=>intro i out hi ho;rw[lF,iK,hg,bS,az (by omega),List.drop_eq_nil_of_le (by omega),XG,List.append_nil]
 |succ m ih=>
  intro i out hi ho
  have g:l[(i:Int).toNat]? =some (l.getD i 0):=by rw[Int.toNat_natCast];simp[List.getD,show i<l.length by omega]
  have hb:∀{β:Type} {f:Int→Option β},(idx l (i:Int)).bind f=f (l.getD i 0):=iT 0 (by omega)
  rw[lF,iK,hg,bS,aB (by omega),bS,hb,bS,g,bS,drop_eq (by omega),XG,cq (by omega)]
  by_cases h:l.getD i 0=0
  ·rw[pe h,ih (i+1) out (by omega) (by omega),if_neg (by omega)]
  ·rw[Cj h,bS,hb,bS,g,bS,kg (by omega) (by omega),if_pos h]
   simp only
   rw[ih (i+1) _ (by omega) (by simp;omega),List.append_assoc]
   rfl
theorem GV {v:Nat}{aH:List (Option (List Int))}{l:List Int}(hg:af aH v=some l)(hl:l.length≤1000000):bo v aH=some (XG 0 l):=by
 rw[xI,qe]
 have:=XL hg hl l.length 0 [] (by omega) (by simp)
 simpa using this
theorem akE (n:Int):∃p,tF n=some p∧Pr p:=by
 have h1:=Int.tmod_lt_of_pos n (show (0:Int)<6 by omega)
 have h2:=Int.lt_tmod_of_pos n (show (0:Int)<6 by omega)
 rw[ND,Fa]
 rw[i64_in (n.tmod 6+6) (by omega),bT (by omega)]
 have h3:=Int.emod_nonneg (n.tmod 6+6) (show (6:Int)≠0 by omega)
 have h4:=Int.emod_lt_of_pos (n.tmod 6+6) (show (0:Int)<6 by omega)
 obtain⟨i,hi⟩:=Int.eq_ofNat_of_zero_le h3
 rw[hi] at h4 ⊢
 have h5:i<6:=by omega
 match i,h5 with
 |0,_=>exact⟨2,rfl,by decide⟩
 |1,_=>exact⟨3,rfl,by decide⟩
 |2,_=>exact⟨5,rfl,by decide⟩
 |3,_=>exact⟨2,rfl,by decide⟩
 |4,_=>exact⟨251,rfl,by decide+kernel⟩
 |5,_=>exact⟨7,rfl,by decide⟩
theorem arE {k p:Int}(hk:0≤k)(hp:2≤p∧p≤251):IntKind.wrap .i64 (k.tmod 2*IntKind.wrap .i64 (p - 2))=(k % 2)*(p - 2)∧0≤(k % 2)*(p - 2)∧(k % 2)*(p - 2)≤251:=by
 have h1:=Int.emod_nonneg k (show (2:Int)≠0 by omega)
 have h2:=Int.emod_lt_of_pos k (show (0:Int)<2 by omega)
 have e:k.tmod 2=k % 2:=bT (by omega)
 rw[e,i64_in (p - 2) (by omega)]
 rcases (show k % 2=0∨k % 2=1 by omega) with h |h
 ·rw[h,Int.zero_mul];exact⟨by rw[i64_in _ (by omega)],by omega,by omega⟩
 ·rw[h,Int.one_mul];exact⟨by rw[i64_in _ (by omega)],by omega,by omega⟩
theorem akF {f:List Ce}(hf:Cs f){p:Int}(hp:Pr p){j:Nat}(hj:j≤f.length){bl:Hz}{k:Nat}(hk:k<bl.length)(hs:Sx 4 bl){v t2 ax:Nat}{t out:Int}{mL:List (Option (List Cl))}(hv:v≠0):
  ∀(q i:Nat) (aH:List (Option (List Int))) (l:List Int),q+i=j→af aH v=some l→l.length=j→Rs p l→
   ∃DY l',fH f p j v bl k i t t2 out ax mL aH=eG f p j v bl ((k+1:Nat):Int) t t2 out ax mL DY∧af DY v=some l'∧l'.length=j∧Rs p l':=by
 have Td:=hf.1
 have Xc:=hs.1
 intro q
 induction q with
 |zero=>
  intro i aH l hi hg hl hr
  rw[td,nW,az (by omega),cq (by omega)]
  exact⟨aH,l,rfl,hg,hl,hr⟩
 |succ q ih=>
  intro i aH l hi hg hl hr
  have hc:=(hf.2 _ (b6 (d:=XK) (show i<f.length by omega))).1
  obtain⟨r,he⟩:=M9 (a:=(f.getD i XK).1) (b:=bl.getD k []) (by omega)
  rw[td,nW,aB (by omega),I0 (by omega),vK hk,he,bS,cq (by omega)]
  have hp1:=hp.1
  have hp2:=hp.2.1
  obtain⟨m1,m2,m3⟩:=arE (k:=(k:Int)) (by omega) ⟨hp1,hp2⟩
  cases (r==0) with
  |false=>rw[cF];exact ih (i+1) aH l (by omega) hg hl hr
  |true=>
   have g:l[(i:Int).toNat]? =some (l.getD i 0):=by rw[Int.toNat_natCast];simp[List.getD,show i<l.length by omega]
   have hb:∀{β:Type} {f:Int→Option β},(idx l (i:Int)).bind f=f (l.getD i 0):=iT 0 (by omega)
   rw[cT]
   simp only
   rw[m1,j5 (by omega),hg,bS,hb,bS,g,bS,i64_in _ (by omega),bT (by omega)]
   exact ih (i+1) _ _ (by omega) (tY hg hv) (by rw[List.length_set];exact hl) (hr.set ⟨Int.emod_nonneg _ (by omega),Int.emod_lt_of_pos _ (by omega)⟩ _)
theorem akG {f:List Ce}(hf:Cs f){p:Int}(hp:Pr p){j:Nat}(hj:j<f.length){bl:Hz}(hs:Sx 4 bl){v t2 ax:Nat}{t out:Int}{mL:List (Option (List Cl))}(hv:v≠0){ah:List Cl}(hc:af mL ax=some ah)(hcl:ah.length=j)(hG:Gd p ah f.length)
  {G:(Int×List Cl×Unit)×Int→Prop}
  (nxt:∀MF W0 DY I1,af W0 MF=some I1→I1.length=j+1→Gd p I1 f.length→∃r,dy f p ((j+1:Nat):Int) t t2 out MF W0 DY=some r∧G r):
  ∀(q k:Nat) (aH:List (Option (List Int))) (l:List Int),q+k=bl.length→af aH v=some l→l.length=j→Rs p l→
   ∃r,eG f p j v bl k t t2 out ax mL aH=some r∧G r:=by
 have Td:=hf.1
 have Xc:=hs.1
 intro q
 induction q with
 |zero=>
  intro k aH l hk hg hl hr
  obtain⟨x1,x2⟩:=hf.2 _ (b6 (d:=XK) hj)
  rw[tc,nU,az (by omega),I0 hj]
  simp only
  rw[I0 hj,GV hg (by omega),bS]
  rw[hc,bS,kg (by omega) (by omega),cq (by omega)]
  exact nxt _ _ _ _ kq (by simp;omega) (hG.snoc ⟨x2,aeU (by omega) hr⟩)
 |succ q ih=>
  intro k aH l hk hg hl hr
  have e0:((0:Nat):Int)=0:=rfl
  obtain⟨DY,l',h1,h2,h3,h4⟩:=akF (t:=t) (t2:=t2) (out:=out) (ax:=ax) (mL:=mL) hf hp (show j≤f.length by omega) (show k<bl.length by omega) hs hv j 0 aH l (by omega) hg hl hr
  rw[e0] at h1
  rw[tc,nU,aB (by omega),h1]
  exact ih (k+1) DY l' (by omega) h2 h3 h4
theorem akH {f:List Ce}(hf:Cs f)(hf3:f.length≤30){p:Int}(hp:Pr p){t:Int}{t2:Nat}:∀(q j ax:Nat) (mL:List (Option (List Cl))) (aH:List (Option (List Int))) (ah:List Cl),q+j=f.length→af mL ax=some ah→ah.length=j→Gd p ah f.length→
  ∃r,dy f p j t t2 p ax mL aH=some r∧Go1 r.1.1 r.1.2.1:=by
 intro q
 induction q with
 |zero=>
  intro j ax mL aH ah hj hc hl hG
  rw[tb,nT,az (by omega),J1 rfl hc]
  refine⟨_,rfl, ?_,Or.inr hp, ?_⟩
  ·simp only;omega
  ·have:ah.length=f.length:=by omega
   simp only
   rw[this];exact hG
 |succ q ih=>
  intro j ax mL aH ah hj hc hl hG
  have hp1:=hp.1
  obtain⟨fc,h1,h2⟩:=Na (hf.2 _ (b6 (d:=XK) (show j<f.length by omega))).1
  have e0:((0:Nat):Int)=0:=rfl
  have:=akG (t:=t) (t2:=t2) (out:=p) (v:=aH.length+1) hf hp (show j<f.length by omega) h2 (by omega) hc hl hG (G:=fun r=>Go1 r.1.1 r.1.2.1) (fun o h0 h4 c g1 g2 g3=>ih (j+1) o h0 h4 c (by omega) g1 g2 g3) fc.length 0 (aH++[some (List.replicate j 0)]) (List.replicate j 0) (by omega) kq (by simp) (Rs.rep (by omega) _)
  rw[e0] at this
  rw[tb,nT,aB (by omega),GM (by omega) (by omega) (by omega),I0 (by omega),h1,bS]
  rw[Int.toNat_natCast]
  exact this
theorem akI {f:List Ce}(hf:Cs f){p:Int}(hj:0<f.length){bl:Hz}(hs:Sx 4 bl){v t2:Nat}{t out:Int}{aH:List (Option (List Int))}(hg:af aH v=some [])
  {G:(Int×List Cl×Unit)×Int→Prop}
  (nxt:∀MF W0 DY I1,af W0 MF=some I1→I1.length=1→Gd p I1 f.length→∃r,dy f p ((1:Nat):Int) t t2 out MF W0 DY=some r∧G r):
  ∀(q k:Nat),q+k=bl.length→∃r,gp f p 0 v bl k t t2 out 0 aH=some r∧G r:=by
 have Td:=hf.1
 have Xc:=hs.1
 have b1:∀{β:Type} {g:Ce→Option β},(idx f 0).bind g=g (f.getD 0 XK):=I0 (k:=0) hj
 intro q
 induction q with
 |zero=>
  intro k hk
  obtain⟨x1,x2⟩:=hf.2 _ (b6 (d:=XK) hj)
  rw[uU,p6,az (by omega),b1]
  simp only
  rw[b1,GV hg (by simp),bS]
  have hh:af ([]:List (Option (List Cl))) 0=some []:=rfl
  rw[hh,bS,kg (by omega) (by simp)]
  have hw:IntKind.wrap .i64 ((0:Int)+1)=((1:Nat):Int):=by rw[i64_in _ (by omega)];rfl
  rw[hw]
  refine nxt _ _ _ _ kq rfl (fun y hy=> ?_)
  rw[List.nil_append,List.mem_singleton] at hy
  rw[hy]
  exact⟨x2,Vc.nil⟩
 |succ q ih=>
  intro k hk
  rw[uU,p6,aB (by omega),aid,wU,az (by omega),cq (by omega)]
  exact ih (k+1) (by omega)
theorem amp {f:List Ce}(hf:Cs f)(hf3:f.length≤30){p:Int}(hp:Pr p):∃r,kK f p=some r∧Go1 r.1.1 r.1.2.1:=by
 have hp1:=hp.1
 obtain⟨e,he⟩:=aeT hf
 have hpr:fu p=some true:=by rw[YZ,decide_eq_true hp]
 rw[It,CM,hpr,bS,Bool.not_true,cF,he,bS]
 by_cases h:e=0
 ·rw[pe h,Dm,wS]
  by_cases hl:(0:Int)<f.length
  ·obtain⟨fc,h1,h2⟩:=Na (hf.2 _ (b6 (d:=XK) (show 0<f.length by omega))).1
   have b1:∀{β:Type} {g:Ce→Option β},(idx f 0).bind g=g (f.getD 0 XK):=I0 (k:=0) (by omega)
   have e0:((0:Nat):Int)=0:=rfl
   have:=akI (p:=p) (t:=0) (t2:=0) (out:=p) (v:=([]:List (Option (List Int))).length+1) (aH:=([]:List (Option (List Int)))++[some (List.replicate (0:Int).toNat 0)]) hf (show 0<f.length by omega) h2 kq (G:=fun r=>Go1 r.1.1 r.1.2.1) (fun o h0 h4 c g1 g2 g3=>akH hf hf3 hp (f.length - 1) 1 o h0 h4 c (by omega) g1 g2 g3) fc.length 0 (by omega)
   rw[e0] at this
   rw[aB hl,GM (by omega) (by omega) (by omega),b1,h1,bS]
   exact this
  ·rw[az hl,J1 (l:=[]) rfl rfl]
   exact⟨_,rfl,by simp,Or.inl rfl,fun x hx=>by cases hx⟩
 ·rw[Cj h,J1 (l:=[]) rfl rfl]
  exact⟨_,rfl,by simp,Or.inl rfl,fun x hx=>by cases hx⟩
end Go.Proofs.YtofjebmoebhiiaaGreatDoor.Ev
namespace Go.Proofs.YtofjebmoebhiiaaGreatDoor.Ev
open Go.Abs Go.IntWalk
theorem RO {β:Type}{xs:List Cl}{k:Nat}{f:Cl→Option β}(h:k<xs.length):(idx xs (k:Int)).bind f=f (xs.getD k sB):=iT sB h
theorem anj {xs:List Cl}{k:Nat}(h:k<xs.length):xs[(k:Int).toNat]? =some (xs.getD k sB):=by rw[Int.toNat_natCast];simp[List.getD,h]
theorem MG {β:Type}{xs:List Int}{k:Nat}{f:Int→Option β}(h:k<xs.length):(idx xs (k:Int)).bind f=f (xs.getD k 0):=iT 0 h
theorem Y3 {xs:List Int}{k:Nat}(h:k<xs.length):xs[(k:Int).toNat]? =some (xs.getD k 0):=by rw[Int.toNat_natCast];simp[List.getD,h]
theorem XM {p:Int}{ah:List Cl}(hl:ah.length≤30)(hb:∀x∈ah,x.2.2.1.length≤1000){t:Int}{t2:Nat}:∀(q i ax:Nat) (mL:List (Option (List Cl))) (r:List Cl),q+i=ah.length→af mL ax=some r→r=ah.take i→
  ∃MF W0,gm i p ah t t2 p ax mL=some ((p,(MF,())),W0)∧af W0 MF=some ah:=by
 intro q
 induction q with
 |zero=>
  intro i ax mL r hi hg hr
  rw[xA,p4,az (by omega)]
  refine⟨ax,mL,rfl, ?_⟩
  rw[hg,hr,List.take_of_length_le (by omega)]
 |succ q ih=>
  intro i ax mL r hi hg hr
  have hm:=hb _ (b6 (d:=sB) (show i<ah.length by omega))
  rw[xA,p4,aB (by omega),RO (by omega),kg (by omega) (by omega)]
  simp only
  rw[hg,bS,kg (by omega) (by rw[hr];simp;omega),cq (by omega)]
  refine ih (i+1) _ _ _ (by omega) kq ?_
  rw[hr,List.take_add_one]
  congr 1
  simp[List.getD,show i<ah.length by omega]
theorem acX {p:Int}{ah:List Cl}(hl:ah.length≤30)(hb:∀x∈ah,x.2.2.1.length≤1000):∃MF W0,rY (p,(ah,())) []=some ((p,(MF,())),W0)∧af W0 MF=some ah:=by
 rw[LZ,Dl]
 exact XM hl hb ah.length 0 0 [] [] (by omega) rfl (by simp)
theorem acY {x:List Tm}{n:Nat}(hl:x.length≤1000000000)(hx:∀t∈x,0≤t.1∧t.1<n){out:Nat}(ho0:out≠0):∀(m i:Nat) (aH:List (Option (List Int))) (l:List Int),m+i=x.length→af aH out=some l→l.length=n→
  ∃DY,aa0 x out i aH=some (out,DY)∧af DY out=some (mw l (x.drop i)):=by
 intro m
 induction m with
 |zero=>intro i aH l hi hg ho;rw[sr,lD,az (by omega),List.drop_eq_nil_of_le (by omega)];exact⟨aH,rfl,hg⟩
 |succ m ih=>
  intro i aH l hi hg ho
  have hb:∀{β:Type} {f:Tm→Option β},(idx x (i:Int)).bind f=f (x.getD i nY):=iT nY (by omega)
  have hr:=hx _ (b6 (d:=nY) (show i<x.length by omega))
  rw[sr,lD,aB (by omega),hb,hb,hg,bS,eL (by omega) (by omega),bS,rS (by omega),cq (by omega),qA nY (show i<x.length by omega),mw]
  exact ih (i+1) _ _ (by omega) (tY hg ho0) (by rw[List.length_set];exact ho)
theorem ahX {p:Int}{x:List Tm}{n:Nat}(hn:n≤1000000)(hx:Vc p n x)(aH:List (Option (List Int))):∃o DY v,lN x n aH=some (o,DY)∧o≠0∧af DY o=some v∧v.length=n∧(0<p→Rs p v):=by
 have hl:=hx.length (by omega)
 have hx':∀t∈x,0≤t.1∧t.1<n:=fun t ht=>⟨by have:=Sr.mem hx.s t ht;omega,(hx.r t ht).1⟩
 obtain⟨DY,h1,h2⟩:=acY (out:=aH.length+1) (by omega) hx' (by omega) x.length 0 (aH++[some (List.replicate n 0)]) (List.replicate n 0) (by omega) kq (by simp)
 have e0:((0:Nat):Int)=0:=rfl
 rw[e0] at h1
 rw[Hk,xH,GM (by omega) (by omega) (by omega),Int.toNat_natCast]
 simp only
 refine⟨_,DY,_,h1,by omega,h2,by rw[J0,List.length_replicate],fun hp j=> ?_⟩
 have hg:(mw (List.replicate n 0) x).getD j 0=cf x j:=by
  rw[RK hx.s (by omega) hx.c (fun t ht=>by rw[List.length_replicate];exact(hx' t ht).2),Cm]
  split<;>omega
 rw[List.drop_zero,hg]
 exact RH hp hx.c j
theorem ahY {a b:Int}{A B:Int}(ha:0≤a∧a≤A)(hb:0≤b∧b≤B):0≤a*b∧a*b≤A*B:=⟨Int.mul_nonneg ha.1 hb.1,Int.mul_le_mul ha.2 hb.2 hb.1 (by omega)⟩
theorem amq {p:Int}(hp:Pr p){ah:List Cl}(hl:ah.length≤30)(hG:Gd p ah ah.length){i j:Nat}(hi:i<ah.length)(hj:j<ah.length){m inv:Int}(hm:0≤m∧m<p)(hv:0≤inv∧inv<p){t:Int}{t2 ax:Nat}:
  ∀(q s:Nat) (mL:List (Option (List Cl))) (aH:List (Option (List Int))) (r:List Cl),q+s=ah.length→af mL ax=some r→r.length=ah.length→Gd p r ah.length→
   ∃r',iY i j m inv s p ah t t2 p ax mL aH=some (p,(r',()))∧r'.length=ah.length∧Gd p r' ah.length:=by
 have hp1:=hp.1
 have hp2:=hp.2.1
 intro q
 induction q with
 |zero=>
  intro s mL aH r hs hg hr hR
  rw[Ab,th,az (by omega),J1 rfl hg]
  exact⟨r,rfl,hr,hR⟩
 |succ q ih=>
  intro s mL aH r hs hg hr hR
  have hne:ax≠0:=aaE hg (fun e=>by rw[e] at hr;simp at hr;omega)
  have hcs:=hG _ (b6 (d:=sB) (show s<ah.length by omega))
  obtain⟨o,DY,w,h1,h2,h3,h4,h5⟩:=ahX (by omega) hcs.2 aH
  have h5:=h5 (by omega)
  have wi:=h5 i
  have wj:=h5 j
  have n1:=ahY (a:=p - 1) (b:=w.getD j 0) (A:=250) (B:=250) (by omega) (by omega)
  have n2:=Int.emod_nonneg ((p - 1)*w.getD j 0) (show p≠0 by omega)
  have n3:=Int.emod_lt_of_pos ((p - 1)*w.getD j 0) (show 0<p by omega)
  have n4:=ahY (a:=(p - 1)*w.getD j 0 % p) (b:=inv) (A:=250) (B:=250) (by omega) (by omega)
  have n5:=Int.emod_nonneg ((p - 1)*w.getD j 0 % p*inv) (show p≠0 by omega)
  have n6:=Int.emod_lt_of_pos ((p - 1)*w.getD j 0 % p*inv) (show 0<p by omega)
  have n7:=ahY (a:=(p - 1)*w.getD j 0 % p*inv % p) (b:=m) (A:=250) (B:=250) (by omega) (by omega)
  have n8:=Int.emod_nonneg (w.getD i 0+(p - 1)*w.getD j 0 % p*inv % p*m) (show p≠0 by omega)
  have n9:=Int.emod_lt_of_pos (w.getD i 0+(p - 1)*w.getD j 0 % p*inv % p*m) (show 0<p by omega)
  have e1:IntKind.wrap .i64 (IntKind.wrap .i64 (p - 1)*w.getD j 0)=(p - 1)*w.getD j 0:=by rw[i64_in (p - 1) (by omega),i64_in _ (by omega)]
  have e2:IntKind.wrap .i64 ((IntKind.wrap .i64 (((p - 1)*w.getD j 0).tmod p*inv)).tmod p*m)=(p - 1)*w.getD j 0 % p*inv % p*m:=by
   rw[bT (a:=(p - 1)*w.getD j 0) (by omega),i64_in ((p - 1)*w.getD j 0 % p*inv) (by omega),bT (a:=(p - 1)*w.getD j 0 % p*inv) (by omega),i64_in _ (by omega)]
  rw[Ab,th,aB (by omega),RO (by omega),h1,bS]
  simp only
  rw[h3,bS,MG (by omega),bS,Y3 (by omega),bS,bS,MG (by omega),bS,Y3 (by omega),bS,e1,j5 (by omega),j5 (by omega),e2,j5 (by omega),bS,MG (by omega),bS,Y3 (by omega),bS,i64_in _ (by omega),bT (a:=w.getD i 0+_) (by omega),Int.toNat_natCast]
  have g1:=tY (l':=w.set i ((w.getD i 0+(p - 1)*w.getD j 0 % p*inv % p*m) % p)) h3 h2
  have r1:Rs p (w.set i ((w.getD i 0+(p - 1)*w.getD j 0 % p*inv % p*m) % p)):=h5.set ⟨n8,n9⟩ i
  have l1:(w.set i ((w.getD i 0+(p - 1)*w.getD j 0 % p*inv % p*m) % p)).length=ah.length:=by rw[List.length_set];exact h4
  generalize w.set i ((w.getD i 0+(p - 1)*w.getD j 0 % p*inv % p*m) % p)=W at g1 r1 l1 ⊢
  have wj2:=r1 j
  have k1:=ahY (a:=W.getD j 0) (b:=inv) (A:=250) (B:=250) (by omega) (by omega)
  rw[g1,bS,MG (by omega),bS,Y3 (by omega),bS,j5 (by omega),bS,MG (by omega),bS,Y3 (by omega),bS,i64_in (W.getD j 0*inv) (by omega),bT (a:=W.getD j 0*inv) (by omega),Int.toNat_natCast]
  have g2:=tY (l':=W.set j (W.getD j 0*inv % p)) g1 h2
  have r2:Rs p (W.set j (W.getD j 0*inv % p)):=r1.set ⟨Int.emod_nonneg _ (by omega),Int.emod_lt_of_pos _ (by omega)⟩ j
  have l2:(W.set j (W.getD j 0*inv % p)).length=ah.length:=by rw[List.length_set];exact l1
  rw[GV g2 (by omega),bS,hg,bS,RO (by omega),bS,anj (by omega),bS,cq (by omega)]
  have hrs:=hR _ (b6 (d:=sB) (show s<r.length by omega))
  refine ih (s+1) _ _ _ (by omega) (tY hg hne) (by rw[List.length_set];exact hr) (hR.set ?_ _)
  exact⟨hrs.1,aeU (Nat.le_of_eq l2) r2⟩
theorem amr {p:Int}(hp:Pr p){ah:List Cl}(hl:ah.length≤30)(hG:Gd p ah ah.length){i j:Nat}(hi:i<ah.length)(hj:j<ah.length){k m inv:Int}(hk:0≤k∧k<p)(hm:0≤m∧m<p)(hv:0≤inv∧inv<p){t:Int}{t2 ax v:Nat}(hv0:v≠0)
  {a b:List Int} (ha:a.length=ah.length) (hb:b.length=ah.length) (hra:Rs p a) (hrb:Rs p b) {mL:List (Option (List Cl))} {r:List Cl} (hg:af mL ax=some r) (hr:r.length=ah.length) (hR:Gd p r ah.length):
  ∀(q s:Nat) (aH:List (Option (List Int))) (w:List Int),q+s=ah.length→af aH v=some w→w.length=ah.length→Rs p w→
   ∃r',iX i j k m inv v a b s p ah t t2 p ax mL aH=some (p,(r',()))∧r'.length=ah.length∧Gd p r' ah.length:=by
 have hp1:=hp.1
 have hp2:=hp.2.1
 intro q
 induction q with
 |zero=>
  intro s aH w hs hw hwl hwr
  have hne:ax≠0:=aaE hg (fun e=>by rw[e] at hr;simp at hr;omega)
  have hrs:=hR _ (b6 (d:=sB) (show j<r.length by omega))
  rw[Aa,te,hw,bS,az (by omega),GV hw (by omega),bS,hg,bS,RO (by omega),bS,anj (by omega),bS,cq (by omega)]
  refine amq hp hl hG hi hj hm hv (ah.length - (j+1)) (j+1) _ aH _ (by omega) (tY hg hne) (by rw[List.length_set];exact hr) (hR.set ?_ _)
  exact⟨hrs.1,aeU (by omega) hwr⟩
 |succ q ih=>
  intro s aH w hs hw hwl hwr
  have as1:=hra s
  have bs1:=hrb s
  have n1:=ahY (a:=k) (b:=a.getD s 0) (A:=250) (B:=250) (by omega) (by omega)
  have n2:=ahY (a:=m) (b:=b.getD s 0) (A:=250) (B:=250) (by omega) (by omega)
  rw[Aa,te,hw,bS,aB (by omega),MG (by omega),MG (by omega)]
  simp only
  rw[i64_in (k*a.getD s 0) (by omega),i64_in (m*b.getD s 0) (by omega),i64_in (k*a.getD s 0+m*b.getD s 0) (by omega),j5 (by omega),bS,MG (by omega),bS,Y3 (by omega),bS,bT (by omega),cq (by omega)]
  exact ih (s+1) _ _ (by omega) (tY hw hv0) (by rw[List.length_set];exact hwl) (hwr.set ⟨Int.emod_nonneg _ (by omega),Int.emod_lt_of_pos _ (by omega)⟩ _)
theorem ams {p:Int}(hp:Pr p){ah:List Cl}(hl:ah.length≤30)(hG:Gd p ah ah.length){i j:Nat}(hi:i<ah.length)(hj:j<ah.length){k m:Int}(hk:1≤k∧k<p)(hm:0≤m∧m<p):
  ∃r',vP (p,(ah,())) i j k m=some (p,(r',()))∧r'.length=ah.length∧Gd p r' ah.length:=by
 have hp1:=hp.1
 obtain⟨o,h0,g1,g2⟩:=acX (p:=p) hl (fun x hx=>by have:=(hG x hx).2.length (by omega);omega)
 obtain⟨a,e1,e2,e3⟩:=acF (by omega) (hG _ (b6 (d:=sB) hj)).2
 obtain⟨b,f1,f2,f3⟩:=acF (by omega) (hG _ (b6 (d:=sB) hi)).2
 have hiv:=RJ hp hk
 rw[PI,Gv]
 simp only
 rw[g1,bS,WS hp hk,bS,GM (by omega) (by omega) (by omega),RO hj,e1,bS,RO hi,f1,bS]
 have e0:((0:Nat):Int)=0:=rfl
 have:=amr hp hl hG hi hj (k:=k) (m:=m) (inv:=iv p k) (t:=0) (t2:=0) (v:=([]:List (Option (List Int))).length+1) (by omega) hm (by omega) (by omega) e2.len f2.len (e3 (by omega)) (f3 (by omega)) g2 rfl hG ah.length 0 ([]++[some (List.replicate ah.length 0)]) (List.replicate ah.length 0) (by omega) kq (by simp) (Rs.rep (by omega) _)
 rw[e0] at this
 simp only[Int.toNat_natCast]
 exact this
theorem vt1 {x c:Int}(hc:1≤c∧c≤1000):0≤(IntKind.wrap .i64 (x.tmod c+c)).tmod c∧(IntKind.wrap .i64 (x.tmod c+c)).tmod c<c:=by
 have h1:=Int.tmod_lt_of_pos x (show 0<c by omega)
 have h2:=Int.lt_tmod_of_pos x (show 0<c by omega)
 rw[i64_in _ (by omega),bT (by omega)]
 exact⟨Int.emod_nonneg _ (by omega),Int.emod_lt_of_pos _ (by omega)⟩
theorem aeV {p:Int}(hp:Pr p){ah:List Cl}(hl:ah.length≤30)(hG:Gd p ah ah.length){n:Nat}{x:List (List Int)}{x2 x4:List Int}{x3 t:Int}{t2:Nat}(hn:n+2<x4.length)(hn2:n<24){j:Nat}(hj:j<ah.length){k:Int}(hk:1≤k∧k<p)
  (nxt:∀I1:List Cl,I1.length=ah.length→Gd p I1 ah.length→∃r,ab1 ((n+3:Nat):Int) x x2 x3 x4 t t2 p I1=some r∧Go1 r.1 r.2.1):
  ∀(q:Nat),q≤j→∃r,hZ n j k ((q:Int) - 1) x x2 x3 x4 t t2 p ah=some r∧Go1 r.1 r.2.1:=by
 have hp1:=hp.1
 have hp2:=hp.2.1
 have e2:IntKind.wrap .i64 ((n:Int)+2)=((n+2:Nat):Int):=by rw[i64_in _ (by omega)];omega
 have e3:IntKind.wrap .i64 ((n:Int)+3)=((n+3:Nat):Int):=by rw[i64_in _ (by omega)];omega
 intro q
 induction q with
 |zero=>
  intro hq
  have c1:(((0:Nat):Int) - 1≥0)=False:=by simp
  rw[ze,rE,e3]
  simp only[c1,decide_false]
  rw[cF,cF]
  exact nxt ah rfl hG
 |succ q ih=>
  intro hq
  have e1:(((q+1:Nat):Int) - 1)=(q:Int):=by omega
  have c1:((q:Int)≥0)=True:=by simp
  rw[ze,rE,e1,e2,e3]
  simp only[c1,decide_true]
  rw[cT,RO (by omega),RO (by omega),i64_in ((q:Int) - 1) (by omega)]
  cases ((ah.getD q sB).1 != (ah.getD j sB).1) with
  |true=>rw[cT];exact ih (by omega)
  |false=>
   rw[cF,cT,MG (by omega),j5 (by omega),j5 (by omega)]
   obtain⟨r,h1,h2,h3⟩:=ams hp hl hG (i:=q) (by omega) hj hk (vt1 (x:=x4.getD (n+2) 0) (c:=p) (by omega))
   rw[h1,bS]
   exact nxt r h2 h3
theorem aeW {p:Int}(hp:Pr p){x:List (List Int)}{x2 x4:List Int}{x3 t:Int}{t2:Nat}(hx4:x4.length≤1000000000000000000):∀(q n:Nat) (ah:List Cl),24≤q+n→ah.length≤30→Gd p ah ah.length→∃r,ab1 n x x2 x3 x4 t t2 p ah=some r∧Go1 r.1 r.2.1:=by
 have hp1:=hp.1
 have hp2:=hp.2.1
 intro q
 induction q with
 |zero=>
  intro n ah hq hl hG
  have hgo:Go1 p ah:=⟨hl,Or.inr hp,hG⟩
  rw[afS,ml]
  rw[az (a:=(n:Int)) (b:=24) (by omega)]
  cases decide (IntKind.wrap .i64 ((n:Int)+2)<(x4.length:Int)) with
  |true=>exact⟨_,rfl,hgo⟩
  |false=>exact⟨_,rfl,hgo⟩
 |succ q ih=>
  intro n ah hq hl hG
  have hgo:Go1 p ah:=⟨hl,Or.inr hp,hG⟩
  rw[afS,ml]
  by_cases h24:(n:Int)<24
  ·have e1:IntKind.wrap .i64 ((n:Int)+1)=((n+1:Nat):Int):=by rw[i64_in _ (by omega)];omega
   have e2:IntKind.wrap .i64 ((n:Int)+2)=((n+2:Nat):Int):=by rw[i64_in _ (by omega)];omega
   rw[e1,e2,aB h24]
   by_cases hn:((n+2:Nat):Int)<x4.length
   ·rw[aB hn]
    by_cases hc:(ah.length:Int)>0
    ·have ep:IntKind.wrap .i64 (p - 1)=p - 1:=i64_in _ (by omega)
     obtain⟨j1,j2⟩:=vt1 (x:=x4.getD n 0) (c:=(ah.length:Int)) (by omega)
     obtain⟨j,hj⟩:=Int.eq_ofNat_of_zero_le j1
     have k0:=Int.tmod_lt_of_pos (x4.getD (n+1) 0) (show 0<p - 1 by omega)
     have k1:=Int.lt_tmod_of_pos (x4.getD (n+1) 0) (show 0<p - 1 by omega)
     have k2:IntKind.wrap .i64 (IntKind.wrap .i64 ((x4.getD (n+1) 0).tmod (p - 1)+p) - 1)=(x4.getD (n+1) 0).tmod (p - 1)+p - 1:=by rw[i64_in ((x4.getD (n+1) 0).tmod (p - 1)+p) (by omega),i64_in _ (by omega)]
     have k3:((x4.getD (n+1) 0).tmod (p - 1)+p - 1).tmod (p - 1)=((x4.getD (n+1) 0).tmod (p - 1)+p - 1) % (p - 1):=bT (by omega)
     have k4:=Int.emod_nonneg ((x4.getD (n+1) 0).tmod (p - 1)+p - 1) (show p - 1≠0 by omega)
     have k5:=Int.emod_lt_of_pos ((x4.getD (n+1) 0).tmod (p - 1)+p - 1) (show 0<p - 1 by omega)
     rw[cZ hc,MG (by omega),j5 (by omega),j5 (by omega),MG (by omega),ep,j5 (by omega),j5 (by omega)]
     simp only
     rw[k2,k3,hj,i64_in (1+_) (by omega),i64_in ((j:Int) - 1) (by omega)]
     exact aeV hp hl hG (by omega) (by omega) (show j<ah.length by omega) (by omega) (fun I1 g1 g2=>ih (n+3) I1 (by omega) (by omega) (by rw[g1];exact g2)) j (by omega)
    ·rw[c8 hc];exact⟨_,rfl,hgo⟩
   ·rw[az hn];exact⟨_,rfl,hgo⟩
  ·rw[az h24]
   cases decide (IntKind.wrap .i64 ((n:Int)+2)<(x4.length:Int)) with
   |true=>exact⟨_,rfl,hgo⟩
   |false=>exact⟨_,rfl,hgo⟩
theorem XN {p:Int}{x:List (List Int)}{x2 x4:List Int}{x3 t:Int}{t2:Nat}:ab1 0 x x2 x3 x4 t t2 p []=some (p,([],())):=by
 rw[afS,ml]
 cases decide (IntKind.wrap .i64 ((0:Int)+2)<(x4.length:Int)) with
 |true=>rfl
 |false=>rfl
theorem aeX {l:Hz}(hl:l.length≤1000000000000000000)(hs:∀s∈l,s.length≤1000000000000000000){values turns:List Int}(hv:values.length≤1000000000000000000)(ht:turns.length≤1000000000000000000)(field:Int):
  ∃r,tC (l,(values,(field,(turns,())))) 30=some r∧Go1 r.1 r.2.1:=by
 rw[NA,E8]
 simp only
 have aka:∃n:Nat,(bif decide ((40:Int)<(l.length:Int)) then (40:Int) else (l.length:Int))=n∧n≤40∧n≤l.length:=by
  by_cases h:(40:Int)<l.length
  ·rw[aB h];exact⟨40,rfl,by omega,by omega⟩
  ·rw[az h];exact⟨l.length,rfl,by omega,by omega⟩
 obtain⟨n,e1,e2,e3⟩:=aka
 rw[e1,JX (by omega) (by omega) (by omega)]
 have hcl:(cut l 0 (n:Int)).length≤40:=by simp[cut];omega
 have hcm:∀s∈cut l 0 (n:Int),s∈l:=fun s h=>by
  simp only[cut] at h
  exact List.mem_of_mem_take (List.mem_of_mem_drop h)
 obtain⟨f,h1,h2⟩:=aeQ (l:=cut l 0 (n:Int)) (by omega) (fun s h=>hs s (hcm s h)) hv
 have hf:=h2.1
 rw[h1,bS]
 have aka:∃n:Nat,(bif decide ((30:Int)<(f.length:Int)) then (30:Int) else (f.length:Int))=n∧n≤30∧n≤f.length:=by
  by_cases h:(30:Int)<f.length
  ·rw[aB h];exact⟨30,rfl,by omega,by omega⟩
  ·rw[az h];exact⟨f.length,rfl,by omega,by omega⟩
 obtain⟨k,g1,g2,g3⟩:=aka
 obtain⟨p,p1,p2⟩:=akE field
 rw[g1,JX (by omega) (by omega) (by omega),p1,bS]
 have Td:(cut f 0 (k:Int)).length≤30:=by simp[cut];omega
 have hfm:∀s∈cut f 0 (k:Int),s∈f:=fun s h=>by
  simp only[cut] at h
  exact List.mem_of_mem_take (List.mem_of_mem_drop h)
 obtain⟨r,r1,r2⟩:=amp (f:=cut f 0 (k:Int)) ⟨by omega,fun x hx=>h2.2 x (hfm x hx)⟩ Td p2
 rw[r1,bS]
 obtain⟨⟨p',ah,u⟩,e⟩:=r
 obtain⟨q1,q2,q3⟩:=r2
 simp only at q1 q2 q3 ⊢
 rcases q2 with rfl |q2
 ·rw[XN]
  exact⟨_,rfl,by simp,Or.inl rfl,q3⟩
 ·have e0:((0:Nat):Int)=0:=rfl
  have:=aeW (x:=l) (x2:=values) (x3:=field) (x4:=turns) (t:=0) (t2:=0) q2 ht 24 0 ah (by omega) q1 q3
  rw[e0] at this
  exact this
theorem Go1.sz {p:Int}{ah:List Cl}(h:Go1 p ah):Sz ah:=⟨fun j=>by
 by_cases hj:j<ah.length
 ·have:=(h.2.2 _ (b6 (d:=sB) hj)).1.2
  unfold nM;omega
 ·have:ah.getD j sB=sB:=by simp[List.getD,List.getElem?_eq_none (show ah.length≤j by omega)]
  unfold nM;rw[this];decide,fun j=>by
 by_cases hj:j<ah.length
 ·have h1:=(h.2.2 _ (b6 (d:=sB) hj)).2.length (by omega)
  have:=h.1
  omega
 ·have:ah.getD j sB=sB:=by simp[List.getD,List.getElem?_eq_none (show ah.length≤j by omega)]
  rw[this];simp⟩
end Go.Proofs.YtofjebmoebhiiaaGreatDoor.Ev
namespace Go.Proofs.YtofjebmoebhiiaaGreatDoor.Ev
open Go.Abs Go.IntWalk
theorem acZ:gj=some true:=(N0 300).symm.trans (by kernel_rfl)
theorem ahZ {ah:List Cl}(hl:ah.length≤40):∀(q i:Nat),q+i=ah.length→(∀k,k<i→(ah.getD k sB).2.2.1.length≤40∧(ah.getD k sB).2.1.size≤200)→
  ∃b,iV ah ah.length i=some b∧(b=false→∀k,k<ah.length→(ah.getD k sB).2.2.1.length≤40∧(ah.getD k sB).2.1.size≤200):=by
 intro q
 induction q with
 |zero=>
  intro i hi h
  rw[ah6,sV,az (by omega)]
  exact⟨false,rfl,fun _ k hk=>h k (by omega)⟩
 |succ q ih=>
  intro i hi h
  rw[ah6,sV,aB (by omega),RO (by omega)]
  by_cases h1:(((ah.getD i sB).2.2.1.length:Nat):Int)>40
  ·rw[cZ h1];exact⟨true,rfl,fun e=>by cases e⟩
  ·rw[c8 h1]
   by_cases h2:(((ah.getD i sB).2.1.size:Nat):Int)>200
   ·rw[cZ h2];exact⟨true,rfl,fun e=>by cases e⟩
   ·rw[c8 h2,cq (by omega)]
    refine ih (i+1) (by omega) fun k hk=> ?_
    by_cases e:k=i
    ·subst e;omega
    ·exact h k (by omega)
theorem ah0 {p:Int}{ah:List Cl}:∃b,vN (p,(ah,())) 40=some b∧(b=false→ah.length≤40∧Sz ah):=by
 rw[Ps,Gn]
 by_cases h:((ah.length:Nat):Int)>40
 ·rw[cZ h];exact⟨true,rfl,fun e=>by cases e⟩
 ·rw[c8 h]
  have e0:((0:Nat):Int)=0:=rfl
  obtain⟨b,h1,h2⟩:=ahZ (ah:=ah) (by omega) ah.length 0 (by omega) (fun k hk=>by omega)
  rw[e0] at h1
  refine⟨b,h1,fun hb=>⟨by omega,⟨fun j=> ?_,fun j=> ?_⟩⟩⟩
  ·by_cases hj:j<ah.length
   ·have:=(h2 hb j hj).2
    unfold nM;omega
   ·have:ah.getD j sB=sB:=by simp[List.getD,List.getElem?_eq_none (show ah.length≤j by omega)]
    unfold nM;rw[this];decide
  ·by_cases hj:j<ah.length
   ·have:=(h2 hb j hj).1
    omega
   ·have:ah.getD j sB=sB:=by simp[List.getD,List.getElem?_eq_none (show ah.length≤j by omega)]
    rw[this];simp
theorem amt:vO [] ((0:Int),((0:Int),()))=some true:=by
 rw[Pw,Gp]
 rfl
abbrev Chn:=Int×List Cl×Unit
theorem aoC (a b:Int):zP (.pair (.int .i64) (.pair (.int .i64) (.unit))) (a,(b,())) (a,(b,()))=true:=by
 show (a==a&&(b==b&&true))=true
 simp
end Go.Proofs.YtofjebmoebhiiaaGreatDoor.Ev
namespace Go.Abs
abbrev aeY:Ty:= .st (.pair (.slice (.slice (.int .i64))) (.pair (.slice (.int .i64)) (.pair (.int .i64) (.pair (.slice (.int .i64)) .unit))))
end Go.Abs
namespace Go.Proofs.YtofjebmoebhiiaaGreatDoor.Ev
open Go.Abs
theorem ah1 {l:List (List Int)}{v t:List Int}{f:Int}(h:Bnd aeY (l,(v,(f,(t,()))))):l.length≤1000000000000000000∧(∀s∈l,s.length≤1000000000000000000)∧v.length≤1000000000000000000∧t.length≤1000000000000000000:=by
 obtain⟨⟨h1,h2⟩,⟨h3,_⟩,_,⟨h4,_⟩,_⟩:=h
 refine⟨Nat.le_trans h1 (by decide),fun s hs=>Nat.le_trans (h2 s hs).1 (by decide),Nat.le_trans h3 (by decide),Nat.le_trans h4 (by decide)⟩
end Go.Proofs.YtofjebmoebhiiaaGreatDoor.Ev
namespace Go.Proofs.YtofjebmoebhiiaaGreatDoor.Ev
open Go.Abs Go.IntWalk
def RT (n d:Int):ByteArray:=if d=1 then ju n else (ju n++bs [47])++ju d
def as3 (s:ByteArray):ByteArray:=RT (-(u7 s).1) (u7 s).2
theorem anb {z:Int}(h:nd z≤1000):(ju z).size≤1001:=Nat.le_trans (Mw z) (by omega)
theorem alT:(bs [47]).size=1:=rfl
theorem cbl {a b:Nat}{α:Type}{x y:α}(h:a≤b):(bif Nat.ble a b then x else y)=x:=by rw[Nat.ble_eq_true_of_le h];rfl
theorem avu {n d:Int}(hn:nd n≤1000):vg (WR n d)=some (WR (-n) d):=by
 have l1:=My n
 rw[SG,Ke]
 simp only[GP]
 rw[alq (by omega),bS]
theorem as4 {n d:Int}(hn:nd n≤1000)(hd:nd d≤1000)(h0:0<d):sK (WR n d)=some (RT n d):=by
 have l1:=My n
 have l2:=My d
 have l3:=ake
 have s1:=anb hn
 have s2:=anb hd
 rw[QZ,HY]
 simp only[GP]
 rw[akf h0,bS,akd,bS]
 simp only[GP]
 rw[oV (by omega) (by omega),bS,aiR (by omega),RT]
 by_cases e:d=1
 ·subst e
  rw[if_pos rfl,pe (Rx rfl),bS]
 ·have hc:tX d 1≠0:=by unfold tX;split<;>(try split)<;>omega
  rw[if_neg e,Cj hc,bS,cbl (by rw[alT];omega),aiR (by omega),bS,cbl (by rw[ByteArray.size_append,alT];omega)]
theorem as5 {s:ByteArray}{n d:Int}(hs:s.size≤1000)(h:Rt s n d):adw s=some (RT (-n) d):=by
 obtain⟨b1,b2,b3⟩:=h.bounds hs
 have s1:=anb (z:= -n) (by rw[ad5];exact b1)
 have s2:=anb b2
 have hB:aaJ (ju n)=some (ju (-n)):=aae (FJ (k:=1000) b1 (by omega))
 rw[ajM,aia,WK (by omega),RT]
 cases h with
 |whole=>
  rw[aak,bS]
  simp only
  rw[Bool.not_false,cT,hB,bS,if_pos trivial]
 |ahA hk h1 h2 hn hd hg=>
  rw[hk,bS]
  simp only[h1,h2]
  rw[Bool.not_true,cF,hB,bS,cbl (by rw[alT];omega),cbl (by rw[ByteArray.size_append,alT];omega),if_neg (by omega)]
theorem apa {s:ByteArray}{n d:Int}(h:Rt s n d):as3 s=RT (-n) d:=by unfold as3;rw[h.val]
end Go.Proofs.YtofjebmoebhiiaaGreatDoor.Ev
namespace Go.Abs
abbrev aws:Ty:= .st (.pair (.int .i64) (.pair (.str) (.pair (.ref 2) (.unit))))
end Go.Abs
namespace Go.Proofs.YtofjebmoebhiiaaGreatDoor.Ev
open Go.Abs Go.IntWalk
theorem alY:∀(v:List Int) (i:Nat) (x:Int),XG i (v++[x])=XG i v++(if x=0 then [] else [(((i+v.length:Nat):Int),(x,()))])
 | [],i,x=>by by_cases h:x=0<;>simp[XG,h]
 |y::r,i,x=>by
  have e:i+1+r.length=i+(r.length+1):=by omega
  by_cases h:y=0
  ·simp only[List.cons_append,XG,h,ne_eq,not_true_eq_false,if_false,alY r (i+1) x,List.length_cons,e]
  ·simp only[List.cons_append,XG,h,ne_eq,not_false_eq_true,if_true,alY r (i+1) x,List.length_cons,e]
def dvv (ah:List Cl)(n m j:Nat):List Int:=(List.range m).map fun i=>cf (oW ah ((n - 1 - i:Nat):Int)) ((n - 1 - j:Nat):Int)
def Dv (ah:List Cl)(n m j:Nat):List Tm:=XG 0 (dvv ah n m j)
def pt (l:List Tm)(r:Int)(m:Nat):List Tm:=if cf l r=0 then [] else [((m:Int),(cf l r,()))]
theorem as6 (ah:List Cl)(n m j:Nat):Dv ah n (m+1) j=Dv ah n m j++pt (oW ah ((n - 1 - m:Nat):Int)) ((n - 1 - j:Nat):Int) m:=by
 unfold Dv dvv pt
 rw[List.range_succ,List.map_append,List.map_cons,List.map_nil,alY]
 simp
theorem ap9 (ah:List Cl)(n m j:Nat):(Dv ah n m j).length≤m:=by
 have:=alU (dvv ah n m j) 0
 have e:(dvv ah n m j).length=m:=by simp[dvv]
 unfold Dv;omega
theorem avv (r:Int)(m:Nat):pt [] r m=[]:=by unfold pt;rw[WO,if_pos rfl]
theorem al1 {t:Tm}{r:Int}(h:t.1≠r):∀l:List Tm,cf (l++[t]) r=cf l r
 | []=>by rw[List.nil_append,M7,if_neg h]
 |x::l=>by rw[List.cons_append,M7,M7,al1 h l]
theorem ape {t:Tm}:∀(l:List Tm) (lo:Int),Sr lo (l++[t])→cf l t.1=0∧cf (l++[t]) t.1=t.2.1
 | [],lo,h=>⟨rfl,by rw[List.nil_append,M7,if_pos rfl]⟩
 |x::l,lo,h=>by
  have h2:Sr x.1 (l++[t]):=h.2
  have hlt:=h2.mem t (by simp)
  rw[List.cons_append,M7,M7,if_neg (by omega),if_neg (by omega)]
  exact ape l x.1 h2
theorem Sr.left {b:List Tm}:∀{a:List Tm} {lo:Int},Sr lo (a++b)→Sr lo a
 | [],_,_=>trivial
 |_::_,_,h=>⟨h.1,Sr.left h.2⟩
theorem am1 {l:List Tm}{i:Nat}(h:i<l.length):l.take (i+1)=l.take i++[l.getD i nY]:=by
 rw[List.take_add_one,List.getElem?_eq_getElem h];simp[List.getD,h]
theorem auo {l:List Tm}{i:Nat}(hs:Sr (-1) l)(h:i<l.length):cf (l.take i) (l.getD i nY).1=0∧cf (l.take (i+1)) (l.getD i nY).1=(l.getD i nY).2.1∧∀r,(l.getD i nY).1≠r→cf (l.take (i+1)) r=cf (l.take i) r:=by
 have h2:Sr (-1) (l.take (i+1)):=by
  have h3:=hs
  rw[←List.take_append_drop (i+1) l] at h3
  exact Sr.left h3
 rw[am1 h] at h2 ⊢
 obtain⟨h4,h5⟩:=ape _ _ h2
 exact⟨h4,h5,fun r hr=>al1 hr _⟩
abbrev CR:=Int×ByteArray×Nat×Unit
abbrev cr0:CR:=(0,(ByteArray.empty,(0,())))
theorem akT {α:Type}(d:α){l:List α}{k j:Nat}{v:α}:(l.set k v).getD j d=if k=j∧k<l.length then v else l.getD j d:=by
 by_cases h:k=j
 ·subst h
  by_cases h2:k<l.length<;>simp[List.getD,h2]
 ·simp[List.getD,h]
theorem akU {α:Type}(xs:List (Option (List α)))(m:Nat):(ix xs m).length=xs.length:=by cases m<;>simp[ix]
theorem aqa {α:Type}{xs:List (Option (List α))}{m r:Nat}{l:List α}{o:Option (List α)}(h:af xs r=some l)(hne:r=m→r=0):af (ix xs m++[o]) r=some l:=by
 cases r with
 |zero=>exact h
 |succ r=>
  have aAL:r+1≠m:=fun e=>by have:=hne e;omega
  have hx:xs[r]? =some (some l):=by
   have h':(match xs[r]? with |some o=>o |none=>none)=some l:=h
   cases hr:xs[r]? with
   |none=>rw[hr] at h';cases h'
   |some o=>rw[hr] at h';simp only at h';rw[h']
  have hlt:r<xs.length:=(List.getElem?_eq_some_iff.1 hx).1
  have hk:(ix xs m)[r]? =some (some l):=by
   cases m with
   |zero=>exact hx
   |succ m=>show (xs.set m none)[r]? =_;rw[List.getElem?_set_ne (by omega)];exact hx
  show (match (ix xs m++[o])[r]? with |some o=>o |none=>none)=some l
  rw[List.getElem?_append_left (by rw[akU];exact hlt),hk]
theorem ak0 {α:Type}{xs:List (Option (List α))}{m:Nat}{l:List α}:af (ix xs m++[some l]) ((ix xs m).length+1)=some l:=kq
structure DS (n:Nat) (ds:Nat→Int×ByteArray) (rs:List CR) (hp2:List (Option (List Tm))) (L:Nat→List Tm):Prop where
 len:rs.length=n
 get:∀j,j<n→af hp2 (rs.getD j cr0).2.2.1=some (L j)
 inj:∀i j,i<n→j<n→i≠j→(rs.getD i cr0).2.2.1=(rs.getD j cr0).2.2.1→(rs.getD i cr0).2.2.1=0
 lt:∀j,j<n→(rs.getD j cr0).2.2.1≤hp2.length
 ds:∀j,j<n→(rs.getD j cr0).1=(ds j).1∧(rs.getD j cr0).2.1=(ds j).2
theorem DS.congr {n:Nat}{ds:Nat→Int×ByteArray}{rs:List CR}{hp2:List (Option (List Tm))}{L L':Nat→List Tm}(h:DS n ds rs hp2 L)(e:∀j,j<n→L j=L' j):DS n ds rs hp2 L':=
 ⟨h.len,fun j hj=>by rw[h.get j hj,e j hj],h.inj,h.lt,h.ds⟩
theorem DS.step {n:Nat}{ds:Nat→Int×ByteArray}{rs:List CR}{hp2:List (Option (List Tm))}{L:Nat→List Tm}(h:DS n ds rs hp2 L){j:Nat}(hj:j<n){x:Tm}:
  DS n ds (rs.set j ((rs.getD j cr0).1,((rs.getD j cr0).2.1,((ix hp2 (rs.getD j cr0).2.2.1).length+1,())))) (ix hp2 (rs.getD j cr0).2.2.1++[some (L j++[x])]) (fun i=>if i=j then L j++[x] else L i):=by
 have hl:=h.len
 have nw:∀i,(rs.set j ((rs.getD j cr0).1,((rs.getD j cr0).2.1,((ix hp2 (rs.getD j cr0).2.2.1).length+1,())))).getD i cr0=if i=j then ((rs.getD j cr0).1,((rs.getD j cr0).2.1,((ix hp2 (rs.getD j cr0).2.2.1).length+1,()))) else rs.getD i cr0:=fun i=>by
  rw[akT]
  by_cases e:i=j
  ·subst e;rw[if_pos ⟨rfl,by omega⟩,if_pos rfl]
  ·rw[if_neg (fun h=>e h.1.symm),if_neg e]
 refine⟨by rw[List.length_set];exact hl,fun i hi=> ?_,fun a b ha hb hab=> ?_,fun i hi=> ?_,fun i hi=> ?_⟩
 ·rw[nw]
  by_cases e:i=j
  ·subst e
   rw[if_pos rfl]
   simp only[if_true]
   exact ak0
  ·rw[if_neg e]
   simp only[if_neg e]
   exact aqa (h.get i hi) fun h2=>h.inj i j hi hj e h2
 ·rw[nw,nw]
  by_cases ea:a=j
  ·subst ea
   rw[if_pos rfl,if_neg (Ne.symm hab)]
   intro e2
   have:=h.lt b hb
   simp only at e2
   rw[akU] at e2
   omega
  ·rw[if_neg ea]
   by_cases eb:b=j
   ·subst eb
    rw[if_pos rfl]
    intro e2
    have:=h.lt a ha
    simp only at e2
    rw[akU] at e2
    omega
   ·rw[if_neg eb]
    exact h.inj a b ha hb hab
 ·rw[nw,List.length_append,akU]
  by_cases e:i=j
  ·rw[if_pos e];simp
  ·rw[if_neg e];exact Nat.le_succ_of_le (h.lt i hi)
 ·rw[nw]
  by_cases e:i=j
  ·subst e;rw[if_pos rfl];exact h.ds i hi
  ·rw[if_neg e];exact h.ds i hi
theorem aup (ag:List bK)(y:Tm):snap ag tTm (flat tTm y)=some (y,[]):=by
 obtain⟨a,b,u⟩:=y
 rfl
theorem auq {ag:List bK}{hp2:List (Option (List Tm))}(h2:ag[2]? =some ⟨44,tTm,0,true,hp2⟩){r:CR}{l:List Tm}(h:af hp2 r.2.2.1=some l):snap ag tCl (flat aws r)=some ((r.1,(r.2.1,(l,()))),[]):=by
 obtain⟨a,b,m,u⟩:=r
 simp only at h ⊢
 have e:snap ag (.slice tTm) [⟨.ref 2,m⟩]=some (l,[]):=by
  unfold snap OR
  simp only
  rw[h2]
  simp only
  cases m with
  |zero=>
   have:l=[]:=by simpa [af] using h.symm
   subst this
   rfl
  |succ k=>
   have hb:Nat.beq (k+1) 0=false:=rfl
   rw[hb,h]
   simp only[cond_false,Option.bind_some]
   rw[ME (g:=fun x:Tm=>x) l (fun y _=>by rw[aup])]
   simp
 show snap ag (.pair (.int .i64) (.pair .str (.pair (.slice tTm) .unit))) [⟨.int .i64,a⟩,⟨.str,b⟩,⟨.ref 2,m⟩]=_
 unfold snap
 rw[show snap ag (.int .i64) [⟨.int .i64,a⟩,⟨.str,b⟩,⟨.ref 2,m⟩]=some (a,[⟨.str,b⟩,⟨.ref 2,m⟩]) from rfl]
 simp only
 unfold snap
 rw[show snap ag .str [⟨.str,b⟩,⟨.ref 2,m⟩]=some (b,[⟨.ref 2,m⟩]) from rfl]
 simp only
 unfold snap
 rw[e]
 rfl
theorem ao1 {ag:List bK}{hp1:List (Option (List CR))}{hp2:List (Option (List Tm))}(h1:ag[1]? =some ⟨42,aws,0,true,hp1⟩)(h2:ag[2]? =some ⟨44,tTm,0,true,hp2⟩){p:Int}{n:Nat}{rs:List CR}(hg:af hp1 n=some rs){g:CR→List Tm}(hr:∀r∈rs,af hp2 r.2.2.1=some (g r)):
  typed ag tCh (.rv (.agg [⟨.int .i64,p⟩,⟨.ref 1,n⟩]))=some (p,(rs.map fun r=>(r.1,(r.2.1,(g r,()))),())):=by
 unfold typed
 simp only
 have e:snap ag (.slice tCl) [⟨.ref 1,n⟩]=some (rs.map fun r=>(r.1,(r.2.1,(g r,()))),[]):=by
  unfold snap OR
  simp only
  rw[h1]
  simp only
  cases n with
  |zero=>
   have:rs=[]:=by simpa [af] using hg.symm
   subst this
   rfl
  |succ k=>
   have hb:Nat.beq (k+1) 0=false:=rfl
   rw[hb,hg]
   simp only[cond_false,Option.bind_some]
   rw[ME (g:=fun r:CR=>(r.1,(r.2.1,(g r,())))) rs (fun y hy=>by rw[auq h2 (hr y hy)])]
   simp
 unfold va
 rw[show snap ag (.pair (.int .i64) (.pair (.slice tCl) (.unit))) [⟨.int .i64,p⟩,⟨.ref 1,n⟩]=some ((p,(rs.map fun r=>(r.1,(r.2.1,(g r,()))),())),[]) from by
  unfold snap
  rw[show snap ag (.int .i64) [⟨.int .i64,p⟩,⟨.ref 1,n⟩]=some (p,[⟨.ref 1,n⟩]) from rfl]
  simp only
  unfold snap
  rw[e]
  rfl]
end Go.Proofs.YtofjebmoebhiiaaGreatDoor.Ev
namespace Go.Proofs.YtofjebmoebhiiaaGreatDoor.Ev
open Go.Abs Go.IntWalk
theorem alQ {α β:Type}(d:α){xs:List α}{k:Nat}{f:α→Option β}(h:k<xs.length):(xs[k]?).bind f=f (xs.getD k d):=by rw[List.getElem?_eq_getElem h];simp[List.getD,h]
theorem anc {last k c t4 p:Int}{ah:List Cl}{t5 o:Nat}{hp1:List (Option (List CR))}:ns last k c ah t4 t5 p o hp1=sJ last k c ah t4 t5 p o hp1 []:=rfl
theorem anf {ah:List Cl}{n:Nat}(hc:ah.length=n)(hn:n≤1024){q0:Int}{m:Nat}(hm:m<n)(hv:Vc q0 n (oW ah ((n - 1 - m:Nat):Int))){ds:Nat→Int×ByteArray}{c t4 p:Int}{t5:Nat}:
  ∀(q i:Nat) (rs:List CR) (hp2:List (Option (List Tm))),q+i=(oW ah ((n - 1 - m:Nat):Int)).length→DS n ds rs hp2 (fun j=>Dv ah n m j++pt ((oW ah ((n - 1 - m:Nat):Int)).take i) ((n - 1 - j:Nat):Int) m)→
  ∃rs' aqb,DS n ds rs' aqb (Dv ah n (m+1))∧gP ((n:Int) - 1) ((n - 1 - m:Nat):Int) (oW ah ((n - 1 - m:Nat):Int)) (oW ah ((n - 1 - m:Nat):Int)).length i c ah t4 t5 p 1 [some rs] hp2=
   sJ ((n:Int) - 1) (((n - 1 - m:Nat):Int) - 1) c ah t4 t5 p 1 [some rs'] aqb:=by
 intro q
 induction q with
 |zero=>
  intro i rs hp2 hi h
  refine⟨rs,hp2,h.congr fun j hj=> ?_, ?_⟩
  ·rw[List.take_of_length_le (by omega),as6]
  ·rw[QR,HR,az (by omega),i64_in (((n - 1 - m:Nat):Int) - 1) (by omega)]
 |succ q ih=>
  intro i rs hp2 hi h
  generalize hb:oW ah ((n - 1 - m:Nat):Int)=b at*
  have hi':i<b.length:=by omega
  have hlen:b.length≤1024:=by have:=hv.length (by omega);omega
  have ht:b.getD i nY∈b:=b6 hi'
  obtain⟨c1,c2,c3⟩:=auo hv.s hi'
  have r1:=hv.r _ ht
  have r0:=Sr.mem hv.s _ ht
  generalize hte:b.getD i nY=t at*
  obtain⟨j,hj⟩:∃j:Nat,(n:Int) - 1 - t.1=(j:Int):=⟨((n:Int) - 1 - t.1).toNat,by omega⟩
  have hjn:j<n:=by omega
  have ej:((n - 1 - j:Nat):Int)=t.1:=by omega
  have g1:af [some rs] 1=some rs:=rfl
  have ew:IntKind.wrap .i64 ((n:Int) - 1 - t.1)=(j:Int):=by rw[hj,i64_in _ (by omega)]
  have em:IntKind.wrap .i64 ((n:Int) - 1 - ((n - 1 - m:Nat):Int))=(m:Int):=by rw[i64_in _ (by omega)];omega
  have hjl:j<rs.length:=by rw[h.len];exact hjn
  have hg:=h.get j hjn
  have st:=h.step hjn (x:=((m:Int),(t.2.1,())))
  rw[ej,show pt (b.take i) t.1 m=[] from by unfold pt;rw[if_pos c1],List.append_nil] at hg
  have hll:=ap9 ah n m j
  have hs1:∀rs',b9 [some rs] 1 rs'=[some rs']:=fun _=>rfl
  obtain⟨rs',aqb,k1,k2⟩:=ih (i+1) _ _ (by omega) (st.congr fun j' hj'=>by
   by_cases e:j'=j
   ·subst e
    rw[if_pos rfl,ej,show pt (b.take i) t.1 m=[] from by unfold pt;rw[if_pos c1],show pt (b.take (i+1)) t.1 m=[((m:Int),(t.2.1,()))] from by unfold pt;rw[c2,if_neg (by omega)],List.append_nil]
   ·rw[if_neg e]
    have:cf (b.take (i+1)) ((n - 1 - j':Nat):Int)=cf (b.take i) ((n - 1 - j':Nat):Int):=c3 _ (by omega)
    unfold pt
    rw[this])
  refine⟨rs',aqb,k1, ?_⟩
  rw[←k2,QR,HR,aB (by omega),iT nY hi',hte,g1,bS,ew,iT cr0 hjl,bS,Int.toNat_natCast,alQ cr0 hjl,hg,bS,kg (by omega) (by omega),bS,alQ cr0 hjl,hs1,em,cq (by omega)]
  simp only[ej,show pt (b.take i) t.1 m=[] from by unfold pt;rw[if_pos c1],List.append_nil]
theorem anh {ah:List Cl}{n:Nat}(hc:ah.length=n)(hn:n≤1024){q0:Int}(hv:∀j,j<n→Vc q0 n (oW ah j)){ds:Nat→Int×ByteArray}{c t4 p:Int}{t5:Nat}:
  ∀(q m:Nat) (rs:List CR) (hp2:List (Option (List Tm))),q+m=n→DS n ds rs hp2 (Dv ah n m)→
  sJ ((n:Int) - 1) ((n:Int) - 1 - m) c ah t4 t5 p 1 [some rs] hp2=some ((p,((List.range n).map fun j=>((ds j).1,((ds j).2,(Dv ah n n j,()))),())),0):=by
 intro q
 induction q with
 |zero=>
  intro m rs hp2 hq h
  obtain rfl:m=n:=by omega
  have hr:∀r∈rs,af hp2 r.2.2.1=some ((af hp2 r.2.2.1).getD []):=fun r hr=>by
   obtain⟨j,hj,e⟩:=List.getElem_of_mem hr
   have:=h.get j (by rw[←h.len];exact hj)
   have e2:rs.getD j cr0=r:=by simp[List.getD,hj,e]
   rw[e2] at this
   rw[this];rfl
  rw[QS,HS,tu (by omega),ao1 (hp1:=[some rs]) (hp2:=hp2) rfl rfl (rs:=rs) rfl hr]
  have e:(rs.map fun r=>(r.1,(r.2.1,((af hp2 r.2.2.1).getD [],()))))=((List.range m).map fun j=>((ds j).1,((ds j).2,(Dv ah m m j,())))):=by
   apply List.ext_getElem
   ·simp[h.len]
   ·intro j hj1 hj2
    have hj:j<m:=by simpa using hj2
    have hjl:j<rs.length:=by rw[h.len];exact hj
    have e2:rs.getD j cr0=rs[j]:=by simp[List.getD,hjl]
    obtain⟨d1,d2⟩:=h.ds j hj
    have d3:=h.get j hj
    rw[e2] at d1 d2 d3
    simp only[List.getElem_map,List.getElem_range]
    rw[d1,d2,d3];rfl
  rw[e];rfl
 |succ q ih=>
  intro m rs hp2 hq h
  have hm:m<n:=by omega
  have ek:(n:Int) - 1 - m=((n - 1 - m:Nat):Int):=by omega
  have hv':=hv (n - 1 - m) (by omega)
  obtain⟨rs',aqb,k1,k2⟩:=anf hc hn hm hv' (c:=c) (t4:=t4) (p:=p) (t5:=t5) (oW ah ((n - 1 - m:Nat):Int)).length 0 rs hp2 (by omega) (h.congr fun j hj=>by rw[List.take_zero,avv,List.append_nil])
  have e0:((0:Nat):Int)=0:=rfl
  rw[e0] at k2
  have ek2:((n - 1 - m:Nat):Int) - 1=(n:Int) - 1 - ((m+1:Nat):Int):=by omega
  rw[ek,QS,HS,tt (by omega),iT sB (by omega), ←IY,k2,ek2]
  exact ih (m+1) rs' aqb (by omega) k1
def dsf (ah:List Cl)(n j:Nat):Int×ByteArray:=(4 - (ah.getD (n - 1 - j) sB).1,as3 (nM ah (n - 1 - j)))
def akn (ah:List Cl):List Cl:=(List.range ah.length).map fun j=>((dsf ah ah.length j).1,((dsf ah ah.length j).2,(Dv ah ah.length ah.length j,())))
theorem anm {ah:List Cl}{n:Nat}(hc:ah.length=n)(hn:n≤1024)(hd:∀j,j<n→0≤(ah.getD j sB).1∧(ah.getD j sB).1≤4)(ha:∀j,j<n→zE (nM ah j)=true∧(nM ah j).size≤1000){c t3 p:Int}{t4:Nat}:
  ∀(q j:Nat) (rs:List CR),q+j=n→rs.length=n→(∀i,i<n→rs.getD i cr0=if i<j then ((dsf ah n i).1,((dsf ah n i).2,(0,()))) else cr0)→
  ∃rs',rs'.length=n∧(∀i,i<n→rs'.getD i cr0=((dsf ah n i).1,((dsf ah n i).2,(0,()))))∧
   nr ((n:Int) - 1) n j c ah t3 t4 p 1 [some rs]=ns ((n:Int) - 1) ((n:Int) - 1) c ah t3 t4 p 1 [some rs']:=by
 intro q
 induction q with
 |zero=>
  intro j rs hq hl h
  refine⟨rs,hl,fun i hi=>by rw[h i hi,if_pos (by omega)], ?_⟩
  rw[SA,Ka,az (by omega)]
 |succ q ih=>
  intro j rs hq hl h
  have hj:j<n:=by omega
  have hk:n - 1 - j<n:=by omega
  obtain⟨a1,a2⟩:=ha _ hk
  obtain⟨d1,d2⟩:=hd _ hk
  obtain⟨m,d,hR⟩:=IW.1 a1
  obtain⟨b1,b2,b3⟩:=hR.bounds a2
  have ew:IntKind.wrap .i64 ((n:Int) - 1 - (j:Int))=((n - 1 - j:Nat):Int):=by rw[i64_in _ (by omega)];omega
  have g1:∀rs:List CR,af [some rs] 1=some rs:=fun _=>rfl
  have hs1:∀rs rs':List CR,b9 [some rs] 1 rs'=[some rs']:=fun _ _=>rfl
  have hjl:j<rs.length:=by omega
  have hr:jD (ah.getD (n - 1 - j) sB).2.1=some (WR m d,true):=YX a2 hR
  obtain⟨rs',k1,k2,k3⟩:=ih (j+1) (rs.set j (4 - (ah.getD (n - 1 - j) sB).1,(RT (-m) d,(0,())))) (by omega) (by rw[List.length_set];exact hl) (fun i hi=>by
   rw[akT]
   by_cases e:j=i
   ·subst e
    rw[if_pos ⟨rfl,hjl⟩,if_pos (by omega)]
    unfold dsf
    rw[apa hR]
   ·rw[if_neg (fun h=>e h.1),h i hi]
    by_cases e2:i<j
    ·rw[if_pos e2,if_pos (by omega)]
    ·rw[if_neg e2,if_neg (by omega)])
  refine⟨rs',k1,k2, ?_⟩
  rw[←k3,SA,Ka,aB (by omega),ew,iT sB (by omega),hr,bS]
  simp only[GP]
  rw[avu b1,bS]
  simp only[GP]
  have hj0:rs.getD j cr0=cr0:=by rw[h j hj,if_neg (by omega)]
  rw[as4 (by rw[ad5];exact b1) b2 b3,bS,g1,bS,iT cr0 hjl,bS,Int.toNat_natCast,alQ cr0 hjl,hs1,g1,bS,iT cr0 (by rw[List.length_set];exact hjl),bS,alQ cr0 (by rw[List.length_set];exact hjl),akT,if_pos ⟨rfl,hjl⟩,hs1,List.set_set,hj0,cq (by omega),i64_in (4 - _) (by omega)]
theorem ak1 {p:Int}{ah:List Cl}(hs:Sz ah):wa (p,(ah,()))=some (if iN p ah=0 then ((p,(akn ah,())),0) else ((0,([],())),iN p ah)):=by
 rw[Xs,QT]
 simp only
 rw[MB hs,bS]
 by_cases h0:iN p ah=0
 ·obtain⟨hp,hl,hg⟩:=ako h0
  obtain⟨n,hn⟩:∃n,ah.length=n:=⟨_,rfl⟩
  have hv:∀j,j<n→Vc p n (oW ah j):=fun j hj=>(hg j (by omega)).bd.mono (by omega)
  rw[if_pos h0,pe h0,GM (by omega) (by omega) (by omega),i64_in ((ah.length:Int) - 1) (by omega),Int.toNat_natCast,hn]
  have g0:af (([]:List (Option (List CR)))++[some (List.replicate n cr0)]) (([]:List (Option (List CR))).length+1)=some (List.replicate n cr0):=rfl
  have g1:(([]:List (Option (List CR)))++[some (List.replicate n cr0)])=[some (List.replicate n cr0)]:=rfl
  rw[g0,bS,List.length_replicate,g1]
  obtain⟨rs',k1,k2,k3⟩:=anm hn (by omega) (fun j hj=>(hg j (by omega)).W4) (fun j hj=>⟨(hg j (by omega)).at_,hs.at_ j⟩) (c:=p) (t3:=0) (p:=p) (t4:=0) n 0 (List.replicate n cr0) (by omega) (by simp) (fun i hi=>by rw[if_neg (by omega)];simp[List.getD,hi])
  have e0:((0:Nat):Int)=0:=rfl
  rw[e0] at k3
  have e1:(([]:List (Option (List CR))).length+1)=1:=rfl
  rw[e1,k3,anc]
  have key:=anh hn (by omega) hv (ds:=dsf ah n) (c:=p) (t4:=0) (p:=p) (t5:=0) n 0 rs' [] (by omega) ⟨k1,fun j hj=>by rw[k2 j hj];rfl,fun i j hi hj _ _=>by rw[k2 i hi],fun j hj=>by rw[k2 j hj];exact Nat.zero_le _,fun j hj=>by rw[k2 j hj];exact⟨rfl,rfl⟩⟩
  have e2:(n:Int) - 1 - ((0:Nat):Int)=(n:Int) - 1:=by omega
  rw[e2] at key
  rw[key]
  unfold akn
  rw[hn]
 ·rw[if_neg h0,Cj h0,J1 (l:=[]) rfl rfl]
  rfl
end Go.Proofs.YtofjebmoebhiiaaGreatDoor.Ev
namespace Go.Proofs.YtofjebmoebhiiaaGreatDoor.Ev
open Go.Abs Go.IntWalk
theorem ao2 {n j c t out:Int}{ah:List Cl}{t2 o:Nat}:aho n j c ah t t2 out o=adr n j c ah t t2 out o [] []:=rfl
theorem aqc {α:Type}{xs:List (Option (List α))}{l l':List α}:b9 (xs++[some l]) (xs.length+1) l'=xs++[some l']:=by
 show (xs++[some l]).set xs.length (some l')=_
 rw[List.set_append_right _ _ (Nat.le_refl _),Nat.sub_self]
 rfl
theorem aoe {ah:List Cl}{n m j r:Nat}(h:r<m):(dvv ah n m j).getD r 0=cf (oW ah ((n - 1 - r:Nat):Int)) ((n - 1 - j:Nat):Int):=by
 unfold dvv;simp[List.getD,h]
theorem arY {a b:List Int}(hl:a.length=b.length)(h:∀r,r<a.length→a.getD r 0=b.getD r 0):a=b:=by
 apply List.ext_getElem hl
 intro r h1 h2
 have:=h r h1
 simpa [List.getD,h1,h2] using this
theorem amD {ah:List Cl}{n:Nat}(hc:ah.length=n)(hn:n≤1024){p0:Int}(hv:∀j,j<n→Vc p0 n (oW ah j)){j:Nat}(hj:j<n){c t p x:Int}{t2 o:Nat}{x2:ByteArray}{x3:List Tm}{mL:List (Option (List Cl))}{B:List (Option (List Int))}:
  ∀(q i:Nat) (row:List Int),q+i=n→row.length=n→(∀r,r<n→row.getD r 0=if r<i then cf (oW ah ((n - 1 - r:Nat):Int)) ((n - 1 - j:Nat):Int) else 0)→
  ac2 n j (B.length+1) i c ah t t2 p o x x2 x3 mL (B++[some row])=ac2 n j (B.length+1) n c ah t t2 p o x x2 x3 mL (B++[some (dvv ah n n j)]):=by
 intro q
 induction q with
 |zero=>
  intro i row hq hl h
  obtain rfl:i=n:=by omega
  have:row=dvv ah i i j:=arY (by rw[hl];simp[dvv]) fun r hr=>by rw[h r (by omega),if_pos (by omega),aoe (by omega)]
  rw[this]
 |succ q ih=>
  intro i row hq hl h
  have hi:i<n:=by omega
  obtain⟨v,d1,d2,d3⟩:=acF (p:=p0) (by omega) (hv (n - 1 - i) (by omega))
  have e1:IntKind.wrap .i64 (IntKind.wrap .i64 ((n:Int) - 1) - (i:Int))=((n - 1 - i:Nat):Int):=by rw[i64_in ((n:Int) - 1) (by omega),i64_in _ (by omega)];omega
  have e2:IntKind.wrap .i64 (IntKind.wrap .i64 ((n:Int) - 1) - (j:Int))=((n - 1 - j:Nat):Int):=by rw[i64_in ((n:Int) - 1) (by omega),i64_in _ (by omega)];omega
  have hvl:=d2.len
  rw[ah3,agk,aB (by omega),e1,iT sB (by omega), ←IY,d1,bS,e2,iT 0 (by omega),d2.at_ _ (by omega),kq,bS,iT 0 (by omega),bS,Int.toNat_natCast,alQ 0 (by omega),aqc,cq (by omega)]
  refine ih (i+1) _ (by omega) (by rw[List.length_set];exact hl) fun r hr=> ?_
  rw[akT]
  by_cases e:i=r
  ·subst e;rw[if_pos ⟨rfl,by omega⟩,if_pos (by omega)]
  ·rw[if_neg (fun h=>e h.1),h r hr]
   by_cases e3:r<i
   ·rw[if_pos e3,if_pos (by omega)]
   ·rw[if_neg e3,if_neg (by omega)]
abbrev dcl (ah:List Cl)(n j:Nat):Cl:=((dsf ah n j).1,((dsf ah n j).2,(Dv ah n n j,())))
theorem amE {ah:List Cl}{n:Nat}(hc:ah.length=n)(hn:n≤1024)(hd:∀j,j<n→0≤(ah.getD j sB).1∧(ah.getD j sB).1≤4)(ha:∀j,j<n→zE (nM ah j)=true∧(nM ah j).size≤1000){p0:Int}(hv:∀j,j<n→Vc p0 n (oW ah j)){c t p:Int}{t2:Nat}:
  ∀(q j o:Nat) (mL:List (Option (List Cl))) (aH:List (Option (List Int))),q+j=n→af mL o=some ((List.range j).map (dcl ah n))→
  adr n j c ah t t2 p o mL aH=some (p,((List.range n).map (dcl ah n),())):=by
 intro q
 induction q with
 |zero=>
  intro j o mL aH hq hg
  obtain rfl:j=n:=by omega
  rw[ahW,af6,az (by omega),J1 rfl hg]
  rfl
 |succ q ih=>
  intro j o mL aH hq hg
  have hj:j<n:=by omega
  have hk:n - 1 - j<n:=by omega
  obtain⟨a1,a2⟩:=ha _ hk
  obtain⟨d1,d2⟩:=hd _ hk
  obtain⟨m,d,hR⟩:=IW.1 a1
  have e0:((0:Nat):Int)=0:=rfl
  have e2:IntKind.wrap .i64 (IntKind.wrap .i64 ((n:Int) - 1) - (j:Int))=((n - 1 - j:Nat):Int):=by rw[i64_in ((n:Int) - 1) (by omega),i64_in _ (by omega)];omega
  have hw:=amD hc hn hv hj (c:=c) (t:=t) (p:=p) (t2:=t2) (o:=o) (mL:=mL) (B:=aH) (x:=(ah.getD (n - 1 - j) sB).1) (x2:=(ah.getD (n - 1 - j) sB).2.1) (x3:=(ah.getD (n - 1 - j) sB).2.2.1) n 0 (List.replicate n 0) (by omega) (by simp) (fun r hr=>by rw[if_neg (by omega),Cm])
  rw[e0] at hw
  have hop:adw (ah.getD (n - 1 - j) sB).2.1=some (as3 (nM ah (n - 1 - j))):=by rw[apa hR];exact as5 a2 hR
  have hln:(dvv ah n n j).length≤1000000:=by unfold dvv;simp;omega
  rw[ahW,af6,aB (by omega),e2,iT sB (by omega),GM (by omega) (by omega) (by omega),Int.toNat_natCast,hw,ah3,agk,az (by omega),hop,bS,GV kq hln,bS,hg,bS,kg (by omega) (by simp;omega),cq (by omega),i64_in (4 - _) (by omega)]
  refine ih (j+1) _ _ _ (by omega) ?_
  rw[ak0,List.range_succ,List.map_append]
  rfl
theorem arZ {p:Int}{ah:List Cl}(hs:Sz ah)(h0:iN p ah=0):ahg (p,(ah,()))=some (p,(akn ah,())):=by
 obtain⟨hp,hl,hg⟩:=ako h0
 obtain⟨n,hn⟩:∃n,ah.length=n:=⟨_,rfl⟩
 have hv:∀j,j<n→Vc p n (oW ah j):=fun j hj=>(hg j (by omega)).bd.mono (by omega)
 have e0:((0:Nat):Int)=0:=rfl
 have key:=amE hn (by omega) (fun j hj=>(hg j (by omega)).W4) (fun j hj=>⟨(hg j (by omega)).at_,hs.at_ j⟩) hv (c:=p) (t:=0) (p:=p) (t2:=0) n 0 0 [] [] (by omega) rfl
 rw[e0] at key
 rw[ak2,aiM]
 simp only
 rw[ao2,hn,key]
 unfold akn
 rw[hn]
end Go.Proofs.YtofjebmoebhiiaaGreatDoor.Ev
namespace Go.Proofs.YtofjebmoebhiiaaGreatDoor.Ev
open Go.Abs Go.IntWalk
def flp (n:Nat)(t:Tm):Tm:=if t.2.1<0 then ((n:Int) - 1 - t.1,(-1,())) else ((n:Int) - 1 - t.2.1,((n:Int) - 1 - t.1,()))
theorem akV {dt:List Int}{t:Tm}:∀{m i:Nat},t∈prL dt i m↔∃k,i≤k∧k<i+m∧t=((k:Int),(dt.getD k 0,()))∧dt.getD k 0> -2
 |0,i=>by simp only[prL,List.not_mem_nil,false_iff];rintro ⟨k,h1,h2,_⟩;omega
 |m+1,i=>by
  rw[prL]
  have ih:=akV (dt:=dt) (t:=t) (m:=m) (i:=i+1)
  split
  ·rename_i h
   rw[List.mem_cons,ih]
   constructor
   ·rintro (rfl | ⟨k,h1,h2,h3⟩)
    ·exact⟨i,by omega,by omega,rfl,h⟩
    ·exact⟨k,by omega,by omega,h3⟩
   ·rintro ⟨k,h1,h2,h3,h4⟩
    by_cases e:k=i
    ·subst e;exact .inl h3
    ·exact .inr ⟨k,by omega,by omega,h3,h4⟩
  ·rename_i h
   rw[ih]
   constructor
   ·rintro ⟨k,h1,h2,h3⟩;exact⟨k,by omega,by omega,h3⟩
   ·rintro ⟨k,h1,h2,h3,h4⟩
    by_cases e:k=i
    ·subst e;exact absurd h4 h
    ·exact⟨k,by omega,by omega,h3,h4⟩
theorem anu {dt:List Int}:∀{m i:Nat},Up (prL dt i m)
 |0,i=>List.Pairwise.nil
 |m+1,i=>by
  rw[prL]
  split
  ·refine List.pairwise_cons.2 ⟨fun t ht=> ?_,anu⟩
   obtain⟨k,h1,h2,rfl,_⟩:=akV.1 ht
   show (i:Int)<k
   omega
  ·exact anu
def dth (D:List Int):List Tm→List Int
 | []=>D
 |t::r=>dth (D.set t.1.toNat t.2.1) r
theorem al2:∀(M:List Tm) (D:List Int),(dth D M).length=D.length
 | [],D=>rfl
 |t::r,D=>by rw[dth,al2 r,List.length_set]
theorem anw {k:Nat}:∀{M:List Tm} {D:List Int},(∀t∈M,t.1.toNat≠k)→(dth D M).getD k 0=D.getD k 0
 | [],D,_=>rfl
 |t::r,D,h=>by
  rw[dth,anw fun u hu=>h u (List.mem_cons_of_mem _ hu),zF,if_neg fun e=>h t List.mem_cons_self e.1]
theorem anx {u:Tm}:∀{M:List Tm} {D:List Int},Ds M→(∀t∈M,0≤t.1∧t.1<D.length)→u∈M→(dth D M).getD u.1.toNat 0=u.2.1
 |t::r,D,hd,hr,hu=>by
  have hd':=List.pairwise_cons.1 hd
  rcases List.mem_cons.1 hu with rfl |hu
  ·have h0:=hr u List.mem_cons_self
   rw[dth,anw fun v hv=>by
    have:=hd'.1 v hv
    have:=hr v (List.mem_cons_of_mem _ hv)
    omega,zF,if_pos ⟨rfl,by omega⟩]
  ·rw[dth]
   exact anx hd'.2 (fun v hv=>by rw[List.length_set];exact hr v (List.mem_cons_of_mem _ hv)) hu
theorem ar0 {n:Nat}{M:List Tm}(hd:Ds M)(hr:∀t∈M,(0≤t.1∧t.1<n)∧ -2<t.2.1):prL (dth (List.replicate n (-2)) M) 0 n=ahe M:=by
 have hr':∀t∈M,0≤t.1∧t.1<((List.replicate n (-2:Int)).length:Int):=fun t ht=>by rw[List.length_replicate];exact(hr t ht).1
 refine aoY anu (alX hd) fun x=> ?_
 rw[akS,akV]
 constructor
 ·rintro ⟨k,_,h2,rfl,h3⟩
  by_cases h:∃t∈M,t.1.toNat=k
  ·obtain⟨t,ht,e⟩:=h
   have h4:=anx hd hr' ht
   have h5:=(hr t ht).1
   rw[e] at h4
   rw[h4]
   have:(k:Int)=t.1:=by omega
   rw[this]
   exact ht
  ·rw[anw fun t ht e=>h ⟨t,ht,e⟩] at h3
   have:(List.replicate n (-2:Int)).getD k 0= -2:=by simp[List.getD,show k<n by omega]
   omega
 ·intro hx
  have h4:=anx hd hr' hx
  obtain⟨⟨h5,h6⟩,h7⟩:=hr x hx
  refine⟨x.1.toNat,Nat.zero_le _,by omega, ?_,by rw[h4];omega⟩
  rw[h4,Int.toNat_of_nonneg h5]
theorem aqT {ah:List Cl}{n:Nat}{d:Int}{j:Nat}{dt:List Int}(h:Kv ah n d j dt){t:Tm}(ht:t∈prL dt 0 n):0≤t.1∧t.1<n∧ -1≤t.2.1∧t.2.1<n:=by
 obtain⟨k,_,h2,rfl,h3⟩:=akV.1 ht
 obtain⟨s,h4,h5⟩:=h.ex
 refine⟨by simp only;omega,by simp only;omega,by simp only;omega, ?_⟩
 simp only
 by_cases e:0≤dt.getD k 0
 ·have:=(h5 k (dt.getD k 0).toNat (by omega) (by omega)).1
  omega
 ·omega
theorem aqU {n:Nat}{t:Tm}(h:0≤t.1∧t.1<n∧ -1≤t.2.1∧t.2.1<n):(0≤(flp n t).1∧(flp n t).1<n)∧ -2<(flp n t).2.1:=by
 unfold flp
 split<;>(simp only;omega)
theorem avw {ah:List Cl}{n:Nat}{d:Int}{j:Nat}{dt:List Int}(h:Kv ah n d j dt):Ds ((prL dt 0 n).map (flp n)):=by
 refine List.pairwise_map.2 (List.Pairwise.imp_of_mem ?_ (anu (dt:=dt) (m:=n) (i:=0)))
 intro a b ha hb hab
 obtain⟨i,_,hi,rfl,h1⟩:=akV.1 ha
 obtain⟨k,_,hk,rfl,h2⟩:=akV.1 hb
 obtain⟨s,h4,h5⟩:=h.ex
 have hik:(i:Int)<k:=hab
 have c1:∀i,i<n→dt.getD i 0> -2→dt.getD i 0<0→dt.getD i 0= -1:=fun i hi h1 h2=>by omega
 unfold flp
 simp only
 by_cases e1:dt.getD i 0<0
 ·by_cases e2:dt.getD k 0<0
  ·rw[if_pos e1,if_pos e2];simp only;omega
  ·rw[if_pos e1,if_neg e2]
   simp only
   intro e
   have h6:=h4 i (by omega) (c1 i (by omega) h1 e1)
   have h7:=h5 k i (by omega) (by omega)
   rw[h6.2] at h7
   exact absurd h7.2.2 (by decide)
 ·by_cases e2:dt.getD k 0<0
  ·rw[if_neg e1,if_pos e2]
   simp only
   intro e
   have h6:=h4 k (by omega) (c1 k (by omega) h2 e2)
   have h7:=h5 i k (by omega) (by omega)
   rw[h6.2] at h7
   exact absurd h7.2.2 (by decide)
  ·rw[if_neg e1,if_neg e2]
   simp only
   intro e
   have:=h.inj i k (dt.getD i 0).toNat (by omega) (by omega) (by omega) (by omega)
   omega
end Go.Proofs.YtofjebmoebhiiaaGreatDoor.Ev
namespace Go.Proofs.YtofjebmoebhiiaaGreatDoor.Ev
open Go.Abs Go.IntWalk
theorem aur (x:Nat)(hp:Hp3):slices_SortFunc x hp=amV x hp:=(congrFun (congrFun (PZ 0) x) hp).symm
theorem tY {α:Type}{xs:List (Option (List α))}{n:Nat}{l l':List α}(h:af xs n=some l)(h0:n≠0):af (b9 xs n l') n=some l':=by
 cases n with
 |zero=>exact absurd rfl h0
 |succ m=>
  have hlt:m<xs.length:=by
   rcases Nat.lt_or_ge m xs.length with h1 |h1
   ·exact h1
   ·have h':(match xs[m]? with |some o=>o |none=>none)=some l:=h
    rw[List.getElem?_eq_none h1] at h';cases h'
  show (match (xs.set m (some l'))[m]? with |some o=>o |none=>none)=some l'
  rw[List.getElem?_set_self hlt]
theorem ar1 {L:List Tm}{n i:Nat}(h:i<L.length):(((L.take i).map (flp n))++L.drop i).set i (flp n (L.getD i nY))=(L.take (i+1)).map (flp n)++L.drop (i+1):=by
 have hl:((L.take i).map (flp n)).length=i:=by simp;omega
 rw[List.set_append_right _ _ (by omega),hl,Nat.sub_self,qA nY h,List.set_cons_zero,am1 h,List.map_append,List.append_assoc]
 rfl
theorem ar2 {L:List Tm}{n i:Nat}(h:i<L.length):(((L.take i).map (flp n))++L.drop i).getD i nY=L.getD i nY:=by
 have hl:((L.take i).map (flp n)).length=i:=by simp;omega
 simp only[List.getD]
 rw[List.getElem?_append_right (by omega),hl,Nat.sub_self]
 simp
theorem aof {L:List Tm}{n i:Nat}(h:i≤L.length):(((L.take i).map (flp n))++L.drop i).length=L.length:=by simp;omega
theorem ao3 {n:Nat}(hn:n≤1024){L:List Tm}(hr:∀t∈L,0≤t.1∧t.1<n∧ -1≤t.2.1∧t.2.1<n)(hL:L.length≤1024){out:Nat}{t4 t5 w w2:Int}:
  ∀(q i:Nat) (ak:Hp3),q+i=L.length→af ak out=some (((L.take i).map (flp n))++L.drop i)→
  ∃hp',af hp' out=some (L.map (flp n))∧fA out ((n:Int) - 1) out L.length i t4 t5 w w2 ak=fA out ((n:Int) - 1) out L.length L.length t4 t5 w w2 hp':=by
 intro q
 induction q with
 |zero=>
  intro i ak hi h
  obtain rfl:i=L.length:=by omega
  refine⟨ak, ?_,rfl⟩
  rw[h,List.take_length,List.drop_length,List.append_nil]
 |succ q ih=>
  intro i ak hi h
  have hi':i<L.length:=by omega
  have h0:out≠0:=fun e=>by
   subst e
   have h':some ([]:List Tm)=some (((L.take i).map (flp n))++L.drop i):=h
   have h2:=congrArg List.length (Option.some.inj h')
   rw[aof (by omega)] at h2
   simp at h2
   omega
  have hlen:=aof (L:=L) (n:=n) (i:=i) (by omega)
  have hg:=ar2 (L:=L) (n:=n) hi'
  have ht:=hr _ (b6 (d:=nY) hi')
  have ar3:∀v:Tm,af (b9 ak out ((((L.take i).map (flp n))++L.drop i).set i v)) out=some ((((L.take i).map (flp n))++L.drop i).set i v):=fun v=>tY h h0
  have hfs:=ar1 (L:=L) (n:=n) hi'
  generalize hrow:((L.take i).map (flp n))++L.drop i=row at*
  generalize hte:L.getD i nY=t at*
  have w1:IntKind.wrap .i64 ((n:Int) - 1 - t.2.1)=(n:Int) - 1 - t.2.1:=i64_in _ (by omega)
  have w3:IntKind.wrap .i64 ((n:Int) - 1 - t.1)=(n:Int) - 1 - t.1:=i64_in _ (by omega)
  rw[Jx,zY,aB (by omega),h,bS,iT nY (by omega),bS,Int.toNat_natCast,alQ nY (by omega),hg,bS,iT nY (by omega),bS,alQ nY (by omega),w1,w3]
  by_cases e:t.2.1<0
  ·have hf:flp n t=((n:Int) - 1 - t.1,(-1,())):=by unfold flp;rw[if_pos e]
   rw[hf] at hfs
   rw[aB e,ar3,bS,iT nY (by rw[List.length_set];omega),bS,alQ nY (by rw[List.length_set];omega),List.set_set,cq (by omega),hfs]
   exact ih (i+1) _ (by omega) (tY (ar3 _) h0)
  ·have hf:flp n t=((n:Int) - 1 - t.2.1,((n:Int) - 1 - t.1,())):=by unfold flp;rw[if_neg e]
   rw[hf] at hfs
   rw[az e,cq (by omega)]
   exact ih (i+1) _ (by omega) (by rw[ar3,hfs])
theorem avx {L:List Tm}(hL:L.length≤1024){out:Nat}{last t4 t5 w w2:Int}{ak:Hp3}{M:List Tm}(hM:M.length=L.length)(hg:af ak out=some M)(hok:okT M=true):
  fA out last out L.length L.length t4 t5 w w2 ak=some (ahe M,((w,(w2,())),0)):=by
 rw[Jx,zY,az (by omega),aur]
 cases out with
 |zero=>
  have e:M=[]:=by
   have h':some ([]:List Tm)=some M:=hg
   exact(Option.some.inj h').symm
  subst e
  have e2:amV 0 ak=some ((),ak):=rfl
  rw[e2,bS,aeB (hp:=ak) rfl hg]
  rfl
 |succ m=>
  have e2:amV (m+1) ak=some ((),b9 ak (m+1) (ahe M)):=by
   show ((af ak (m+1)).bind fun l=>bif Nat.ble l.length 1000000&&okT l then some ((),b9 ak (m+1) (ahe l)) else none)=_
   rw[hg,bS,hok,Nat.ble_eq_true_of_le (show M.length≤1000000 by omega)]
   rfl
  rw[e2,bS,aeB (hp:=b9 ak (m+1) (ahe M)) rfl (tY hg (by omega))]
  rfl
theorem aog {n:Nat}(hn:n≤1024){l:List Tm}{a c:Int}:∀(q i:Nat),q+i=n→aaN n l a c i (List.replicate i (-2)++List.replicate q 0)=aaL n l a c 0 (List.replicate n (-2)):=by
 intro q
 induction q with
 |zero=>
  intro i hi
  obtain rfl:i=n:=by omega
  rw[agv,adY,az (by omega),List.replicate_zero,List.append_nil]
 |succ q ih=>
  intro i hi
  have hl:(List.replicate i (-2:Int)++List.replicate (q+1) 0).length=n:=by simp;omega
  rw[agv,adY,aB (by omega),eL (by omega) (by omega),Int.toNat_natCast,rS (by omega),cq (by omega)]
  have e:(List.replicate i (-2:Int)++List.replicate (q+1) 0).set i (-2)=List.replicate (i+1) (-2)++List.replicate q 0:=by
   rw[List.set_append_right _ _ (by simp)]
   simp only[List.length_replicate,Nat.sub_self,List.replicate_succ,List.set_cons_zero]
   rw[←List.replicate_succ,List.replicate_succ',List.append_assoc]
   rfl
  rw[e]
  exact ih (i+1) (by omega)
theorem aoh {n:Nat}(hn:n≤1024){L:List Tm}(hr:∀t∈L,0≤t.1∧t.1<n∧ -1≤t.2.1∧t.2.1<n)(hL:L.length≤1024){a c:Int}:∀(q i:Nat) (D:List Int),q+i=L.length→D.length=n→
  aaL n L a c i D=aaM n a c 0 (dth D ((L.drop i).map (flp n))) []:=by
 intro q
 induction q with
 |zero=>
  intro i D hi hD
  rw[ag8,ad0,az (by omega),List.drop_eq_nil_of_le (by omega)]
  rfl
 |succ q ih=>
  intro i D hi hD
  have hi':i<L.length:=by omega
  have ht:=hr _ (b6 (d:=nY) hi')
  rw[qA nY hi',List.map_cons,dth]
  generalize hte:L.getD i nY=t at*
  have w0:IntKind.wrap .i64 ((n:Int) - 1)=(n:Int) - 1:=i64_in _ (by omega)
  have w1:IntKind.wrap .i64 ((n:Int) - 1 - t.2.1)=(n:Int) - 1 - t.2.1:=i64_in _ (by omega)
  have w3:IntKind.wrap .i64 ((n:Int) - 1 - t.1)=(n:Int) - 1 - t.1:=i64_in _ (by omega)
  rw[ag8,ad0,aB (by omega),iT nY hi',hte]
  by_cases e:t.2.1<0
  ·have hf:flp n t=((n:Int) - 1 - t.1,(-1,())):=by unfold flp;rw[if_pos e]
   rw[aB e,iT nY hi',hte,w0,w3,eL (by omega) (by omega),rS (by omega),cq (by omega),hf]
   exact ih (i+1) _ (by omega) (by rw[List.length_set];exact hD)
  ·have hf:flp n t=((n:Int) - 1 - t.2.1,((n:Int) - 1 - t.1,())):=by unfold flp;rw[if_neg e]
   rw[az e,iT nY hi',hte,w0,w1,iT nY hi',hte,w3,eL (by omega) (by omega),rS (by omega),cq (by omega),hf]
   exact ih (i+1) _ (by omega) (by rw[List.length_set];exact hD)
theorem aoi {n:Nat}(hn:n≤1024){a c:Int}{D:List Int}(hD:D.length=n):∀(q i:Nat) (out:List Tm),q+i=n→out.length≤i→aaM n a c i D out=some (out++prL D i q,a,c):=by
 intro q
 induction q with
 |zero=>
  intro i out hi hl
  rw[ahb,aeL,az (by omega),prL,List.append_nil]
 |succ q ih=>
  intro i out hi hl
  rw[ahb,aeL,aB (by omega),eL (by omega) (by omega),Int.toNat_natCast,rS (by omega),prL]
  by_cases e:D.getD i 0> -2
  ·rw[cZ e,if_pos e,eL (by omega) (by omega),rS (by omega),kg (by omega) (by omega),cq (by omega),ih (i+1) _ (by omega) (by simp;omega),List.append_assoc]
   rfl
  ·rw[c8 e,if_neg e,cq (by omega),ih (i+1) _ (by omega) (by omega)]
theorem ajR (ah:List Cl):(akn ah).length=ah.length:=by simp[akn]
theorem aus {p:Int}{ah:List Cl}(h0:iN p ah=0):∀j,j<(akn ah).length→Vc p (akn ah).length (oW (akn ah) j):=by
 obtain⟨hp,hl,hg⟩:=ako h0
 intro j hj
 rw[ajR] at hj ⊢
 have e:oW (akn ah) j=Dv ah ah.length ah.length j:=by
  rw[IY]
  unfold akn
  simp[List.getD,hj]
 rw[e]
 have mL:0<p:=by have:=hp.1;omega
 refine aeU (by simp[dvv]) fun k=> ?_
 by_cases hk:k<ah.length
 ·rw[aoe hk]
  exact RH mL (hg (ah.length - 1 - k) (by omega)).bd.c _
 ·have:(dvv ah ah.length ah.length j).getD k 0=0:=by simp[List.getD,dvv,hk]
  rw[this];omega
theorem ar4 {p:Int}{ah:List Cl}(hs:Sz ah):∃l a c,(iN p ah=0→ae6 (p,(ah,()))=some (l,a,c))∧l.length≤1024∧
  oe (p,(ah,()))=some (if iN p ah=0 then (l,((a,(c,())),(0:Int))) else ([],(((0:Int),((0:Int),())),iN p ah))):=by
 by_cases h0:iN p ah=0
 ·obtain⟨hp,hl,hg⟩:=ako h0
  obtain⟨dt,a,c,d1,dk,d2,out,hp',d3,d4⟩:=ap7 hp (ah:=akn ah) (by rw[ajR];exact hl) (aus h0)
  obtain⟨n,hn⟩:∃n,ah.length=n:=⟨_,rfl⟩
  rw[ajR,hn] at d1 dk d2 d4
  have hL:(prL dt 0 n).length≤1024:=by have:=WV dt n 0;omega
  have hr:∀t∈prL dt 0 n,0≤t.1∧t.1<n∧ -1≤t.2.1∧t.2.1<n:=fun t ht=>aqT dk ht
  have hds:=avw dk
  have X6:∀t∈(prL dt 0 n).map (flp n),(0≤t.1∧t.1<n)∧ -2<t.2.1:=fun t ht=>by
   obtain⟨u,hu,rfl⟩:=List.mem_map.1 ht
   exact aqU (hr u hu)
  have e0:((0:Nat):Int)=0:=rfl
  have hso:=ar0 hds X6
  refine⟨ahe ((prL dt 0 n).map (flp n)),a,c,fun _=> ?_, ?_, ?_⟩
  ·have w0:=aog (n:=n) (by omega) (l:=prL dt 0 n) (a:=a) (c:=c) n 0 (by omega)
   have w1:=aoh (n:=n) (by omega) hr hL (a:=a) (c:=c) (prL dt 0 n).length 0 (List.replicate n (-2)) (by omega) (by simp)
   have w2:=aoi (n:=n) (by omega) (a:=a) (c:=c) (D:=dth (List.replicate n (-2)) ((prL dt 0 n).map (flp n))) (by rw[al2];simp) n 0 [] (by omega) (by simp)
   rw[e0,List.replicate_zero,List.nil_append] at w0
   rw[e0,List.drop_zero] at w1
   rw[e0,List.nil_append] at w2
   rw[ajJ,ahG]
   simp only
   rw[arZ hs h0,bS,d2,bS,GM (by omega) (by omega) (by omega),Int.toNat_natCast,hn,w0,w1,w2,hso]
  ·rw[←hso]
   have:=WV (dth (List.replicate n (-2)) ((prL dt 0 n).map (flp n))) n 0
   omega
  ·obtain⟨hp2,k1,k2⟩:=ao3 (n:=n) (by omega) hr hL (out:=out) (t4:=0) (t5:=0) (w:=a) (w2:=c) (prL dt 0 n).length 0 hp' (by omega) (by rw[List.take_zero,List.map_nil,List.nil_append,List.drop_zero];exact d4)
   rw[e0] at k2
   have hok:okT ((prL dt 0 n).map (flp n))=true:=am9.2 ⟨fun t ht=>by have:=(X6 t ht).1;omega,hds⟩
   rw[if_pos h0,Nj,Em]
   simp only
   rw[ak1 hs,if_pos h0,bS,pe rfl,d3,bS,d4,bS,i64_in ((ah.length:Int) - 1) (by omega),hn,k2]
   exact avx hL (by simp) k1 hok
 ·refine⟨[],0,0,fun h=>absurd h h0,by simp, ?_⟩
  rw[if_neg h0,Nj,Em]
  simp only
  rw[ak1 hs,if_neg h0,bS,Cj h0]
end Go.Proofs.YtofjebmoebhiiaaGreatDoor.Ev
namespace Go.Proofs.YtofjebmoebhiiaaGreatDoor.Ev
open Go.Abs Go.IntWalk
theorem aoj {t:Nat}{hp9:List (Option (List Chn))}{l:List Chn}(hg:af hp9 t=some l){i:Nat}(hi:i<l.length)(h2:l.length≤2)(hs:Sz (l.getD i (0,([],()))).2.1):
  D1 t l.length i hp9=D1 t l.length ((i+1:Nat):Int) hp9:=by
 have b1:∀{β:Type} {f:Chn→Option β},(idx l (i:Int)).bind f=f (l.getD i (0,([],()))):=iT _ hi
 have g1:l[(i:Int).toNat]? =some (l.getD i (0,([],()))):=by rw[Int.toNat_natCast];simp[List.getD,hi]
 rw[adf,ac0,aB (by omega),hg,bS,b1,bS,g1,bS,cq (by omega)]
 generalize l.getD i (0,([],()))=x at hs ⊢
 obtain⟨p,ah,u⟩:=x
 simp only at hs ⊢
 obtain⟨m,a,c,e1,e2,e3⟩:=ar4 (p:=p) hs
 rw[ahM hs,e3,bS,bS]
 by_cases h:iN p ah=0
 ·rw[if_pos h,pe h,e1 h,bS]
  simp only
  rw[pe rfl,amh (by omega),bS,Bool.not_true,cF,aoC,Bool.not_true,cF]
 ·rw[if_neg h,Cj h]
  simp only
  rw[pe rfl,amt,bS,Bool.not_true,cF]
theorem avy {p:Int}{ah:List Cl}{l:Hz}(hl:l.length≤1000000000000000000)(hs:∀s∈l,s.length≤1000000000000000000){values turns:List Int}(hv:values.length≤1000000000000000000)(ht:turns.length≤1000000000000000000)(field:Int):
  ac4 (p,(ah,())) (l,(values,(field,(turns,()))))=some true:=by
 obtain⟨b,h1,h2⟩:=ah0 (p:=p) (ah:=ah)
 rw[ahf,adV]
 simp only
 rw[h1,bS]
 cases b with
 |true=>rw[cT,acZ,bS]
 |false=>
  obtain⟨h3,h4⟩:=h2 rfl
  obtain⟨r,r1,r2⟩:=aeX hl hs hv ht field
  rw[cF,r1,bS,kq,bS]
  have hg:af (([]:List (Option (List Chn)))++[some [(p,(ah,())),(r.1,(r.2.1,()))]]) (([]:List (Option (List Chn))).length+1)=some [(p,(ah,())),(r.1,(r.2.1,()))]:=kq
  have e0:((0:Nat):Int)=0:=rfl
  have s1:=aoj (i:=0) hg (by simp) (by simp) h4
  have s2:=aoj (i:=1) hg (by simp) (by simp) r2.sz
  rw[e0] at s1
  rw[s1,s2,adf,ac0,az (by simp),acZ,bS]
theorem aut (x:tCh.den)(r:aeY.den)(hx:Bnd tCh x)(hr:Bnd aeY r):ac4 x r=some true:=by
 obtain⟨p,ah,u⟩:=x
 obtain⟨l,v,f,t,u'⟩:=r
 obtain⟨h1,h2,h3,h4⟩:=ah1 hr
 exact avy h1 h2 h3 h4 f
end Go.Proofs.YtofjebmoebhiiaaGreatDoor.Ev
namespace Go.Proofs.YtofjebmoebhiiaaGreatDoor
open Go.Shelf Go.Proofs
def anA:Go.Shelf.Ren:=⟨fun |6=>50 |15=>91 |14=>90 |28=>132 |29=>133 |20=>124 |21=>125 |22=>126 |23=>127 |24=>128 |25=>129 |26=>130 |27=>131 |46=>156 |47=>157 |48=>158 |49=>159 |50=>160 |57=>172 |n=>n,fun |22=>46 |24=>58 |25=>98 |3=>3 |39=>149 |0=>0 |53=>168 |55=>171 |4=>4 |46=>184 |45=>183 |50=>140 |5=>5 |9=>9 |66=>209 |70=>213 |76=>222 |77=>223 |n=>n,fun |n=>n⟩
theorem aok:Go.Proofs.SlLaysF0.n6 Tryz.prog anA where
 mixed:=by kernel_rfl
 f6:=⟨"slices.SortFunc[[]torus/api.Pair,torus/api.Pair]",by decide,Tryz.func50.trans (congrArg some (by kernel_rfl))⟩
 f14:=⟨"slices.pdqsortCmpFunc[torus/api.Pair]",by decide,Tryz.func90.trans (congrArg some (by kernel_rfl))⟩
 f15:=Tryz.func91.trans (congrArg some (by kernel_rfl))
 f20:=⟨"slices.insertionSortCmpFunc[torus/api.Pair]",by decide,Tryz.func124.trans (congrArg some (by kernel_rfl))⟩
 f21:=⟨"slices.heapSortCmpFunc[torus/api.Pair]",by decide,Tryz.func125.trans (congrArg some (by kernel_rfl))⟩
 f22:=⟨"slices.breakPatternsCmpFunc[torus/api.Pair]",by decide,Tryz.func126.trans (congrArg some (by kernel_rfl))⟩
 f23:=⟨"slices.choosePivotCmpFunc[torus/api.Pair]",by decide,Tryz.func127.trans (congrArg some (by kernel_rfl))⟩
 f24:=⟨"slices.reverseRangeCmpFunc[torus/api.Pair]",by decide,Tryz.func128.trans (congrArg some (by kernel_rfl))⟩
 f25:=⟨"slices.partialInsertionSortCmpFunc[torus/api.Pair]",by decide,Tryz.func129.trans (congrArg some (by kernel_rfl))⟩
 f26:=⟨"slices.partitionEqualCmpFunc[torus/api.Pair]",by decide,Tryz.func130.trans (congrArg some (by kernel_rfl))⟩
 f27:=⟨"slices.partitionCmpFunc[torus/api.Pair]",by decide,Tryz.func131.trans (congrArg some (by kernel_rfl))⟩
 f28:=Tryz.func132.trans (congrArg some (by kernel_rfl))
 f29:=Tryz.func133.trans (congrArg some (by kernel_rfl))
 f46:=⟨"slices.siftDownCmpFunc[torus/api.Pair]",by decide,Tryz.func156.trans (congrArg some (by kernel_rfl))⟩
 f47:=Tryz.func157.trans (congrArg some (by kernel_rfl))
 f48:=Tryz.func158.trans (congrArg some (by kernel_rfl))
 f49:=⟨"slices.medianAdjacentCmpFunc[torus/api.Pair]",by decide,Tryz.func159.trans (congrArg some (by kernel_rfl))⟩
 f50:=⟨"slices.medianCmpFunc[torus/api.Pair]",by decide,Tryz.func160.trans (congrArg some (by kernel_rfl))⟩
 f57:=⟨"slices.order2CmpFunc[torus/api.Pair]",by decide,Tryz.func172.trans (congrArg some (by kernel_rfl))⟩
 t0:=Tryz.underlying0
 a0:=Tryz.isAgg0
 z0:=Tryz.sizeOf0
 v0:=Tryz.zeroValue0
 t3:=Tryz.underlying3
 a3:=Tryz.isAgg3
 z3:=Tryz.sizeOf3
 v3:=Tryz.zeroValue3
 t4:=Tryz.underlying4
 a4:=Tryz.isAgg4
 z4:=Tryz.sizeOf4
 v4:=Tryz.zeroValue4
 t5:=Tryz.underlying5
 a5:=Tryz.isAgg5
 z5:=Tryz.sizeOf5
 v5:=Tryz.zeroValue5
 t9:=Tryz.underlying9
 a9:=Tryz.isAgg9
 z9:=Tryz.sizeOf9
 v9:=Tryz.zeroValue9
 t22:=Tryz.underlying46
 a22:=Tryz.isAgg46
 z22:=Tryz.sizeOf46
 v22:=Tryz.zeroValue46
 t25:=Tryz.underlying98
 a25:=Tryz.isAgg98
 z25:=Tryz.sizeOf98
 v25:=Tryz.zeroValue98
 t39:=Tryz.underlying149
 a39:=Tryz.isAgg149
 z39:=Tryz.sizeOf149
 v39:=Tryz.zeroValue149
 t45:=Tryz.underlying183
 a45:=Tryz.isAgg183
 z45:=Tryz.sizeOf183
 v45:=Tryz.zeroValue183
 t46:=Tryz.underlying184
 a46:=Tryz.isAgg184
 z46:=Tryz.sizeOf184
 v46:=Tryz.zeroValue184
 t50:=Tryz.underlying140
 a50:=Tryz.isAgg140
 z50:=Tryz.sizeOf140
 v50:=Tryz.zeroValue140
 t53:=Tryz.underlying168
 a53:=Tryz.isAgg168
 z53:=Tryz.sizeOf168
 v53:=Tryz.zeroValue168
 t55:=Tryz.underlying171
 a55:=Tryz.isAgg171
 z55:=Tryz.sizeOf171
 v55:=Tryz.zeroValue171
 t66:=Tryz.underlying209
 a66:=Tryz.isAgg209
 z66:=Tryz.sizeOf209
 v66:=Tryz.zeroValue209
 t70:=Tryz.underlying213
 a70:=Tryz.isAgg213
 z70:=Tryz.sizeOf213
 v70:=Tryz.zeroValue213
 t76:=Tryz.underlying222
 a76:=Tryz.isAgg222
 z76:=Tryz.sizeOf222
 v76:=Tryz.zeroValue222
 t77:=Tryz.underlying223
 a77:=Tryz.isAgg223
 z77:=Tryz.sizeOf223
 v77:=Tryz.zeroValue223
end Go.Proofs.YtofjebmoebhiiaaGreatDoor
namespace Go.Proofs.YtofjebmoebhiiaaGreatDoor.Ev
open Go.Shelf Go.RowKit Go.Lib Go.Sort Go.Proofs
abbrev El:=Fin 1000000000×Int
instance:Inhabited El:=⟨(⟨0,by decide⟩,0)⟩
def akQ (x:El):List Value:=[.int .i64 (x.1.val:Int), .int .i64 x.2]
def toE (t:Int×Int×Unit):El:=(⟨t.1.toNat % 1000000000,Nat.mod_lt _ (by decide)⟩,t.2.1)
def ofE (x:El):Int×Int×Unit:=((x.1.val:Int),x.2,())
def cfE (x y:El):Int:=(x.1.val:Int) - y.1.val
theorem ltE (x y:El):ltOf cfE x y=decide (x.1.val<y.1.val):=by
 unfold ltOf cfE
 by_cases h:x.1.val<y.1.val<;>simp[h]<;>omega
theorem axQ:SWO (ltOf cfE) where
 irrefl x:=by rw[ltE];simp
 trans x y z h1 h2:=by rw[ltE] at*;simp at*;omega
 ntrans x y z h1 h2:=by rw[ltE] at*;simp at*;omega
theorem au4 {t:Int×Int×Unit}(h:0≤t.1∧t.1<1000000000):ofE (toE t)=t:=by
 obtain⟨a,b,u⟩:=t
 simp only at h
 have:((a.toNat % 1000000000:Nat):Int)=a:=by omega
 show (((a.toNat % 1000000000:Nat):Int),b,())=(a,b,u)
 rw[this]
set_option maxHeartbeats 1000000 in
theorem aq0 (x y:El)(W:World):Calls Tryz.prog 51 #[.agg #[.int .i64 (x.1.val:Int), .int .i64 x.2], .agg #[.int .i64 (y.1.val:Int), .int .i64 y.2]] W fun e w'=>e= .returned (.int .i64 (cfE x y))∧∃q os',w'=grow (W.drewN q) os':=by
 have hw:IntKind.i64.wrap ((x.1.val:Int) - (y.1.val:Int))=cfE x y:=by
  have:=x.1.isLt;have:=y.1.isLt
  unfold cfE;simp[IntKind.wrap,IntKind.bits,IntKind.signed];omega
 generalize cfE x y=r at hw ⊢
 go_enter Tryz.func51,Tryz.ntmps51
 go_wp2
 go_ret
 exact⟨rfl,0,_,by rw[alloc_eq_grow,alloc_eq_grow,grow_grow];rfl⟩
theorem aq5 (blk off size:Nat)(w:World):CmpLays Tryz.prog 51 #[] akQ 2 cfE blk off size w:=fun _ _ _ _ x y=>aq0 x y _
theorem auv:∀args w,(callFunc 51 args).run Tryz.prog w= .ok (.enter 51 args) w:=enters_of Tryz.func51 (by kernel_rfl) rfl
theorem avA (blk cap:Nat)(d:Array El)(w:World)(hH:HoldsK akQ 2 w blk 0 d)(hblk:blk<w.heap.size)(hsz:d.size<4611686018427387904):
  Calls Tryz.prog 50 #[.slice (some ⟨blk,0,none⟩) d.size cap, .func (.func 51) #[] #[]] w fun e w'=>e= .returned (.tuple #[])∧∃d' n os,PermIn 0 d.size d d'∧SortedIn (ltOf cfE) 0 d.size d'∧w'=sortWorldK akQ 2 w blk 0 n d' os:=
 AnyQ.slices_SortFunc aok 2 Tryz.isAgg58 Tryz.sizeOf58 akQ (fun _=>rfl) (fun x v hv=>by simp[akQ] at hv;rcases hv with rfl |rfl<;>rfl) cfE axQ 51 #[] blk 0 cap d w auv (aq5 blk 0 d.size w) hH hblk hsz
theorem aol (cap:Nat)(p:Option Addr)(fv:Value)(w:World):Calls Tryz.prog 50 #[.slice p 0 cap,fv] w fun e w'=>e= .returned (.tuple #[])∧w'=w:=AnyF.slices_SortFunc_none aok p cap fv w
end Go.Proofs.YtofjebmoebhiiaaGreatDoor.Ev
namespace Go.Proofs.YtofjebmoebhiiaaGreatDoor.Ev
open Go.Abs Go.RowKit Go.Lib Go.Sort
abbrev tTb:Ty:= .st (.pair (.int .i64) (.pair (.int .i64) .unit))
theorem alR {V:View}:∀{l:List (Int×Int×Unit)} {bQ:List (List Value)},aS (Go.Abs.Rel V tTb) l bQ→bQ=l.map fun t=>[Value.int .i64 t.1,Value.int .i64 t.2.1]
 | [],[],_=>rfl
 |t::l,ys::bQ,h=>by
  obtain⟨h1,h2⟩:=h
  have h1':∃a b,ys=a++b∧a=[Value.int .i64 t.1]∧∃c d,b=c++d∧c=[Value.int .i64 t.2.1]∧d=[]:=h1
  obtain⟨a,b,rfl,rfl,c,d,rfl,rfl,rfl⟩:=h1'
  rw[alR h2]
  rfl
theorem alS {V:View}:∀(l:List (Int×Int×Unit)),aS (Go.Abs.Rel V tTb) l (l.map fun t=>[Value.int .i64 t.1,Value.int .i64 t.2.1])
 | []=>trivial
 |t::l=>⟨⟨[Value.int .i64 t.1],[Value.int .i64 t.2.1],rfl,rfl,[Value.int .i64 t.2.1],[],rfl,rfl,rfl⟩,alS l⟩
abbrev aik (xs:List El):List Value:=(xs.map akQ).flatten
theorem ajK:∀(xs:List El),(aik xs).length=xs.length*2
 | []=>rfl
 |x::r=>by
  have:=ajK r
  simp only[aik,List.map_cons,List.flatten_cons,List.length_append,List.length_cons] at this ⊢
  have e:(akQ x).length=2:=rfl
  omega
theorem amg:∀(xs:List El) (t:Nat),t<xs.length*2→(aik xs)[t]? =some ((akQ (xs.getD (t / 2) default))[t % 2]!)
 | [],t,h=>by simp at h
 |x::r,0,_=>rfl
 |x::r,1,_=>rfl
 |x::r,t+2,h=>by
  have ih:=amg r t (by simp at h;omega)
  have e1:(t+2) / 2=t / 2+1:=by omega
  have e2:(t+2) % 2=t % 2:=by omega
  rw[e1,e2]
  exact ih
theorem aoq (d:Array El)(t:Nat)(h:t<d.size*2):(aik d.toList)[t]? =some (flatK akQ 2 d)[t]! :=by
 rw[get_flatK akQ 2 d t h,amg d.toList t (by simpa using h)]
 have:d.toList.getD (t / 2) default=d[t / 2]! :=by simp[List.getD,Array.getElem!_eq_getD]
 rw[this]
theorem ar6 {w:World}{blk n:Nat}{d:Array El}{os:Array Obj}{cur:Array Value}{e:TypeId}{fr:Nat×Nat}(h:w.heap[blk]? =some (.cells cur e fr))(hs:d.size*2≤cur.size):
  ∃aq8,(sortWorldK akQ 2 w blk 0 n d os).heap[blk]? =some (.cells aq8 e fr)∧aq8.size=cur.size∧aq8.toList.take (d.size*2)=aik d.toList:=by
 have hlt:blk<w.heap.size:=(Array.getElem?_eq_some_iff.1 h).1
 refine⟨putCells id 0 (flatK akQ 2 d) cur, ?_,by simp[putCells], ?_⟩
 ·show ((w.heap.modify blk _)++os)[blk]? =_
  rw[Array.getElem?_append_left (by simpa using hlt),Array.getElem?_modify]
  simp[h,onCells]
 ·apply List.ext_getElem?
  intro t
  by_cases ht:t<d.size*2
  ·rw[aoq d t ht,List.getElem?_take,if_pos ht,Array.getElem?_toList,putCells,Array.getElem?_mapIdx,Array.getElem?_eq_getElem (by omega),Option.map_some,if_pos ⟨Nat.zero_le _,by rw[size_flatK];omega⟩]
   rfl
  ·rw[List.getElem?_eq_none (by simp;omega),List.getElem?_eq_none (by rw[ajK];simp;omega)]
theorem ar7 {w:World}{blk n k:Nat}{d:Array El}{os:Array Obj}(hk:k<w.heap.size)(h:k≠blk):(sortWorldK akQ 2 w blk 0 n d os).heap[k]? =w.heap[k]? :=by
 show ((w.heap.modify blk _)++os)[k]? =_
 rw[Array.getElem?_append_left (by simpa using hk),Array.getElem?_modify]
 simp[Ne.symm h]
theorem auy {w:World}{blk n:Nat}{d:Array El}{os:Array Obj}:Grow (fun k=>k=blk) w (sortWorldK akQ 2 w blk 0 n d os):=
 ⟨rfl,rfl,rfl,size_sortWorldK_c akQ 2 w blk 0 n d os,fun k hk hn=>ar7 hk hn⟩
theorem holds_of {w:World}{blk:Nat}{l:List (Int×Int×Unit)}{cur:Array Value}{e:TypeId}(h:w.heap[blk]? =some (.cells cur e (0,0)))(hc:cur.toList.take (l.length*2)=aik (l.map toE))(hs:l.length*2≤cur.size):HoldsK akQ 2 w blk 0 (l.map toE).toArray:=by
 intro j hj
 rw[size_flatK] at hj
 have hj':j<l.length*2:=by simpa using hj
 refine⟨?_, ?_⟩
 ·have:=aoq (l.map toE).toArray j hj
  rw[←hc,List.getElem?_take,if_pos hj',Array.getElem?_toList] at this
  simp only[World.cell?,h,Nat.zero_add]
  exact this
 ·simp[World.frozen?,h]
theorem am2:∀{l:List (Int×Int×Unit)},(∀x∈l,0≤x.1∧x.1<1000000000)→(l.map fun t=>[Value.int .i64 t.1,Value.int .i64 t.2.1]).flatten=aik (l.map toE)
 | [],_=>rfl
 |t::l,h=>by
  have ih:=am2 (l:=l) fun x hx=>h x (List.mem_cons_of_mem _ hx)
  have e:=au4 (h t List.mem_cons_self)
  have e1:akQ (toE t)=[Value.int .i64 t.1,Value.int .i64 t.2.1]:=by
   have e2:((toE t).1.val:Int)=t.1:=congrArg (·.1) e
   show [Value.int .i64 ((toE t).1.val:Int),Value.int .i64 t.2.1]=_
   rw[e2]
  simp only[aik,List.map_cons,List.flatten_cons,e1] at ih ⊢
  rw[ih]
theorem alw:∀(xs:List El),aik xs=((xs.map ofE).map fun t=>[Value.int .i64 t.1,Value.int .i64 t.2.1]).flatten
 | []=>rfl
 |x::r=>by
  have ih:=alw r
  simp only[aik,List.map_cons,List.flatten_cons] at ih ⊢
  rw[ih];rfl
theorem aoA {l:List (Int×Int×Unit)}{d':Array El}(hr:∀x∈l,0≤x.1∧x.1<1000000000)(hd:Ds l)(hp:PermIn 0 (l.map toE).toArray.size (l.map toE).toArray d')(hs:SortedIn (ltOf cfE) 0 (l.map toE).toArray.size d'):d'.toList.map ofE=ahe l∧d'.size=l.length:=by
 have hsz:d'.size=l.length:=by rw[hp.1];simp
 have hx:(d'.extract 0 (l.map toE).toArray.size)=d':=by
  rw[←hp.1];simp
 have hy:((l.map toE).toArray.extract 0 (l.map toE).toArray.size)=(l.map toE).toArray:=by simp;exact List.take_of_length_le (by simp)
 have au6:=hp.2.2
 rw[hx,hy] at au6
 have hb:(l.map toE).map ofE=l:=by
  rw[List.map_map]
  have:∀{l:List (Int×Int×Unit)},(∀x∈l,0≤x.1∧x.1<1000000000)→l.map (ofE ∘ toE)=l:=fun {l} h=>by
   induction l with
   |nil=>rfl
   |cons t l ih=>
    rw[List.map_cons,ih fun x hx=>h x (List.mem_cons_of_mem _ hx)]
    congr 1
    exact au4 (h t List.mem_cons_self)
  exact this hr
 have hq:(d'.toList.map ofE).Perm l:=by
  have:=au6.map ofE
  rwa [hb] at this
 refine⟨arX hd hq ?_,hsz⟩
 rw[List.pairwise_map,List.pairwise_iff_getElem]
 intro i j hi hj hij
 have hi':i<d'.size:=by simpa using hi
 have hj':j<d'.size:=by simpa using hj
 have h1:=hs i j (Nat.zero_le _) hij (by rw[←hp.1];exact hj')
 rw[ltE,getElem!_pos d' i hi',getElem!_pos d' j hj'] at h1
 simp only[decide_eq_false_iff_not,Nat.not_lt] at h1
 show ((d'.toList[i].1.val:Nat):Int)≤((d'.toList[j].1.val:Nat):Int)
 simp only[Array.getElem_toList]
 omega
abbrev hr3 (hp:List (Option (List (Int×Int×Unit)))):bK:=⟨58,tTb,0,true,hp⟩
theorem awt (hp:List (Option (List (Int×Int×Unit)))):((eM T).set 3 (hr3 hp))[3]? =some (hr3 hp):=rfl
theorem avB (hp:List (Option (List (Int×Int×Unit)))):((eM T).set 3 (hr3 hp)).set 3 (hr3 hp)=(eM T).set 3 (hr3 hp):=rfl
theorem avC (x:(Nat×Unit)×List (Option (List (Int×Int×Unit))))(y:Unit×List (Option (List (Int×Int×Unit))))(h:amV x.1.1 x.2=some y):Sp Tryz.prog T 50 x y:=by
 obtain⟨⟨n,u⟩,hp⟩:=x
 obtain⟨yu,hp'⟩:=y
 refine⟨⟨_,Tryz.func50,by kernel_rfl,by kernel_rfl⟩,fun E ν args d hE hG hC hst hargs=> ?_⟩
 replace hst:St E (bg ((eM T).set 3 (hr3 hp))) ⟨#[],[]⟩ E.w0 ν (fun _=>False):=hst
 obtain⟨v1,r1,e1,hv,v2,e2,vs,e3,hvs⟩:∃v1 r1,args.toList=v1::r1∧cw (view E (bg ((eM T).set 3 (hr3 hp))) ν (fun _=>False) E.w0) ⟨.ref 3,n⟩ v1∧∃v2,r1=[v2]∧∃vs:List Value,v2= .func (.func 51) #[] vs.toArray∧vs=[]:=hargs
 subst hvs e3 e2
 obtain rfl:args= #[v1, .func (.func 51) #[] #[]]:=by cases args;simp_all
 have fin:∀(w':World) (ν':Nm→Value),St E (bg (((eM T).set 3 (hr3 hp)).set 3 (hr3 hp'))) ⟨#[],[]⟩ w' ν' (fun _=>False)→Go.Abs.Left T E 50 ((n,u),hp) (yu,hp') d (.returned (.tuple #[])) w':=fun w' ν' hs=>
  ⟨.tuple #[],ν',rfl,hs,⟨[],rfl,trivial⟩⟩
 cases n with
 |zero=>
  have e:v1= .slice none 0 0:=by
   rcases Qp hv with ⟨_,e⟩ | ⟨h1,_⟩
   ·exact e
   ·omega
  subst e
  obtain rfl:hp=hp':=by have h':some ((),hp)=some (yu,hp'):=h;simpa using h'
  refine(aol 0 none _ E.w0).mono ?_
  rintro e w' ⟨rfl,rfl⟩
  exact fin _ ν (by rw[avB];exact hst)
 |succ n=>
  have h':((af hp (n+1)).bind fun l=>bif Nat.ble l.length 1000000&&okT l then some ((),b9 hp (n+1) (ahe l)) else none)=some (yu,hp'):=h
  obtain⟨l,hl,h2⟩:=Option.bind_eq_some_iff.1 h'
  cases hc:Nat.ble l.length 1000000&&okT l with
  |false=>rw[hc] at h2;cases h2
  |true=>
   rw[hc] at h2
   obtain rfl:b9 hp (n+1) (ahe l)=hp':=by simpa using h2
   simp only[Bool.and_eq_true,Nat.ble_eq,am9] at hc
   obtain⟨hlen,hr,hd⟩:=hc
   have hh:(bg ((eM T).set 3 (hr3 hp))).ag[3]? =some (hr3 hp):=awt hp
   obtain⟨⟨bQ,hown,hall⟩,hO,Lh⟩:=hst.Qz hh hl hv
   rcases Lh with ⟨h0,_⟩ | ⟨h1,_,h3⟩
   ·omega
   ·have hy:=alR hall
    subst hy
    obtain⟨_,hown⟩:=hown
    rcases hown with ⟨e,_⟩ | ⟨g,cap,cur,e,_,hg,hn,hm,hcs,N8⟩
    ·have hnn:=hst.nn 3 (hr3 hp) (n+1) hh h1 (Qq hl)
     rcases hnn with ⟨_,g,m,c,e4⟩ | ⟨e4,_⟩
     ·rw[←h3,e] at e4;cases e4
     ·cases e4
    ·have hcell:cur.toList.take (l.length*2)=aik (l.map toE):=by rw[←am2 hr];exact N8
     have awu:l.length*2≤cur.size:=by rw[hcs];exact Nat.mul_le_mul_right 2 hn
     have hgl:g<E.w0.heap.size:=(Array.getElem?_eq_some_iff.1 hg).1
     have hsz:(l.map toE).toArray.size=l.length:=by simp
     have hs:=avA g cap (l.map toE).toArray E.w0 (holds_of hg hcell awu) hgl (by rw[hsz];omega)
     have e5:v1= .slice (some ⟨g,0,none⟩) (l.map toE).toArray.size cap:=by rw[hsz];exact e
     rw[e5]
     refine hs.mono ?_
     rintro e6 w' ⟨rfl,d',m,os,hp1,hs1,rfl⟩
     obtain⟨q1,q2⟩:=aoA hr hd hp1 hs1
     have e7:d'.size*2≤cur.size:=by rw[q2];exact awu
     obtain⟨aq8,c1,c2,c3⟩:=ar6 (n:=m) (os:=os) (d:=d') hg e7
     refine fin _ (R4 ν 3 (n+1) (ν (.hp 3 (n+1)))) ?_
     refine hst.amI hE (hr:=hr3 hp) (l:=l) (l':=ahe l) hh rfl h1 hl (g:=g) (by rw[←h3,e];rfl) auy fun V' hV=> ?_
     have avD:(ahe l).length=l.length:=by rw[←q1];simp[q2]
     rw[←h3,e]
     refine⟨⟨_,_,_,rfl⟩,((ahe l).map fun t=>[Value.int .i64 t.1,Value.int .i64 t.2.1]),⟨?_, .inr ⟨g,cap,aq8, ?_,Nat.zero_le _,c1, ?_,hm,by rw[c2];exact hcs, ?_⟩⟩,alS _⟩
     ·rw[←q1, ←alw,ajK];simp;rfl
     ·show Value.slice (some ⟨g,0,none⟩) l.length cap=Value.slice (some ⟨g,0,none⟩) (ahe l).length cap
      rw[avD]
     ·show (ahe l).length≤cap
      rw[avD];exact hn
     ·show aq8.toList.take ((ahe l).length*2)=_
      rw[avD, ←q2,c3,alw,q1]
end Go.Proofs.YtofjebmoebhiiaaGreatDoor.Ev
namespace Go.Proofs.YtofjebmoebhiiaaGreatDoor.Ev
open Go.Abs Go.RowKit Go.Lib
theorem aoD (s:ByteArray)(c:Int)(w:World):(callFunc 177 #[.string s, .int .u8 c]).run Tryz.prog w= .ok (.value (.int .i64 (indexByte s.data.toList c.toNat.toUInt8))) w:=by
 rw[run_callFunc_indexByte Tryz.func177 (by kernel_rfl) (by kernel_rfl) (by kernel_rfl) (by kernel_rfl),run_indexByteString]
 rfl
theorem amv (s:ByteArray)(c:Int)(W:World):Calls Tryz.prog 165 #[.string s, .int .u8 c] W fun e w'=>e= .returned (.int .i64 (indexByte s.data.toList c.toNat.toUInt8))∧w'=W:=by
 have hd:=aoD s c W
 go_enter Tryz.func165,Tryz.ntmps165
 go_wp2
 go_ret
 exact⟨rfl,rfl⟩
theorem MH (c:Int)(hc:0≤c)(hc2:c<256):∀(l:List UInt8) (i:Nat),Xo c i l=bif Go.Lib.indexByte l c.toNat.toUInt8== -1 then -1 else i+Go.Lib.indexByte l c.toNat.toUInt8
 | [],i=>rfl
 |x::r,i=>by
  have ih:=MH c hc hc2 r (i+1)
  have hge:=indexByte_ge r c.toNat.toUInt8
  have e:((x.toNat:Int)==c)=(x==c.toNat.toUInt8):=by
   rw[Bool.eq_iff_iff,beq_iff_eq,beq_iff_eq]
   constructor
   ·intro h;subst h;simp
   ·intro h;subst h;simp;omega
  simp only[Xo,indexByte,e,ih]
  generalize c.toNat.toUInt8=u at hge ⊢
  cases hx:(x==u) with
  |true=>simp
  |false=>
   cases hi:(indexByte r u== -1) with
   |true=>simp
   |false=>
    have h1:(indexByte r u+1== -1)=false:=by rw[beq_eq_false_iff_ne];omega
    simp[h1]
    omega
theorem P9 {T:c9}{v d:Nat}{xh:D2 T v}{yh:Ak T v}(hh:(T.sig v).ag=[])(hu:Ni d (T.sig v) (xZ _ yh)=[]):zU T v d xh yh=bg (aW T v xh):=by
 unfold zU
 rw[hu]
 have:∀{hs:List Nat} (h:hs=[]) (x:GW T hs) (l:List bK),sx T hs hs x l=l:=fun h x l=>by subst h;rfl
 unfold sI
 rw[this (by simp[KX.hout,hh])]
 rfl
theorem amw (x:ByteArray×Int)(y:Int)(h:(bif decide (0≤x.2)&&decide (x.2<256) then some (Xo x.2 0 x.1.data.toList) else none)=some y):Sp Tryz.prog T 165 x y:=by
 refine⟨⟨_,Tryz.func165,by kernel_rfl,by kernel_rfl⟩,fun E ν args d hE hG hC hst hargs=> ?_⟩
 have hs:zU T 165 d x y=bg (aW T 165 x):=P9 rfl rfl
 obtain⟨s,c⟩:=x
 obtain⟨v1,r1,e1,h1,v2,e2,h2⟩:nO _ [.v .str, .v (.int .u8)] (s,c) args.toList:=hargs
 have h1': [v1]=[.string s]:=h1
 have h2': [v2]=[.int .u8 c]:=h2
 simp only[List.cons.injEq,and_true] at h1' h2'
 subst h1' h2' e2
 obtain rfl:args= #[.string s, .int .u8 c]:=by cases args;simp_all
 cases hc:decide (0≤c)&&decide (c<256) with
 |false=>simp only[hc,cond_false] at h;cases h
 |true=>
  simp only[Bool.and_eq_true,decide_eq_true_eq] at hc
  refine(amv s c E.w0).mono fun e w' ⟨he,hw⟩=> ?_
  subst he hw
  refine⟨_,ν,rfl,by rw[hs];exact hst, ?_⟩
  rw[hs]
  have e3:y=indexByte s.data.toList c.toNat.toUInt8:=by
   have h':Xo c 0 s.data.toList=y:=by simpa [hc.1,hc.2] using h
   rw[←h',MH c hc.1 hc.2]
   cases hi:(indexByte s.data.toList c.toNat.toUInt8== -1) with
   |true=>simpa using (beq_iff_eq.1 hi).symm
   |false=>simp
  rw[e3]
  show [Value.int .i64 _]=[Value.int .i64 _]
  rfl
abbrev ah2:cd T:=fun _ _=>none
theorem au5:abk Tryz.prog T ah2:=fun v xh yh h=>by cases h
theorem arG:abM Tryz.prog T ah2:=fun v xh yh h=>by cases h
theorem aoE:Tryz.f84.body.isSome=true:=by kernel_rfl
noncomputable def W1:Code:=Tryz.f84.body.get aoE
theorem arH:Tryz.f84.body=some W1:=by kernel_rfl
theorem aeZ:K9 T Tryz.f84 W1 ah2 0 100084 (none:Option (List tTb.den))=some ([]:List tTb.den):=by kernel_rfl
theorem ae0 (x:List tTb.den):K9 T Tryz.f84 W1 ah2 0 100084 (some x:Option (List tTb.den))=bif aP 16 2 0 x.length then some x else none:=by kernel_rfl
theorem akK {E:Env}{x:D2 T 84}{z:D2 T 100084}(h:Go.Abs.Callee T E 84 x):Go.Abs.Callee T E 100084 z:=
 ⟨h.j,h.m,h.om,h.acc,fun i k hi=>h.hx i k (fun hm:i∈([]:List Nat)=>by cases hm),fun i=>by
   have:=h.ro i
   exact this⟩
theorem akL (o:Option (List tTb.den))(y:List tTb.den)(h:K9 T Tryz.f84 W1 ah2 0 100084 o=some y):Sp Tryz.prog T 100084 o y:=
 Wc (v:=100084) afH au5 arG Tryz.func84 arH (by kernel_rfl) rfl h
theorem aoF (x y:List tTb.den)(h:(bif aP 16 2 0 x.length then some x else none)=some y):Sp Tryz.prog T 84 x y:=by
 refine⟨⟨_,Tryz.func84,by kernel_rfl,by kernel_rfl⟩,fun E ν args d hE hG hC hst hargs=> ?_⟩
 have hs0:∀z:D2 T 84,aW T 84 z=eM T:=fun z=>Gc rfl
 have hs1:∀z:D2 T 100084,aW T 100084 z=eM T:=fun z=>Gc rfl
 have go:∀o:Option (List tTb.den),K9 T Tryz.f84 W1 ah2 0 100084 o=some y→nO (view E (bg (eM T)) ν (fun _=>False) E.w0) [.v (.pg tTb)] o args.toList→Calls Tryz.prog 84 args E.w0 (Go.Abs.Left T E 84 x y d):=fun o ho ha=>by
  refine((akL o y ho).2 E ν args d hE hG (akK hC) (by rw[hs1 o];rw[hs0 x] at hst;exact hst) (by rw[hs1 o];exact ha)).mono ?_
  rintro e w' ⟨r,ν',rfl,h1,h2⟩
  have e1:zU T 100084 d o y=bg (eM T):=(P9 (T:=T) (v:=100084) rfl rfl).trans (congrArg bg (hs1 o))
  have e2:zU T 84 d x y=bg (eM T):=(P9 (T:=T) (v:=84) rfl rfl).trans (congrArg bg (hs0 x))
  rw[e1] at h1 h2
  refine⟨r,ν',rfl,by rw[e2];exact h1, ?_⟩
  rw[e2]
  exact h2
 rw[hs0 x] at hst hargs
 obtain⟨v,e1,A,c,bQ,h1,h2,h3,h4,h5⟩:nO _ [.v (.slice tTb)] x args.toList:=hargs
 simp only[List.cons.injEq,and_true] at h1
 subst h1
 cases A with
 |none=>
  have hx:x=[]:=List.eq_nil_of_length_eq_zero (Nat.le_zero.1 (by have h6:=h4 rfl;subst h6;exact h2))
  have hc:=h4 rfl
  subst hx hc
  have hy:y=[]:=by
   have h':(some []:Option (List tTb.den))=some y:=h
   simpa using h'.symm
  subst hy
  exact go none aeZ ⟨_,e1,rfl⟩
 |some ad=>
  refine go (some x) ((ae0 x).trans h) ⟨_,e1,ad,c,bQ,rfl,h2,h3,fun j u hj=> ?_⟩
  obtain⟨XY,e2,hv⟩:=h5 j u hj
  cases e2
  exact hv
theorem amx:adR Tryz.prog T B:=fun v g hg=>by
 unfold B at hg
 split at hg
 ·cases hg
  exact⟨rfl,avC⟩
 ·cases hg
  exact⟨rfl,aoF⟩
 ·cases hg
  exact⟨rfl,amw⟩
 ·cases hg
end Go.Proofs.YtofjebmoebhiiaaGreatDoor.Ev
namespace Go.Proofs.YtofjebmoebhiiaaGreatDoor.clearLaid
open Go.ChangeShapes Go.WideShapes Go.ChangeAt Go.RowKit
abbrev laid:List (String×DataW Unit):=[("torus/clear.standard",Rows.laid_torus_clear_standard),("torus/clear.twist",Rows.laid_torus_clear_twist)]
theorem own:ownKnob Tryz.prog.godebug=none:=by kernel_rfl
theorem g0:Tryz.prog.globalNamed "torus/clear.standard" =some 0:=by kernel_rfl
theorem g1:Tryz.prog.globalNamed "torus/clear.twist" =some 1:=by kernel_rfl
theorem t0:(Tryz.prog.globals[0]?).map (·.type)=some 86:=by kernel_rfl
theorem t1:(Tryz.prog.globals[1]?).map (·.type)=some 86:=by kernel_rfl
theorem akM (os:Os)(args:Array Value):laidMetH Tryz.prog laid ((World.doorLaid Tryz.prog 19 os).forCall (fun _ _=>0) ⟨#[],args,[]⟩).memory:=
 laidMetH_of_parts3 (fuel:=8) (laidMet_of_run' 8 (by kernel_rfl) (by kernel_rfl)) (by kernel_rfl) (by kernel_rfl)
theorem amy {W:World}(h:laidMetH Tryz.prog laid W):W.cell? ⟨0,0,none⟩=some (.func (.func 196) #[] #[])∧W.cell? ⟨0,1,none⟩=some (.bool false)∧
  W.cell? ⟨1,0,none⟩=some (.func (.func 198) #[] #[])∧W.cell? ⟨1,1,none⟩=some (.bool true):=by
 have one:∀(name:String) (gn:Nat) (b0:UInt8) (r:List UInt8) (b:Bool) (f0:FuncId),(name,DataW.iface "func table" (.agg [.iface "func" (.lit (.string (b0::r))), .lit (.bool b)]))∈laid→Tryz.prog.globalNamed name=some gn→(Tryz.prog.globals[gn]?).map (·.type)=some 86→
   (((List.range Tryz.prog.funcs.size).filter fun f=>(Tryz.prog.funcs[f]?).any (·.name.toUTF8.data.toList==b0::r))=[f0])→W.cell? ⟨gn,0,none⟩=some (.func (.func f0) #[] #[])∧W.cell? ⟨gn,1,none⟩=some (.bool b):=by
  intro name gn b0 r b f0 hm hgn htn hone
  obtain⟨g,t,cs,fuel,p,hg,ht,hv,hd⟩:=h.funcs hm
  obtain rfl:=Option.some.inj (hgn.symm.trans hg)
  obtain rfl:=Option.some.inj (htn.symm.trans ht)
  have hd':DataW.trod (funcToken Tryz.prog) Tryz.prog W 0 (fun _=>true) true fuel 86 cs.toList=some (.agg [.held (b0::r), .lit (.bool b)],p):=hd
  obtain⟨y0,y1,n,hx,hl,h0,h1⟩:=trod_struct2 Tryz.underlying86 hd'
  have hl':cs.toList.length=2:=hl.trans (by kernel_rfl)
  obtain⟨l⟩:=cs
  simp only at hl' h0 h1
  match l,hl' with
  | [c0,c1],_=>
    have e84:Tryz.prog.cellsOf 84=1:=by kernel_rfl
    have e4:Tryz.prog.cellsOf 4=1:=by kernel_rfl
    rw[e84] at h0
    rw[e4] at h1
    simp only[Prod.mk.injEq,DataW.agg.injEq,List.cons.injEq,and_true] at hx
    have k0:DataW.trod (funcToken Tryz.prog) Tryz.prog W 0 (fun _=>true) true n 84 [c0]=some (.held (b0::r),y0.2):=by
     have h0':DataW.trod (funcToken Tryz.prog) Tryz.prog W 0 (fun _=>true) true n 84 [c0]=some y0:=h0
     rw[h0',hx.1.1]
    obtain rfl:=func_of_trod (f0:=f0) Tryz.underlying84 hone k0
    have v0:=World.var?_cell hgn hv 0
    have v1:=World.var?_cell hgn hv 1
    obtain⟨b',e1,e2⟩:=DataW.trod_bool Tryz.underlying4 (show DataW.trod (funcToken Tryz.prog) Tryz.prog W 0 (fun _=>true) true n 4 [c1]=some y1 from h1)
    simp only[List.cons.injEq,and_true] at e1
    subst e1
    have e3:=hx.1.2
    rw[e2] at e3
    simp only[DataW.lit.injEq,Lit.bool.injEq] at e3
    subst e3
    exact⟨v0,v1⟩
 obtain⟨a1,a2⟩:=one "torus/clear.standard" 0 _ _ false 196 (List.mem_cons_self ..) g0 t0 (by kernel_rfl)
 obtain⟨a3,a4⟩:=one "torus/clear.twist" 1 _ _ true 198 (List.mem_cons_of_mem _ (List.mem_cons_self ..)) g1 t1 (by kernel_rfl)
 exact⟨a1,a2,a3,a4⟩
theorem amz {W:World}(h:laidMetH Tryz.prog laid W):Go.Abs.Zs Ev.T (fun key u=>∃ad:Addr,key= .cell ad∧∃XY:Addr,Go.Abs.Key.cell ad= .cell XY∧W.cell? XY=some u):=by
 obtain⟨a1,a2,a3,a4⟩:=amy h
 have one:∀(gn f0:Nat) (b:Bool),W.cell? ⟨gn,0,none⟩=some (.func (.func f0) #[] #[])→W.cell? ⟨gn,1,none⟩=some (.bool b)→
   Go.Abs.sF (fun key u=>∃ad:Addr,key= .cell ad∧∃XY:Addr,Go.Abs.Key.cell ad= .cell XY∧W.cell? XY=some u) [⟨.fn,f0+1⟩,⟨.bool,b⟩] (.pointer (some ⟨gn,0,none⟩)):=fun gn f0 b h1 h2=>
  ⟨⟨gn,0,none⟩,[.func (.func f0) #[] #[], .bool b],rfl,⟨rfl,rfl,trivial⟩,fun j u hj=>by
    match j,hj with
    |0,hj=>cases hj;exact⟨_,rfl,_,rfl,h1⟩
    |1,hj=>cases hj;exact⟨_,rfl,_,rfl,h2⟩
    |j+2,hj=>simp at hj⟩
 intro i x hx
 have hx':Go.Abs.look [(1000000000,Go.Abs.AV.qB [⟨.fn,(197:Nat)⟩,⟨.bool,false⟩]),(1000000001,Go.Abs.AV.qB [⟨.fn,(199:Nat)⟩,⟨.bool,true⟩])] i=some x:=hx
 have hm:=Go.Abs.Bv hx'
 simp only[List.mem_cons,List.not_mem_nil,or_false,Prod.mk.injEq] at hm
 rcases hm with ⟨rfl,rfl⟩ | ⟨rfl,rfl⟩
 ·exact⟨0,_,rfl,rfl,one 0 196 false a1 a2⟩
 ·exact⟨1,_,rfl,rfl,one 1 198 true a3 a4⟩
end Go.Proofs.YtofjebmoebhiiaaGreatDoor.clearLaid
namespace Go.Proofs.YtofjebmoebhiiaaGreatDoor.clearCohomologyMatches
open Go.ChangeShapes Go.WideShapes Go.ChangeAt Go.RowKit
theorem laidOut:laidOutB Tryz.prog=true:=by kernel_rfl
theorem arI:Go.Abs.lays Tryz.prog Go.Abs.tCh 24=true:=by kernel_rfl
theorem arJ:Go.Abs.lays Tryz.prog Go.Abs.aeY 28=true:=by kernel_rfl
theorem walk (W:World)(h:laidMetH Tryz.prog clearLaid.laid W)(l0:Array Value)(x0:Go.Abs.tCh.den)(w0:Go.Abs.Rel (Go.Abs.wv W) Go.Abs.tCh x0 l0.toList)(b0:Go.Abs.Bnd Go.Abs.tCh x0)(l1:Array Value)(x1:Go.Abs.aeY.den)(w1:Go.Abs.Rel (Go.Abs.wv W) Go.Abs.aeY x1 l1.toList)(b1:Go.Abs.Bnd Go.Abs.aeY x1):Calls Tryz.prog 6 #[.agg l0, .agg l1] W fun e w'=>e= .returned (.bool true)∧Below W.heap.size W w':=
 Go.Abs.ap2 (T:=Ev.T) (V0:=fun key u=>∃ad:Addr,key= .cell ad∧W.cell? ad=some u) (w:=W) (v:=6) (xh:=(x0,x1)) (yh:=true) ((Go.Abs.ag5 Ev.afH Ev.amx Ev.aod) 6 (x0,x1) true (Ev.aut x0 x1 b0 b1) rfl) rfl HEq.rfl
   (fun ad u ⟨XY,e,hc⟩=>by cases e;exact hc) (clearLaid.amz h) ⟨_,_,rfl,Go.Abs.yk.mono (fun key u ⟨ad,e,h⟩=>⟨ad,e,by rw[←e];exact⟨ad,e,h⟩⟩) (Go.Abs.ajH w0),⟨_,rfl,Go.Abs.yk.mono (fun key u ⟨ad,e,h⟩=>⟨ad,e,by rw[←e];exact⟨ad,e,h⟩⟩) (Go.Abs.ajH w1)⟩⟩
theorem lifted (os:Os)(started:os.Started)(H:Type)(enc:TypeId×Value→H):
  ReturnsInHanded {} Tryz.checked os 6 .any (fun w args=>(Rows.clearCohomologyMatchesSpec.pre enc Tryz.prog Tryz.f6 [] false w args∧laidMetH Tryz.prog clearLaid.laid w)∧sizedMet enc Tryz.prog Tryz.f6 (OpenSpec.ofChange Rows.clearCohomologyMatchesSpec) false w args)
   (Rows.clearCohomologyMatchesSpec.post enc Tryz.prog Tryz.f6 false true false false):=by
 refine returnsInHanded_of_change_and (C:=Tryz.checked) (X:=fun w _=>laidMetH Tryz.prog clearLaid.laid w) (fun _ _ _ hh h=>h.of_heap hh) clearLaid.own started (by kernel_rfl) Tryz.func6
  (ChangeSpec.witness_shaped (enc:=enc) (C:=Tryz.checked) (os:=os) (X:=fun w _=>laidMetH Tryz.prog clearLaid.laid w) false (World.doorLaid Tryz.prog 19 os) #[.agg #[.int .i64 0, .slice none 0 0], .agg #[.slice none 0 0, .slice none 0 0, .int .i64 0, .slice none 0 0]] 8 rfl (World.shaped_of_RefB (by kernel_rfl) (by kernel_rfl)) (by kernel_rfl) (by kernel_rfl) (by kernel_rfl) (clearLaid.akM os _)) ?_
 intro W base args ds gs before ank hW _ arK hL _
 have hsz:(DataW.weightsEach Tryz.prog (Tryz.f6.params.toList++Rows.clearCohomologyMatchesSpec.plain.varTypes Tryz.prog) (ds++gs)).all (· ≤reachBytes)=true:=arK
 have hval:∀(j:Nat) t v,Tryz.f6.params[j]? =some t→args[j]? =some v→Value.okWide Tryz.prog W .any base t v:=ank
 have hW':=hW
 obtain⟨p,q,hA0,hV,rfl,hfz,hnd⟩:=hW
 have hA:DataW.TrodAll enc Tryz.prog W 0 (fun _=>true) true Tryz.f6.params.toList args.toList ds p:=hA0
 rw[Tryz.params6] at hA hval hsz
 obtain⟨v0,vs0,d0,ds0,q0_,q0,hargs,rfl,rfl,h0,r0⟩:=trodAll_cons hA
 obtain⟨v1,vs1,d1,ds1,q1_,q1,rfl,rfl,rfl,h1,r1⟩:=trodAll_cons r0
 obtain⟨rfl,rfl,rfl⟩:=trodAll_nil r1
 obtain rfl:args= #[v0,v1]:=by cases args;simp_all
 obtain⟨rfl,rfl⟩:=trodVars_none hV
 obtain⟨l0,rfl,z0⟩:=okWide_struct Tryz.underlying24 (hval 0 24 v0 rfl rfl)
 have lt0:∀x∈q0_,x.block<W.heap.size:=by obtain⟨m,hm⟩:=h0;exact DataW.trod_lt m _ _ _ hm
 obtain⟨x0,w0,b0⟩:=Go.Abs.ajG arI h0 hsz (j:=0) rfl rfl
 obtain⟨l1,rfl,z1⟩:=okWide_struct Tryz.underlying28 (hval 1 28 v1 rfl rfl)
 have lt1:∀x∈q1_,x.block<W.heap.size:=by obtain⟨m,hm⟩:=h1;exact DataW.trod_lt m _ _ _ hm
 obtain⟨x1,w1,b1⟩:=Go.Abs.ajG arJ h1 hsz (j:=1) rfl rfl
 clear hA0 ank arK hsz
 refine(walk W hL l0 x0 w0 b0 l1 x1 w1 b1).mono fun e W' ⟨he,bel⟩=> ?_
 subst he
 exact⟨_,rfl,_,_,_,[],_,[],hW',trodAll_mk1 (shut_bool Tryz.underlying4 _),(trodAll_cons_mk (Below.trod laidOut (by kernel_rfl) (of_decide_eq_true (by kernel_rfl)) h0 bel lt0) (trodAll_cons_mk (Below.trod laidOut (by kernel_rfl) (of_decide_eq_true (by kernel_rfl)) h1 bel lt1) trodAll_mk0)),rfl,bel.frame _,fun h=>by cases h⟩
theorem over:Rows.clearCohomologyMatchesRow.holds Tryz.pinned (OpenSpec.ofChange Rows.clearCohomologyMatchesSpec):=
 OpenClaim.holds_of_wide 6 Tryz.f6 rfl rfl rfl rfl rfl rfl rfl ⟨rfl,rfl,rfl,rfl,rfl⟩ rfl rfl rfl rfl rfl (by kernel_rfl) Tryz.func6 (by kernel_rfl)
  (of_decide_eq_true (by kernel_rfl)) (by unfold Func.isWrapper;first | (rw[if_pos (by decide+kernel)];kernel_rfl) | (rw[if_neg (by decide+kernel)];exact⟨rfl,rfl⟩))
  (fun os started H enc _=>lifted os started H enc)
theorem au8:Rows.ClearCohomologyMatchesCardSaid:=
 Claim7.holds_tied_plain_at .later [] [.funcs, .funcs] true (true, "646fabaf2cebbacc9a084797f15646a8f53b2861734cfa52447632ca260b63f2") false
  over (fun _ h=>by cases h) (by kernel_rfl) (fun _ h=>by cases h) clearCohomologyMatches_row_tie rfl ⟨rfl,rfl⟩ (by kernel_rfl) rfl
  (fun f fn hf hfn=>by
   obtain rfl:f=6:=Option.some.inj ((show Tryz.prog.funcNamed "torus/toruslaw22.ClearCohomologyMatches" =some 6 by kernel_rfl).symm.trans hf) |>.symm
   obtain rfl:fn=Tryz.f6:=(Option.some.inj (Tryz.func6.symm.trans hfn)).symm
   exact⟨by kernel_rfl,fun j t ht=>by
    rw[Tryz.params6] at ht
    have hj:j<2:=by
     rcases Nat.lt_or_ge j 2 with h |h
     ·exact h
     ·rw[Array.getElem?_eq_none (by simpa using h)] at ht;cases ht
    match j,hj with
    |0,_=>(obtain rfl:t=24:=by simpa using ht.symm);exact(show Tryz.prog.wantsStandIn 24=false by kernel_rfl)
    |1,_=>(obtain rfl:t=28:=by simpa using ht.symm);exact(show Tryz.prog.wantsStandIn 28=false by kernel_rfl)⟩)
  (by kernel_rfl)
end Go.Proofs.YtofjebmoebhiiaaGreatDoor.clearCohomologyMatches
namespace Go.Proofs.YtofjebmoebhiiaaGreatDoor
theorem clearCohomologyMatches_holds:Rows.ClearCohomologyMatchesCardSaid:=clearCohomologyMatches.au8
#print axioms clearCohomologyMatches_holds
end Go.Proofs.YtofjebmoebhiiaaGreatDoor
