/- YtofjebmoebhiiaaGreatDoorUf: a part of the proof (Va, Vb, Vd ..). No condition. -/
import Derived.Test.YtofjebmoebhiiaaGreatDoorUe
import Derived.Shelf.SlLaysF0
import Derived.Test.YtofjebmoebhiiaaGreatDoorProg
import Derived.Shelf.SlSortCmp.NoneTotal
import Derived.WalkKit
import Derived.Lib.Bytealg
import Derived.Laws.StandIn
import Derived.Test.YtofjebmoebhiiaaGreatDoorTie
import Derived.Test.YtofjebmoebhiiaaGreatDoorCards
import Derived.ProofKit
import Derived.OpenShut
import Derived.ShutString
import Derived.ChangeOld
import Derived.Below
import Derived.SizedLaws
import Derived.LaidMore
import Derived.Stop.Joined
set_option linter.unusedVariables false
set_option linter.unusedSimpArgs false
set_option maxRecDepth 100000
set_option exponentiation.threshold 2000
namespace Go.Proofs.YtofjebmoebhiiaaGreatDoor.Ev
open Go.Abs Go.IntWalk
abbrev Fm:=List (List Int)
theorem tD {β:Type}{xs:Fm}{k:Nat}{f:List Int→Option β}(h:k<xs.length):(idx xs (k:Int)).bind f=f (xs.getD k []):=da [] h
theorem bz {α:Type}{d:α}{l:List α}{k:Nat}(h:k<l.length):l.getD k d∈l:=by
 have:l.getD k d=l[k]:=by simp[List.getD,h]
 rw[this];exact List.getElem_mem _
theorem ai9 {a:List Int}(hl:a.length≤1000000)(v:Int):∀(m i:Nat),m+i=a.length→∃b,j0 a v i=some b:=by
 intro m
 induction m with
 |zero=>intro i hi;rw[A0,uw,ai (by omega)];exact⟨_,rfl⟩
 |succ m ih=>
  intro i hi
  rw[A0,uw,ak (by omega),fk (by omega) (by omega),bF (by omega)]
  cases (a.getD (i:Int).toNat 0==v) with
  |true=>exact⟨_,rfl⟩
  |false=>rw[cF];exact ih (i+1) (by omega)
theorem akd {a:List Int}(hl:a.length≤1000000)(v:Int):∃b,pn a v=some b:=by
 rw[P0,HW];exact ai9 hl v a.length 0 (by omega)
theorem ahy {a b:List Int}(ha:a.length≤1000000)(hl:b.length≤1000000):∀(m i:Nat),m+i=b.length→∃r,iS a b i=some r:=by
 intro m
 induction m with
 |zero=>intro i hi;rw[zJ,sM,ai (by omega)];exact⟨_,rfl⟩
 |succ m ih=>
  intro i hi
  obtain⟨r,hr⟩:=akd ha (b.getD (i:Int).toNat 0)
  rw[zJ,sM,ak (by omega),fk (by omega) (by omega),hr,bS,bF (by omega)]
  cases r with
  |true=>rw[Bool.not_true,cF];exact ih (i+1) (by omega)
  |false=>exact⟨_,rfl⟩
theorem aln {a b:List Int}(ha:a.length≤1000000)(hl:b.length≤1000000):∃r,vR a b=some r:=by
 rw[OE,F5];exact ahy ha hl b.length 0 (by omega)
theorem ahz {a b:List Int}(hl:a.length≤1000000)(hab:a.length=b.length):∀(m i:Nat),m+i=a.length→∃r,eN a b i=some r:=by
 intro m
 induction m with
 |zero=>intro i hi;rw[q6,mJ,ai (by omega)];exact⟨_,rfl⟩
 |succ m ih=>
  intro i hi
  rw[q6,mJ,ak (by omega),fk (by omega) (by omega),fk (by omega) (by omega),fk (by omega) (by omega),fk (by omega) (by omega),bF (by omega)]
  cases decide (a.getD (i:Int).toNat 0<b.getD (i:Int).toNat 0) with
  |true=>exact⟨_,rfl⟩
  |false=>
   rw[cF]
   cases decide (a.getD (i:Int).toNat 0>b.getD (i:Int).toNat 0) with
   |true=>exact⟨_,rfl⟩
   |false=>rw[cF];exact ih (i+1) (by omega)
theorem KQ {a b:List Int}(hl:a.length≤1000000):∃r,aV a b=some r:=by
 rw[Eg,yE]
 by_cases h:(a.length:Int)=(b.length:Int)
 ·rw[nE h];exact ahz hl (by omega) a.length 0 (by omega)
 ·rw[BC h]
  cases decide ((a.length:Int)<(b.length:Int)) with
  |true=>exact⟨_,rfl⟩
  |false=>exact⟨_,rfl⟩
theorem abL {n:Int}{i:Nat}:∀(k:Nat) (n:Int) (out:List Int),k<out.length→out.length≤1000000→i<out.length→∃n' out',fD n i k out=dM n' (IntKind.wrap .i64 ((i:Int)+1)) out'∧out'.length=out.length:=by
 intro k
 induction k with
 |zero=>intro n out hk hl hi;rw[vb,ov,cM (by omega)];exact⟨_,_,rfl,rfl⟩
 |succ k ih=>
  intro n out hk hl hi
  have e1:IntKind.wrap .i64 (((k+1:Nat):Int) - 1)=(k:Int):=by rw[i64_in _ (by omega)];omega
  rw[vb,ov,cy (by omega),e1,fk (by omega) (by omega),xm (by omega),fk (by omega) (by omega),xm (by omega)]
  cases decide (out.getD (k:Int).toNat 0>out.getD ((k+1:Nat):Int).toNat 0) with
  |true=>
   rw[cT,fk (by omega) (by omega),xm (by omega),fk (by omega) (by omega),xm (by omega),fk (by omega) (by omega),xm (by omega)]
   simp only
   rw[fk (by omega) (by rw[List.length_set];omega),xm (by rw[List.length_set];omega)]
   obtain⟨n',out',h1,h2⟩:=ih (IntKind.wrap .i64 (1 - n)) ((out.set (k:Int).toNat (out.getD ((k+1:Nat):Int).toNat 0)).set ((k+1:Nat):Int).toNat (out.getD (k:Int).toNat 0)) (by rw[List.length_set,List.length_set];omega) (by rw[List.length_set,List.length_set];exact hl) (by rw[List.length_set,List.length_set];exact hi)
   exact⟨n',out',h1,by rw[h2,List.length_set,List.length_set]⟩
  |false=>rw[cF];exact⟨_,_,rfl,rfl⟩
theorem abM:∀(m i:Nat) (n:Int) (out:List Int),m+i=out.length→out.length≤1000000→∃n' out',dM n i out=some (out',n')∧out'.length=out.length:=by
 intro m
 induction m with
 |zero=>intro i n out hi hl;rw[va,ot,ai (by omega)];exact⟨_,_,rfl,rfl⟩
 |succ m ih=>
  intro i n out hi hl
  obtain⟨n',out',h1,h2⟩:=abL (n:=n) (i:=i) i n out (by omega) hl (by omega)
  obtain⟨n2,ag,h3,h4⟩:=ih (i+1) n' out' (by omega) (by omega)
  rw[va,ot,ak (by omega),h1,bF (by omega)]
  exact⟨n2,ag,h3,by omega⟩
theorem Ua {l:List Int}(hl:l.length≤1000000):∃n' out',iU l=some (out',n')∧out'.length=l.length:=by
 rw[JH,A3,iQ (by omega) (by omega),List.nil_append]
 exact abM l.length 0 0 l (by omega) hl
theorem Wo {out:List Int}(ho:out.length≤4):∃s,(bif ((out.length:Int)==0) then bif (aB 8 1 out.length 1) then (iU (out++([(0:Int)]:List Int))).bind fun r3=>some r3.1 else none else (iU out).bind fun r4=>some r4.1)=some s∧s.length≤4:=by
 by_cases h:(out.length:Int)=0
 ·obtain⟨n',s,h1,h2⟩:=Ua (l:=out++[0]) (by simp;omega)
  rw[sm h,iQ (by omega) (by omega),h1,bS]
  exact⟨s,rfl,by rw[h2];simp;omega⟩
 ·obtain⟨n',s,h1,h2⟩:=Ua (l:=out) (by omega)
  rw[jT h,h1,bS]
  exact⟨s,rfl,by omega⟩
theorem XO {l:List Int}(hl:l.length≤1000000000000000000):∀(m i:Nat) (out:List Int),m+i=l.length→out.length≤4→∃s,gw l 4 6 i out=some s∧s.length≤4:=by
 intro m
 induction m with
 |zero=>
  intro i out hi ho
  rw[wD,pE,ai (by omega)]
  exact Wo ho
 |succ m ih=>
  intro i out hi ho
  rw[wD,pE,ak (by omega)]
  by_cases h:(out.length:Int)<4
  ·have e1:IntKind.wrap .i64 ((i:Int)+1)=((i+1:Nat):Int):=by rw[i64_in _ (by omega)];omega
   rw[ak h,fk (by omega) (by omega),lZ (by omega),lZ (by omega),e1]
   obtain⟨b,hb⟩:=akd (a:=out) (by omega) ((IntKind.wrap .i64 ((l.getD (i:Int).toNat 0).tmod 6+6)).tmod 6)
   rw[hb,bS]
   cases b with
   |true=>rw[Bool.not_true,cF];exact ih (i+1) out (by omega) ho
   |false=>
    rw[Bool.not_false,cT,iQ (by omega) (by omega)]
    exact ih (i+1) _ (by omega) (by simp;omega)
  ·rw[ai h]
   exact Wo ho
theorem abN {l:List Int}(hl:l.length≤1000000000000000000):∃s,rP l 4 6=some s∧s.length≤4:=by
 rw[K8,CP]
 exact XO hl l.length 0 [] (by omega) (by simp)
def Sx (n:Nat)(l:Fm):Prop:=l.length≤n∧∀s∈l,s.length≤4
theorem Sx.getD {n:Nat}{l:Fm}(h:Sx n l){k:Nat}(hk:k<l.length):(l.getD k []).length≤4:=h.2 _ (bz hk)
theorem Sx.snoc {n m:Nat}{l:Fm}(h:∀s∈l,s.length≤4){s:List Int}(hs:s.length≤4):∀t∈l++[s],t.length≤4:=fun t ht=>by
 rcases List.mem_append.1 ht with ht |ht
 ·exact h t ht
 ·rw[List.mem_singleton.1 ht];exact hs
theorem ahA {l:Fm}{s:List Int}(hl:Sx 1000 l)(hs:s.length≤4):∀(m i:Nat) (d:Bool) (out:Fm),m+i=l.length→out.length=i+(if d=true then 1 else 0)→(∀t∈out,t.length≤4)→
  ∃r,iV l s d i out=some r∧Sx (l.length+1) r:=by
 have hll:=hl.1
 intro m
 induction m with
 |zero=>
  intro i d out hi ho hx
  rw[zK,sO,ai (by omega)]
  cases d with
  |true=>rw[Bool.not_true,cF];exact⟨out,rfl,by rw[if_pos rfl] at ho;omega,hx⟩
  |false=>
   rw[if_neg (by decide)] at ho
   rw[Bool.not_false,cT,iQ (by omega) (by omega)]
   exact⟨_,rfl,by simp;omega,Sx.snoc (n:=0) (m:=0) hx hs⟩
 |succ m ih=>
  intro i d out hi ho hx
  obtain⟨r,hr⟩:=KQ (a:=s) (b:=l.getD i []) (by omega)
  have hg:=hl.getD (show i<l.length by omega)
  have ho2:out.length≤i+1:=by split at ho<;>omega
  rw[zK,sO,ak (by omega),tD (by omega),hr,bS,bF (by omega)]
  cases (r==0) with
  |true=>rw[cT];exact⟨l,rfl,by omega,hl.2⟩
  |false=>
   rw[cF]
   cases decide (r<0) with
   |true=>
    rw[cT]
    cases d with
    |true=>
     rw[Bool.not_true,cF,tD (by omega),iQ (by omega) (by omega)]
     exact ih (i+1) true _ (by omega) (by rw[if_pos rfl] at ho ⊢;simp;omega) (Sx.snoc (n:=0) (m:=0) hx hg)
    |false=>
     rw[if_neg (by decide)] at ho
     rw[Bool.not_false,cT,iQ (by omega) (by omega),tD (by omega),iQ (by omega) (by simp;omega)]
     exact ih (i+1) true _ (by omega) (by rw[if_pos rfl];simp;omega) (Sx.snoc (n:=0) (m:=0) (Sx.snoc (n:=0) (m:=0) hx hs) hg)
   |false=>
    rw[cF,tD (by omega),iQ (by omega) (by omega)]
    exact ih (i+1) d _ (by omega) (by simp;omega) (Sx.snoc (n:=0) (m:=0) hx hg)
theorem XP {l:Fm}{s:List Int}(hl:Sx 1000 l)(hs:s.length≤4):∃r,fa l s=some r∧Sx (l.length+1) r:=by
 rw[OF,F6]
 exact ahA hl hs l.length 0 false [] (by omega) (by simp) (by simp)
theorem ZY {s:List Int}(hs:s.length≤4){m:Int}{out:Fm}(ho:Sx 900 out):∀(q i:Nat) (f:List Int),q+i=s.length→f.length≤i→
  ∃r,fE s out m i f=cS s r (IntKind.wrap .i64 (m+1))∧Sx (out.length+1) r:=by
 intro q
 induction q with
 |zero=>
  intro i f hi hf
  obtain⟨r,h1,h2⟩:=XP (l:=out) (s:=f) ⟨by have:=ho.1;omega,ho.2⟩ (by omega)
  rw[vd,oA,ai (by omega),h1,bS]
  exact⟨r,rfl,h2⟩
 |succ q ih=>
  intro i f hi hf
  rw[vd,oA,ak (by omega),Ml (by omega),bF (by omega)]
  cases ((shr .i64 m (i:Int)).tmod 2==1) with
  |true=>
   rw[cT,fk (by omega) (by omega),iQ (by omega) (by omega)]
   exact ih (i+1) _ (by omega) (by simp;omega)
  |false=>rw[cF];exact ih (i+1) f (by omega) (by omega)
theorem XQ {s:List Int}(hs:s.length≤4){m:Int}{out:Fm}(ho:Sx 900 out):∀(q i:Nat) (f:List Int),q+i=s.length→f.length≤i→
  ∃r,gB s m i out f=cS s r (IntKind.wrap .i64 (m+1))∧Sx (out.length+1) r:=by
 intro q
 induction q with
 |zero=>
  intro i f hi hf
  obtain⟨r,h1,h2⟩:=XP (l:=out) (s:=f) ⟨by have:=ho.1;omega,ho.2⟩ (by omega)
  rw[wE,pF,ai (by omega),h1,bS]
  exact⟨r,rfl,h2⟩
 |succ q ih=>
  intro i f hi hf
  rw[wE,pF,ak (by omega),Ml (by omega),bF (by omega)]
  cases ((shr .i64 m (i:Int)).tmod 2==1) with
  |true=>
   rw[cT,fk (by omega) (by omega),iQ (by omega) (by omega)]
   exact ih (i+1) _ (by omega) (by simp;omega)
  |false=>rw[cF];exact ih (i+1) f (by omega) (by omega)
theorem Wp {n:Nat}(h:n≤4):shl .i64 1 (n:Int)=((2^n:Nat):Int)∧2^n≤16:=by
 have:n=0∨n=1∨n=2∨n=3∨n=4:=by omega
 rcases this with rfl |rfl |rfl |rfl |rfl<;>exact⟨rfl,by decide⟩
theorem ZZ {s:List Int}(hs:s.length≤4):∀(q m:Nat) (out:Fm),q+m=2^s.length→Sx (500+m) out→∃r,cS s out m=some r∧Sx (out.length+q) r:=by
 obtain⟨hsh,hp⟩:=Wp hs
 intro q
 induction q with
 |zero=>
  intro m out hm ho
  rw[vc,oz,Ml (by omega),hsh,ai (by omega)]
  exact⟨out,rfl,by omega,ho.2⟩
 |succ q ih=>
  intro m out hm ho
  have h0:=ho.1
  obtain⟨r,h1,h2⟩:=ZY hs (m:=(m:Int)) (out:=out) ⟨by omega,ho.2⟩ s.length 0 [] (by omega) (by simp)
  have e0:((0:Nat):Int)=0:=rfl
  rw[e0] at h1
  have h20:=h2.1
  obtain⟨r2,h3,h4⟩:=ih (m+1) r (by omega) ⟨by omega,h2.2⟩
  rw[vc,oz,Ml (by omega),hsh,ak (by omega),h1,bF (by omega),h3]
  exact⟨r2,rfl,by have:=h4.1;omega,h4.2⟩
theorem Z0 {s:List Int}(hs:s.length≤4):∃r,j5 s=some r∧Sx 16 r:=by
 obtain⟨hsh,hp⟩:=Wp hs
 rw[K9,CQ,Hs,xI,Ml (by omega),hsh]
 by_cases h:(1:Int)<((2^s.length:Nat):Int)
 ·rw[ak h]
  obtain⟨r,h1,h2⟩:=XQ hs (m:=1) (out:=[]) ⟨by simp,by simp⟩ s.length 0 [] (by omega) (by simp)
  have e0:((0:Nat):Int)=0:=rfl
  rw[e0] at h1
  have h20:=h2.1
  have e1:IntKind.wrap .i64 ((1:Int)+1)=((2:Nat):Int):=rfl
  obtain⟨r2,h3,h4⟩:=ZZ hs (2^s.length - 2) 2 r (by omega) ⟨by simp at h20;omega,h2.2⟩
  rw[h1,e1,h3]
  exact⟨r2,rfl,by have:=h4.1;simp at h20;omega,h4.2⟩
 ·rw[ai h];exact⟨[],rfl,by simp,by simp⟩
theorem Pe {l f:Fm}(hf:Sx 16 f){i:Int}:∀(q k:Nat) (out:Fm),q+k=f.length→Sx (900 - q) out→∃r,cr l out i f k=gW l r (IntKind.wrap .i64 (i+1))∧Sx (out.length+q) r:=by
 have Qy:=hf.1
 intro q
 induction q with
 |zero=>intro k out hk ho;rw[tl,nx,ai (by omega)];exact⟨out,rfl,by omega,ho.2⟩
 |succ q ih=>
  intro k out hk ho
  have h0:=ho.1
  obtain⟨r,h1,h2⟩:=XP (l:=out) (s:=f.getD k []) ⟨by omega,ho.2⟩ (hf.getD (by omega))
  have h20:=h2.1
  rw[tl,nx,ak (by omega),tD (by omega),h1,bS,bF (by omega)]
  obtain⟨r2,h3,h4⟩:=ih (k+1) r (by omega) ⟨by omega,h2.2⟩
  exact⟨r2,h3,by have:=h4.1;omega,h4.2⟩
theorem XR {l:Fm}(hl:Sx 5 l):∀(q i:Nat) (out:Fm),q+i=l.length→Sx (800 - 16*q) out→∃r,gW l out i=some r∧Sx 800 r:=by
 have hll:=hl.1
 intro q
 induction q with
 |zero=>intro i out hi ho;rw[tn,ny,ai (by omega)];exact⟨out,rfl,by have:=ho.1;omega,ho.2⟩
 |succ q ih=>
  intro i out hi ho
  have h0:=ho.1
  obtain⟨f,h1,h2⟩:=Z0 (hl.getD (show i<l.length by omega))
  have h20:=h2.1
  obtain⟨r,h3,h4⟩:=Pe (l:=l) h2 (i:=(i:Int)) f.length 0 out (by omega) ⟨by omega,ho.2⟩
  have h40:=h4.1
  have e0:((0:Nat):Int)=0:=rfl
  rw[e0] at h3
  rw[tn,ny,ak (by omega),tD (by omega),h1,bS,h3,bF (by omega)]
  exact ih (i+1) r (by omega) ⟨by omega,h4.2⟩
theorem XT {l:Fm}(hl:Sx 5 l):∀(q i:Nat) (out:Fm),q+i=l.length→Sx (800 - 16*q) out→∃r,fz l i out=some r∧Sx 800 r:=by
 have hll:=hl.1
 intro q
 induction q with
 |zero=>intro i out hi ho;rw[ve,oD,ai (by omega)];exact⟨out,rfl,by have:=ho.1;omega,ho.2⟩
 |succ q ih=>
  intro i out hi ho
  have h0:=ho.1
  obtain⟨f,h1,h2⟩:=Z0 (hl.getD (show i<l.length by omega))
  have h20:=h2.1
  rw[ve,oD,ak (by omega),tD (by omega),h1,bS,F7,wI]
  by_cases hf:f.length=0
  ·rw[ai (by omega),bF (by omega)]
   exact ih (i+1) out (by omega) ⟨by omega,ho.2⟩
  ·obtain⟨r,h3,h4⟩:=XP (l:=out) (s:=f.getD 0 []) ⟨by omega,ho.2⟩ (h2.getD (by omega))
   have h40:=h4.1
   obtain⟨r2,h5,h6⟩:=Pe (l:=l) h2 (i:=(i:Int)) (f.length - 1) 1 r (by omega) ⟨by omega,h4.2⟩
   have h60:=h6.1
   have e0:((0:Nat):Int)=0:=rfl
   have e1:IntKind.wrap .i64 ((0:Int)+1)=((1:Nat):Int):=rfl
   have hb:∀{β:Type} {g:List Int→Option β},(idx f (0:Int)).bind g=g (f.getD 0 []):=fun {β g}=>by
    have:=tD (xs:=f) (k:=0) (f:=g) (by omega)
    rw[e0] at this;exact this
   rw[ak (by omega),hb,h3,bS,e1,h5,bF (by omega)]
   exact XR hl q (i+1) r2 (by omega) ⟨by omega,h6.2⟩
theorem ae5 {l:Fm}(hl:Sx 5 l):∃r,lI l=some r∧Sx 800 r:=by
 have:=hl.1
 rw[JI,A6]
 exact XT hl l.length 0 [] (by omega) ⟨by simp,by simp⟩
theorem ahB {t:Fm}(ht:Sx 800 t):∀(q i:Nat) (out:Fm),q+i=t.length→Sx i out→∃r,eF t (t.length:Int) i out=some r∧Sx 800 r:=by
 have htl:=ht.1
 intro q
 induction q with
 |zero=>intro i out hi ho;rw[wH,pM,ai (by omega)];exact⟨out,rfl,by have:=ho.1;omega,ho.2⟩
 |succ q ih=>
  intro i out hi ho
  have h0:=ho.1
  rw[wH,pM,ak (by omega),tD (by omega),iQ (by omega) (by omega),bF (by omega)]
  exact ih (i+1) _ (by omega) ⟨by simp;omega,Sx.snoc (n:=0) (m:=0) ho.2 (ht.getD (by omega))⟩
theorem adk {Zj:Fm}(hf:Sx 5 Zj):∃r,((lI Zj).bind fun r3=>eF r3 (r3.length:Int) (0:Int) ([]:List (List Int)))=some r∧Sx 800 r:=by
 obtain⟨t,h1,h2⟩:=ae5 hf
 rw[h1,bS]
 exact ahB h2 t.length 0 [] (by omega) ⟨by simp,by simp⟩
theorem ahC {l:Fm}(hl:l.length≤1000000)(hs:∀s∈l,s.length≤1000000000000000000):∀(q i:Nat) (Zj:Fm),q+i=l.length→Sx i Zj→i≤5→∃r,gu l 5 3 6 i Zj=some r∧Sx 800 r:=by
 intro q
 induction q with
 |zero=>
  intro i Zj hi hf h5
  rw[wG,pK,ai (by omega)]
  exact adk ⟨by have:=hf.1;omega,hf.2⟩
 |succ q ih=>
  intro i Zj hi hf h5
  have h0:=hf.1
  rw[wG,pK,ak (by omega)]
  by_cases h:i<5
  ·obtain⟨s,h1,h2⟩:=abN (hs _ (bz (d:=[]) (show i<l.length by omega)))
   have e4:IntKind.wrap .i64 ((3:Int)+1)=4:=rfl
   rw[ak (by omega),tD (by omega),e4,h1,bS,iQ (by omega) (by omega),bF (by omega)]
   exact ih (i+1) _ (by omega) ⟨by simp;omega,Sx.snoc (n:=0) (m:=0) hf.2 h2⟩ (by omega)
  ·rw[ai (by omega)]
   exact adk ⟨by omega,hf.2⟩
theorem abO {l:Fm}(hl:l.length≤1000000)(hs:∀s∈l,s.length≤1000000000000000000):∃r,rL l 5 3 6=some r∧Sx 800 r:=by
 rw[Lb,CT]
 exact ahC hl hs l.length 0 [] (by omega) ⟨by simp,by simp⟩ (by omega)
theorem abP {l:Fm}(hl:Sx 800 l):∀(q i:Nat) (out:Fm),q+i=l.length→Sx i out→∃r,gr l i out=some r∧Sx 800 r:=by
 have hll:=hl.1
 intro q
 induction q with
 |zero=>intro i out hi ho;rw[wF,pI,ai (by omega)];exact⟨out,rfl,by have:=ho.1;omega,ho.2⟩
 |succ q ih=>
  intro i out hi ho
  have h0:=ho.1
  have hg:=hl.getD (show i<l.length by omega)
  rw[wF,pI,ak (by omega),tD (by omega),iQ (by omega) (by omega),iQ (by omega) (by omega),bF (by omega),List.nil_append]
  exact ih (i+1) _ (by omega) ⟨by simp;omega,Sx.snoc (n:=0) (m:=0) ho.2 hg⟩
theorem ahD {l:Fm}(hl:Sx 800 l):∃r,rK l=some r∧Sx 800 r:=by
 rw[La,CS]
 exact abP hl l.length 0 [] (by omega) ⟨by simp,by simp⟩
theorem XU {s:List Int}(hs:s.length≤4)(k:Int):∀(q i:Nat) (out:List Int),q+i=s.length→out.length≤i→∃r,cu s k i out=some r∧r.length≤4:=by
 intro q
 induction q with
 |zero=>intro i out hi ho;rw[mv,iZ,ai (by omega)];exact⟨out,rfl,by omega⟩
 |succ q ih=>
  intro i out hi ho
  rw[mv,iZ,ak (by omega),bF (by omega)]
  cases ((i:Int) != k) with
  |true=>
   rw[cT,fk (by omega) (by omega),iQ (by omega) (by omega)]
   exact ih (i+1) _ (by omega) (by simp;omega)
  |false=>rw[cF];exact ih (i+1) out (by omega) (by omega)
theorem abQ {s:List Int}(hs:s.length≤4)(k:Int):∃r,il s k=some r∧r.length≤4:=by
 rw[xH,q7]
 exact XU hs k s.length 0 [] (by omega) (by simp)
theorem Z1 {s:List Int}(hs:s.length≤4):∀(q i:Nat) (out:Fm),q+i=s.length→Sx i out→∃r,cP s i out=some r∧Sx 4 r:=by
 intro q
 induction q with
 |zero=>
  intro i out hi ho
  rw[nv,jB]
  by_cases hg:(s.length:Int)>1
  ·rw[cy hg,ai (by omega)];exact⟨out,rfl,by have:=ho.1;omega,ho.2⟩
  ·rw[cM hg];exact⟨out,rfl,by have:=ho.1;omega,ho.2⟩
 |succ q ih=>
  intro i out hi ho
  have h0:=ho.1
  obtain⟨w,h1,h2⟩:=abQ hs (i:Int)
  rw[nv,jB]
  by_cases hg:(s.length:Int)>1
  ·rw[cy hg,ak (by omega),h1,bS,iQ (by omega) (by omega),bF (by omega)]
   exact ih (i+1) _ (by omega) ⟨by simp;omega,Sx.snoc (n:=0) (m:=0) ho.2 h2⟩
  ·rw[cM hg];exact⟨out,rfl,by omega,ho.2⟩
theorem KR {s:List Int}(hs:s.length≤4):∃r,bK s=some r∧Sx 4 r:=by
 rw[zG,sK]
 exact Z1 hs s.length 0 [] (by omega) ⟨by simp,by simp⟩
theorem abR {s:List Int}(hs:s.length≤4):∀(q i:Nat),q+i=s.length→1≤i→∃r,dq s i=some r:=by
 intro q
 induction q with
 |zero=>intro i hi h1;rw[oC,kV,ai (by omega)];exact⟨_,rfl⟩
 |succ q ih=>
  intro i hi h1
  have e1:IntKind.wrap .i64 ((i:Int) - 1)=((i - 1:Nat):Int):=by rw[i64_in _ (by omega)];omega
  rw[oC,kV,ak (by omega),fk (by omega) (by omega),e1,fk (by omega) (by omega),bF (by omega)]
  cases decide (s.getD (i:Int).toNat 0≤s.getD ((i - 1:Nat):Int).toNat 0) with
  |true=>exact⟨_,rfl⟩
  |false=>rw[cF];exact ih (i+1) (by omega) (by omega)
theorem abS {s:List Int}(hs:s.length≤4)(h0:s.length≠0):∀(q i:Nat),q+i=s.length→∃r,dp s i=some r:=by
 intro q
 induction q with
 |zero=>
  intro i hi
  have e1:((1:Nat):Int)=1:=rfl
  have:=abR hs (s.length - 1) 1 (by omega) (by omega)
  rw[e1] at this
  rw[oB,kU,ai (by omega)]
  exact this
 |succ q ih=>
  intro i hi
  rw[oB,kU,ak (by omega),fk (by omega) (by omega),fk (by omega) (by omega),bF (by omega)]
  cases decide (s.getD (i:Int).toNat 0<0) with
  |true=>exact⟨_,rfl⟩
  |false=>
   rw[cF]
   cases decide (s.getD (i:Int).toNat 0≥64) with
   |true=>exact⟨_,rfl⟩
   |false=>rw[cF];exact ih (i+1) (by omega)
theorem Ub {s:List Int}(hs:s.length≤4):∃r,fF s=some r:=by
 rw[A4,uy]
 by_cases h:(s.length:Int)=0
 ·rw[sm h];exact⟨_,rfl⟩
 ·rw[jT h,cM (by omega)]
  exact abS hs (by omega) s.length 0 (by omega)
theorem XV {l:Fm}(hl:Sx 800 l){s:List Int}:∀(q i:Nat),q+i=l.length→∃r,gC l s i=some r:=by
 have hll:=hl.1
 intro q
 induction q with
 |zero=>intro i hi;rw[wL,pQ,ai (by omega)];exact⟨_,rfl⟩
 |succ q ih=>
  intro i hi
  obtain⟨r,hr⟩:=KQ (a:=l.getD i []) (b:=s) (by have:=hl.getD (show i<l.length by omega);omega)
  rw[wL,pQ,ak (by omega),tD (by omega),hr,bS,bF (by omega)]
  cases (r==0) with
  |true=>exact⟨_,rfl⟩
  |false=>rw[cF];exact ih (i+1) (by omega)
theorem abT {l f:Fm}(hl:Sx 800 l)(hf:Sx 4 f){i:Nat}(hi:i<l.length)(nxt:∃r,eH l ((i+1:Nat):Int)=some r):∀(q k:Nat),q+k=f.length→∃r,gA l i f k=some r:=by
 have hll:=hl.1
 have Qy:=hf.1
 intro q
 induction q with
 |zero=>intro k hk;rw[wK,pO,ai (by omega),bF (by omega)];exact nxt
 |succ q ih=>
  intro k hk
  have e0:((0:Nat):Int)=0:=rfl
  obtain⟨r,hr⟩:=XV hl (s:=f.getD k []) l.length 0 (by omega)
  rw[e0] at hr
  rw[wK,pO,ak (by omega),tD (by omega),Ld,CW,hr,bS,bF (by omega)]
  cases decide (r<0) with
  |true=>exact⟨_,rfl⟩
  |false=>rw[cF];exact ih (k+1) (by omega)
theorem abV {l:Fm}(hl:Sx 800 l):∀(q i:Nat),q+i=l.length→∃r,eH l i=some r:=by
 have hll:=hl.1
 intro q
 induction q with
 |zero=>intro i hi;rw[wJ,pN,ai (by omega)];exact⟨_,rfl⟩
 |succ q ih=>
  intro i hi
  have hg:=hl.getD (show i<l.length by omega)
  have nxt:=ih (i+1) (by omega)
  obtain⟨r1,h1⟩:=Ub hg
  obtain⟨f,h2,h3⟩:=KR hg
  have hL:=abT hl h3 (show i<l.length by omega) nxt f.length 0 (by omega)
  have e0:((0:Nat):Int)=0:=rfl
  rw[e0] at hL
  have hb:∀{β:Type} {g:List Int→Option β},(idx l (i:Int)).bind g=g (l.getD i []):=tD (by omega)
  rw[wJ,pN,ak (by omega),hb,h1,bS]
  cases (r1 != 0) with
  |true=>exact⟨_,rfl⟩
  |false=>
   rw[cF]
   by_cases hi0:(i:Int)>0
   ·have e1:IntKind.wrap .i64 ((i:Int) - 1)=((i - 1:Nat):Int):=by rw[i64_in _ (by omega)];omega
    obtain⟨r4,h4⟩:=KQ (a:=l.getD i []) (b:=l.getD (i - 1) []) (by omega)
    rw[cy hi0,hb,e1,tD (by omega),h4,bS]
    cases (r4==0) with
    |true=>exact⟨_,rfl⟩
    |false=>
     rw[cF,cy hi0,hb,tD (by omega),h4,bS]
     cases decide (r4<0) with
     |true=>exact⟨_,rfl⟩
     |false=>rw[cF,hb,h2,bS];exact hL
   ·rw[cM hi0,cM hi0,hb,h2,bS]
    exact hL
theorem abW {l:Fm}(hl:Sx 800 l):∃r,rQ l=some r:=by
 rw[Lc,CU]
 by_cases h:(l.length:Int)>1024
 ·rw[cy h];exact⟨_,rfl⟩
 ·rw[cM h];exact abV hl l.length 0 (by omega)
end Go.Proofs.YtofjebmoebhiiaaGreatDoor.Ev
namespace Go.Abs
abbrev Ce:=List Int×ByteArray×Unit
abbrev UU:Ce:=([],(ByteArray.empty,()))
abbrev Um:=Nat×ByteArray×Unit
abbrev GF:Um:=(0,(ByteArray.empty,()))
abbrev tCe:Ty:= .st (.pair (.slice (.int .i64)) (.pair (.str) (.unit)))
abbrev alo:Ty:= .st (.pair (.ref 4) (.pair (.str) (.unit)))
theorem Kl {α:Type}{xs ys:List (Option (List α))}{n:Nat}{l:List α}(h:af xs n=some l):af (xs++ys) n=some l:=by
 cases n with
 |zero=>exact h
 |succ m=>
  simp only[af] at h ⊢
  cases hx:xs[m]? with
  |none=>rw[hx] at h;cases h
  |some o=>
   rw[hx] at h
   rw[List.getElem?_append_left (List.getElem?_eq_some_iff.1 hx).1,hx]
   exact h
theorem db {α:Type}{xs:List (Option (List α))}{l:List α}:af (xs++[some l]) (xs.length+1)=some l:=by simp[af]
theorem abX {α:Type}{xs:List (Option (List α))}{y:Option (List α)}:c5 (xs++[y]) (xs.length+1)=xs++[none]:=by simp[c5]
theorem aja {α:Type}{xs:List (Option (List α))}{n:Nat}{l:List α}(h:af xs n=some l)(hn:n≠0):∃m,n=m+1∧m<xs.length:=by
 cases n with
 |zero=>exact absurd rfl hn
 |succ m=>
  simp only[af] at h
  cases hx:xs[m]? with
  |none=>rw[hx] at h;cases h
  |some o=>exact⟨m,rfl,(List.getElem?_eq_some_iff.1 hx).1⟩
theorem nF {α:Type}{xs:List (Option (List α))}{n:Nat}{l l':List α}(h:af xs n=some l)(hn:n≠0):af (gK xs n l') n=some l':=by
 obtain⟨m,rfl,hm⟩:=aja h hn
 simp[af,gK,hm]
theorem XW {α:Type}{xs:List (Option (List α))}{n:Nat}{l:List α}(h:af xs n=some l)(hl:l≠ []):n≠0:=fun e=>by
 subst e
 simp only[af,Option.some.injEq] at h
 exact hl h.symm
theorem Ad {α β:Type}{f:α→Option β}{g:α→β}:∀ys:List α,(∀y∈ys,f y=some (g y))→lE f ys=some (ys.map g)
 | [],_=>rfl
 |a::r,h=>by rw[lE,h a (by simp),Ad r fun y hy=>h y (by simp[hy])];rfl
theorem Wq {ab:List aS}{hp:List (Option (List Int))}(h4:ab[4]? =some ⟨3, .int .i64,0,true,hp⟩){n:Nat}{l:List Int}(hg:af hp n=some l)(r:List CV):snap ab (.slice (.int .i64)) (⟨.ref 4,n⟩::r)=some (l,r):=by
 unfold snap IU
 simp only
 rw[h4]
 simp only
 cases n with
 |zero=>
  have:l=[]:=by simpa [af] using hg.symm
  subst this
  rfl
 |succ k=>
  have hb:Nat.beq (k+1) 0=false:=rfl
  rw[hb,hg]
  simp only[cond_false,Option.bind_some]
  rw[Rh (fun y=>by rfl)]
  rfl
theorem Uc {ab:List aS}{hp:List (Option (List Int))}(h4:ab[4]? =some ⟨3, .int .i64,0,true,hp⟩){n:Nat}{l:List Int}(hg:af hp n=some l):typed ab (.slice (.int .i64)) (.rv (.cv ⟨.ref 4,n⟩))=some l:=by
 unfold typed
 simp only
 unfold zf
 rw[Wq h4 hg]
theorem abY {ab:List aS}{aD:List (Option (List Int))}{kF:List (Option (List Um))}(h4:ab[4]? =some ⟨3, .int .i64,0,true,aD⟩)(h8:ab[8]? =some ⟨101,alo,0,true,kF⟩){n:Nat}{rows:List Um}(hg:af kF n=some rows)
  (hr:∀x∈rows,∃s,af aD x.1=some s):typed ab (.slice tCe) (.rv (.cv ⟨.ref 8,n⟩))=some (rows.map fun x=>((af aD x.1).getD [],(x.2.1,()))):=by
 unfold typed
 simp only
 unfold zf snap IU
 simp only
 rw[h8]
 simp only
 cases n with
 |zero=>
  have:rows=[]:=by simpa [af] using hg.symm
  subst this
  rfl
 |succ k=>
  have hb:Nat.beq (k+1) 0=false:=rfl
  rw[hb,hg]
  simp only[cond_false,Option.bind_some]
  rw[Ad (g:=fun x:Um=>((af aD x.1).getD [],(x.2.1,()))) rows (fun y hy=>by
   obtain⟨s,hs⟩:=hr y hy
   obtain⟨a,b,u⟩:=y
   have e:snap ab tCe (flat alo ((a,(b,u)):Um))=some ((s,(b,())),[]):=by
    have e0:flat alo ((a,(b,u)):Um)=[⟨.ref 4,a⟩,⟨.str,b⟩]:=rfl
    rw[e0,snap,snap,Wq h4 hs]
    rfl
   rw[e,hs]
   rfl)]
  rfl
end Go.Abs
namespace Go.Proofs.YtofjebmoebhiiaaGreatDoor.Ev
open Go.Abs Go.IntWalk
theorem Z2:((List.range 24).all fun i=>match xS 400 ((i:Int) - 8) 4 with
  |some s=>tC s&&Nat.ble s.size 20
  |none=>false)=true:=by kernel_rfl
def At (s:ByteArray):Prop:=tC s=true∧s.size≤20
theorem Z3 (n:Int):∃s,rM n=some s∧At s:=by
 have h1:=Int.tmod_lt_of_pos n (show (0:Int)<24 by omega)
 have h2:=Int.lt_tmod_of_pos n (show (0:Int)<24 by omega)
 rw[Lg,CZ]
 rw[i64_in (n.tmod 24+24) (by omega),bP (by omega)]
 have h3:=Int.emod_nonneg (n.tmod 24+24) (show (24:Int)≠0 by omega)
 have h4:=Int.emod_lt_of_pos (n.tmod 24+24) (show (0:Int)<24 by omega)
 rw[i64_in _ (by omega)]
 obtain⟨i,hi⟩:=Int.eq_ofNat_of_zero_le h3
 rw[hi]
 have ht:=List.all_eq_true.1 Z2 i (List.mem_range.2 (by omega))
 rw[HA] at ht
 cases hf:gz ((i:Int) - 8) 4 with
 |none=>rw[hf] at ht;cases ht
 |some s=>
  rw[hf] at ht
  simp only[Bool.and_eq_true] at ht
  exact⟨s,by rw[bS],ht.1,Nat.le_of_ble_eq_true ht.2⟩
def Cs (l:List Ce):Prop:=l.length≤800∧∀x∈l,x.1.length≤4∧At x.2.1
def Cr (aD:List (Option (List Int)))(rows:List Um):Prop:=∀x∈rows,(∃s,af aD x.1=some s∧s.length≤4)∧At x.2.1
theorem Cr.append {aD ys:List (Option (List Int))}{rows:List Um}(h:Cr aD rows):Cr (aD++ys) rows:=fun x hx=>by
 obtain⟨⟨s,h1,h2⟩,h3⟩:=h x hx
 exact⟨⟨s,Kl h1,h2⟩,h3⟩
theorem Z4 {l:List Ce}(hl:Cs l):∀(q i out:Nat) (aD:List (Option (List Int))) (kF:List (Option (List Um))) (rows:List Um),q+i=l.length→af kF out=some rows→rows.length=i→Cr aD rows→
  ∃out' BM NC xk,fG l out i aD kF=some (out',(NC,BM))∧af NC out'=some xk∧xk.length=l.length∧Cr BM xk:=by
 have hll:=hl.1
 intro q
 induction q with
 |zero=>
  intro i out aD kF rows hi hg hr hc
  rw[vh,oK,ai (by omega)]
  exact⟨_,_,_,rows,rfl,hg,by omega,hc⟩
 |succ q ih=>
  intro i out aD kF rows hi hg hr hc
  obtain⟨hx1,hx2⟩:=hl.2 _ (bz (d:=UU) (show i<l.length by omega))
  have hb:∀{β:Type} {f:Ce→Option β},(idx l (i:Int)).bind f=f (l.getD i UU):=da UU (by omega)
  rw[vh,oK,ak (by omega),hb,db,bS,List.length_nil,iQ (by omega) (by omega),bF (by omega)]
  generalize l.getD i UU=x at hx1 hx2 hb ⊢
  cases he:x.1.isEmpty with
  |true=>
   rw[cT,hb]
   simp only
   have h1:af (kF++[some [((aD.length+1:Nat),(x.2.1,()))]]) out=some rows:=Kl hg
   rw[h1,bS,db,bS,List.length_singleton,iQ (by omega) (by omega)]
   have e1:([((aD.length+1:Nat),(x.2.1,()))]:List Um).isEmpty=false:=rfl
   rw[e1,cF]
   exact ih (i+1) _ _ _ (rows++[((aD.length+1:Nat),(x.2.1,()))]) (by omega) db (by simp;omega) (fun y hy=>by
    rcases List.mem_append.1 hy with hy |hy
    ·exact hc.append y hy
    ·rw[List.mem_singleton.1 hy]
     exact⟨⟨[],db,by simp⟩,hx2⟩)
  |false=>
   rw[cF,hb]
   simp only
   rw[abX,List.length_append,List.length_singleton]
   have h1:af (kF++[some [((aD.length+1+1:Nat),(x.2.1,()))]]) out=some rows:=Kl hg
   rw[h1,bS,db,bS,List.length_singleton,iQ (by omega) (by omega)]
   have e1:([((aD.length+1+1:Nat),(x.2.1,()))]:List Um).isEmpty=false:=rfl
   rw[e1,cF]
   have h2:af (aD++[none]++[some ([]++x.1)]) (aD.length+1+1)=some ([]++x.1):=by
    have:=db (xs:=aD++[none]) (l:=[]++x.1)
    rw[List.length_append,List.length_singleton] at this
    exact this
   exact ih (i+1) _ _ _ (rows++[((aD.length+1+1:Nat),(x.2.1,()))]) (by omega) db (by simp;omega) (fun y hy=>by
    rcases List.mem_append.1 hy with hy |hy
    ·rw[List.append_assoc];exact hc.append y hy
    ·rw[List.mem_singleton.1 hy]
     exact⟨⟨_,h2,by simpa using hx1⟩,hx2⟩)
theorem Z5 {l:List Ce}(hl:Cs l):∃out' BM NC xk,qt l [] []=some (out',(NC,BM))∧af NC out'=some xk∧xk.length=l.length∧Cr BM xk:=by
 rw[JK,Be]
 exact Z4 hl l.length 0 0 [] [] [] (by omega) rfl rfl (fun x hx=>by cases hx)
end Go.Proofs.YtofjebmoebhiiaaGreatDoor.Ev
namespace Go.Proofs.YtofjebmoebhiiaaGreatDoor.Ev
open Go.Abs Go.IntWalk
theorem ahE {a b:ByteArray}(ha:At a)(hb:At b):∃r,bb a b=some r:=by
 obtain⟨n,d,h⟩:=yL.1 ha.1
 obtain⟨m,k,g⟩:=yL.1 hb.1
 exact⟨_,Pb h g (by have:=ha.2;omega) (by have:=hb.2;omega)⟩
theorem Cr.set {aD:List (Option (List Int))}{rows:List Um}(h:Cr aD rows){x:Um}(hx:(∃s,af aD x.1=some s∧s.length≤4)∧At x.2.1)(k:Nat):Cr aD (rows.set k x):=fun y hy=>by
 rcases List.mem_or_eq_of_mem_set hy with hy |rfl
 ·exact h y hy
 ·exact hx
theorem XX {out:Nat}{i:Int}{aD:List (Option (List Int))}{n:Nat}(hn:n≤800):∀(k:Nat) (kF:List (Option (List Um))) (rows:List Um),af kF out=some rows→rows.length=n→k<n→Cr aD rows→
  ∃NC xk,dK out i k aD kF=cQ out (IntKind.wrap .i64 (i+1)) aD NC∧af NC out=some xk∧xk.length=n∧Cr aD xk:=by
 intro k
 induction k with
 |zero=>
  intro kF rows hg hr hk hc
  rw[vg,oI,cM (by omega)]
  exact⟨kF,rows,rfl,hg,hr,hc⟩
 |succ k ih=>
  intro kF rows hg hr hk hc
  have e1:IntKind.wrap .i64 (((k+1:Nat):Int) - 1)=(k:Int):=by rw[i64_in _ (by omega)];omega
  have hne:rows≠ []:=fun e=>by rw[e] at hr;simp at hr;omega
  have hout:=XW hg hne
  have b1:∀{β:Type} {f:Um→Option β},(idx rows ((k+1:Nat):Int)).bind f=f (rows.getD (k+1) GF):=da GF (by omega)
  have b2:∀{β:Type} {f:Um→Option β},(idx rows (k:Int)).bind f=f (rows.getD k GF):=da GF (by omega)
  have g1:rows[((k+1:Nat):Int).toNat]? =some (rows.getD (k+1) GF):=by rw[Int.toNat_natCast];simp[List.getD,show k+1<rows.length by omega]
  have g2:rows[((k:Nat):Int).toNat]? =some (rows.getD k GF):=by rw[Int.toNat_natCast];simp[List.getD,show k<rows.length by omega]
  obtain⟨⟨s1,p1,q1⟩,a1⟩:=hc _ (bz (d:=GF) (show k+1<rows.length by omega))
  obtain⟨⟨s2,p2,q2⟩,a2⟩:=hc _ (bz (d:=GF) (show k<rows.length by omega))
  obtain⟨r,hcmp⟩:=ahE a1 a2
  -- LS exchange
  have swap:∃NC xk,((af kF out).bind fun v30=>(idx v30 (k:Int)).bind fun _=>(af kF out).bind fun v31=>(v31[(k:Int).toNat]?).bind fun v32=>(af kF out).bind fun v33=>(idx v33 ((k+1:Nat):Int)).bind fun _=>(af kF out).bind fun v34=>(v34[((k+1:Nat):Int).toNat]?).bind fun v35=>(af kF out).bind fun v36=>(idx v36 ((k+1:Nat):Int)).bind fun _=>(af kF out).bind fun v37=>(v37[((k+1:Nat):Int).toNat]?).bind fun v38=>
    let e39:List (Option (List (Nat×ByteArray×Unit))):=(gK kF out (v37.set ((k+1:Nat):Int).toNat (v32.1,(v32.2.1,()))))
    (af e39 out).bind fun v40=>(idx v40 (k:Int)).bind fun _=>(af e39 out).bind fun v41=>(v41[(k:Int).toNat]?).bind fun v42=>
    let e43:List (Option (List (Nat×ByteArray×Unit))):=(gK e39 out (v41.set (k:Int).toNat (v35.1,(v35.2.1,()))))
    dK out i (k:Int) aD e43)=cQ out (IntKind.wrap .i64 (i+1)) aD NC∧af NC out=some xk∧xk.length=n∧Cr aD xk:=by
   rw[hg,bS,b2,bS,g2,bS,bS,b1,bS,g1,bS,bS,b1,bS,g1,bS]
   simp only
   have hs:=nF (l':=rows.set ((k+1:Nat):Int).toNat ((rows.getD k GF).1,((rows.getD k GF).2.1,()))) hg hout
   have hl:(rows.set ((k+1:Nat):Int).toNat ((rows.getD k GF).1,((rows.getD k GF).2.1,()))).length=n:=by rw[List.length_set];exact hr
   have hc1:Cr aD (rows.set ((k+1:Nat):Int).toNat ((rows.getD k GF).1,((rows.getD k GF).2.1,()))):=hc.set ⟨⟨s2,p2,q2⟩,a2⟩ _
   generalize rows.set ((k+1:Nat):Int).toNat ((rows.getD k GF).1,((rows.getD k GF).2.1,()))=R at hs hl hc1 ⊢
   have g3:R[((k:Nat):Int).toNat]? =some (R.getD k GF):=by rw[Int.toNat_natCast];simp[List.getD,show k<R.length by omega]
   rw[hs,bS,da GF (by omega),bS,g3,bS]
   exact ih _ _ (nF hs hout) (by rw[List.length_set];exact hl) (by omega) (hc1.set ⟨⟨s1,p1,q1⟩,a1⟩ _)
  rw[vg,oI,cy (by omega),e1]
  have pre:∀{β:Type} {f:Um→Um→Option β},((af kF out).bind fun v0=>(idx v0 ((k+1:Nat):Int)).bind fun _=>(af kF out).bind fun v1=>(v1[((k+1:Nat):Int).toNat]?).bind fun v2=>(af kF out).bind fun v3=>(idx v3 (k:Int)).bind fun _=>(af kF out).bind fun v4=>(v4[(k:Int).toNat]?).bind fun v5=>f v2 v5)=f (rows.getD (k+1) GF) (rows.getD k GF):=fun {β f}=>by
   rw[hg,bS,b1,bS,g1,bS,bS,b2,bS,g2,bS]
  rw[pre,hcmp,bS]
  cases decide (r>0) with
  |true=>rw[cT];exact⟨kF,rows,rfl,hg,hr,hc⟩
  |false=>
   rw[cF]
   cases (r==0) with
   |true=>
    rw[cT,pre,Uc rfl p1,bS,Uc rfl p2,bS]
    obtain⟨r2,hc2⟩:=KQ (a:=s1) (b:=s2) (by omega)
    rw[hc2,bS]
    cases decide (r2>0) with
    |true=>rw[cT];exact⟨kF,rows,rfl,hg,hr,hc⟩
    |false=>rw[cF];exact swap
   |false=>rw[cF];exact swap
theorem XY {out:Nat}{aD:List (Option (List Int))}{n:Nat}(hn:n≤800):∀(q i:Nat) (kF:List (Option (List Um))) (rows:List Um),af kF out=some rows→rows.length=n→q+i=n→Cr aD rows→
  ∃r,cQ out i aD kF=some r∧r.length=n∧∀x∈r,x.1.length≤4∧At x.2.1:=by
 intro q
 induction q with
 |zero=>
  intro i kF rows hg hr hi hc
  rw[vf,oH,hg,bS,ai (by omega),abY rfl rfl hg (fun x hx=>by obtain⟨⟨s,h1,_⟩,_⟩:=hc x hx;exact⟨s,h1⟩),bS]
  refine⟨_,rfl,by simpa using hr,fun x hx=> ?_⟩
  obtain⟨y,hy,rfl⟩:=List.mem_map.1 hx
  obtain⟨⟨s,h1,h2⟩,h3⟩:=hc y hy
  simp only[h1,Option.getD_some]
  exact⟨h2,h3⟩
 |succ q ih=>
  intro i kF rows hg hr hi hc
  obtain⟨NC,xk,h1,h2,h3,h4⟩:=XX (i:=(i:Int)) hn i kF rows hg hr (by omega) hc
  rw[vf,oH,hg,bS,ak (by omega),h1,bF (by omega)]
  exact ih (i+1) NC xk h2 h3 (by omega) h4
theorem Z6 {l:List Ce}(hl:Cs l):∃r,qs l=some r∧Cs r:=by
 obtain⟨out',BM,NC,xk,h1,h2,h3,h4⟩:=Z5 hl
 have hll:=hl.1
 obtain⟨r,g1,g2,g3⟩:=XY (n:=l.length) hll l.length 0 NC xk h2 h3 (by omega) h4
 rw[JJ,Bb,h1,bS]
 exact⟨r,g1,by omega,g3⟩
def Ats (n:Nat)(l:List ByteArray):Prop:=l.length=n∧∀s∈l,At s
theorem adl {β:Type}{xs:List ByteArray}{k:Nat}{f:ByteArray→Option β}(h:k<xs.length):(idx xs (k:Int)).bind f=f (xs.getD k ByteArray.empty):=da _ h
theorem ajb {l:Fm}(hl:Sx 800 l){values:List ByteArray}(hv:Ats l.length values){i:Nat}(hi:i<l.length)(nxt:∀out:List Ce,out.length=i+1→(∀x∈out,x.1.length≤4∧At x.2.1)→∃r e,ik l values ((i+1:Nat):Int) out=some (r,e)∧Cs r):
  ∀(q k:Nat) (a:ByteArray) (out:List Ce),q+k=l.length→At a→out.length=i→(∀x∈out,x.1.length≤4∧At x.2.1)→∃r e,jY l values i a k out=some (r,e)∧Cs r:=by
 have hll:=hl.1
 have hvl:=hv.1
 intro q
 induction q with
 |zero=>
  intro k a out hk ha ho hx
  rw[A9,uF,ai (by omega),tD hi]
  simp only
  rw[iQ (by omega) (by omega),bF (by omega)]
  refine nxt _ (by simp;omega) fun x hx'=> ?_
  rcases List.mem_append.1 hx' with h |h
  ·exact hx x h
  ·rw[List.mem_singleton.1 h];exact⟨hl.getD hi,ha⟩
 |succ q ih=>
  intro k a out hk ha ho hx
  have hk':k<l.length:=by omega
  have hg1:=hl.getD hi
  have hg2:=hl.getD hk'
  obtain⟨b,hb⟩:=aln (a:=l.getD i []) (b:=l.getD k []) (by omega) (by omega)
  have hat:At (values.getD k ByteArray.empty):=hv.2 _ (bz (by omega))
  obtain⟨r,hr⟩:=ahE hat ha
  rw[A9,uF,ak (by omega),tD hi,tD hk',hb,bS,bF (by omega)]
  cases b with
  |true=>
   rw[cT,adl (by omega),hr,bS]
   cases decide (r>0) with
   |true=>rw[cT,adl (by omega)];exact ih (k+1) _ out (by omega) hat ho hx
   |false=>rw[cF];exact ih (k+1) a out (by omega) ha ho hx
  |false=>rw[cF];exact ih (k+1) a out (by omega) ha ho hx
theorem ajc {l:Fm}(hl:Sx 800 l){values:List ByteArray}(hv:Ats l.length values):∀(q i:Nat) (out:List Ce),q+i=l.length→out.length=i→(∀x∈out,x.1.length≤4∧At x.2.1)→∃r e,ik l values i out=some (r,e)∧Cs r:=by
 have hll:=hl.1
 have hvl:=hv.1
 intro q
 induction q with
 |zero=>
  intro i out hi ho hx
  obtain⟨r,h1,h2⟩:=Z6 (l:=out) ⟨by omega,hx⟩
  rw[A8,uE,ai (by omega),h1,bS]
  exact⟨r,0,rfl,h2⟩
 |succ q ih=>
  intro i out hi ho hx
  have e0:((0:Nat):Int)=0:=rfl
  have:=ajb hl hv (show i<l.length by omega) (fun o h1 h2=>ih (i+1) o (by omega) h1 h2) l.length 0 (values.getD i ByteArray.empty) out (by omega) (hv.2 _ (bz (by omega))) ho hx
  rw[e0] at this
  rw[A8,uE,ak (by omega),adl (by omega)]
  exact this
theorem ajd {l:Fm}(hl:Sx 800 l){values:List ByteArray}(hv:Ats l.length values):∀(q i:Nat),q+i=l.length→∃r e,jX l values i=some (r,e)∧Cs r:=by
 have hll:=hl.1
 have hvl:=hv.1
 intro q
 induction q with
 |zero=>
  intro i hi
  have e0:((0:Nat):Int)=0:=rfl
  have:=ajc hl hv l.length 0 [] (by omega) rfl (fun x hx=>by cases hx)
  rw[e0] at this
  rw[A7,uB,ai (by omega)]
  exact this
 |succ q ih=>
  intro i hi
  have hat:At (values.getD i ByteArray.empty):=hv.2 _ (bz (by omega))
  rw[A7,uB,ak (by omega),adl (by omega),Nz (by have:=hat.2;omega),bS,hat.1,Bool.not_true,cF,bF (by omega)]
  exact ih (i+1) (by omega)
theorem Cs.nil:Cs []:=⟨by simp,fun x hx=>by cases hx⟩
theorem aje {l:Fm}(hl:Sx 800 l){values:List ByteArray}(hv:Ats l.length values):∃r e,yS l values=some (r,e)∧Cs r:=by
 obtain⟨e,he⟩:=abW hl
 have hvl:=hv.1
 rw[P2,HY,he,bS]
 by_cases h:e=0
 ·rw[nE h,nE (by omega)]
  exact ajd hl hv l.length 0 (by omega)
 ·rw[BC h];exact⟨[],e,rfl,Cs.nil⟩
theorem XZ {values:List Int}(hvl:values.length≤1000000000000000000){c:Fm}(hc:Sx 800 c):∀(q i:Nat) (a:List ByteArray),q+i=c.length→Ats i a→∃r,gp values c i a=some r∧Cs r:=by
 have hcl:=hc.1
 intro q
 induction q with
 |zero=>
  intro i a hi ha
  obtain⟨r,e,h1,h2⟩:=aje hc (values:=a) ⟨by have:=ha.1;omega,ha.2⟩
  rw[wM,pS,ai (by omega),h1,bS]
  exact⟨r,rfl,h2⟩
 |succ q ih=>
  intro i a hi ha
  have hal:=ha.1
  have push:∀s,At s→Ats (i+1) (a++[s]):=fun s hs=>⟨by simp;omega,fun x hx=>by
   rcases List.mem_append.1 hx with h |h
   ·exact ha.2 x h
   ·rw[List.mem_singleton.1 h];exact hs⟩
  rw[wM,pS,ak (by omega),bF (by omega)]
  by_cases hv:(values.length:Int)>0
  ·have h1:=Int.emod_nonneg (i:Int) (show (values.length:Int)≠0 by omega)
   have h2:=Int.emod_lt_of_pos (i:Int) hv
   have e:(i:Int).tmod (values.length:Int)=(i:Int) % (values.length:Int):=bP (by omega)
   rw[cy hv,lZ (by omega),e,fk h1 h2,lZ (by omega)]
   obtain⟨s,h3,h4⟩:=Z3 (IntKind.wrap .i64 (values.getD ((i:Int) % (values.length:Int)).toNat 0+IntKind.wrap .i64 ((i:Int).tdiv (values.length:Int))))
   simp only
   rw[h3,bS,iQ (by omega) (by omega)]
   exact ih (i+1) _ (by omega) (push s h4)
  ·obtain⟨s,h3,h4⟩:=Z3 (i:Int)
   rw[cM hv,h3,bS,iQ (by omega) (by omega)]
   exact ih (i+1) _ (by omega) (push s h4)
theorem abZ {l:Fm}(hl:l.length≤1000000)(hs:∀s∈l,s.length≤1000000000000000000){values:List Int}(hv:values.length≤1000000000000000000):∃r,rI l values 5 3 6=some r∧Cs r:=by
 obtain⟨c,h1,h2⟩:=abO hl hs
 obtain⟨c2,h3,h4⟩:=ahD h2
 rw[Lf,CY,h1,bS,h3,bS]
 exact XZ hv h4 c2.length 0 [] (by omega) ⟨rfl,fun s hs=>by cases hs⟩
theorem GG {β:Type}{xs:List Ce}{k:Nat}{f:Ce→Option β}(h:k<xs.length):(idx xs (k:Int)).bind f=f (xs.getD k UU):=da UU h
theorem X0 {f:List Ce}(hf:Cs f){n:Nat}(hn:n≤f.length){s:List Int}:∀(q i:Nat),q+i=n→∃r,dm f n s i=some r:=by
 have Qy:=hf.1
 intro q
 induction q with
 |zero=>intro i hi;rw[oJ,k9,ai (by omega)];exact⟨_,rfl⟩
 |succ q ih=>
  intro i hi
  have hg:=(hf.2 _ (bz (d:=UU) (show i<f.length by omega))).1
  obtain⟨r,hr⟩:=KQ (a:=(f.getD i UU).1) (b:=s) (by omega)
  rw[oJ,k9,ak (by omega),GG (by omega),hr,bS,bF (by omega)]
  cases (r==0) with
  |true=>exact⟨_,rfl⟩
  |false=>rw[cF];exact ih (i+1) (by omega)
theorem Ud {f:List Ce}(hf:Cs f){n:Nat}(hn:n≤f.length)(s:List Int):∃r,fA f n s=some r:=by
 rw[Bc,uI]
 exact X0 hf hn n 0 (by omega)
theorem ae6 {f:List Ce}(hf:Cs f){i:Nat}(hi:i<f.length):∃r,lB f i=some r:=by
 obtain⟨h1,h2⟩:=hf.2 _ (bz (d:=UU) hi)
 obtain⟨r1,e1⟩:=Ub h1
 obtain⟨r2,e2⟩:=Ud hf (show i≤f.length by omega) (f.getD i UU).1
 rw[C0,wN,GG hi,e1,bS]
 cases (r1 != 0) with
 |true=>exact⟨_,rfl⟩
 |false=>
  rw[cF,GG hi,Nz (by have:=h2.2;omega),bS,h2.1,Bool.not_true,cF,GG hi,e2,bS]
  cases decide (r2≥0)<;>exact⟨_,rfl⟩
theorem ab0 {f:List Ce}(hf:Cs f){i:Nat}(hi:i<f.length){fc:Fm}(hfc:Sx 4 fc)(nxt:∃r,cB f ((i+1:Nat):Int)=some r):∀(q k:Nat),q+k=fc.length→∃r,dj f i fc k=some r:=by
 have Qy:=hf.1
 have hcl:=hfc.1
 intro q
 induction q with
 |zero=>
  intro k hk
  rw[oG,kZ,ai (by omega),bF (by omega)]
  by_cases h:(i:Int)>0
  ·have e1:IntKind.wrap .i64 ((i:Int) - 1)=((i - 1:Nat):Int):=by rw[i64_in _ (by omega)];omega
   obtain⟨r,hr⟩:=ahE (hf.2 _ (bz (d:=UU) hi)).2 (hf.2 _ (bz (d:=UU) (show i - 1<f.length by omega))).2
   rw[cy h,GG hi,e1,GG (by omega),hr,bS]
   cases decide (r<0) with
   |true=>exact⟨_,rfl⟩
   |false=>rw[cF];exact nxt
  ·rw[cM h];exact nxt
 |succ q ih=>
  intro k hk
  obtain⟨r,hr⟩:=Ud hf (show i≤f.length by omega) (fc.getD k [])
  rw[oG,kZ,ak (by omega),tD (by omega),hr,bS,bF (by omega)]
  cases decide (r<0) with
  |true=>exact⟨_,rfl⟩
  |false=>rw[cF];exact ih (k+1) (by omega)
theorem ab1 {f:List Ce}(hf:Cs f):∀(q i:Nat),q+i=f.length→∃r,cB f i=some r:=by
 have Qy:=hf.1
 intro q
 induction q with
 |zero=>intro i hi;rw[oF,kY,ai (by omega)];exact⟨_,rfl⟩
 |succ q ih=>
  intro i hi
  have hi':i<f.length:=by omega
  obtain⟨r1,e1⟩:=ae6 hf hi'
  obtain⟨fc,e2,h2⟩:=KR (hf.2 _ (bz (d:=UU) hi')).1
  have e0:((0:Nat):Int)=0:=rfl
  have:=ab0 hf hi' h2 (ih (i+1) (by omega)) fc.length 0 (by omega)
  rw[e0] at this
  rw[oF,kY,ak (by omega),e1,bS]
  cases (r1 != 0) with
  |true=>exact⟨_,rfl⟩
  |false=>rw[cF,GG hi',e2,bS];exact this
theorem ab2 {f:List Ce}(hf:Cs f):∃r,jZ f=some r:=by
 have Qy:=hf.1
 rw[Ba,uH,cM (by omega)]
 exact ab1 hf f.length 0 (by omega)
end Go.Proofs.YtofjebmoebhiiaaGreatDoor.Ev
namespace Go.Abs
abbrev tTm:Ty:= .st (.pair (.int .i64) (.pair (.int .i64) .unit))
abbrev tCl:Ty:= .st (.pair (.int .i64) (.pair (.str) (.pair (.slice tTm) (.unit))))
abbrev tCh:Ty:= .st (.pair (.int .i64) (.pair (.slice tCl) (.unit)))
theorem ajg (ab:List aS)(y:Cl):snap ab tCl (flat tCl y)=some (y,[]):=by
 obtain⟨a,b,c,u⟩:=y
 rfl
theorem rE {ab:List aS}{hp:List (Option (List Cl))}(h0:ab[0]? =some ⟨42,tCl,0,true,hp⟩){p:Int}{n:Nat}{l:List Cl}(hg:af hp n=some l):
  typed ab tCh (.rv (.agg [⟨.int .i64,p⟩,⟨.ref 0,n⟩]))=some (p,(l,())):=by
 unfold typed
 simp only
 have e:snap ab (.slice tCl) [⟨.ref 0,n⟩]=some (l,[]):=by
  unfold snap IU
  simp only
  rw[h0]
  simp only
  cases n with
  |zero=>
   have:l=[]:=by simpa [af] using hg.symm
   subst this
   rfl
  |succ k=>
   have hb:Nat.beq (k+1) 0=false:=rfl
   rw[hb,hg]
   simp only[cond_false,Option.bind_some]
   rw[Ad (g:=fun x:Cl=>x) l (fun y _=>by rw[ajg])]
   simp
 unfold zf
 rw[show snap ab (.pair (.int .i64) (.pair (.slice tCl) (.unit))) [⟨.int .i64,p⟩,⟨.ref 0,n⟩]=some ((p,(l,())),[]) from by
  unfold snap
  rw[show snap ab (.int .i64) [⟨.int .i64,p⟩,⟨.ref 0,n⟩]=some (p,[⟨.ref 0,n⟩]) from rfl]
  simp only
  unfold snap
  rw[e]
  rfl]
theorem ab3 {p:Int}{n:Nat}{v:List Int}(hv:v.length≤n)(hr:Rs p v):Vc p n (NG 0 v):=⟨abD v 0 (-1) (by omega),fun t ht=>by
 obtain⟨h1,h2,h3,h4⟩:=XK ht
 obtain⟨k,hk,he⟩:=List.getElem_of_mem h3
 have:=hr k
 simp only[List.getD,List.getElem?_eq_getElem hk,Option.getD_some] at this
 omega⟩
theorem Rs.rep {p:Int}(hp:0<p)(n:Nat):Rs p (List.replicate n 0):=fun j=>by rw[Dy];omega
end Go.Abs
namespace Go.Proofs.YtofjebmoebhiiaaGreatDoor.Ev
open Go.Abs Go.IntWalk
def Gd (p:Int)(aa:List Cl)(n:Nat):Prop:=∀x∈aa,At x.2.1∧Vc p n x.2.2.1
theorem Gd.snoc {p:Int}{aa:List Cl}{n:Nat}(h:Gd p aa n){x:Cl}(hx:At x.2.1∧Vc p n x.2.2.1):Gd p (aa++[x]) n:=fun y hy=>by
 rcases List.mem_append.1 hy with hy |hy
 ·exact h y hy
 ·rw[List.mem_singleton.1 hy];exact hx
theorem Gd.set {p:Int}{aa:List Cl}{n:Nat}(h:Gd p aa n){x:Cl}(hx:At x.2.1∧Vc p n x.2.2.1)(k:Nat):Gd p (aa.set k x) n:=fun y hy=>by
 rcases List.mem_or_eq_of_mem_set hy with hy |rfl
 ·exact h y hy
 ·exact hx
def Go1 (p:Int)(aa:List Cl):Prop:=aa.length≤30∧(aa=[]∨Pr p)∧Gd p aa aa.length
theorem UW {v:Nat}{aD:List (Option (List Int))}{l:List Int}(hg:af aD v=some l)(hl:l.length≤1000000):∀(m i:Nat) (out:List Tm),m+i=l.length→out.length≤i→bR v i out aD=some (out++NG i (l.drop i)):=by
 intro m
 induction m with
 |zero=>intro i out hi ho;rw[kz,gU,hg,bS,ai (by omega),List.drop_eq_nil_of_le (by omega),NG,List.append_nil]
 |succ m ih=>
  intro i out hi ho
  have g:l[(i:Int).toNat]? =some (l.getD i 0):=by rw[Int.toNat_natCast];simp[List.getD,show i<l.length by omega]
  have hb:∀{β:Type} {f:Int→Option β},(idx l (i:Int)).bind f=f (l.getD i 0):=da 0 (by omega)
  rw[kz,gU,hg,bS,ak (by omega),bS,hb,bS,g,bS,drop_eq (by omega),NG,bF (by omega)]
  by_cases h:l.getD i 0=0
  ·rw[nE h,ih (i+1) out (by omega) (by omega),if_neg (by omega)]
  ·rw[BC h,bS,hb,bS,g,bS,iQ (by omega) (by omega),if_pos h]
   simp only
   rw[ih (i+1) _ (by omega) (by simp;omega),List.append_assoc]
   rfl
theorem Ae {v:Nat}{aD:List (Option (List Int))}{l:List Int}(hg:af aD v=some l)(hl:l.length≤1000000):aC v aD=some (NG 0 l):=by
 rw[vo,oW]
 have:=UW hg hl l.length 0 [] (by omega) (by simp)
 simpa using this
theorem ahF (n:Int):∃p,rJ n=some p∧Pr p:=by
 have h1:=Int.tmod_lt_of_pos n (show (0:Int)<6 by omega)
 have h2:=Int.lt_tmod_of_pos n (show (0:Int)<6 by omega)
 rw[Lm,C3]
 rw[i64_in (n.tmod 6+6) (by omega),bP (by omega)]
 have h3:=Int.emod_nonneg (n.tmod 6+6) (show (6:Int)≠0 by omega)
 have h4:=Int.emod_lt_of_pos (n.tmod 6+6) (show (0:Int)<6 by omega)
 obtain⟨i,hi⟩:=Int.eq_ofNat_of_zero_le h3
 rw[hi] at h4 ⊢
 have h5:i<6:=by omega
 match i,h5 with
 |0,_=>exact⟨2,rfl,by decide⟩
 |1,_=>exact⟨3,rfl,by decide⟩
 |2,_=>exact⟨5,rfl,by decide⟩
 |3,_=>exact⟨2,rfl,by decide⟩
 |4,_=>exact⟨251,rfl,by decide+kernel⟩
 |5,_=>exact⟨7,rfl,by decide⟩
theorem anz {k p:Int}(hk:0≤k)(hp:2≤p∧p≤251):IntKind.wrap .i64 (k.tmod 2*IntKind.wrap .i64 (p - 2))=(k % 2)*(p - 2)∧0≤(k % 2)*(p - 2)∧(k % 2)*(p - 2)≤251:=by
 have h1:=Int.emod_nonneg k (show (2:Int)≠0 by omega)
 have h2:=Int.emod_lt_of_pos k (show (0:Int)<2 by omega)
 have e:k.tmod 2=k % 2:=bP (by omega)
 rw[e,i64_in (p - 2) (by omega)]
 rcases (show k % 2=0∨k % 2=1 by omega) with h |h
 ·rw[h,Int.zero_mul];exact⟨by rw[i64_in _ (by omega)],by omega,by omega⟩
 ·rw[h,Int.one_mul];exact⟨by rw[i64_in _ (by omega)],by omega,by omega⟩
theorem ahG {f:List Ce}(hf:Cs f){p:Int}(hp:Pr p){j:Nat}(hj:j≤f.length){aQ:Fm}{k:Nat}(hk:k<aQ.length)(hs:Sx 4 aQ){v t2 ag:Nat}{t out:Int}{br:List (Option (List Cl))}(hv:v≠0):
  ∀(q i:Nat) (aD:List (Option (List Int))) (l:List Int),q+i=j→af aD v=some l→l.length=j→Rs p l→
   ∃BM l',eL f p j v aQ k i t t2 out ag br aD=dC f p j v aQ ((k+1:Nat):Int) t t2 out ag br BM∧af BM v=some l'∧l'.length=j∧Rs p l':=by
 have Qy:=hf.1
 have WE:=hs.1
 intro q
 induction q with
 |zero=>
  intro i aD l hi hg hl hr
  rw[rf,mO,ai (by omega),bF (by omega)]
  exact⟨aD,l,rfl,hg,hl,hr⟩
 |succ q ih=>
  intro i aD l hi hg hl hr
  have hc:=(hf.2 _ (bz (d:=UU) (show i<f.length by omega))).1
  obtain⟨r,he⟩:=KQ (a:=(f.getD i UU).1) (b:=aQ.getD k []) (by omega)
  rw[rf,mO,ak (by omega),GG (by omega),tD hk,he,bS,bF (by omega)]
  have hp1:=hp.1
  have hp2:=hp.2.1
  obtain⟨m1,m2,m3⟩:=anz (k:=(k:Int)) (by omega) ⟨hp1,hp2⟩
  cases (r==0) with
  |false=>rw[cF];exact ih (i+1) aD l (by omega) hg hl hr
  |true=>
   have g:l[(i:Int).toNat]? =some (l.getD i 0):=by rw[Int.toNat_natCast];simp[List.getD,show i<l.length by omega]
   have hb:∀{β:Type} {f:Int→Option β},(idx l (i:Int)).bind f=f (l.getD i 0):=da 0 (by omega)
   rw[cT]
   simp only
   rw[m1,lZ (by omega),hg,bS,hb,bS,g,bS,i64_in _ (by omega),bP (by omega)]
   exact ih (i+1) _ _ (by omega) (nF hg hv) (by rw[List.length_set];exact hl) (hr.set ⟨Int.emod_nonneg _ (by omega),Int.emod_lt_of_pos _ (by omega)⟩ _)
theorem ahH {f:List Ce}(hf:Cs f){p:Int}(hp:Pr p){j:Nat}(hj:j<f.length){aQ:Fm}(hs:Sx 4 aQ){v t2 ag:Nat}{t out:Int}{br:List (Option (List Cl))}(hv:v≠0){aa:List Cl}(hc:af br ag=some aa)(hcl:aa.length=j)(hG:Gd p aa f.length)
  {G:(Int×List Cl×Unit)×Int→Prop}
  (nxt:∀Km LK BM GH,af LK Km=some GH→GH.length=j+1→Gd p GH f.length→∃r,cN f p ((j+1:Nat):Int) t t2 out Km LK BM=some r∧G r):
  ∀(q k:Nat) (aD:List (Option (List Int))) (l:List Int),q+k=aQ.length→af aD v=some l→l.length=j→Rs p l→
   ∃r,dC f p j v aQ k t t2 out ag br aD=some r∧G r:=by
 have Qy:=hf.1
 have WE:=hs.1
 intro q
 induction q with
 |zero=>
  intro k aD l hk hg hl hr
  obtain⟨x1,x2⟩:=hf.2 _ (bz (d:=UU) hj)
  rw[rb,mM,ai (by omega),GG hj]
  simp only
  rw[GG hj,Ae hg (by omega),bS]
  rw[hc,bS,iQ (by omega) (by omega),bF (by omega)]
  exact nxt _ _ _ _ db (by simp;omega) (hG.snoc ⟨x2,ab3 (by omega) hr⟩)
 |succ q ih=>
  intro k aD l hk hg hl hr
  have e0:((0:Nat):Int)=0:=rfl
  obtain⟨BM,l',h1,h2,h3,h4⟩:=ahG (t:=t) (t2:=t2) (out:=out) (ag:=ag) (br:=br) hf hp (show j≤f.length by omega) (show k<aQ.length by omega) hs hv j 0 aD l (by omega) hg hl hr
  rw[e0] at h1
  rw[rb,mM,ak (by omega),h1]
  exact ih (k+1) BM l' (by omega) h2 h3 h4
theorem ahI {f:List Ce}(hf:Cs f)(hf3:f.length≤30){p:Int}(hp:Pr p){t:Int}{t2:Nat}:∀(q j ag:Nat) (br:List (Option (List Cl))) (aD:List (Option (List Int))) (aa:List Cl),q+j=f.length→af br ag=some aa→aa.length=j→Gd p aa f.length→
  ∃r,cN f p j t t2 p ag br aD=some r∧Go1 r.1.1 r.1.2.1:=by
 intro q
 induction q with
 |zero=>
  intro j ag br aD aa hj hc hl hG
  rw[ra,mL,ai (by omega),rE rfl hc]
  refine⟨_,rfl, ?_,Or.inr hp, ?_⟩
  ·simp only;omega
  ·have:aa.length=f.length:=by omega
   simp only
   rw[this];exact hG
 |succ q ih=>
  intro j ag br aD aa hj hc hl hG
  have hp1:=hp.1
  obtain⟨fc,h1,h2⟩:=KR (hf.2 _ (bz (d:=UU) (show j<f.length by omega))).1
  have e0:((0:Nat):Int)=0:=rfl
  have:=ahH (t:=t) (t2:=t2) (out:=p) (v:=aD.length+1) hf hp (show j<f.length by omega) h2 (by omega) hc hl hG (G:=fun r=>Go1 r.1.1 r.1.2.1) (fun o h0 h4 c g1 g2 g3=>ih (j+1) o h0 h4 c (by omega) g1 g2 g3) fc.length 0 (aD++[some (List.replicate j 0)]) (List.replicate j 0) (by omega) db (by simp) (Rs.rep (by omega) _)
  rw[e0] at this
  rw[ra,mL,ak (by omega),Kc (by omega) (by omega) (by omega),GG (by omega),h1,bS]
  rw[Int.toNat_natCast]
  exact this
theorem ahJ {f:List Ce}(hf:Cs f){p:Int}(hj:0<f.length){aQ:Fm}(hs:Sx 4 aQ){v t2:Nat}{t out:Int}{aD:List (Option (List Int))}(hg:af aD v=some [])
  {G:(Int×List Cl×Unit)×Int→Prop}
  (nxt:∀Km LK BM GH,af LK Km=some GH→GH.length=1→Gd p GH f.length→∃r,cN f p ((1:Nat):Int) t t2 out Km LK BM=some r∧G r):
  ∀(q k:Nat),q+k=aQ.length→∃r,fu f p 0 v aQ k t t2 out 0 aD=some r∧G r:=by
 have Qy:=hf.1
 have WE:=hs.1
 have b1:∀{β:Type} {g:Ce→Option β},(idx f 0).bind g=g (f.getD 0 UU):=GG (k:=0) hj
 intro q
 induction q with
 |zero=>
  intro k hk
  obtain⟨x1,x2⟩:=hf.2 _ (bz (d:=UU) hj)
  rw[sR,oN,ai (by omega),b1]
  simp only
  rw[b1,Ae hg (by simp),bS]
  have hh:af ([]:List (Option (List Cl))) 0=some []:=rfl
  rw[hh,bS,iQ (by omega) (by simp)]
  have hw:IntKind.wrap .i64 ((0:Int)+1)=((1:Nat):Int):=by rw[i64_in _ (by omega)];rfl
  rw[hw]
  refine nxt _ _ _ _ db rfl (fun y hy=> ?_)
  rw[List.nil_append,List.mem_singleton] at hy
  rw[hy]
  exact⟨x2,Vc.nil⟩
 |succ q ih=>
  intro k hk
  rw[sR,oN,ak (by omega),Bg,uM,ai (by omega),bF (by omega)]
  exact ih (k+1) (by omega)
theorem ajh {f:List Ce}(hf:Cs f)(hf3:f.length≤30){p:Int}(hp:Pr p):∃r,jK f p=some r∧Go1 r.1.1 r.1.2.1:=by
 have hp1:=hp.1
 obtain⟨e,he⟩:=ab2 hf
 have hpr:ef p=some true:=by rw[Wm,decide_eq_true hp]
 rw[F9,AE,hpr,bS,Bool.not_true,cF,he,bS]
 by_cases h:e=0
 ·rw[nE h,Bf,uK]
  by_cases hl:(0:Int)<f.length
  ·obtain⟨fc,h1,h2⟩:=KR (hf.2 _ (bz (d:=UU) (show 0<f.length by omega))).1
   have b1:∀{β:Type} {g:Ce→Option β},(idx f 0).bind g=g (f.getD 0 UU):=GG (k:=0) (by omega)
   have e0:((0:Nat):Int)=0:=rfl
   have:=ahJ (p:=p) (t:=0) (t2:=0) (out:=p) (v:=([]:List (Option (List Int))).length+1) (aD:=([]:List (Option (List Int)))++[some (List.replicate (0:Int).toNat 0)]) hf (show 0<f.length by omega) h2 db (G:=fun r=>Go1 r.1.1 r.1.2.1) (fun o h0 h4 c g1 g2 g3=>ahI hf hf3 hp (f.length - 1) 1 o h0 h4 c (by omega) g1 g2 g3) fc.length 0 (by omega)
   rw[e0] at this
   rw[ak hl,Kc (by omega) (by omega) (by omega),b1,h1,bS]
   exact this
  ·rw[ai hl,rE (l:=[]) rfl rfl]
   exact⟨_,rfl,by simp,Or.inl rfl,fun x hx=>by cases hx⟩
 ·rw[BC h,rE (l:=[]) rfl rfl]
  exact⟨_,rfl,by simp,Or.inl rfl,fun x hx=>by cases hx⟩
end Go.Proofs.YtofjebmoebhiiaaGreatDoor.Ev
namespace Go.Proofs.YtofjebmoebhiiaaGreatDoor.Ev
open Go.Abs Go.IntWalk
theorem Pf {β:Type}{xs:List Cl}{k:Nat}{f:Cl→Option β}(h:k<xs.length):(idx xs (k:Int)).bind f=f (xs.getD k jU):=da jU h
theorem akf {xs:List Cl}{k:Nat}(h:k<xs.length):xs[(k:Int).toNat]? =some (xs.getD k jU):=by rw[Int.toNat_natCast];simp[List.getD,h]
theorem Kn {β:Type}{xs:List Int}{k:Nat}{f:Int→Option β}(h:k<xs.length):(idx xs (k:Int)).bind f=f (xs.getD k 0):=da 0 h
theorem Wr {xs:List Int}{k:Nat}(h:k<xs.length):xs[(k:Int).toNat]? =some (xs.getD k 0):=by rw[Int.toNat_natCast];simp[List.getD,h]
theorem UX {p:Int}{aa:List Cl}(hl:aa.length≤30)(hb:∀x∈aa,x.2.2.1.length≤1000){t:Int}{t2:Nat}:∀(q i ag:Nat) (br:List (Option (List Cl))) (r:List Cl),q+i=aa.length→af br ag=some r→r=aa.take i→
  ∃Km LK,dI i p aa t t2 p ag br=some ((p,(Km,())),LK)∧af LK Km=some aa:=by
 intro q
 induction q with
 |zero=>
  intro i ag br r hi hg hr
  rw[i7,gg,ai (by omega)]
  refine⟨ag,br,rfl, ?_⟩
  rw[hg,hr,List.take_of_length_le (by omega)]
 |succ q ih=>
  intro i ag br r hi hg hr
  have hm:=hb _ (bz (d:=jU) (show i<aa.length by omega))
  rw[i7,gg,ak (by omega),Pf (by omega),iQ (by omega) (by omega)]
  simp only
  rw[hg,bS,iQ (by omega) (by rw[hr];simp;omega),bF (by omega)]
  refine ih (i+1) _ _ _ (by omega) db ?_
  rw[hr,List.take_add_one]
  congr 1
  simp[List.getD,show i<aa.length by omega]
theorem Z7 {p:Int}{aa:List Cl}(hl:aa.length≤30)(hb:∀x∈aa,x.2.2.1.length≤1000):∃Km LK,fT (p,(aa,())) []=some ((p,(Km,())),LK)∧af LK Km=some aa:=by
 rw[zL,sP]
 exact UX hl hb aa.length 0 0 [] [] (by omega) rfl (by simp)
theorem Z8 {x:List Tm}{n:Nat}(hl:x.length≤1000000000)(hx:∀t∈x,0≤t.1∧t.1<n){out:Nat}(ho0:out≠0):∀(m i:Nat) (aD:List (Option (List Int))) (l:List Int),m+i=x.length→af aD out=some l→l.length=n→
  ∃BM,dg x out i aD=some (out,BM)∧af BM out=some (l8 l (x.drop i)):=by
 intro m
 induction m with
 |zero=>intro i aD l hi hg ho;rw[qw,kx,ai (by omega),List.drop_eq_nil_of_le (by omega)];exact⟨aD,rfl,hg⟩
 |succ m ih=>
  intro i aD l hi hg ho
  have hb:∀{β:Type} {f:Tm→Option β},(idx x (i:Int)).bind f=f (x.getD i mD):=da mD (by omega)
  have hr:=hx _ (bz (d:=mD) (show i<x.length by omega))
  rw[qw,kx,ak (by omega),hb,hb,hg,bS,fk (by omega) (by omega),bS,xm (by omega),bF (by omega),rD mD (show i<x.length by omega),l8]
  exact ih (i+1) _ _ (by omega) (nF hg ho0) (by rw[List.length_set];exact ho)
theorem ae7 {p:Int}{x:List Tm}{n:Nat}(hn:n≤1000000)(hx:Vc p n x)(aD:List (Option (List Int))):∃o BM v,kG x n aD=some (o,BM)∧o≠0∧af BM o=some v∧v.length=n∧(0<p→Rs p v):=by
 have hl:=hx.length (by omega)
 have hx':∀t∈x,0≤t.1∧t.1<n:=fun t ht=>⟨by have:=Sr.mem hx.s t ht;omega,(hx.r t ht).1⟩
 obtain⟨BM,h1,h2⟩:=Z8 (out:=aD.length+1) (by omega) hx' (by omega) x.length 0 (aD++[some (List.replicate n 0)]) (List.replicate n 0) (by omega) db (by simp)
 have e0:((0:Nat):Int)=0:=rfl
 rw[e0] at h1
 rw[E8,vn,Kc (by omega) (by omega) (by omega),Int.toNat_natCast]
 simp only
 refine⟨_,BM,_,h1,by omega,h2,by rw[NA,List.length_replicate],fun hp j=> ?_⟩
 have hg:(l8 (List.replicate n 0) x).getD j 0=cf x j:=by
  rw[T6 hx.s (by omega) hx.c (fun t ht=>by rw[List.length_replicate];exact(hx' t ht).2),Dy]
  split<;>omega
 rw[List.drop_zero,hg]
 exact T4 hp hx.c j
theorem ae8 {a b:Int}{A B:Int}(ha:0≤a∧a≤A)(hb:0≤b∧b≤B):0≤a*b∧a*b≤A*B:=⟨Int.mul_nonneg ha.1 hb.1,Int.mul_le_mul ha.2 hb.2 hb.1 (by omega)⟩
theorem aji {p:Int}(hp:Pr p){aa:List Cl}(hl:aa.length≤30)(hG:Gd p aa aa.length){i j:Nat}(hi:i<aa.length)(hj:j<aa.length){m inv:Int}(hm:0≤m∧m<p)(hv:0≤inv∧inv<p){t:Int}{t2 ag:Nat}:
  ∀(q s:Nat) (br:List (Option (List Cl))) (aD:List (Option (List Int))) (r:List Cl),q+s=aa.length→af br ag=some r→r.length=aa.length→Gd p r aa.length→
   ∃r',ij i j m inv s p aa t t2 p ag br aD=some (p,(r',()))∧r'.length=aa.length∧Gd p r' aa.length:=by
 have hp1:=hp.1
 have hp2:=hp.2.1
 intro q
 induction q with
 |zero=>
  intro s br aD r hs hg hr hR
  rw[xL,rk,ai (by omega),rE rfl hg]
  exact⟨r,rfl,hr,hR⟩
 |succ q ih=>
  intro s br aD r hs hg hr hR
  have hne:ag≠0:=XW hg (fun e=>by rw[e] at hr;simp at hr;omega)
  have hcs:=hG _ (bz (d:=jU) (show s<aa.length by omega))
  obtain⟨o,BM,w,h1,h2,h3,h4,h5⟩:=ae7 (by omega) hcs.2 aD
  have h5:=h5 (by omega)
  have wi:=h5 i
  have wj:=h5 j
  have n1:=ae8 (a:=p - 1) (b:=w.getD j 0) (A:=250) (B:=250) (by omega) (by omega)
  have n2:=Int.emod_nonneg ((p - 1)*w.getD j 0) (show p≠0 by omega)
  have n3:=Int.emod_lt_of_pos ((p - 1)*w.getD j 0) (show 0<p by omega)
  have n4:=ae8 (a:=(p - 1)*w.getD j 0 % p) (b:=inv) (A:=250) (B:=250) (by omega) (by omega)
  have n5:=Int.emod_nonneg ((p - 1)*w.getD j 0 % p*inv) (show p≠0 by omega)
  have n6:=Int.emod_lt_of_pos ((p - 1)*w.getD j 0 % p*inv) (show 0<p by omega)
  have n7:=ae8 (a:=(p - 1)*w.getD j 0 % p*inv % p) (b:=m) (A:=250) (B:=250) (by omega) (by omega)
  have n8:=Int.emod_nonneg (w.getD i 0+(p - 1)*w.getD j 0 % p*inv % p*m) (show p≠0 by omega)
  have n9:=Int.emod_lt_of_pos (w.getD i 0+(p - 1)*w.getD j 0 % p*inv % p*m) (show 0<p by omega)
  have e1:IntKind.wrap .i64 (IntKind.wrap .i64 (p - 1)*w.getD j 0)=(p - 1)*w.getD j 0:=by rw[i64_in (p - 1) (by omega),i64_in _ (by omega)]
  have e2:IntKind.wrap .i64 ((IntKind.wrap .i64 (((p - 1)*w.getD j 0).tmod p*inv)).tmod p*m)=(p - 1)*w.getD j 0 % p*inv % p*m:=by
   rw[bP (a:=(p - 1)*w.getD j 0) (by omega),i64_in ((p - 1)*w.getD j 0 % p*inv) (by omega),bP (a:=(p - 1)*w.getD j 0 % p*inv) (by omega),i64_in _ (by omega)]
  rw[xL,rk,ak (by omega),Pf (by omega),h1,bS]
  simp only
  rw[h3,bS,Kn (by omega),bS,Wr (by omega),bS,bS,Kn (by omega),bS,Wr (by omega),bS,e1,lZ (by omega),lZ (by omega),e2,lZ (by omega),bS,Kn (by omega),bS,Wr (by omega),bS,i64_in _ (by omega),bP (a:=w.getD i 0+_) (by omega),Int.toNat_natCast]
  have g1:=nF (l':=w.set i ((w.getD i 0+(p - 1)*w.getD j 0 % p*inv % p*m) % p)) h3 h2
  have r1:Rs p (w.set i ((w.getD i 0+(p - 1)*w.getD j 0 % p*inv % p*m) % p)):=h5.set ⟨n8,n9⟩ i
  have l1:(w.set i ((w.getD i 0+(p - 1)*w.getD j 0 % p*inv % p*m) % p)).length=aa.length:=by rw[List.length_set];exact h4
  generalize w.set i ((w.getD i 0+(p - 1)*w.getD j 0 % p*inv % p*m) % p)=W at g1 r1 l1 ⊢
  have wj2:=r1 j
  have k1:=ae8 (a:=W.getD j 0) (b:=inv) (A:=250) (B:=250) (by omega) (by omega)
  rw[g1,bS,Kn (by omega),bS,Wr (by omega),bS,lZ (by omega),bS,Kn (by omega),bS,Wr (by omega),bS,i64_in (W.getD j 0*inv) (by omega),bP (a:=W.getD j 0*inv) (by omega),Int.toNat_natCast]
  have g2:=nF (l':=W.set j (W.getD j 0*inv % p)) g1 h2
  have r2:Rs p (W.set j (W.getD j 0*inv % p)):=r1.set ⟨Int.emod_nonneg _ (by omega),Int.emod_lt_of_pos _ (by omega)⟩ j
  have l2:(W.set j (W.getD j 0*inv % p)).length=aa.length:=by rw[List.length_set];exact l1
  rw[Ae g2 (by omega),bS,hg,bS,Pf (by omega),bS,akf (by omega),bS,bF (by omega)]
  have hrs:=hR _ (bz (d:=jU) (show s<r.length by omega))
  refine ih (s+1) _ _ _ (by omega) (nF hg hne) (by rw[List.length_set];exact hr) (hR.set ?_ _)
  exact⟨hrs.1,ab3 (Nat.le_of_eq l2) r2⟩
theorem ajj {p:Int}(hp:Pr p){aa:List Cl}(hl:aa.length≤30)(hG:Gd p aa aa.length){i j:Nat}(hi:i<aa.length)(hj:j<aa.length){k m inv:Int}(hk:0≤k∧k<p)(hm:0≤m∧m<p)(hv:0≤inv∧inv<p){t:Int}{t2 ag v:Nat}(hv0:v≠0)
  {a b:List Int} (ha:a.length=aa.length) (hb:b.length=aa.length) (hra:Rs p a) (hrb:Rs p b) {br:List (Option (List Cl))} {r:List Cl} (hg:af br ag=some r) (hr:r.length=aa.length) (hR:Gd p r aa.length):
  ∀(q s:Nat) (aD:List (Option (List Int))) (w:List Int),q+s=aa.length→af aD v=some w→w.length=aa.length→Rs p w→
   ∃r',ig i j k m inv v a b s p aa t t2 p ag br aD=some (p,(r',()))∧r'.length=aa.length∧Gd p r' aa.length:=by
 have hp1:=hp.1
 have hp2:=hp.2.1
 intro q
 induction q with
 |zero=>
  intro s aD w hs hw hwl hwr
  have hne:ag≠0:=XW hg (fun e=>by rw[e] at hr;simp at hr;omega)
  have hrs:=hR _ (bz (d:=jU) (show j<r.length by omega))
  rw[xK,rh,hw,bS,ai (by omega),Ae hw (by omega),bS,hg,bS,Pf (by omega),bS,akf (by omega),bS,bF (by omega)]
  refine aji hp hl hG hi hj hm hv (aa.length - (j+1)) (j+1) _ aD _ (by omega) (nF hg hne) (by rw[List.length_set];exact hr) (hR.set ?_ _)
  exact⟨hrs.1,ab3 (by omega) hwr⟩
 |succ q ih=>
  intro s aD w hs hw hwl hwr
  have as1:=hra s
  have bs1:=hrb s
  have n1:=ae8 (a:=k) (b:=a.getD s 0) (A:=250) (B:=250) (by omega) (by omega)
  have n2:=ae8 (a:=m) (b:=b.getD s 0) (A:=250) (B:=250) (by omega) (by omega)
  rw[xK,rh,hw,bS,ak (by omega),Kn (by omega),Kn (by omega)]
  simp only
  rw[i64_in (k*a.getD s 0) (by omega),i64_in (m*b.getD s 0) (by omega),i64_in (k*a.getD s 0+m*b.getD s 0) (by omega),lZ (by omega),bS,Kn (by omega),bS,Wr (by omega),bS,bP (by omega),bF (by omega)]
  exact ih (s+1) _ _ (by omega) (nF hw hv0) (by rw[List.length_set];exact hwl) (hwr.set ⟨Int.emod_nonneg _ (by omega),Int.emod_lt_of_pos _ (by omega)⟩ _)
theorem ajk {p:Int}(hp:Pr p){aa:List Cl}(hl:aa.length≤30)(hG:Gd p aa aa.length){i j:Nat}(hi:i<aa.length)(hj:j<aa.length){k m:Int}(hk:1≤k∧k<p)(hm:0≤m∧m<p):
  ∃r',tI (p,(aa,())) i j k m=some (p,(r',()))∧r'.length=aa.length∧Gd p r' aa.length:=by
 have hp1:=hp.1
 obtain⟨o,h0,g1,g2⟩:=Z7 (p:=p) hl (fun x hx=>by have:=(hG x hx).2.length (by omega);omega)
 obtain⟨a,e1,e2,e3⟩:=T8 (by omega) (hG _ (bz (d:=jU) hj)).2
 obtain⟨b,f1,f2,f3⟩:=T8 (by omega) (hG _ (bz (d:=jU) hi)).2
 have hiv:=ZS hp hk
 rw[Nc,Ej]
 simp only
 rw[g1,bS,abC hp hk,bS,Kc (by omega) (by omega) (by omega),Pf hj,e1,bS,Pf hi,f1,bS]
 have e0:((0:Nat):Int)=0:=rfl
 have:=ajj hp hl hG hi hj (k:=k) (m:=m) (inv:=iv p k) (t:=0) (t2:=0) (v:=([]:List (Option (List Int))).length+1) (by omega) hm (by omega) (by omega) e2.len f2.len (e3 (by omega)) (f3 (by omega)) g2 rfl hG aa.length 0 ([]++[some (List.replicate aa.length 0)]) (List.replicate aa.length 0) (by omega) db (by simp) (Rs.rep (by omega) _)
 rw[e0] at this
 simp only[Int.toNat_natCast]
 exact this
theorem vt1 {x c:Int}(hc:1≤c∧c≤1000):0≤(IntKind.wrap .i64 (x.tmod c+c)).tmod c∧(IntKind.wrap .i64 (x.tmod c+c)).tmod c<c:=by
 have h1:=Int.tmod_lt_of_pos x (show 0<c by omega)
 have h2:=Int.lt_tmod_of_pos x (show 0<c by omega)
 rw[i64_in _ (by omega),bP (by omega)]
 exact⟨Int.emod_nonneg _ (by omega),Int.emod_lt_of_pos _ (by omega)⟩
theorem ab4 {p:Int}(hp:Pr p){aa:List Cl}(hl:aa.length≤30)(hG:Gd p aa aa.length){n:Nat}{x:List (List Int)}{x2 x4:List Int}{x3 t:Int}{t2:Nat}(hn:n+2<x4.length)(hn2:n<24){j:Nat}(hj:j<aa.length){k:Int}(hk:1≤k∧k<p)
  (nxt:∀GH:List Cl,GH.length=aa.length→Gd p GH aa.length→∃r,di ((n+3:Nat):Int) x x2 x3 x4 t t2 p GH=some r∧Go1 r.1 r.2.1):
  ∀(q:Nat),q≤j→∃r,gj n j k ((q:Int) - 1) x x2 x3 x4 t t2 p aa=some r∧Go1 r.1 r.2.1:=by
 have hp1:=hp.1
 have hp2:=hp.2.1
 have e2:IntKind.wrap .i64 ((n:Int)+2)=((n+2:Nat):Int):=by rw[i64_in _ (by omega)];omega
 have e3:IntKind.wrap .i64 ((n:Int)+3)=((n+3:Nat):Int):=by rw[i64_in _ (by omega)];omega
 intro q
 induction q with
 |zero=>
  intro hq
  have c1:(((0:Nat):Int) - 1≥0)=False:=by simp
  rw[wO,pW,e3]
  simp only[c1,decide_false]
  rw[cF,cF]
  exact nxt aa rfl hG
 |succ q ih=>
  intro hq
  have e1:(((q+1:Nat):Int) - 1)=(q:Int):=by omega
  have c1:((q:Int)≥0)=True:=by simp
  rw[wO,pW,e1,e2,e3]
  simp only[c1,decide_true]
  rw[cT,Pf (by omega),Pf (by omega),i64_in ((q:Int) - 1) (by omega)]
  cases ((aa.getD q jU).1 != (aa.getD j jU).1) with
  |true=>rw[cT];exact ih (by omega)
  |false=>
   rw[cF,cT,Kn (by omega),lZ (by omega),lZ (by omega)]
   obtain⟨r,h1,h2,h3⟩:=ajk hp hl hG (i:=q) (by omega) hj hk (vt1 (x:=x4.getD (n+2) 0) (c:=p) (by omega))
   rw[h1,bS]
   exact nxt r h2 h3
theorem ab5 {p:Int}(hp:Pr p){x:List (List Int)}{x2 x4:List Int}{x3 t:Int}{t2:Nat}(hx4:x4.length≤1000000000000000000):∀(q n:Nat) (aa:List Cl),24≤q+n→aa.length≤30→Gd p aa aa.length→∃r,di n x x2 x3 x4 t t2 p aa=some r∧Go1 r.1 r.2.1:=by
 have hp1:=hp.1
 have hp2:=hp.2.1
 intro q
 induction q with
 |zero=>
  intro n aa hq hl hG
  have hgo:Go1 p aa:=⟨hl,Or.inr hp,hG⟩
  rw[oL,lb]
  rw[ai (a:=(n:Int)) (b:=24) (by omega)]
  cases decide (IntKind.wrap .i64 ((n:Int)+2)<(x4.length:Int)) with
  |true=>exact⟨_,rfl,hgo⟩
  |false=>exact⟨_,rfl,hgo⟩
 |succ q ih=>
  intro n aa hq hl hG
  have hgo:Go1 p aa:=⟨hl,Or.inr hp,hG⟩
  rw[oL,lb]
  by_cases h24:(n:Int)<24
  ·have e1:IntKind.wrap .i64 ((n:Int)+1)=((n+1:Nat):Int):=by rw[i64_in _ (by omega)];omega
   have e2:IntKind.wrap .i64 ((n:Int)+2)=((n+2:Nat):Int):=by rw[i64_in _ (by omega)];omega
   rw[e1,e2,ak h24]
   by_cases hn:((n+2:Nat):Int)<x4.length
   ·rw[ak hn]
    by_cases hc:(aa.length:Int)>0
    ·have ep:IntKind.wrap .i64 (p - 1)=p - 1:=i64_in _ (by omega)
     obtain⟨j1,j2⟩:=vt1 (x:=x4.getD n 0) (c:=(aa.length:Int)) (by omega)
     obtain⟨j,hj⟩:=Int.eq_ofNat_of_zero_le j1
     have k0:=Int.tmod_lt_of_pos (x4.getD (n+1) 0) (show 0<p - 1 by omega)
     have k1:=Int.lt_tmod_of_pos (x4.getD (n+1) 0) (show 0<p - 1 by omega)
     have k2:IntKind.wrap .i64 (IntKind.wrap .i64 ((x4.getD (n+1) 0).tmod (p - 1)+p) - 1)=(x4.getD (n+1) 0).tmod (p - 1)+p - 1:=by rw[i64_in ((x4.getD (n+1) 0).tmod (p - 1)+p) (by omega),i64_in _ (by omega)]
     have k3:((x4.getD (n+1) 0).tmod (p - 1)+p - 1).tmod (p - 1)=((x4.getD (n+1) 0).tmod (p - 1)+p - 1) % (p - 1):=bP (by omega)
     have k4:=Int.emod_nonneg ((x4.getD (n+1) 0).tmod (p - 1)+p - 1) (show p - 1≠0 by omega)
     have k5:=Int.emod_lt_of_pos ((x4.getD (n+1) 0).tmod (p - 1)+p - 1) (show 0<p - 1 by omega)
     rw[cy hc,Kn (by omega),lZ (by omega),lZ (by omega),Kn (by omega),ep,lZ (by omega),lZ (by omega)]
     simp only
     rw[k2,k3,hj,i64_in (1+_) (by omega),i64_in ((j:Int) - 1) (by omega)]
     exact ab4 hp hl hG (by omega) (by omega) (show j<aa.length by omega) (by omega) (fun GH g1 g2=>ih (n+3) GH (by omega) (by omega) (by rw[g1];exact g2)) j (by omega)
    ·rw[cM hc];exact⟨_,rfl,hgo⟩
   ·rw[ai hn];exact⟨_,rfl,hgo⟩
  ·rw[ai h24]
   cases decide (IntKind.wrap .i64 ((n:Int)+2)<(x4.length:Int)) with
   |true=>exact⟨_,rfl,hgo⟩
   |false=>exact⟨_,rfl,hgo⟩
theorem UY {p:Int}{x:List (List Int)}{x2 x4:List Int}{x3 t:Int}{t2:Nat}:di 0 x x2 x3 x4 t t2 p []=some (p,([],())):=by
 rw[oL,lb]
 cases decide (IntKind.wrap .i64 ((0:Int)+2)<(x4.length:Int)) with
 |true=>rfl
 |false=>rfl
theorem ab6 {l:Fm}(hl:l.length≤1000000000000000000)(hs:∀s∈l,s.length≤1000000000000000000){values turns:List Int}(hv:values.length≤1000000000000000000)(ht:turns.length≤1000000000000000000)(field:Int):
  ∃r,rG (l,(values,(field,(turns,())))) 30=some r∧Go1 r.1 r.2.1:=by
 rw[Lj,C1]
 simp only
 have ahn:∃n:Nat,(bif decide ((40:Int)<(l.length:Int)) then (40:Int) else (l.length:Int))=n∧n≤40∧n≤l.length:=by
  by_cases h:(40:Int)<l.length
  ·rw[ak h];exact⟨40,rfl,by omega,by omega⟩
  ·rw[ai h];exact⟨l.length,rfl,by omega,by omega⟩
 obtain⟨n,e1,e2,e3⟩:=ahn
 rw[e1,Gw (by omega) (by omega) (by omega)]
 have hcl:(cut l 0 (n:Int)).length≤40:=by simp[cut];omega
 have hcm:∀s∈cut l 0 (n:Int),s∈l:=fun s h=>by
  simp only[cut] at h
  exact List.mem_of_mem_take (List.mem_of_mem_drop h)
 obtain⟨f,h1,h2⟩:=abZ (l:=cut l 0 (n:Int)) (by omega) (fun s h=>hs s (hcm s h)) hv
 have hf:=h2.1
 rw[h1,bS]
 have ahn:∃n:Nat,(bif decide ((30:Int)<(f.length:Int)) then (30:Int) else (f.length:Int))=n∧n≤30∧n≤f.length:=by
  by_cases h:(30:Int)<f.length
  ·rw[ak h];exact⟨30,rfl,by omega,by omega⟩
  ·rw[ai h];exact⟨f.length,rfl,by omega,by omega⟩
 obtain⟨k,g1,g2,g3⟩:=ahn
 obtain⟨p,p1,p2⟩:=ahF field
 rw[g1,Gw (by omega) (by omega) (by omega),p1,bS]
 have Qy:(cut f 0 (k:Int)).length≤30:=by simp[cut];omega
 have hfm:∀s∈cut f 0 (k:Int),s∈f:=fun s h=>by
  simp only[cut] at h
  exact List.mem_of_mem_take (List.mem_of_mem_drop h)
 obtain⟨r,r1,r2⟩:=ajh (f:=cut f 0 (k:Int)) ⟨by omega,fun x hx=>h2.2 x (hfm x hx)⟩ Qy p2
 rw[r1,bS]
 obtain⟨⟨p',aa,u⟩,e⟩:=r
 obtain⟨q1,q2,q3⟩:=r2
 simp only at q1 q2 q3 ⊢
 rcases q2 with rfl |q2
 ·rw[UY]
  exact⟨_,rfl,by simp,Or.inl rfl,q3⟩
 ·have e0:((0:Nat):Int)=0:=rfl
  have:=ab5 (x:=l) (x2:=values) (x3:=field) (x4:=turns) (t:=0) (t2:=0) q2 ht 24 0 aa (by omega) q1 q3
  rw[e0] at this
  exact this
theorem Go1.sz {p:Int}{aa:List Cl}(h:Go1 p aa):Sz aa:=⟨fun j=>by
 by_cases hj:j<aa.length
 ·have:=(h.2.2 _ (bz (d:=jU) hj)).1.2
  unfold kc;omega
 ·have:aa.getD j jU=jU:=by simp[List.getD,List.getElem?_eq_none (show aa.length≤j by omega)]
  unfold kc;rw[this];decide,fun j=>by
 by_cases hj:j<aa.length
 ·have h1:=(h.2.2 _ (bz (d:=jU) hj)).2.length (by omega)
  have:=h.1
  omega
 ·have:aa.getD j jU=jU:=by simp[List.getD,List.getElem?_eq_none (show aa.length≤j by omega)]
  rw[this];simp⟩
end Go.Proofs.YtofjebmoebhiiaaGreatDoor.Ev
namespace Go.Proofs.YtofjebmoebhiiaaGreatDoor.Ev
open Go.Abs Go.IntWalk
theorem Z9:ft=some true:=(LI 300).symm.trans (by kernel_rfl)
theorem ae9 {aa:List Cl}(hl:aa.length≤40):∀(q i:Nat),q+i=aa.length→(∀k,k<i→(aa.getD k jU).2.2.1.length≤40∧(aa.getD k jU).2.1.size≤200)→
  ∃b,ib aa aa.length i=some b∧(b=false→∀k,k<aa.length→(aa.getD k jU).2.2.1.length≤40∧(aa.getD k jU).2.1.size≤200):=by
 intro q
 induction q with
 |zero=>
  intro i hi h
  rw[xA,qT,ai (by omega)]
  exact⟨false,rfl,fun _ k hk=>h k (by omega)⟩
 |succ q ih=>
  intro i hi h
  rw[xA,qT,ak (by omega),Pf (by omega)]
  by_cases h1:(((aa.getD i jU).2.2.1.length:Nat):Int)>40
  ·rw[cy h1];exact⟨true,rfl,fun e=>by cases e⟩
  ·rw[cM h1]
   by_cases h2:(((aa.getD i jU).2.1.size:Nat):Int)>200
   ·rw[cy h2];exact⟨true,rfl,fun e=>by cases e⟩
   ·rw[cM h2,bF (by omega)]
    refine ih (i+1) (by omega) fun k hk=> ?_
    by_cases e:k=i
    ·subst e;omega
    ·exact h k (by omega)
theorem afa {p:Int}{aa:List Cl}:∃b,tG (p,(aa,())) 40=some b∧(b=false→aa.length≤40∧Sz aa):=by
 rw[MU,Ec]
 by_cases h:((aa.length:Nat):Int)>40
 ·rw[cy h];exact⟨true,rfl,fun e=>by cases e⟩
 ·rw[cM h]
  have e0:((0:Nat):Int)=0:=rfl
  obtain⟨b,h1,h2⟩:=ae9 (aa:=aa) (by omega) aa.length 0 (by omega) (fun k hk=>by omega)
  rw[e0] at h1
  refine⟨b,h1,fun hb=>⟨by omega,⟨fun j=> ?_,fun j=> ?_⟩⟩⟩
  ·by_cases hj:j<aa.length
   ·have:=(h2 hb j hj).2
    unfold kc;omega
   ·have:aa.getD j jU=jU:=by simp[List.getD,List.getElem?_eq_none (show aa.length≤j by omega)]
    unfold kc;rw[this];decide
  ·by_cases hj:j<aa.length
   ·have:=(h2 hb j hj).1
    omega
   ·have:aa.getD j jU=jU:=by simp[List.getD,List.getElem?_eq_none (show aa.length≤j by omega)]
    rw[this];simp
abbrev Chn:=Int×List Cl×Unit
end Go.Proofs.YtofjebmoebhiiaaGreatDoor.Ev
namespace Go.Abs
abbrev ab7:Ty:= .st (.pair (.slice (.slice (.int .i64))) (.pair (.slice (.int .i64)) (.pair (.int .i64) (.pair (.slice (.int .i64)) .unit))))
end Go.Abs
namespace Go.Proofs.YtofjebmoebhiiaaGreatDoor.Ev
open Go.Abs
theorem afb {l:List (List Int)}{v t:List Int}{f:Int}(h:Bnd ab7 (l,(v,(f,(t,()))))):l.length≤1000000000000000000∧(∀s∈l,s.length≤1000000000000000000)∧v.length≤1000000000000000000∧t.length≤1000000000000000000:=by
 obtain⟨⟨h1,h2⟩,⟨h3,_⟩,_,⟨h4,_⟩,_⟩:=h
 refine⟨Nat.le_trans h1 (by decide),fun s hs=>Nat.le_trans (h2 s hs).1 (by decide),Nat.le_trans h3 (by decide),Nat.le_trans h4 (by decide)⟩
end Go.Proofs.YtofjebmoebhiiaaGreatDoor.Ev
namespace Go.Proofs.YtofjebmoebhiiaaGreatDoor.Ev
open Go.Abs Go.IntWalk
def RT (n d:Int):ByteArray:=if d=1 then gJ n else (gJ n++bs [47])++gJ d
def ajl (s:ByteArray):ByteArray:=RT (-(rC s).1) (rC s).2
theorem X1 {z:Int}(h:nd z≤1000):(gJ z).size≤1001:=Nat.le_trans (EI z) (by omega)
theorem R6:(bs [47]).size=1:=rfl
theorem cbl {a b:Nat}{α:Type}{x y:α}(h:a≤b):(bif Nat.ble a b then x else y)=x:=by rw[Nat.ble_eq_true_of_le h];rfl
theorem alr {n d:Int}(hn:nd n≤1000):jL (WR n d)=some (WR (-n) d):=by
 have l1:=EK n
 rw[FQ,Ap]
 simp only[xf]
 rw[Qh (by omega),bS]
theorem ajm {n d:Int}(hn:nd n≤1000)(hd:nd d≤1000)(h0:0<d):iJ (WR n d)=some (RT n d):=by
 have l1:=EK n
 have l2:=EK d
 have l3:=aeT
 have s1:=X1 hn
 have s2:=X1 hd
 rw[D5,yt]
 simp only[xf]
 rw[abw h0,bS,aeS,bS]
 simp only[xf]
 rw[kb (by omega) (by omega),bS,EG (by omega),RT]
 by_cases e:d=1
 ·subst e
  rw[if_pos rfl,nE (KK rfl),bS]
 ·have hc:qA d 1≠0:=by unfold qA;split<;>(try split)<;>omega
  rw[if_neg e,BC hc,bS,cbl (by rw[R6];omega),EG (by omega),bS,cbl (by rw[ByteArray.size_append,R6];omega)]
theorem ajn {s:ByteArray}{n d:Int}(hs:s.size≤1000)(h:Rt s n d):jm s=some (RT (-n) d):=by
 obtain⟨b1,b2,b3⟩:=h.bounds hs
 have s1:=X1 (z:= -n) (by rw[TV];exact b1)
 have s2:=X1 b2
 have hB:bu (gJ n)=some (gJ (-n)):=O8 (BD (k:=1000) b1 (by omega))
 rw[Hq,xE,Pa (by omega),RT]
 cases h with
 |whole=>
  rw[T1,bS]
  simp only
  rw[Bool.not_false,cT,hB,bS,if_pos trivial]
 |abv hk h1 h2 hn hd hg=>
  rw[hk,bS]
  simp only[h1,h2]
  rw[Bool.not_true,cF,hB,bS,cbl (by rw[R6];omega),cbl (by rw[ByteArray.size_append,R6];omega),if_neg (by omega)]
theorem adm {s:ByteArray}{n d:Int}(h:Rt s n d):ajl s=RT (-n) d:=by unfold ajl;rw[h.val]
end Go.Proofs.YtofjebmoebhiiaaGreatDoor.Ev
namespace Go.Abs
abbrev anB:Ty:= .st (.pair (.int .i64) (.pair (.str) (.pair (.ref 2) (.unit))))
end Go.Abs
namespace Go.Proofs.YtofjebmoebhiiaaGreatDoor.Ev
open Go.Abs Go.IntWalk
theorem Ue:∀(v:List Int) (i:Nat) (x:Int),NG i (v++[x])=NG i v++(if x=0 then [] else [(((i+v.length:Nat):Int),(x,()))])
 | [],i,x=>by by_cases h:x=0<;>simp[NG,h]
 |y::r,i,x=>by
  have e:i+1+r.length=i+(r.length+1):=by omega
  by_cases h:y=0
  ·simp only[List.cons_append,NG,h,ne_eq,not_true_eq_false,if_false,Ue r (i+1) x,List.length_cons,e]
  ·simp only[List.cons_append,NG,h,ne_eq,not_false_eq_true,if_true,Ue r (i+1) x,List.length_cons,e]
def dvv (aa:List Cl)(n m j:Nat):List Int:=(List.range m).map fun i=>cf (qh aa ((n - 1 - i:Nat):Int)) ((n - 1 - j:Nat):Int)
def Dv (aa:List Cl)(n m j:Nat):List Tm:=NG 0 (dvv aa n m j)
def pt (l:List Tm)(r:Int)(m:Nat):List Tm:=if cf l r=0 then [] else [((m:Int),(cf l r,()))]
theorem ajo (aa:List Cl)(n m j:Nat):Dv aa n (m+1) j=Dv aa n m j++pt (qh aa ((n - 1 - m:Nat):Int)) ((n - 1 - j:Nat):Int) m:=by
 unfold Dv dvv pt
 rw[List.range_succ,List.map_append,List.map_cons,List.map_nil,Ue]
 simp
theorem Qq (aa:List Cl)(n m j:Nat):(Dv aa n m j).length≤m:=by
 have:=T7 (dvv aa n m j) 0
 have e:(dvv aa n m j).length=m:=by simp[dvv]
 unfold Dv;omega
theorem als (r:Int)(m:Nat):pt [] r m=[]:=by unfold pt;rw[T3,if_pos rfl]
theorem Uf {t:Tm}{r:Int}(h:t.1≠r):∀l:List Tm,cf (l++[t]) r=cf l r
 | []=>by rw[List.nil_append,tP,if_neg h]
 |x::l=>by rw[List.cons_append,tP,tP,Uf h l]
theorem adn {t:Tm}:∀(l:List Tm) (lo:Int),Sr lo (l++[t])→cf l t.1=0∧cf (l++[t]) t.1=t.2.1
 | [],lo,h=>⟨rfl,by rw[List.nil_append,tP,if_pos rfl]⟩
 |x::l,lo,h=>by
  have h2:Sr x.1 (l++[t]):=h.2
  have hlt:=h2.mem t (by simp)
  rw[List.cons_append,tP,tP,if_neg (by omega),if_neg (by omega)]
  exact adn l x.1 h2
theorem Sr.left {b:List Tm}:∀{a:List Tm} {lo:Int},Sr lo (a++b)→Sr lo a
 | [],_,_=>trivial
 |_::_,_,h=>⟨h.1,Sr.left h.2⟩
theorem afc {l:List Tm}{i:Nat}(h:i<l.length):l.take (i+1)=l.take i++[l.getD i mD]:=by
 rw[List.take_add_one,List.getElem?_eq_getElem h];simp[List.getD,h]
theorem ajp {l:List Tm}{i:Nat}(hs:Sr (-1) l)(h:i<l.length):cf (l.take i) (l.getD i mD).1=0∧cf (l.take (i+1)) (l.getD i mD).1=(l.getD i mD).2.1∧∀r,(l.getD i mD).1≠r→cf (l.take (i+1)) r=cf (l.take i) r:=by
 have h2:Sr (-1) (l.take (i+1)):=by
  have h3:=hs
  rw[←List.take_append_drop (i+1) l] at h3
  exact Sr.left h3
 rw[afc h] at h2 ⊢
 obtain⟨h4,h5⟩:=adn _ _ h2
 exact⟨h4,h5,fun r hr=>Uf hr _⟩
abbrev CR:=Int×ByteArray×Nat×Unit
abbrev EM:CR:=(0,(ByteArray.empty,(0,())))
theorem KS {α:Type}(d:α){l:List α}{k j:Nat}{v:α}:(l.set k v).getD j d=if k=j∧k<l.length then v else l.getD j d:=by
 by_cases h:k=j
 ·subst h
  by_cases h2:k<l.length<;>simp[List.getD,h2]
 ·simp[List.getD,h]
theorem KT {α:Type}(xs:List (Option (List α)))(m:Nat):(c5 xs m).length=xs.length:=by cases m<;>simp[c5]
theorem afd {α:Type}{xs:List (Option (List α))}{m r:Nat}{l:List α}{o:Option (List α)}(h:af xs r=some l)(hne:r=m→r=0):af (c5 xs m++[o]) r=some l:=by
 cases r with
 |zero=>exact h
 |succ r=>
  have asG:r+1≠m:=fun e=>by have:=hne e;omega
  have hx:xs[r]? =some (some l):=by
   have h':(match xs[r]? with |some o=>o |none=>none)=some l:=h
   cases hr:xs[r]? with
   |none=>rw[hr] at h';cases h'
   |some o=>rw[hr] at h';simp only at h';rw[h']
  have hlt:r<xs.length:=(List.getElem?_eq_some_iff.1 hx).1
  have hk:(c5 xs m)[r]? =some (some l):=by
   cases m with
   |zero=>exact hx
   |succ m=>show (xs.set m none)[r]? =_;rw[List.getElem?_set_ne (by omega)];exact hx
  show (match (c5 xs m++[o])[r]? with |some o=>o |none=>none)=some l
  rw[List.getElem?_append_left (by rw[KT];exact hlt),hk]
theorem Fo {α:Type}{xs:List (Option (List α))}{m:Nat}{l:List α}:af (c5 xs m++[some l]) ((c5 xs m).length+1)=some l:=db
structure DS (n:Nat) (ds:Nat→Int×ByteArray) (rs:List CR) (hp2:List (Option (List Tm))) (L:Nat→List Tm):Prop where
 len:rs.length=n
 get:∀j,j<n→af hp2 (rs.getD j EM).2.2.1=some (L j)
 inj:∀i j,i<n→j<n→i≠j→(rs.getD i EM).2.2.1=(rs.getD j EM).2.2.1→(rs.getD i EM).2.2.1=0
 lt:∀j,j<n→(rs.getD j EM).2.2.1≤hp2.length
 ds:∀j,j<n→(rs.getD j EM).1=(ds j).1∧(rs.getD j EM).2.1=(ds j).2
theorem DS.congr {n:Nat}{ds:Nat→Int×ByteArray}{rs:List CR}{hp2:List (Option (List Tm))}{L L':Nat→List Tm}(h:DS n ds rs hp2 L)(e:∀j,j<n→L j=L' j):DS n ds rs hp2 L':=
 ⟨h.len,fun j hj=>by rw[h.get j hj,e j hj],h.inj,h.lt,h.ds⟩
theorem DS.step {n:Nat}{ds:Nat→Int×ByteArray}{rs:List CR}{hp2:List (Option (List Tm))}{L:Nat→List Tm}(h:DS n ds rs hp2 L){j:Nat}(hj:j<n){x:Tm}:
  DS n ds (rs.set j ((rs.getD j EM).1,((rs.getD j EM).2.1,((c5 hp2 (rs.getD j EM).2.2.1).length+1,())))) (c5 hp2 (rs.getD j EM).2.2.1++[some (L j++[x])]) (fun i=>if i=j then L j++[x] else L i):=by
 have hl:=h.len
 have nw:∀i,(rs.set j ((rs.getD j EM).1,((rs.getD j EM).2.1,((c5 hp2 (rs.getD j EM).2.2.1).length+1,())))).getD i EM=if i=j then ((rs.getD j EM).1,((rs.getD j EM).2.1,((c5 hp2 (rs.getD j EM).2.2.1).length+1,()))) else rs.getD i EM:=fun i=>by
  rw[KS]
  by_cases e:i=j
  ·subst e;rw[if_pos ⟨rfl,by omega⟩,if_pos rfl]
  ·rw[if_neg (fun h=>e h.1.symm),if_neg e]
 refine⟨by rw[List.length_set];exact hl,fun i hi=> ?_,fun a b ha hb hab=> ?_,fun i hi=> ?_,fun i hi=> ?_⟩
 ·rw[nw]
  by_cases e:i=j
  ·subst e
   rw[if_pos rfl]
   simp only[if_true]
   exact Fo
  ·rw[if_neg e]
   simp only[if_neg e]
   exact afd (h.get i hi) fun h2=>h.inj i j hi hj e h2
 ·rw[nw,nw]
  by_cases ea:a=j
  ·subst ea
   rw[if_pos rfl,if_neg (Ne.symm hab)]
   intro e2
   have:=h.lt b hb
   simp only at e2
   rw[KT] at e2
   omega
  ·rw[if_neg ea]
   by_cases eb:b=j
   ·subst eb
    rw[if_pos rfl]
    intro e2
    have:=h.lt a ha
    simp only at e2
    rw[KT] at e2
    omega
   ·rw[if_neg eb]
    exact h.inj a b ha hb hab
 ·rw[nw,List.length_append,KT]
  by_cases e:i=j
  ·rw[if_pos e];simp
  ·rw[if_neg e];exact Nat.le_succ_of_le (h.lt i hi)
 ·rw[nw]
  by_cases e:i=j
  ·subst e;rw[if_pos rfl];exact h.ds i hi
  ·rw[if_neg e];exact h.ds i hi
theorem ajq (ab:List aS)(y:Tm):snap ab tTm (flat tTm y)=some (y,[]):=by
 obtain⟨a,b,u⟩:=y
 rfl
theorem ajr {ab:List aS}{hp2:List (Option (List Tm))}(h2:ab[2]? =some ⟨44,tTm,0,true,hp2⟩){r:CR}{l:List Tm}(h:af hp2 r.2.2.1=some l):snap ab tCl (flat anB r)=some ((r.1,(r.2.1,(l,()))),[]):=by
 obtain⟨a,b,m,u⟩:=r
 simp only at h ⊢
 have e:snap ab (.slice tTm) [⟨.ref 2,m⟩]=some (l,[]):=by
  unfold snap IU
  simp only
  rw[h2]
  simp only
  cases m with
  |zero=>
   have:l=[]:=by simpa [af] using h.symm
   subst this
   rfl
  |succ k=>
   have hb:Nat.beq (k+1) 0=false:=rfl
   rw[hb,h]
   simp only[cond_false,Option.bind_some]
   rw[Ad (g:=fun x:Tm=>x) l (fun y _=>by rw[ajq])]
   simp
 show snap ab (.pair (.int .i64) (.pair .str (.pair (.slice tTm) .unit))) [⟨.int .i64,a⟩,⟨.str,b⟩,⟨.ref 2,m⟩]=_
 unfold snap
 rw[show snap ab (.int .i64) [⟨.int .i64,a⟩,⟨.str,b⟩,⟨.ref 2,m⟩]=some (a,[⟨.str,b⟩,⟨.ref 2,m⟩]) from rfl]
 simp only
 unfold snap
 rw[show snap ab .str [⟨.str,b⟩,⟨.ref 2,m⟩]=some (b,[⟨.ref 2,m⟩]) from rfl]
 simp only
 unfold snap
 rw[e]
 rfl
theorem Ug {ab:List aS}{hp1:List (Option (List CR))}{hp2:List (Option (List Tm))}(h1:ab[1]? =some ⟨42,anB,0,true,hp1⟩)(h2:ab[2]? =some ⟨44,tTm,0,true,hp2⟩){p:Int}{n:Nat}{rs:List CR}(hg:af hp1 n=some rs){g:CR→List Tm}(hr:∀r∈rs,af hp2 r.2.2.1=some (g r)):
  typed ab tCh (.rv (.agg [⟨.int .i64,p⟩,⟨.ref 1,n⟩]))=some (p,(rs.map fun r=>(r.1,(r.2.1,(g r,()))),())):=by
 unfold typed
 simp only
 have e:snap ab (.slice tCl) [⟨.ref 1,n⟩]=some (rs.map fun r=>(r.1,(r.2.1,(g r,()))),[]):=by
  unfold snap IU
  simp only
  rw[h1]
  simp only
  cases n with
  |zero=>
   have:rs=[]:=by simpa [af] using hg.symm
   subst this
   rfl
  |succ k=>
   have hb:Nat.beq (k+1) 0=false:=rfl
   rw[hb,hg]
   simp only[cond_false,Option.bind_some]
   rw[Ad (g:=fun r:CR=>(r.1,(r.2.1,(g r,())))) rs (fun y hy=>by rw[ajr h2 (hr y hy)])]
   simp
 unfold zf
 rw[show snap ab (.pair (.int .i64) (.pair (.slice tCl) (.unit))) [⟨.int .i64,p⟩,⟨.ref 1,n⟩]=some ((p,(rs.map fun r=>(r.1,(r.2.1,(g r,()))),())),[]) from by
  unfold snap
  rw[show snap ab (.int .i64) [⟨.int .i64,p⟩,⟨.ref 1,n⟩]=some (p,[⟨.ref 1,n⟩]) from rfl]
  simp only
  unfold snap
  rw[e]
  rfl]
end Go.Proofs.YtofjebmoebhiiaaGreatDoor.Ev
namespace Go.Proofs.YtofjebmoebhiiaaGreatDoor.Ev
open Go.Abs Go.IntWalk
theorem Ri {α β:Type}(d:α){xs:List α}{k:Nat}{f:α→Option β}(h:k<xs.length):(xs[k]?).bind f=f (xs.getD k d):=by rw[List.getElem?_eq_getElem h];simp[List.getD,h]
def dsf (aa:List Cl)(n j:Nat):Int×ByteArray:=(4 - (aa.getD (n - 1 - j) jU).1,ajl (kc aa (n - 1 - j)))
def EN (aa:List Cl):List Cl:=(List.range aa.length).map fun j=>((dsf aa aa.length j).1,((dsf aa aa.length j).2,(Dv aa aa.length aa.length j,())))
end Go.Proofs.YtofjebmoebhiiaaGreatDoor.Ev
namespace Go.Proofs.YtofjebmoebhiiaaGreatDoor.Ev
open Go.Abs Go.IntWalk
theorem ab8 {n j c t out:Int}{aa:List Cl}{t2 o:Nat}:tU n j c aa t t2 out o=jl n j c aa t t2 out o [] []:=rfl
theorem Qr {α:Type}{xs:List (Option (List α))}{l l':List α}:gK (xs++[some l]) (xs.length+1) l'=xs++[some l']:=by
 show (xs++[some l]).set xs.length (some l')=_
 rw[List.set_append_right _ _ (Nat.le_refl _),Nat.sub_self]
 rfl
theorem ahK {aa:List Cl}{n m j r:Nat}(h:r<m):(dvv aa n m j).getD r 0=cf (qh aa ((n - 1 - r:Nat):Int)) ((n - 1 - j:Nat):Int):=by
 unfold dvv;simp[List.getD,h]
theorem ahL {a b:List Int}(hl:a.length=b.length)(h:∀r,r<a.length→a.getD r 0=b.getD r 0):a=b:=by
 apply List.ext_getElem hl
 intro r h1 h2
 have:=h r h1
 simpa [List.getD,h1,h2] using this
theorem UZ {aa:List Cl}{n:Nat}(hc:aa.length=n)(hn:n≤1024){p0:Int}(hv:∀j,j<n→Vc p0 n (qh aa j)){j:Nat}(hj:j<n){c t p x:Int}{t2 o:Nat}{x2:ByteArray}{x3:List Tm}{br:List (Option (List Cl))}{B:List (Option (List Int))}:
  ∀(q i:Nat) (row:List Int),q+i=n→row.length=n→(∀r,r<n→row.getD r 0=if r<i then cf (qh aa ((n - 1 - r:Nat):Int)) ((n - 1 - j:Nat):Int) else 0)→
  eC n j (B.length+1) i c aa t t2 p o x x2 x3 br (B++[some row])=eC n j (B.length+1) n c aa t t2 p o x x2 x3 br (B++[some (dvv aa n n j)]):=by
 intro q
 induction q with
 |zero=>
  intro i row hq hl h
  obtain rfl:i=n:=by omega
  have:row=dvv aa i i j:=ahL (by rw[hl];simp[dvv]) fun r hr=>by rw[h r (by omega),if_pos (by omega),ahK (by omega)]
  rw[this]
 |succ q ih=>
  intro i row hq hl h
  have hi:i<n:=by omega
  obtain⟨v,d1,d2,d3⟩:=T8 (p:=p0) (by omega) (hv (n - 1 - i) (by omega))
  have e1:IntKind.wrap .i64 (IntKind.wrap .i64 ((n:Int) - 1) - (i:Int))=((n - 1 - i:Nat):Int):=by rw[i64_in ((n:Int) - 1) (by omega),i64_in _ (by omega)];omega
  have e2:IntKind.wrap .i64 (IntKind.wrap .i64 ((n:Int) - 1) - (j:Int))=((n - 1 - j:Nat):Int):=by rw[i64_in ((n:Int) - 1) (by omega),i64_in _ (by omega)];omega
  have hvl:=d2.len
  rw[wW,qd,ak (by omega),e1,da jU (by omega), ←GD,d1,bS,e2,da 0 (by omega),d2.at_ _ (by omega),db,bS,da 0 (by omega),bS,Int.toNat_natCast,Ri 0 (by omega),Qr,bF (by omega)]
  refine ih (i+1) _ (by omega) (by rw[List.length_set];exact hl) fun r hr=> ?_
  rw[KS]
  by_cases e:i=r
  ·subst e;rw[if_pos ⟨rfl,by omega⟩,if_pos (by omega)]
  ·rw[if_neg (fun h=>e h.1),h r hr]
   by_cases e3:r<i
   ·rw[if_pos e3,if_pos (by omega)]
   ·rw[if_neg e3,if_neg (by omega)]
abbrev dcl (aa:List Cl)(n j:Nat):Cl:=((dsf aa n j).1,((dsf aa n j).2,(Dv aa n n j,())))
theorem U0 {aa:List Cl}{n:Nat}(hc:aa.length=n)(hn:n≤1024)(hd:∀j,j<n→0≤(aa.getD j jU).1∧(aa.getD j jU).1≤4)(ha:∀j,j<n→tC (kc aa j)=true∧(kc aa j).size≤1000){p0:Int}(hv:∀j,j<n→Vc p0 n (qh aa j)){c t p:Int}{t2:Nat}:
  ∀(q j o:Nat) (br:List (Option (List Cl))) (aD:List (Option (List Int))),q+j=n→af br o=some ((List.range j).map (dcl aa n))→
  jl n j c aa t t2 p o br aD=some (p,((List.range n).map (dcl aa n),())):=by
 intro q
 induction q with
 |zero=>
  intro j o br aD hq hg
  obtain rfl:j=n:=by omega
  rw[wV,qb,ai (by omega),rE rfl hg]
  rfl
 |succ q ih=>
  intro j o br aD hq hg
  have hj:j<n:=by omega
  have hk:n - 1 - j<n:=by omega
  obtain⟨a1,a2⟩:=ha _ hk
  obtain⟨d1,d2⟩:=hd _ hk
  obtain⟨m,d,hR⟩:=yL.1 a1
  have e0:((0:Nat):Int)=0:=rfl
  have e2:IntKind.wrap .i64 (IntKind.wrap .i64 ((n:Int) - 1) - (j:Int))=((n - 1 - j:Nat):Int):=by rw[i64_in ((n:Int) - 1) (by omega),i64_in _ (by omega)];omega
  have hw:=UZ hc hn hv hj (c:=c) (t:=t) (p:=p) (t2:=t2) (o:=o) (br:=br) (B:=aD) (x:=(aa.getD (n - 1 - j) jU).1) (x2:=(aa.getD (n - 1 - j) jU).2.1) (x3:=(aa.getD (n - 1 - j) jU).2.2.1) n 0 (List.replicate n 0) (by omega) (by simp) (fun r hr=>by rw[if_neg (by omega),Dy])
  rw[e0] at hw
  have hop:jm (aa.getD (n - 1 - j) jU).2.1=some (ajl (kc aa (n - 1 - j))):=by rw[adm hR];exact ajn a2 hR
  have hln:(dvv aa n n j).length≤1000000:=by unfold dvv;simp;omega
  rw[wV,qb,ak (by omega),e2,da jU (by omega),Kc (by omega) (by omega) (by omega),Int.toNat_natCast,hw,wW,qd,ai (by omega),hop,bS,Ae db hln,bS,hg,bS,iQ (by omega) (by simp;omega),bF (by omega),i64_in (4 - _) (by omega)]
  refine ih (j+1) _ _ _ (by omega) ?_
  rw[Fo,List.range_succ,List.map_append]
  rfl
theorem ahM {p:Int}{aa:List Cl}(hs:Sz aa)(h0:gE p aa=0):tH (p,(aa,()))=some (p,(EN aa,())):=by
 obtain⟨hp,hl,hg⟩:=T9 h0
 obtain⟨n,hn⟩:∃n,aa.length=n:=⟨_,rfl⟩
 have hv:∀j,j<n→Vc p n (qh aa j):=fun j hj=>(hg j (by omega)).bd.mono (by omega)
 have e0:((0:Nat):Int)=0:=rfl
 have key:=U0 hn (by omega) (fun j hj=>(hg j (by omega)).RY) (fun j hj=>⟨(hg j (by omega)).at_,hs.at_ j⟩) hv (c:=p) (t:=0) (p:=p) (t2:=0) n 0 0 [] [] (by omega) rfl
 rw[e0] at key
 rw[Ng,Ek]
 simp only
 rw[ab8,hn,key]
 unfold EN
 rw[hn]
end Go.Proofs.YtofjebmoebhiiaaGreatDoor.Ev
namespace Go.Proofs.YtofjebmoebhiiaaGreatDoor.Ev
open Go.Abs Go.IntWalk
theorem ab9 {ab:List aS}{p:Int}{n:Nat}:typed ab (.st (.pair (.int .i64) (.pair (.ref 1) .unit))) (.rv (.agg [⟨.int .i64,p⟩,⟨.ref 1,n⟩]))=some (p,(n,())):=by cases n<;>rfl
theorem aca {ab:List aS}{p:Int}:typed ab (.st (.pair (.int .i64) (.pair (.ref 1) .unit))) (.rv (.agg [⟨.int .i64,p⟩,⟨.ref 0,(0:Nat)⟩]))=some (p,((0:Nat),())):=rfl
theorem U1 {aa:List Cl}{n:Nat}(hc:aa.length=n)(hn:n≤1024){q0:Int}{m:Nat}(hm:m<n)(hv:Vc q0 n (qh aa ((n - 1 - m:Nat):Int))){ds:Nat→Int×ByteArray}{c t4 p:Int}{t5:Nat}{B1:List (Option (List CR))}:
  ∀(q i:Nat) (rs:List CR) (hp2:List (Option (List Tm))),q+i=(qh aa ((n - 1 - m:Nat):Int)).length→DS n ds rs hp2 (fun j=>Dv aa n m j++pt ((qh aa ((n - 1 - m:Nat):Int)).take i) ((n - 1 - j:Nat):Int) m)→
  ∃rs' BN,DS n ds rs' BN (Dv aa n (m+1))∧j9 ((n:Int) - 1) ((n - 1 - m:Nat):Int) (qh aa ((n - 1 - m:Nat):Int)) (qh aa ((n - 1 - m:Nat):Int)).length i c aa t4 t5 p (B1.length+1) (B1++[some rs]) hp2=
   fH ((n:Int) - 1) (((n - 1 - m:Nat):Int) - 1) c aa t4 t5 p (B1.length+1) (B1++[some rs']) BN:=by
 intro q
 induction q with
 |zero=>
  intro i rs hp2 hi h
  refine⟨rs,hp2,h.congr fun j hj=> ?_, ?_⟩
  ·rw[List.take_of_length_le (by omega),ajo]
  ·rw[AP,ub,ai (by omega),i64_in (((n - 1 - m:Nat):Int) - 1) (by omega)]
 |succ q ih=>
  intro i rs hp2 hi h
  generalize hb:qh aa ((n - 1 - m:Nat):Int)=b at*
  have hi':i<b.length:=by omega
  have hlen:b.length≤1024:=by have:=hv.length (by omega);omega
  have ht:b.getD i mD∈b:=bz hi'
  obtain⟨c1,c2,c3⟩:=ajp hv.s hi'
  have r1:=hv.r _ ht
  have r0:=Sr.mem hv.s _ ht
  generalize hte:b.getD i mD=t at*
  obtain⟨j,hj⟩:∃j:Nat,(n:Int) - 1 - t.1=(j:Int):=⟨((n:Int) - 1 - t.1).toNat,by omega⟩
  have hjn:j<n:=by omega
  have ej:((n - 1 - j:Nat):Int)=t.1:=by omega
  have g1:af (B1++[some rs]) (B1.length+1)=some rs:=db
  have ew:IntKind.wrap .i64 ((n:Int) - 1 - t.1)=(j:Int):=by rw[hj,i64_in _ (by omega)]
  have em:IntKind.wrap .i64 ((n:Int) - 1 - ((n - 1 - m:Nat):Int))=(m:Int):=by rw[i64_in _ (by omega)];omega
  have hjl:j<rs.length:=by rw[h.len];exact hjn
  have hg:=h.get j hjn
  have st:=h.step hjn (x:=((m:Int),(t.2.1,())))
  rw[ej,show pt (b.take i) t.1 m=[] from by unfold pt;rw[if_pos c1],List.append_nil] at hg
  have hll:=Qq aa n m j
  have hs1:∀rs',gK (B1++[some rs]) (B1.length+1) rs'=B1++[some rs']:=fun _=>Qr
  obtain⟨rs',BN,k1,k2⟩:=ih (i+1) _ _ (by omega) (st.congr fun j' hj'=>by
   by_cases e:j'=j
   ·subst e
    rw[if_pos rfl,ej,show pt (b.take i) t.1 m=[] from by unfold pt;rw[if_pos c1],show pt (b.take (i+1)) t.1 m=[((m:Int),(t.2.1,()))] from by unfold pt;rw[c2,if_neg (by omega)],List.append_nil]
   ·rw[if_neg e]
    have:cf (b.take (i+1)) ((n - 1 - j':Nat):Int)=cf (b.take i) ((n - 1 - j':Nat):Int):=c3 _ (by omega)
    unfold pt
    rw[this])
  refine⟨rs',BN,k1, ?_⟩
  rw[←k2,AP,ub,ak (by omega),da mD hi',hte,g1,bS,ew,da EM hjl,bS,Int.toNat_natCast,Ri EM hjl,hg,bS,iQ (by omega) (by omega),bS,Ri EM hjl,hs1,em,bF (by omega)]
  simp only[ej,show pt (b.take i) t.1 m=[] from by unfold pt;rw[if_pos c1],List.append_nil]
theorem U2 {aa:List Cl}{n:Nat}(hc:aa.length=n)(hn:n≤1024){q0:Int}(hv:∀j,j<n→Vc q0 n (qh aa j)){ds:Nat→Int×ByteArray}{c t4 p:Int}{t5:Nat}{B1:List (Option (List CR))}:
  ∀(q m:Nat) (rs:List CR) (hp2:List (Option (List Tm))),q+m=n→DS n ds rs hp2 (Dv aa n m)→
  ∃rs' BN,DS n ds rs' BN (Dv aa n n)∧fH ((n:Int) - 1) ((n:Int) - 1 - m) c aa t4 t5 p (B1.length+1) (B1++[some rs]) hp2=some (((p,(B1.length+1,())),0),(B1++[some rs'],BN)):=by
 intro q
 induction q with
 |zero=>
  intro m rs hp2 hq h
  obtain rfl:m=n:=by omega
  refine⟨rs,hp2,h, ?_⟩
  rw[AO,tZ,sk (by omega),ab9]
  rfl
 |succ q ih=>
  intro m rs hp2 hq h
  have hm:m<n:=by omega
  have ek:(n:Int) - 1 - m=((n - 1 - m:Nat):Int):=by omega
  have hv':=hv (n - 1 - m) (by omega)
  obtain⟨rs',BN,k1,k2⟩:=U1 hc hn hm hv' (c:=c) (t4:=t4) (p:=p) (t5:=t5) (B1:=B1) (qh aa ((n - 1 - m:Nat):Int)).length 0 rs hp2 (by omega) (h.congr fun j hj=>by rw[List.take_zero,als,List.append_nil])
  have e0:((0:Nat):Int)=0:=rfl
  rw[e0] at k2
  have ek2:((n - 1 - m:Nat):Int) - 1=(n:Int) - 1 - ((m+1:Nat):Int):=by omega
  rw[ek,AO,tZ,tA (by omega),da jU (by omega), ←GD,k2,ek2]
  exact ih (m+1) rs' BN (by omega) k1
theorem U3 {aa:List Cl}{n:Nat}(hc:aa.length=n)(hn:n≤1024)(hd:∀j,j<n→0≤(aa.getD j jU).1∧(aa.getD j jU).1≤4)(ha:∀j,j<n→tC (kc aa j)=true∧(kc aa j).size≤1000){c t3 p:Int}{t4:Nat}{B1:List (Option (List CR))}{hp2:List (Option (List Tm))}:
  ∀(q j:Nat) (rs:List CR),q+j=n→rs.length=n→(∀i,i<n→rs.getD i EM=if i<j then ((dsf aa n i).1,((dsf aa n i).2,(0,()))) else EM)→
  ∃rs',rs'.length=n∧(∀i,i<n→rs'.getD i EM=((dsf aa n i).1,((dsf aa n i).2,(0,()))))∧
   j8 ((n:Int) - 1) n j c aa t3 t4 p (B1.length+1) (B1++[some rs]) hp2=fH ((n:Int) - 1) ((n:Int) - 1) c aa t3 t4 p (B1.length+1) (B1++[some rs']) hp2:=by
 intro q
 induction q with
 |zero=>
  intro j rs hq hl h
  refine⟨rs,hl,fun i hi=>by rw[h i hi,if_pos (by omega)], ?_⟩
  rw[AN,tW,ai (by omega)]
 |succ q ih=>
  intro j rs hq hl h
  have hj:j<n:=by omega
  have hk:n - 1 - j<n:=by omega
  obtain⟨a1,a2⟩:=ha _ hk
  obtain⟨d1,d2⟩:=hd _ hk
  obtain⟨m,d,hR⟩:=yL.1 a1
  obtain⟨b1,b2,b3⟩:=hR.bounds a2
  have ew:IntKind.wrap .i64 ((n:Int) - 1 - (j:Int))=((n - 1 - j:Nat):Int):=by rw[i64_in _ (by omega)];omega
  have g1:∀rs:List CR,af (B1++[some rs]) (B1.length+1)=some rs:=fun _=>db
  have hs1:∀rs rs':List CR,gK (B1++[some rs]) (B1.length+1) rs'=B1++[some rs']:=fun _ _=>Qr
  have hjl:j<rs.length:=by omega
  have hr:eM (aa.getD (n - 1 - j) jU).2.1=some (WR m d,true):=Qn a2 hR
  obtain⟨rs',k1,k2,k3⟩:=ih (j+1) (rs.set j (4 - (aa.getD (n - 1 - j) jU).1,(RT (-m) d,(0,())))) (by omega) (by rw[List.length_set];exact hl) (fun i hi=>by
   rw[KS]
   by_cases e:j=i
   ·subst e
    rw[if_pos ⟨rfl,hjl⟩,if_pos (by omega)]
    unfold dsf
    rw[adm hR]
   ·rw[if_neg (fun h=>e h.1),h i hi]
    by_cases e2:i<j
    ·rw[if_pos e2,if_pos (by omega)]
    ·rw[if_neg e2,if_neg (by omega)])
  refine⟨rs',k1,k2, ?_⟩
  rw[←k3,AN,tW,ak (by omega),ew,da jU (by omega),hr,bS]
  simp only[xf]
  rw[alr b1,bS]
  simp only[xf]
  have hj0:rs.getD j EM=EM:=by rw[h j hj,if_neg (by omega)]
  rw[ajm (by rw[TV];exact b1) b2 b3,bS,g1,bS,da EM hjl,bS,Int.toNat_natCast,Ri EM hjl,hs1,g1,bS,da EM (by rw[List.length_set];exact hjl),bS,Ri EM (by rw[List.length_set];exact hjl),KS,if_pos ⟨rfl,hjl⟩,hs1,List.set_set,hj0,bF (by omega),i64_in (4 - _) (by omega)]
theorem RK {p:Int}{aa:List Cl}(hs:Sz aa)(h0:gE p aa=0)(B1:List (Option (List CR)))(hp2:List (Option (List Tm))):∃rs BN,DS aa.length (dsf aa aa.length) rs BN (Dv aa aa.length aa.length)∧mh (p,(aa,())) B1 hp2=some (((p,(B1.length+1,())),0),(B1++[some rs],BN)):=by
 obtain⟨hp,hl,hg⟩:=T9 h0
 obtain⟨n,hn⟩:∃n,aa.length=n:=⟨_,rfl⟩
 have hv:∀j,j<n→Vc p n (qh aa j):=fun j hj=>(hg j (by omega)).bd.mono (by omega)
 obtain⟨rs',k1,k2,k3⟩:=U3 hn (by omega) (fun j hj=>(hg j (by omega)).RY) (fun j hj=>⟨(hg j (by omega)).at_,hs.at_ j⟩) (c:=p) (t3:=0) (p:=p) (t4:=0) (B1:=B1) (hp2:=hp2) n 0 (List.replicate n EM) (by omega) (by simp) (fun i hi=>by rw[if_neg (by omega)];simp[List.getD,hi])
 have e0:((0:Nat):Int)=0:=rfl
 rw[e0] at k3
 obtain⟨rs2,eK,k4,k5⟩:=U2 hn (by omega) hv (ds:=dsf aa n) (c:=p) (t4:=0) (p:=p) (t5:=0) (B1:=B1) n 0 rs' hp2 (by omega) ⟨k1,fun j hj=>by rw[k2 j hj];rfl,fun i j hi hj _ _=>by rw[k2 i hi],fun j hj=>by rw[k2 j hj];exact Nat.zero_le _,fun j hj=>by rw[k2 j hj];exact⟨rfl,rfl⟩⟩
 have e2:(n:Int) - 1 - ((0:Nat):Int)=(n:Int) - 1:=by omega
 rw[e2] at k5
 refine⟨rs2,eK,by rw[hn];exact k4, ?_⟩
 rw[FO,An]
 simp only
 rw[Kk hs,bS,h0,nE rfl,Kc (by omega) (by omega) (by omega),i64_in ((aa.length:Int) - 1) (by omega),Int.toNat_natCast,hn]
 have g0:af (B1++[some (List.replicate n EM)]) (B1.length+1)=some (List.replicate n EM):=db
 rw[g0,bS,List.length_replicate,k3,k5]
theorem Qs {p:Int}{aa:List Cl}(hs:Sz aa)(h0:gE p aa≠0)(B1:List (Option (List CR)))(hp2:List (Option (List Tm))):mh (p,(aa,())) B1 hp2=some (((0,(0,())),gE p aa),(B1,hp2)):=by
 rw[FO,An]
 simp only
 rw[Kk hs,bS,BC h0,aca]
 rfl
end Go.Proofs.YtofjebmoebhiiaaGreatDoor.Ev
namespace Go.Proofs.YtofjebmoebhiiaaGreatDoor.Ev
open Go.Abs Go.IntWalk
theorem acb {l:List Tm}(hl:l.length≤1000000):∀(m i:Nat),m+i=l.length→bC l l i=some true:=by
 intro m
 induction m with
 |zero=>intro i hi;rw[jF,gh,ai (by omega)]
 |succ m ih=>
  intro i hi
  rw[jF,gh,ak (by omega),da mD (by omega),da mD (by omega),ahx,Bool.not_true,cF,bF (by omega)]
  exact ih (i+1) (by omega)
theorem ahN {l:List Tm}(hl:l.length≤1000000):cq l l=some true:=by
 rw[tp,nz,nE rfl]
 exact acb hl l.length 0 (by omega)
theorem aaa {p:Int}{aa:List Cl}(hl:aa.length≤1000000)(hb:∀j,j<aa.length→(aa.getD j jU).2.2.1.length≤1000000):∀(m i:Nat),m+i=aa.length→ic i p aa p aa=some true:=by
 intro m
 induction m with
 |zero=>intro i hi;rw[xJ,q8,ai (by omega)]
 |succ m ih=>
  intro i hi
  have hi':i<aa.length:=by omega
  rw[xJ,q8,ak (by omega),da jU hi',da jU hi',nE rfl,da jU hi',da jU hi',beq_self_eq_true,Bool.not_true,cF,da jU hi',da jU hi',ahN (hb i hi'),bS,Bool.not_true,cF,bF (by omega)]
  exact ih (i+1) (by omega)
theorem KU {p:Int}{aa:List Cl}(hl:aa.length≤1000000)(hb:∀j,j<aa.length→(aa.getD j jU).2.2.1.length≤1000000):lA (p,(aa,())) (p,(aa,()))=some true:=by
 rw[M9,Ei,nE rfl,nE rfl]
 exact aaa hl hb aa.length 0 (by omega)
theorem aab {ab:List aS}{p:Int}{n:Nat}:typed ab (.st (.pair (.int .i64) (.pair (.ref 0) .unit))) (.rv (.agg [⟨.int .i64,p⟩,⟨.ref 0,n⟩]))=some (p,(n,())):=by cases n<;>rfl
theorem acd {α:Type}(d:α){l:List α}{i:Nat}(h:i<l.length):l.take (i+1)=l.take i++[l.getD i d]:=by
 rw[List.take_add_one,List.getElem?_eq_getElem h];simp[List.getD,h]
theorem aac {p c t:Int}{t2:Nat}{aa:List Cl}(hl:aa.length≤1000000)(hb:∀j,j<aa.length→(aa.getD j jU).2.2.1.length≤1000000):∀(m i o:Nat) (br:List (Option (List Cl))),m+i=aa.length→af br o=some (aa.take i)→
  ∃q hp',af hp' q=some aa∧dI i c aa t t2 p o br=some ((p,(q,())),hp'):=by
 intro m
 induction m with
 |zero=>
  intro i o br hi hg
  refine⟨o,br,by rw[hg,List.take_of_length_le (by omega)], ?_⟩
  rw[i7,gg,ai (by omega),aab]
  rfl
 |succ m ih=>
  intro i o br hi hg
  have hi':i<aa.length:=by omega
  have hb':=hb i hi'
  have hlen:(aa.take i).length=i:=by simp;omega
  obtain⟨q,hp',k1,k2⟩:=ih (i+1) _ (c5 br o++[some (aa.take i++[aa.getD i jU])]) (by omega) (by rw[Fo,acd jU hi'])
  refine⟨q,hp',k1, ?_⟩
  rw[←k2,i7,gg,ak (by omega),da jU hi',iQ (by omega) (by omega),hg,bS,iQ (by omega) (by omega),bF (by omega),List.nil_append]
theorem afe {p:Int}{aa:List Cl}(hl:aa.length≤1000000)(hb:∀j,j<aa.length→(aa.getD j jU).2.2.1.length≤1000000)(br:List (Option (List Cl))):∃q hp',af hp' q=some aa∧fT (p,(aa,())) br=some ((p,(q,())),hp'):=by
 obtain⟨q,hp',k1,k2⟩:=aac (p:=p) (c:=p) (t:=0) (t2:=0) hl hb aa.length 0 0 br (by omega) rfl
 have e0:((0:Nat):Int)=0:=rfl
 rw[e0] at k2
 refine⟨q,hp',k1, ?_⟩
 rw[zL,sP]
 exact k2
theorem DS.map {aa:List Cl}{rs:List CR}{hp2:List (Option (List Tm))}(h:DS aa.length (dsf aa aa.length) rs hp2 (Dv aa aa.length aa.length)):(∀r∈rs,af hp2 r.2.2.1=some ((af hp2 r.2.2.1).getD []))∧(rs.map fun r=>(r.1,(r.2.1,((af hp2 r.2.2.1).getD [],()))))=EN aa:=by
 refine⟨fun r hr=> ?_, ?_⟩
 ·obtain⟨j,hj,e⟩:=List.getElem_of_mem hr
  have:=h.get j (by rw[←h.len];exact hj)
  have e2:rs.getD j EM=r:=by simp[List.getD,hj,e]
  rw[e2] at this
  rw[this];rfl
 ·unfold EN
  apply List.ext_getElem
  ·simp[h.len]
  ·intro j hj1 hj2
   have hj:j<aa.length:=by simpa using hj2
   have hjl:j<rs.length:=by rw[h.len];exact hj
   have e2:rs.getD j EM=rs[j]:=by simp[List.getD,hjl]
   obtain⟨d1,d2⟩:=h.ds j hj
   have d3:=h.get j hj
   rw[e2] at d1 d2 d3
   simp only[List.getElem_map,List.getElem_range]
   rw[d1,d2,d3];rfl
end Go.Proofs.YtofjebmoebhiiaaGreatDoor.Ev
namespace Go.Proofs.YtofjebmoebhiiaaGreatDoor.Ev
open Go.Abs Go.IntWalk
abbrev Hp0:=List (Option (List Cl))
abbrev Hp1:=List (Option (List CR))
abbrev Hp2:=List (Option (List Tm))
abbrev Hp9:=List (Option (List Chn))
def Rd (rs:List CR)(hp2:Hp2):Prop:=∀j,j<rs.length→∃l,af hp2 (rs.getD j EM).2.2.1=some l∧l.length≤1024
theorem ahO {α:Type}{xs:List (Option (List α))}{r m:Nat}{l x l0:List α}(h:af xs r=some l)(hm:af xs m=some l0)(hx:x.length=l0.length){n:Nat}(hl:l.length≤n)(hl0:l0.length≤n):∃l',af (gK xs m x) r=some l'∧l'.length≤n:=by
 cases m with
 |zero=>exact⟨l,h,hl⟩
 |succ m=>
  cases r with
  |zero=>exact⟨[],rfl,by simp⟩
  |succ r=>
   have hx1:xs[r]? =some (some l):=by
    have h':(match xs[r]? with |some o=>o |none=>none)=some l:=h
    cases hr:xs[r]? with
    |none=>rw[hr] at h';cases h'
    |some o=>rw[hr] at h';simp only at h';rw[h']
   by_cases e:m=r
   ·subst e
    exact⟨x,nF hm (by omega),by omega⟩
   ·refine⟨l, ?_,hl⟩
    show (match (xs.set m (some x))[r]? with |some o=>o |none=>none)=some l
    rw[List.getElem?_set_ne e,hx1]
section
variable {e round t2 t3 x was:Int}{t jv d2:Nat}{x2:List Cl}{d want:Int}{br:Hp0}{hp1:Hp1}{ma:Hp9}{rs:List CR}
theorem anC {dh:List Cl}{t4:Int}(h1:af hp1 d2=some rs){i:Nat}(hi:i<rs.length){L:Nat}(hL:L≤1024):∀(q k:Nat) (hp2:Hp2) (l:List Tm),q+k=L→af hp2 (rs.getD i EM).2.2.1=some l→l.length=L→Rd rs hp2→
  ∃BN,Rd rs BN∧bH e round i t t2 t3 t4 i L k x x2 was jv want dh d d2 br hp1 hp2 ma=aZ e round t t2 t3 t4 (IntKind.wrap .i64 ((i:Int)+1)) x x2 was jv want dh d d2 br hp1 BN ma:=by
 intro q
 induction q with
 |zero=>
  intro k hp2 l hk hl hlen hR
  refine⟨hp2,hR, ?_⟩
  rw[lk,fX,ai (by omega)]
 |succ q ih=>
  intro k hp2 l hk hl hlen hR
  have hkl:k<l.length:=by omega
  have h0:(rs.getD i EM).2.2.1≠0:=fun e=>by
   rw[e] at hl
   have:l=[]:=by simpa [af] using hl.symm
   subst this
   simp at hkl
  obtain⟨hp',k1,k2⟩:=ih (k+1) (gK hp2 (rs.getD i EM).2.2.1 (l.set k ((l.getD k mD).1,(99,())))) _ (by omega) (nF hl h0) (by rw[List.length_set];exact hlen) (fun j hj=>by
   obtain⟨l',a1,a2⟩:=hR j hj
   exact ahO a1 hl (by rw[List.length_set]) a2 (by omega))
  refine⟨hp',k1, ?_⟩
  rw[←k2,lk,fX,ak (by omega),h1,bS,da EM hi,bS,Int.toNat_natCast,Ri EM hi,hl,bS,da mD hkl,bS,Int.toNat_natCast,Ri mD hkl,bF (by omega)]
theorem anD {dh:List Cl}(h1:af hp1 d2=some rs)(hrs:rs.length≤1024):∀(q i:Nat) (hp2:Hp2),q+i=rs.length→Rd rs hp2→
  ∃BN,Rd rs BN∧aZ e round t t2 t3 rs.length i x x2 was jv want dh d d2 br hp1 hp2 ma=aF e (IntKind.wrap .i64 (round+1)) t t2 t3 x x2 was jv want dh br hp1 BN ma:=by
 intro q
 induction q with
 |zero=>
  intro i hp2 hi hR
  refine⟨hp2,hR, ?_⟩
  rw[lh,fV,ai (by omega)]
 |succ q ih=>
  intro i hp2 hi hR
  have hi':i<rs.length:=by omega
  obtain⟨l,a1,a2⟩:=hR i hi'
  obtain⟨BN,b1,b2⟩:=anC (e:=e) (round:=round) (t:=t) (t2:=t2) (t3:=t3) (t4:=rs.length) (x:=x) (x2:=x2) (was:=was) (jv:=jv) (want:=want) (dh:=dh) (d:=d) (br:=br) (ma:=ma) h1 hi' a2 l.length 0 hp2 l (by omega) a1 rfl hR
  have e0:((0:Nat):Int)=0:=rfl
  rw[e0,bF (by omega)] at b2
  obtain⟨eK,c1,c2⟩:=ih (i+1) BN (by omega) b1
  refine⟨eK,c1, ?_⟩
  rw[←c2, ←b2,lh,fV,ak (by omega),h1,bS,da EM hi',bS,Int.toNat_natCast,Ri EM hi',a1,bS]
end
theorem aad {aa:List Cl}(hl:aa.length≤1024):(EN aa).length≤1000000∧∀j,j<(EN aa).length→((EN aa).getD j jU).2.2.1.length≤1000000:=by
 have e:(EN aa).length=aa.length:=by simp[EN]
 refine⟨by omega,fun j hj=> ?_⟩
 have e2:((EN aa).getD j jU).2.2.1=Dv aa aa.length aa.length j:=by
  unfold EN
  simp[List.getD,show j<aa.length by omega]
 rw[e2]
 have:=Qq aa aa.length aa.length j
 omega
section
variable {p:Int}{aa:List Cl}{t2 t3:Int}{t m:Nat}{br:Hp0}{ma:Hp9}
theorem ado (hs:Sz aa)(h0:gE p aa=0)(hw:af br m=some aa){round:Nat}(hr:round<2)(hp1:Hp1)(hp2:Hp2):∃alu BN,aF 0 round t t2 t3 p aa p m p (EN aa) br hp1 hp2 ma=aF 0 ((round+1:Nat):Int) t t2 t3 p aa p m p (EN aa) br alu BN ma:=by
 obtain⟨_,hl,_⟩:=T9 h0
 obtain⟨rs,eK,k1,k2⟩:=RK hs h0 hp1 hp2
 obtain⟨k3,k4⟩:=k1.map
 obtain⟨s1,s2⟩:=aad hl
 have hlr:=k1.len
 obtain⟨aD,b1,b2⟩:=anD (e:=0) (round:=round) (t:=t) (t2:=t2) (t3:=t3) (x:=p) (x2:=aa) (was:=p) (jv:=m) (want:=p) (dh:=EN aa) (d:=p) (br:=br) (ma:=ma) (hp1:=hp1++[some rs]) (d2:=hp1.length+1) (rs:=rs) db (by omega) rs.length 0 eK (by omega) (fun j hj=>⟨_,k1.get j (by omega),by have:=Qq aa aa.length aa.length j;omega⟩)
 have e0:((0:Nat):Int)=0:=rfl
 rw[e0,bF (by omega)] at b2
 refine⟨hp1++[some rs],aD, ?_⟩
 rw[←b2,kq,fN,ak (by omega),k2,bS]
 simp only
 rw[nE rfl,Ug (hp1:=hp1++[some rs]) (hp2:=eK) rfl rfl db k3,bS,k4,KU s1 s2,bS,Bool.not_true,cF,rE (hp:=br) rfl hw,bS,KU (by omega) (fun j hj=>by have:=hs.bd j;omega),bS,Bool.not_true,cF,db,bS]
theorem ahP (hs:Sz aa)(hl:aa.length≤1000000)(h0:gE p aa≠0)(hw:af br m=some aa){round:Nat}(hr:round<2)(hp1:Hp1)(hp2:Hp2):aT (gE p aa) round t t2 t3 p aa p m 0 0 br hp1 hp2 ma=aT (gE p aa) ((round+1:Nat):Int) t t2 t3 p aa p m 0 0 br hp1 hp2 ma:=by
 have g1:af hp1 0=some []:=rfl
 have e0:(([]:List CR).length:Int)=0:=rfl
 rw[kr,fP,ak (by omega),Qs hs h0,bS]
 simp only
 rw[nE rfl,Ug (hp1:=hp1) (hp2:=hp2) (g:=fun _=>[]) rfl rfl (rs:=[]) g1 (fun r hr=>by cases hr),bS,rE (hp:=br) (l:=[]) rfl rfl,bS,List.map_nil,KU (by simp) (fun j hj=>by simp at hj),bS,Bool.not_true,cF,rE (hp:=br) rfl hw,bS,KU hl (fun j hj=>by have:=hs.bd j;omega),bS,Bool.not_true,cF,g1,bS,ui,lj,e0,ai (by omega),bF (by omega)]
end
theorem adp {t:Nat}{ma:Hp9}{l:List Chn}(hg:af ma t=some l){i:Nat}(hi:i<l.length)(h2:l.length≤2)(hs:Sz (l.getD i (0,([],()))).2.1)(hl:(l.getD i (0,([],()))).2.1.length≤1000000)(br:Hp0)(hp1:Hp1)(hp2:Hp2):
  ∃LK alu BN,aG t l.length i br hp1 hp2 ma=aG t l.length ((i+1:Nat):Int) LK alu BN ma:=by
 have b1:∀{β:Type} {f:Chn→Option β},(idx l (i:Int)).bind f=f (l.getD i (0,([],()))):=da _ hi
 have g1:l[(i:Int).toNat]? =some (l.getD i (0,([],()))):=by rw[Int.toNat_natCast];simp[List.getD,hi]
 have e0:((0:Nat):Int)=0:=rfl
 have e2:((1+1:Nat):Int)=2:=rfl
 have hw:IntKind.wrap .i64 ((i:Int)+1)=((i+1:Nat):Int):=bF (by omega)
 generalize hx:l.getD i (0,([],()))=x at*
 obtain⟨p,aa,u⟩:=x
 simp only at hs hl
 obtain⟨m,LK,c1,c2⟩:=afe (p:=p) hl (fun j hj=>by have:=hs.bd j;omega) br
 by_cases h:gE p aa=0
 ·obtain⟨ha1,ha2,ha⟩:=ado (t:=t) (t2:=l.length) (t3:=i) (ma:=ma) hs h c1 (round:=0) (by omega) hp1 hp2
  obtain⟨hb1,hb2,hb⟩:=ado (t:=t) (t2:=l.length) (t3:=i) (ma:=ma) hs h c1 (round:=1) (by omega) ha1 ha2
  rw[e0] at ha
  rw[e2] at hb
  refine⟨LK,hb1,hb2, ?_⟩
  rw[fi,dc,ak (by omega),hg,bS,b1,bS,g1,bS]
  simp only
  rw[c2,bS,Wn hs,bS,h,sm rfl,ahM hs h,bS]
  simp only
  rw[ha,hb,kq,fN,ai (by omega),hw]
 ·have ha:=ahP (t:=t) (t2:=l.length) (t3:=i) (ma:=ma) hs hl h c1 (round:=0) (by omega) hp1 hp2
  have hb:=ahP (t:=t) (t2:=l.length) (t3:=i) (ma:=ma) hs hl h c1 (round:=1) (by omega) hp1 hp2
  rw[e0] at ha
  rw[e2] at hb
  refine⟨LK,hp1,hp2, ?_⟩
  rw[fi,dc,ak (by omega),hg,bS,b1,bS,g1,bS]
  simp only
  rw[c2,bS,Wn hs,bS,jT h]
  simp only
  rw[ha,hb,kr,fP,ai (by omega),hw]
theorem ajs {t:Nat}{t2 t3:Int}{ma:Hp9}:ia t t2 t3 ma=aG t t2 t3 [] [] [] ma:=rfl
theorem anE {p:Int}{aa:List Cl}{l:Fm}(hl:l.length≤1000000000000000000)(hs:∀s∈l,s.length≤1000000000000000000){values turns:List Int}(hv:values.length≤1000000000000000000)(ht:turns.length≤1000000000000000000)(field:Int):
  ju (p,(aa,())) (l,(values,(field,(turns,()))))=some true:=by
 obtain⟨b,h1,h2⟩:=afa (p:=p) (aa:=aa)
 rw[yB,nL]
 simp only
 rw[h1,bS]
 cases b with
 |true=>rw[cT,Z9,bS]
 |false=>
  obtain⟨h3,h4⟩:=h2 rfl
  obtain⟨r,r1,r2⟩:=ab6 hl hs hv ht field
  rw[cF,r1,bS,db,bS]
  have hg:af (([]:List (Option (List Chn)))++[some [(p,(aa,())),(r.1,(r.2.1,()))]]) (([]:List (Option (List Chn))).length+1)=some [(p,(aa,())),(r.1,(r.2.1,()))]:=db
  have e0:((0:Nat):Int)=0:=rfl
  obtain⟨a0,a1,a2,s1⟩:=adp (i:=0) hg (by simp) (by simp) h4 (by simp only[List.getD_cons_zero];omega) [] [] []
  obtain⟨b0,b1,b2,s2⟩:=adp (i:=1) hg (by simp) (by simp) r2.sz (by have:=r2.1;simp only[List.getD_cons_succ,List.getD_cons_zero];omega) a0 a1 a2
  rw[e0] at s1
  rw[ajs,s1,s2,fi,dc,ai (by simp),Z9,bS]
theorem alv (x:tCh.den)(r:ab7.den)(hx:Bnd tCh x)(hr:Bnd ab7 r):ju x r=some true:=by
 obtain⟨p,aa,u⟩:=x
 obtain⟨l,v,f,t,u'⟩:=r
 obtain⟨h1,h2,h3,h4⟩:=afb hr
 exact anE h1 h2 h3 h4 f
end Go.Proofs.YtofjebmoebhiiaaGreatDoor.Ev
namespace Go.Proofs.YtofjebmoebhiiaaGreatDoor.Ev
open Go.Abs
abbrev Up (l:List (Int×Int×Unit)):Prop:=l.Pairwise fun a b=>a.1<b.1
theorem Uh {x y:Int×Int×Unit}:∀{l:List (Int×Int×Unit)},y∈Zi x l↔y=x∨y∈l
 | []=>by simp[Zi]
 |z::r=>by
  unfold Zi
  cases decide (x.1<z.1) with
  |true=>simp
  |false=>simp only[cond_false,List.mem_cons,Uh (l:=r)];constructor<;>rintro (h |h |h)<;>simp[h]
theorem Qt {y:Int×Int×Unit}:∀{l:List (Int×Int×Unit)},y∈AL l↔y∈l
 | []=>by simp[AL]
 |x::r=>by rw[AL,Uh,Qt (l:=r)];simp
theorem adq {x:Int×Int×Unit}:∀{l:List (Int×Int×Unit)},Up l→(∀y∈l,x.1≠y.1)→Up (Zi x l)
 | [],_,_=>by simp[Zi,Up]
 |z::r,h,hn=>by
  unfold Zi
  have h':=List.pairwise_cons.1 h
  by_cases e:x.1<z.1
  ·rw[show decide (x.1<z.1)=true by simpa using e,cond_true]
   exact List.pairwise_cons.2 ⟨fun y hy=>by
    rcases List.mem_cons.1 hy with rfl |hy
    ·exact e
    ·have:=h'.1 y hy;omega,h⟩
  ·rw[show decide (x.1<z.1)=false by simpa using e,cond_false]
   refine List.pairwise_cons.2 ⟨fun y hy=> ?_,adq h'.2 fun y hy=>hn y (List.mem_cons_of_mem _ hy)⟩
   rcases Uh.1 hy with rfl |hy
   ·have:=hn z (List.mem_cons_self);omega
   ·exact h'.1 y hy
abbrev Ds (l:List (Int×Int×Unit)):Prop:=l.Pairwise fun a b=>a.1≠b.1
theorem aae:∀{l:List (Int×Int×Unit)},Ds l→Up (AL l)
 | [],_=>List.Pairwise.nil
 |x::r,h=>by
  have h':=List.pairwise_cons.1 h
  exact adq (aae h'.2) fun y hy=>h'.1 y (Qt.1 hy)
theorem ahQ:∀{a b:List (Int×Int×Unit)},Up a→Up b→(∀x,x∈a↔x∈b)→a=b
 | [],[],_,_,_=>rfl
 | [],y::s,_,_,h=>by have:=(h y).2 List.mem_cons_self;cases this
 |x::r,[],_,_,h=>by have:=(h x).1 List.mem_cons_self;cases this
 |x::r,y::s,ha,hb,h=>by
  have ha':=List.pairwise_cons.1 ha
  have hb':=List.pairwise_cons.1 hb
  have e:x=y:=by
   rcases List.mem_cons.1 ((h x).1 List.mem_cons_self) with e |h1
   ·exact e
   ·rcases List.mem_cons.1 ((h y).2 List.mem_cons_self) with e |h2
    ·exact e.symm
    ·have:=hb'.1 x h1;have:=ha'.1 y h2;omega
  subst e
  rw[ahQ ha'.2 hb'.2 fun z=> ?_]
  constructor
  ·intro hz
   rcases List.mem_cons.1 ((h z).1 (List.mem_cons_of_mem _ hz)) with rfl |h3
   ·have:=ha'.1 _ hz;omega
   ·exact h3
  ·intro hz
   rcases List.mem_cons.1 ((h z).2 (List.mem_cons_of_mem _ hz)) with rfl |h3
   ·have:=hb'.1 _ hz;omega
   ·exact h3
theorem adr:∀{l:List (Int×Int×Unit)},okT l=true↔(∀x∈l,0≤x.1∧x.1<1000000000)∧Ds l
 | []=>by simp[okT,Ds]
 |x::r=>by
  rw[okT]
  simp only[Bool.and_eq_true,decide_eq_true_eq,List.all_eq_true,Bool.not_eq_true',decide_eq_false_iff_not,adr (l:=r),List.mem_cons,forall_eq_or_imp,Ds,List.pairwise_cons]
  constructor
  ·rintro ⟨⟨⟨h1,h2⟩,h3⟩,h4,h5⟩;exact⟨⟨⟨h1,h2⟩,h4⟩,h3,h5⟩
  ·rintro ⟨⟨⟨h1,h2⟩,h4⟩,h3,h5⟩;exact⟨⟨⟨h1,h2⟩,h3⟩,h4,h5⟩
theorem Ds.perm {a b:List (Int×Int×Unit)}(h:a.Perm b)(hd:Ds a):Ds b:=(h.pairwise_iff (R:=fun a b:Int×Int×Unit=>a.1≠b.1) (fun h=>Ne.symm h)).1 hd
theorem ahR {l l':List (Int×Int×Unit)}(hd:Ds l)(hp:l'.Perm l)(hs:l'.Pairwise fun a b=>a.1≤b.1):l'=AL l:=by
 have hd':Ds l':=hd.perm hp.symm
 refine ahQ ?_ (aae hd) fun x=>by rw[Qt,hp.mem_iff]
 exact(hs.and hd').imp fun⟨h1,h2⟩=>by omega
end Go.Proofs.YtofjebmoebhiiaaGreatDoor.Ev
namespace Go.Proofs.YtofjebmoebhiiaaGreatDoor
open Go.Shelf Go.Proofs
def X2:Go.Shelf.Ren:=⟨fun |6=>50 |15=>91 |14=>90 |28=>132 |29=>133 |20=>124 |21=>125 |22=>126 |23=>127 |24=>128 |25=>129 |26=>130 |27=>131 |46=>156 |47=>157 |48=>158 |49=>159 |50=>160 |57=>172 |n=>n,fun |22=>46 |24=>58 |25=>98 |3=>3 |39=>149 |0=>0 |53=>168 |55=>171 |4=>4 |46=>184 |45=>183 |50=>140 |5=>5 |9=>9 |66=>209 |70=>213 |76=>222 |77=>223 |n=>n,fun |n=>n⟩
theorem aaf:Go.Proofs.SlLaysF0.n6 Tryz.prog X2 where
 mixed:=by kernel_rfl
 f6:=⟨"slices.SortFunc[[]torus/api.Pair,torus/api.Pair]",by decide,Tryz.func50.trans (congrArg some (by kernel_rfl))⟩
 f14:=⟨"slices.pdqsortCmpFunc[torus/api.Pair]",by decide,Tryz.func90.trans (congrArg some (by kernel_rfl))⟩
 f15:=Tryz.func91.trans (congrArg some (by kernel_rfl))
 f20:=⟨"slices.insertionSortCmpFunc[torus/api.Pair]",by decide,Tryz.func124.trans (congrArg some (by kernel_rfl))⟩
 f21:=⟨"slices.heapSortCmpFunc[torus/api.Pair]",by decide,Tryz.func125.trans (congrArg some (by kernel_rfl))⟩
 f22:=⟨"slices.breakPatternsCmpFunc[torus/api.Pair]",by decide,Tryz.func126.trans (congrArg some (by kernel_rfl))⟩
 f23:=⟨"slices.choosePivotCmpFunc[torus/api.Pair]",by decide,Tryz.func127.trans (congrArg some (by kernel_rfl))⟩
 f24:=⟨"slices.reverseRangeCmpFunc[torus/api.Pair]",by decide,Tryz.func128.trans (congrArg some (by kernel_rfl))⟩
 f25:=⟨"slices.partialInsertionSortCmpFunc[torus/api.Pair]",by decide,Tryz.func129.trans (congrArg some (by kernel_rfl))⟩
 f26:=⟨"slices.partitionEqualCmpFunc[torus/api.Pair]",by decide,Tryz.func130.trans (congrArg some (by kernel_rfl))⟩
 f27:=⟨"slices.partitionCmpFunc[torus/api.Pair]",by decide,Tryz.func131.trans (congrArg some (by kernel_rfl))⟩
 f28:=Tryz.func132.trans (congrArg some (by kernel_rfl))
 f29:=Tryz.func133.trans (congrArg some (by kernel_rfl))
 f46:=⟨"slices.siftDownCmpFunc[torus/api.Pair]",by decide,Tryz.func156.trans (congrArg some (by kernel_rfl))⟩
 f47:=Tryz.func157.trans (congrArg some (by kernel_rfl))
 f48:=Tryz.func158.trans (congrArg some (by kernel_rfl))
 f49:=⟨"slices.medianAdjacentCmpFunc[torus/api.Pair]",by decide,Tryz.func159.trans (congrArg some (by kernel_rfl))⟩
 f50:=⟨"slices.medianCmpFunc[torus/api.Pair]",by decide,Tryz.func160.trans (congrArg some (by kernel_rfl))⟩
 f57:=⟨"slices.order2CmpFunc[torus/api.Pair]",by decide,Tryz.func172.trans (congrArg some (by kernel_rfl))⟩
 t0:=Tryz.underlying0
 a0:=Tryz.isAgg0
 z0:=Tryz.sizeOf0
 v0:=Tryz.zeroValue0
 t3:=Tryz.underlying3
 a3:=Tryz.isAgg3
 z3:=Tryz.sizeOf3
 v3:=Tryz.zeroValue3
 t4:=Tryz.underlying4
 a4:=Tryz.isAgg4
 z4:=Tryz.sizeOf4
 v4:=Tryz.zeroValue4
 t5:=Tryz.underlying5
 a5:=Tryz.isAgg5
 z5:=Tryz.sizeOf5
 v5:=Tryz.zeroValue5
 t9:=Tryz.underlying9
 a9:=Tryz.isAgg9
 z9:=Tryz.sizeOf9
 v9:=Tryz.zeroValue9
 t22:=Tryz.underlying46
 a22:=Tryz.isAgg46
 z22:=Tryz.sizeOf46
 v22:=Tryz.zeroValue46
 t25:=Tryz.underlying98
 a25:=Tryz.isAgg98
 z25:=Tryz.sizeOf98
 v25:=Tryz.zeroValue98
 t39:=Tryz.underlying149
 a39:=Tryz.isAgg149
 z39:=Tryz.sizeOf149
 v39:=Tryz.zeroValue149
 t45:=Tryz.underlying183
 a45:=Tryz.isAgg183
 z45:=Tryz.sizeOf183
 v45:=Tryz.zeroValue183
 t46:=Tryz.underlying184
 a46:=Tryz.isAgg184
 z46:=Tryz.sizeOf184
 v46:=Tryz.zeroValue184
 t50:=Tryz.underlying140
 a50:=Tryz.isAgg140
 z50:=Tryz.sizeOf140
 v50:=Tryz.zeroValue140
 t53:=Tryz.underlying168
 a53:=Tryz.isAgg168
 z53:=Tryz.sizeOf168
 v53:=Tryz.zeroValue168
 t55:=Tryz.underlying171
 a55:=Tryz.isAgg171
 z55:=Tryz.sizeOf171
 v55:=Tryz.zeroValue171
 t66:=Tryz.underlying209
 a66:=Tryz.isAgg209
 z66:=Tryz.sizeOf209
 v66:=Tryz.zeroValue209
 t70:=Tryz.underlying213
 a70:=Tryz.isAgg213
 z70:=Tryz.sizeOf213
 v70:=Tryz.zeroValue213
 t76:=Tryz.underlying222
 a76:=Tryz.isAgg222
 z76:=Tryz.sizeOf222
 v76:=Tryz.zeroValue222
 t77:=Tryz.underlying223
 a77:=Tryz.isAgg223
 z77:=Tryz.sizeOf223
 v77:=Tryz.zeroValue223
end Go.Proofs.YtofjebmoebhiiaaGreatDoor
namespace Go.Proofs.YtofjebmoebhiiaaGreatDoor.Ev
open Go.Shelf Go.RowKit Go.Lib Go.Sort Go.Proofs
abbrev El:=Fin 1000000000×Int
instance:Inhabited El:=⟨(⟨0,by decide⟩,0)⟩
def Ko (x:El):List Value:=[.int .i64 (x.1.val:Int), .int .i64 x.2]
def U4 (t:Int×Int×Unit):El:=(⟨t.1.toNat % 1000000000,Nat.mod_lt _ (by decide)⟩,t.2.1)
def ofE (x:El):Int×Int×Unit:=((x.1.val:Int),x.2,())
def cfE (x y:El):Int:=(x.1.val:Int) - y.1.val
theorem ltE (x y:El):ltOf cfE x y=decide (x.1.val<y.1.val):=by
 unfold ltOf cfE
 by_cases h:x.1.val<y.1.val<;>simp[h]<;>omega
theorem apv:SWO (ltOf cfE) where
 irrefl x:=by rw[ltE];simp
 trans x y z h1 h2:=by rw[ltE] at*;simp at*;omega
 ntrans x y z h1 h2:=by rw[ltE] at*;simp at*;omega
theorem akg {t:Int×Int×Unit}(h:0≤t.1∧t.1<1000000000):ofE (U4 t)=t:=by
 obtain⟨a,b,u⟩:=t
 simp only at h
 have:((a.toNat % 1000000000:Nat):Int)=a:=by omega
 show (((a.toNat % 1000000000:Nat):Int),b,())=(a,b,u)
 rw[this]
set_option maxHeartbeats 1000000 in
theorem aff (x y:El)(W:World):Calls Tryz.prog 51 #[.agg #[.int .i64 (x.1.val:Int), .int .i64 x.2], .agg #[.int .i64 (y.1.val:Int), .int .i64 y.2]] W fun e w'=>e= .returned (.int .i64 (cfE x y))∧∃q os',w'=grow (W.drewN q) os':=by
 have hw:IntKind.i64.wrap ((x.1.val:Int) - (y.1.val:Int))=cfE x y:=by
  have:=x.1.isLt;have:=y.1.isLt
  unfold cfE;simp[IntKind.wrap,IntKind.bits,IntKind.signed];omega
 generalize cfE x y=r at hw ⊢
 go_enter Tryz.func51,Tryz.ntmps51
 go_wp2
 go_ret
 exact⟨rfl,0,_,by rw[alloc_eq_grow,alloc_eq_grow,grow_grow];rfl⟩
theorem afg (blk off size:Nat)(w:World):CmpLays Tryz.prog 51 #[] Ko 2 cfE blk off size w:=fun _ _ _ _ x y=>aff x y _
theorem ajt:∀args w,(callFunc 51 args).run Tryz.prog w= .ok (.enter 51 args) w:=enters_of Tryz.func51 (by kernel_rfl) rfl
theorem alx (blk cap:Nat)(d:Array El)(w:World)(hH:HoldsK Ko 2 w blk 0 d)(hblk:blk<w.heap.size)(hsz:d.size<4611686018427387904):
  Calls Tryz.prog 50 #[.slice (some ⟨blk,0,none⟩) d.size cap, .func (.func 51) #[] #[]] w fun e w'=>e= .returned (.tuple #[])∧∃d' n os,PermIn 0 d.size d d'∧SortedIn (ltOf cfE) 0 d.size d'∧w'=sortWorldK Ko 2 w blk 0 n d' os:=
 AnyQ.slices_SortFunc aaf 2 Tryz.isAgg58 Tryz.sizeOf58 Ko (fun _=>rfl) (fun x v hv=>by simp[Ko] at hv;rcases hv with rfl |rfl<;>rfl) cfE apv 51 #[] blk 0 cap d w ajt (afg blk 0 d.size w) hH hblk hsz
theorem aag (cap:Nat)(p:Option Addr)(fv:Value)(w:World):Calls Tryz.prog 50 #[.slice p 0 cap,fv] w fun e w'=>e= .returned (.tuple #[])∧w'=w:=AnyF.slices_SortFunc_none aaf p cap fv w
end Go.Proofs.YtofjebmoebhiiaaGreatDoor.Ev
namespace Go.Proofs.YtofjebmoebhiiaaGreatDoor.Ev
open Go.Abs Go.RowKit Go.Lib Go.Sort
abbrev tTb:Ty:= .st (.pair (.int .i64) (.pair (.int .i64) .unit))
theorem Rj {V:View}:∀{l:List (Int×Int×Unit)} {bm:List (List Value)},ay (Go.Abs.Rel V tTb) l bm→bm=l.map fun t=>[Value.int .i64 t.1,Value.int .i64 t.2.1]
 | [],[],_=>rfl
 |t::l,ys::bm,h=>by
  obtain⟨h1,h2⟩:=h
  have h1':∃a b,ys=a++b∧a=[Value.int .i64 t.1]∧∃c d,b=c++d∧c=[Value.int .i64 t.2.1]∧d=[]:=h1
  obtain⟨a,b,rfl,rfl,c,d,rfl,rfl,rfl⟩:=h1'
  rw[Rj h2]
  rfl
theorem Rk {V:View}:∀(l:List (Int×Int×Unit)),ay (Go.Abs.Rel V tTb) l (l.map fun t=>[Value.int .i64 t.1,Value.int .i64 t.2.1])
 | []=>trivial
 |t::l=>⟨⟨[Value.int .i64 t.1],[Value.int .i64 t.2.1],rfl,rfl,[Value.int .i64 t.2.1],[],rfl,rfl,rfl⟩,Rk l⟩
abbrev Dz (xs:List El):List Value:=(xs.map Ko).flatten
theorem Fp:∀(xs:List El),(Dz xs).length=xs.length*2
 | []=>rfl
 |x::r=>by
  have:=Fp r
  simp only[Dz,List.map_cons,List.flatten_cons,List.length_append,List.length_cons] at this ⊢
  have e:(Ko x).length=2:=rfl
  omega
theorem Ui:∀(xs:List El) (t:Nat),t<xs.length*2→(Dz xs)[t]? =some ((Ko (xs.getD (t / 2) default))[t % 2]!)
 | [],t,h=>by simp at h
 |x::r,0,_=>rfl
 |x::r,1,_=>rfl
 |x::r,t+2,h=>by
  have ih:=Ui r t (by simp at h;omega)
  have e1:(t+2) / 2=t / 2+1:=by omega
  have e2:(t+2) % 2=t % 2:=by omega
  rw[e1,e2]
  exact ih
theorem aah (d:Array El)(t:Nat)(h:t<d.size*2):(Dz d.toList)[t]? =some (flatK Ko 2 d)[t]! :=by
 rw[get_flatK Ko 2 d t h,Ui d.toList t (by simpa using h)]
 have:d.toList.getD (t / 2) default=d[t / 2]! :=by simp[List.getD,Array.getElem!_eq_getD]
 rw[this]
theorem ahT {w:World}{blk n:Nat}{d:Array El}{os:Array Obj}{cur:Array Value}{e:TypeId}{fr:Nat×Nat}(h:w.heap[blk]? =some (.cells cur e fr))(hs:d.size*2≤cur.size):
  ∃afh,(sortWorldK Ko 2 w blk 0 n d os).heap[blk]? =some (.cells afh e fr)∧afh.size=cur.size∧afh.toList.take (d.size*2)=Dz d.toList:=by
 have hlt:blk<w.heap.size:=(Array.getElem?_eq_some_iff.1 h).1
 refine⟨putCells id 0 (flatK Ko 2 d) cur, ?_,by simp[putCells], ?_⟩
 ·show ((w.heap.modify blk _)++os)[blk]? =_
  rw[Array.getElem?_append_left (by simpa using hlt),Array.getElem?_modify]
  simp[h,onCells]
 ·apply List.ext_getElem?
  intro t
  by_cases ht:t<d.size*2
  ·rw[aah d t ht,List.getElem?_take,if_pos ht,Array.getElem?_toList,putCells,Array.getElem?_mapIdx,Array.getElem?_eq_getElem (by omega),Option.map_some,if_pos ⟨Nat.zero_le _,by rw[size_flatK];omega⟩]
   rfl
  ·rw[List.getElem?_eq_none (by simp;omega),List.getElem?_eq_none (by rw[Fp];simp;omega)]
theorem ahU {w:World}{blk n k:Nat}{d:Array El}{os:Array Obj}(hk:k<w.heap.size)(h:k≠blk):(sortWorldK Ko 2 w blk 0 n d os).heap[k]? =w.heap[k]? :=by
 show ((w.heap.modify blk _)++os)[k]? =_
 rw[Array.getElem?_append_left (by simpa using hk),Array.getElem?_modify]
 simp[Ne.symm h]
theorem aju {w:World}{blk n:Nat}{d:Array El}{os:Array Obj}:Grow (fun k=>k=blk) w (sortWorldK Ko 2 w blk 0 n d os):=
 ⟨rfl,rfl,rfl,size_sortWorldK_c Ko 2 w blk 0 n d os,fun k hk hn=>ahU hk hn⟩
theorem holds_of {w:World}{blk:Nat}{l:List (Int×Int×Unit)}{cur:Array Value}{e:TypeId}(h:w.heap[blk]? =some (.cells cur e (0,0)))(hc:cur.toList.take (l.length*2)=Dz (l.map U4))(hs:l.length*2≤cur.size):HoldsK Ko 2 w blk 0 (l.map U4).toArray:=by
 intro j hj
 rw[size_flatK] at hj
 have hj':j<l.length*2:=by simpa using hj
 refine⟨?_, ?_⟩
 ·have:=aah (l.map U4).toArray j hj
  rw[←hc,List.getElem?_take,if_pos hj',Array.getElem?_toList] at this
  simp only[World.cell?,h,Nat.zero_add]
  exact this
 ·simp[World.frozen?,h]
theorem Ws:∀{l:List (Int×Int×Unit)},(∀x∈l,0≤x.1∧x.1<1000000000)→(l.map fun t=>[Value.int .i64 t.1,Value.int .i64 t.2.1]).flatten=Dz (l.map U4)
 | [],_=>rfl
 |t::l,h=>by
  have ih:=Ws (l:=l) fun x hx=>h x (List.mem_cons_of_mem _ hx)
  have e:=akg (h t List.mem_cons_self)
  have e1:Ko (U4 t)=[Value.int .i64 t.1,Value.int .i64 t.2.1]:=by
   have e2:((U4 t).1.val:Int)=t.1:=congrArg (·.1) e
   show [Value.int .i64 ((U4 t).1.val:Int),Value.int .i64 t.2.1]=_
   rw[e2]
  simp only[Dz,List.map_cons,List.flatten_cons,e1] at ih ⊢
  rw[ih]
theorem Qu:∀(xs:List El),Dz xs=((xs.map ofE).map fun t=>[Value.int .i64 t.1,Value.int .i64 t.2.1]).flatten
 | []=>rfl
 |x::r=>by
  have ih:=Qu r
  simp only[Dz,List.map_cons,List.flatten_cons] at ih ⊢
  rw[ih];rfl
theorem aai {l:List (Int×Int×Unit)}{d':Array El}(hr:∀x∈l,0≤x.1∧x.1<1000000000)(hd:Ds l)(hp:PermIn 0 (l.map U4).toArray.size (l.map U4).toArray d')(hs:SortedIn (ltOf cfE) 0 (l.map U4).toArray.size d'):d'.toList.map ofE=AL l∧d'.size=l.length:=by
 have hsz:d'.size=l.length:=by rw[hp.1];simp
 have hx:(d'.extract 0 (l.map U4).toArray.size)=d':=by
  rw[←hp.1];simp
 have hy:((l.map U4).toArray.extract 0 (l.map U4).toArray.size)=(l.map U4).toArray:=by simp;exact List.take_of_length_le (by simp)
 have akh:=hp.2.2
 rw[hx,hy] at akh
 have hb:(l.map U4).map ofE=l:=by
  rw[List.map_map]
  have:∀{l:List (Int×Int×Unit)},(∀x∈l,0≤x.1∧x.1<1000000000)→l.map (ofE ∘ U4)=l:=fun {l} h=>by
   induction l with
   |nil=>rfl
   |cons t l ih=>
    rw[List.map_cons,ih fun x hx=>h x (List.mem_cons_of_mem _ hx)]
    congr 1
    exact akg (h t List.mem_cons_self)
  exact this hr
 have hq:(d'.toList.map ofE).Perm l:=by
  have:=akh.map ofE
  rwa [hb] at this
 refine⟨ahR hd hq ?_,hsz⟩
 rw[List.pairwise_map,List.pairwise_iff_getElem]
 intro i j hi hj hij
 have hi':i<d'.size:=by simpa using hi
 have hj':j<d'.size:=by simpa using hj
 have h1:=hs i j (Nat.zero_le _) hij (by rw[←hp.1];exact hj')
 rw[ltE,getElem!_pos d' i hi',getElem!_pos d' j hj'] at h1
 simp only[decide_eq_false_iff_not,Nat.not_lt] at h1
 show ((d'.toList[i].1.val:Nat):Int)≤((d'.toList[j].1.val:Nat):Int)
 simp only[Array.getElem_toList]
 omega
abbrev hr3 (hp:List (Option (List (Int×Int×Unit)))):aS:=⟨58,tTb,0,true,hp⟩
theorem anF (hp:List (Option (List (Int×Int×Unit)))):((ck T).set 3 (hr3 hp))[3]? =some (hr3 hp):=rfl
theorem aly (hp:List (Option (List (Int×Int×Unit)))):((ck T).set 3 (hr3 hp)).set 3 (hr3 hp)=(ck T).set 3 (hr3 hp):=rfl
theorem alz (x:(Nat×Unit)×List (Option (List (Int×Int×Unit))))(y:Unit×List (Option (List (Int×Int×Unit))))(h:agR x.1.1 x.2=some y):MG Tryz.prog T 50 x y:=by
 obtain⟨⟨n,u⟩,hp⟩:=x
 obtain⟨yu,hp'⟩:=y
 refine⟨⟨_,Tryz.func50,by kernel_rfl,by kernel_rfl⟩,fun E ν args d hE hG hC hst hargs=> ?_⟩
 replace hst:St E (aE ((ck T).set 3 (hr3 hp))) ⟨#[],[]⟩ E.w0 ν (fun _=>False):=hst
 obtain⟨v1,r1,e1,hv,v2,e2,vs,e3,hvs⟩:∃v1 r1,args.toList=v1::r1∧bG (view E (aE ((ck T).set 3 (hr3 hp))) ν (fun _=>False) E.w0) ⟨.ref 3,n⟩ v1∧∃v2,r1=[v2]∧∃vs:List Value,v2= .func (.func 51) #[] vs.toArray∧vs=[]:=hargs
 subst hvs e3 e2
 obtain rfl:args= #[v1, .func (.func 51) #[] #[]]:=by cases args;simp_all
 have fin:∀(w':World) (ν':Nm→Value),St E (aE (((ck T).set 3 (hr3 hp)).set 3 (hr3 hp'))) ⟨#[],[]⟩ w' ν' (fun _=>False)→Go.Abs.Left T E 50 ((n,u),hp) (yu,hp') d (.returned (.tuple #[])) w':=fun w' ν' hs=>
  ⟨.tuple #[],ν',rfl,hs,⟨[],rfl,trivial⟩⟩
 cases n with
 |zero=>
  have e:v1= .slice none 0 0:=by
   rcases I8 hv with ⟨_,e⟩ | ⟨h1,_⟩
   ·exact e
   ·omega
  subst e
  obtain rfl:hp=hp':=by have h':some ((),hp)=some (yu,hp'):=h;simpa using h'
  refine(aag 0 none _ E.w0).mono ?_
  rintro e w' ⟨rfl,rfl⟩
  exact fin _ ν (by rw[aly];exact hst)
 |succ n=>
  have h':((af hp (n+1)).bind fun l=>bif Nat.ble l.length 1000000&&okT l then some ((),gK hp (n+1) (AL l)) else none)=some (yu,hp'):=h
  obtain⟨l,hl,h2⟩:=Option.bind_eq_some_iff.1 h'
  cases hc:Nat.ble l.length 1000000&&okT l with
  |false=>rw[hc] at h2;cases h2
  |true=>
   rw[hc] at h2
   obtain rfl:gK hp (n+1) (AL l)=hp':=by simpa using h2
   simp only[Bool.and_eq_true,Nat.ble_eq,adr] at hc
   obtain⟨hlen,hr,hd⟩:=hc
   have hh:(aE ((ck T).set 3 (hr3 hp))).ab[3]? =some (hr3 hp):=anF hp
   obtain⟨⟨bm,hown,hall⟩,hO,Fx⟩:=hst.Kz hh hl hv
   rcases Fx with ⟨h0,_⟩ | ⟨h1,_,h3⟩
   ·omega
   ·have hy:=Rj hall
    subst hy
    obtain⟨_,hown⟩:=hown
    rcases hown with ⟨e,_⟩ | ⟨g,cap,cur,e,_,hg,hn,hm,hcs,HN⟩
    ·have hnn:=hst.nn 3 (hr3 hp) (n+1) hh h1 (Kv hl)
     rcases hnn with ⟨_,g,m,c,e4⟩ | ⟨e4,_⟩
     ·rw[←h3,e] at e4;cases e4
     ·cases e4
    ·have hcell:cur.toList.take (l.length*2)=Dz (l.map U4):=by rw[←Ws hr];exact HN
     have anG:l.length*2≤cur.size:=by rw[hcs];exact Nat.mul_le_mul_right 2 hn
     have hgl:g<E.w0.heap.size:=(Array.getElem?_eq_some_iff.1 hg).1
     have hsz:(l.map U4).toArray.size=l.length:=by simp
     have hs:=alx g cap (l.map U4).toArray E.w0 (holds_of hg hcell anG) hgl (by rw[hsz];omega)
     have e5:v1= .slice (some ⟨g,0,none⟩) (l.map U4).toArray.size cap:=by rw[hsz];exact e
     rw[e5]
     refine hs.mono ?_
     rintro e6 w' ⟨rfl,d',m,os,hp1,hs1,rfl⟩
     obtain⟨q1,q2⟩:=aai hr hd hp1 hs1
     have e7:d'.size*2≤cur.size:=by rw[q2];exact anG
     obtain⟨afh,c1,c2,c3⟩:=ahT (n:=m) (os:=os) (d:=d') hg e7
     refine fin _ (NW ν 3 (n+1) (ν (.hp 3 (n+1)))) ?_
     refine hst.afY hE (hr:=hr3 hp) (l:=l) (l':=AL l) hh rfl h1 hl (g:=g) (by rw[←h3,e];rfl) aju fun V' hV=> ?_
     have alA:(AL l).length=l.length:=by rw[←q1];simp[q2]
     rw[←h3,e]
     refine⟨⟨_,_,_,rfl⟩,((AL l).map fun t=>[Value.int .i64 t.1,Value.int .i64 t.2.1]),⟨?_, .inr ⟨g,cap,afh, ?_,Nat.zero_le _,c1, ?_,hm,by rw[c2];exact hcs, ?_⟩⟩,Rk _⟩
     ·rw[←q1, ←Qu,Fp];simp;rfl
     ·show Value.slice (some ⟨g,0,none⟩) l.length cap=Value.slice (some ⟨g,0,none⟩) (AL l).length cap
      rw[alA]
     ·show (AL l).length≤cap
      rw[alA];exact hn
     ·show afh.toList.take ((AL l).length*2)=_
      rw[alA, ←q2,c3,Qu,q1]
end Go.Proofs.YtofjebmoebhiiaaGreatDoor.Ev
namespace Go.Proofs.YtofjebmoebhiiaaGreatDoor.Ev
open Go.Abs Go.RowKit Go.Lib
theorem alB (s:ByteArray)(c:Int)(w:World):(callFunc 177 #[.string s, .int .u8 c]).run Tryz.prog w= .ok (.value (.int .i64 (indexByte s.data.toList c.toNat.toUInt8))) w:=by
 rw[run_callFunc_indexByte Tryz.func177 (by kernel_rfl) (by kernel_rfl) (by kernel_rfl) (by kernel_rfl),run_indexByteString]
 rfl
theorem ajv (s:ByteArray)(c:Int)(W:World):Calls Tryz.prog 165 #[.string s, .int .u8 c] W fun e w'=>e= .returned (.int .i64 (indexByte s.data.toList c.toNat.toUInt8))∧w'=W:=by
 have hd:=alB s c W
 go_enter Tryz.func165,Tryz.ntmps165
 go_wp2
 go_ret
 exact⟨rfl,rfl⟩
theorem Kp (c:Int)(hc:0≤c)(hc2:c<256):∀(l:List UInt8) (i:Nat),UC c i l=bif Go.Lib.indexByte l c.toNat.toUInt8== -1 then -1 else i+Go.Lib.indexByte l c.toNat.toUInt8
 | [],i=>rfl
 |x::r,i=>by
  have ih:=Kp c hc hc2 r (i+1)
  have hge:=indexByte_ge r c.toNat.toUInt8
  have e:((x.toNat:Int)==c)=(x==c.toNat.toUInt8):=by
   rw[Bool.eq_iff_iff,beq_iff_eq,beq_iff_eq]
   constructor
   ·intro h;subst h;simp
   ·intro h;subst h;simp;omega
  simp only[UC,indexByte,e,ih]
  generalize c.toNat.toUInt8=u at hge ⊢
  cases hx:(x==u) with
  |true=>simp
  |false=>
   cases hi:(indexByte r u== -1) with
   |true=>simp
   |false=>
    have h1:(indexByte r u+1== -1)=false:=by rw[beq_eq_false_iff_ne];omega
    simp[h1]
    omega
theorem ND {T:cp}{v d:Nat}{xh:BQ T v}{yh:xU T v}(hh:(T.sig v).ab=[])(hu:K0 d (T.sig v) (vC _ yh)=[]):xq T v d xh yh=aE (aJ T v xh):=by
 unfold xq
 rw[hu]
 have:∀{hs:List Nat} (h:hs=[]) (x:EO T hs) (l:List aS),qz T hs hs x l=l:=fun h x l=>by subst h;rfl
 unfold qI
 rw[this (by simp[IS.hout,hh])]
 rfl
theorem ajw (x:ByteArray×Int)(y:Int)(h:(bif decide (0≤x.2)&&decide (x.2<256) then some (UC x.2 0 x.1.data.toList) else none)=some y):MG Tryz.prog T 165 x y:=by
 refine⟨⟨_,Tryz.func165,by kernel_rfl,by kernel_rfl⟩,fun E ν args d hE hG hC hst hargs=> ?_⟩
 have hs:xq T 165 d x y=aE (aJ T 165 x):=ND rfl rfl
 obtain⟨s,c⟩:=x
 obtain⟨v1,r1,e1,h1,v2,e2,h2⟩:mF _ [.v .str, .v (.int .u8)] (s,c) args.toList:=hargs
 have h1': [v1]=[.string s]:=h1
 have h2': [v2]=[.int .u8 c]:=h2
 simp only[List.cons.injEq,and_true] at h1' h2'
 subst h1' h2' e2
 obtain rfl:args= #[.string s, .int .u8 c]:=by cases args;simp_all
 cases hc:decide (0≤c)&&decide (c<256) with
 |false=>simp only[hc,cond_false] at h;cases h
 |true=>
  simp only[Bool.and_eq_true,decide_eq_true_eq] at hc
  refine(ajv s c E.w0).mono fun e w' ⟨he,hw⟩=> ?_
  subst he hw
  refine⟨_,ν,rfl,by rw[hs];exact hst, ?_⟩
  rw[hs]
  have e3:y=indexByte s.data.toList c.toNat.toUInt8:=by
   have h':UC c 0 s.data.toList=y:=by simpa [hc.1,hc.2] using h
   rw[←h',Kp c hc.1 hc.2]
   cases hi:(indexByte s.data.toList c.toNat.toUInt8== -1) with
   |true=>simpa using (beq_iff_eq.1 hi).symm
   |false=>simp
  rw[e3]
  show [Value.int .i64 _]=[Value.int .i64 _]
  rfl
abbrev afi:bM T:=fun _ _=>none
theorem apw:YC Tryz.prog T afi:=fun v xh yh h=>by cases h
theorem anH:Y2 Tryz.prog T afi:=fun v xh yh h=>by cases h
theorem alC:Tryz.f84.body.isSome=true:=by kernel_rfl
noncomputable def Uj:Code:=Tryz.f84.body.get alC
theorem anI:Tryz.f84.body=some Uj:=by kernel_rfl
theorem ace:I5 T Tryz.f84 Uj afi 0 100084 (none:Option (List tTb.den))=some ([]:List tTb.den):=by kernel_rfl
theorem acf (x:List tTb.den):I5 T Tryz.f84 Uj afi 0 100084 (some x:Option (List tTb.den))=bif aB 16 2 0 x.length then some x else none:=by kernel_rfl
theorem ahV {E:Env}{x:BQ T 84}{z:BQ T 100084}(h:Go.Abs.Callee T E 84 x):Go.Abs.Callee T E 100084 z:=
 ⟨h.j,h.m,h.om,h.acc,fun i k hi=>h.hx i k (fun hm:i∈([]:List Nat)=>by cases hm),fun i=>by
   have:=h.ro i
   exact this⟩
theorem ahW (o:Option (List tTb.den))(y:List tTb.den)(h:I5 T Tryz.f84 Uj afi 0 100084 o=some y):MG Tryz.prog T 100084 o y:=
 Tl (v:=100084) acW apw anH Tryz.func84 anI (by kernel_rfl) rfl h
theorem alD (x y:List tTb.den)(h:(bif aB 16 2 0 x.length then some x else none)=some y):MG Tryz.prog T 84 x y:=by
 refine⟨⟨_,Tryz.func84,by kernel_rfl,by kernel_rfl⟩,fun E ν args d hE hG hC hst hargs=> ?_⟩
 have hs0:∀z:BQ T 84,aJ T 84 z=ck T:=fun z=>D1 rfl
 have hs1:∀z:BQ T 100084,aJ T 100084 z=ck T:=fun z=>D1 rfl
 have go:∀o:Option (List tTb.den),I5 T Tryz.f84 Uj afi 0 100084 o=some y→mF (view E (aE (ck T)) ν (fun _=>False) E.w0) [.v (.qj tTb)] o args.toList→Calls Tryz.prog 84 args E.w0 (Go.Abs.Left T E 84 x y d):=fun o ho ha=>by
  refine((ahW o y ho).2 E ν args d hE hG (ahV hC) (by rw[hs1 o];rw[hs0 x] at hst;exact hst) (by rw[hs1 o];exact ha)).mono ?_
  rintro e w' ⟨r,ν',rfl,h1,h2⟩
  have e1:xq T 100084 d o y=aE (ck T):=(ND (T:=T) (v:=100084) rfl rfl).trans (congrArg aE (hs1 o))
  have e2:xq T 84 d x y=aE (ck T):=(ND (T:=T) (v:=84) rfl rfl).trans (congrArg aE (hs0 x))
  rw[e1] at h1 h2
  refine⟨r,ν',rfl,by rw[e2];exact h1, ?_⟩
  rw[e2]
  exact h2
 rw[hs0 x] at hst hargs
 obtain⟨v,e1,A,c,bm,h1,h2,h3,h4,h5⟩:mF _ [.v (.slice tTb)] x args.toList:=hargs
 simp only[List.cons.injEq,and_true] at h1
 subst h1
 cases A with
 |none=>
  have hx:x=[]:=List.eq_nil_of_length_eq_zero (Nat.le_zero.1 (by have h6:=h4 rfl;subst h6;exact h2))
  have hc:=h4 rfl
  subst hx hc
  have hy:y=[]:=by
   have h':(some []:Option (List tTb.den))=some y:=h
   simpa using h'.symm
  subst hy
  exact go none ace ⟨_,e1,rfl⟩
 |some ad=>
  refine go (some x) ((acf x).trans h) ⟨_,e1,ad,c,bm,rfl,h2,h3,fun j u hj=> ?_⟩
  obtain⟨Vg,e2,hv⟩:=h5 j u hj
  cases e2
  exact hv
theorem ajx:aa2 Tryz.prog T B:=fun v g hg=>by
 unfold B at hg
 split at hg
 ·cases hg
  exact⟨rfl,alz⟩
 ·cases hg
  exact⟨rfl,alD⟩
 ·cases hg
  exact⟨rfl,ajw⟩
 ·cases hg
end Go.Proofs.YtofjebmoebhiiaaGreatDoor.Ev
namespace Go.Proofs.YtofjebmoebhiiaaGreatDoor.clearLaid
open Go.ChangeShapes Go.WideShapes Go.ChangeAt Go.RowKit
abbrev laid:List (String×DataW Unit):=[("torus/clear.standard",Rows.laid_torus_clear_standard),("torus/clear.twist",Rows.laid_torus_clear_twist)]
theorem own:ownKnob Tryz.prog.godebug=none:=by kernel_rfl
theorem g0:Tryz.prog.globalNamed "torus/clear.standard" =some 0:=by kernel_rfl
theorem g1:Tryz.prog.globalNamed "torus/clear.twist" =some 1:=by kernel_rfl
theorem t0:(Tryz.prog.globals[0]?).map (·.type)=some 86:=by kernel_rfl
theorem t1:(Tryz.prog.globals[1]?).map (·.type)=some 86:=by kernel_rfl
theorem ahX (os:Os)(args:Array Value):laidMetH Tryz.prog laid ((World.doorLaid Tryz.prog 19 os).forCall (fun _ _=>0) ⟨#[],args,[]⟩).memory:=
 laidMetH_of_parts3 (fuel:=8) (laidMet_of_run' 8 (by kernel_rfl) (by kernel_rfl)) (by kernel_rfl) (by kernel_rfl)
theorem ajy {W:World}(h:laidMetH Tryz.prog laid W):W.cell? ⟨0,0,none⟩=some (.func (.func 196) #[] #[])∧W.cell? ⟨0,1,none⟩=some (.bool false)∧
  W.cell? ⟨1,0,none⟩=some (.func (.func 198) #[] #[])∧W.cell? ⟨1,1,none⟩=some (.bool true):=by
 have one:∀(name:String) (gn:Nat) (b0:UInt8) (r:List UInt8) (b:Bool) (f0:FuncId),(name,DataW.iface "func table" (.agg [.iface "func" (.lit (.string (b0::r))), .lit (.bool b)]))∈laid→Tryz.prog.globalNamed name=some gn→(Tryz.prog.globals[gn]?).map (·.type)=some 86→
   (((List.range Tryz.prog.funcs.size).filter fun f=>(Tryz.prog.funcs[f]?).any (·.name.toUTF8.data.toList==b0::r))=[f0])→W.cell? ⟨gn,0,none⟩=some (.func (.func f0) #[] #[])∧W.cell? ⟨gn,1,none⟩=some (.bool b):=by
  intro name gn b0 r b f0 hm hgn htn hone
  obtain⟨g,t,cs,fuel,p,hg,ht,hv,hd⟩:=h.funcs hm
  obtain rfl:=Option.some.inj (hgn.symm.trans hg)
  obtain rfl:=Option.some.inj (htn.symm.trans ht)
  have hd':DataW.trod (funcToken Tryz.prog) Tryz.prog W 0 (fun _=>true) true fuel 86 cs.toList=some (.agg [.held (b0::r), .lit (.bool b)],p):=hd
  obtain⟨y0,y1,n,hx,hl,h0,h1⟩:=trod_struct2 Tryz.underlying86 hd'
  have hl':cs.toList.length=2:=hl.trans (by kernel_rfl)
  obtain⟨l⟩:=cs
  simp only at hl' h0 h1
  match l,hl' with
  | [c0,c1],_=>
    have e84:Tryz.prog.cellsOf 84=1:=by kernel_rfl
    have e4:Tryz.prog.cellsOf 4=1:=by kernel_rfl
    rw[e84] at h0
    rw[e4] at h1
    simp only[Prod.mk.injEq,DataW.agg.injEq,List.cons.injEq,and_true] at hx
    have k0:DataW.trod (funcToken Tryz.prog) Tryz.prog W 0 (fun _=>true) true n 84 [c0]=some (.held (b0::r),y0.2):=by
     have h0':DataW.trod (funcToken Tryz.prog) Tryz.prog W 0 (fun _=>true) true n 84 [c0]=some y0:=h0
     rw[h0',hx.1.1]
    obtain rfl:=func_of_trod (f0:=f0) Tryz.underlying84 hone k0
    have v0:=World.var?_cell hgn hv 0
    have v1:=World.var?_cell hgn hv 1
    obtain⟨b',e1,e2⟩:=DataW.trod_bool Tryz.underlying4 (show DataW.trod (funcToken Tryz.prog) Tryz.prog W 0 (fun _=>true) true n 4 [c1]=some y1 from h1)
    simp only[List.cons.injEq,and_true] at e1
    subst e1
    have e3:=hx.1.2
    rw[e2] at e3
    simp only[DataW.lit.injEq,Lit.bool.injEq] at e3
    subst e3
    exact⟨v0,v1⟩
 obtain⟨a1,a2⟩:=one "torus/clear.standard" 0 _ _ false 196 (List.mem_cons_self ..) g0 t0 (by kernel_rfl)
 obtain⟨a3,a4⟩:=one "torus/clear.twist" 1 _ _ true 198 (List.mem_cons_of_mem _ (List.mem_cons_self ..)) g1 t1 (by kernel_rfl)
 exact⟨a1,a2,a3,a4⟩
theorem ajz {W:World}(h:laidMetH Tryz.prog laid W):Go.Abs.WV Ev.T (fun key u=>∃ad:Addr,key= .cell ad∧∃Vg:Addr,Go.Abs.Key.cell ad= .cell Vg∧W.cell? Vg=some u):=by
 obtain⟨a1,a2,a3,a4⟩:=ajy h
 have one:∀(gn f0:Nat) (b:Bool),W.cell? ⟨gn,0,none⟩=some (.func (.func f0) #[] #[])→W.cell? ⟨gn,1,none⟩=some (.bool b)→
   Go.Abs.qF (fun key u=>∃ad:Addr,key= .cell ad∧∃Vg:Addr,Go.Abs.Key.cell ad= .cell Vg∧W.cell? Vg=some u) [⟨.fn,f0+1⟩,⟨.bool,b⟩] (.pointer (some ⟨gn,0,none⟩)):=fun gn f0 b h1 h2=>
  ⟨⟨gn,0,none⟩,[.func (.func f0) #[] #[], .bool b],rfl,⟨rfl,rfl,trivial⟩,fun j u hj=>by
    match j,hj with
    |0,hj=>cases hj;exact⟨_,rfl,_,rfl,h1⟩
    |1,hj=>cases hj;exact⟨_,rfl,_,rfl,h2⟩
    |j+2,hj=>simp at hj⟩
 intro i x hx
 have hx':Go.Abs.look [(1000000000,Go.Abs.AV.pd [⟨.fn,(197:Nat)⟩,⟨.bool,false⟩]),(1000000001,Go.Abs.AV.pd [⟨.fn,(199:Nat)⟩,⟨.bool,true⟩])] i=some x:=hx
 have hm:=Go.Abs.zh hx'
 simp only[List.mem_cons,List.not_mem_nil,or_false,Prod.mk.injEq] at hm
 rcases hm with ⟨rfl,rfl⟩ | ⟨rfl,rfl⟩
 ·exact⟨0,_,rfl,rfl,one 0 196 false a1 a2⟩
 ·exact⟨1,_,rfl,rfl,one 1 198 true a3 a4⟩
end Go.Proofs.YtofjebmoebhiiaaGreatDoor.clearLaid
namespace Go.Proofs.YtofjebmoebhiiaaGreatDoor.clearDualMatches
open Go.ChangeShapes Go.WideShapes Go.ChangeAt Go.RowKit
theorem laidOut:laidOutB Tryz.prog=true:=by kernel_rfl
theorem anJ:Go.Abs.lays Tryz.prog Go.Abs.tCh 24=true:=by kernel_rfl
theorem anK:Go.Abs.lays Tryz.prog Go.Abs.ab7 28=true:=by kernel_rfl
theorem walk (W:World)(h:laidMetH Tryz.prog clearLaid.laid W)(l0:Array Value)(x0:Go.Abs.tCh.den)(w0:Go.Abs.Rel (Go.Abs.wv W) Go.Abs.tCh x0 l0.toList)(b0:Go.Abs.Bnd Go.Abs.tCh x0)(l1:Array Value)(x1:Go.Abs.ab7.den)(w1:Go.Abs.Rel (Go.Abs.wv W) Go.Abs.ab7 x1 l1.toList)(b1:Go.Abs.Bnd Go.Abs.ab7 x1):Calls Tryz.prog 3 #[.agg l0, .agg l1] W fun e w'=>e= .returned (.bool true)∧Below W.heap.size W w':=
 Go.Abs.amP (T:=Ev.T) (V0:=fun key u=>∃ad:Addr,key= .cell ad∧W.cell? ad=some u) (w:=W) (v:=3) (xh:=(x0,x1)) (yh:=true) ((Go.Abs.aes Ev.acW Ev.ajx Ev.ak7) 3 (x0,x1) true (Ev.alv x0 x1 b0 b1) rfl) rfl HEq.rfl
   (fun ad u ⟨Vg,e,hc⟩=>by cases e;exact hc) (clearLaid.ajz h) ⟨_,_,rfl,Go.Abs.vL.mono (fun key u ⟨ad,e,h⟩=>⟨ad,e,by rw[←e];exact⟨ad,e,h⟩⟩) (Go.Abs.agQ w0),⟨_,rfl,Go.Abs.vL.mono (fun key u ⟨ad,e,h⟩=>⟨ad,e,by rw[←e];exact⟨ad,e,h⟩⟩) (Go.Abs.agQ w1)⟩⟩
theorem lifted (os:Os)(started:os.Started)(H:Type)(enc:TypeId×Value→H):
  ReturnsInHanded {} Tryz.checked os 3 .any (fun w args=>(Rows.clearDualMatchesSpec.pre enc Tryz.prog Tryz.f3 [] false w args∧laidMetH Tryz.prog clearLaid.laid w)∧sizedMet enc Tryz.prog Tryz.f3 (OpenSpec.ofChange Rows.clearDualMatchesSpec) false w args)
   (Rows.clearDualMatchesSpec.post enc Tryz.prog Tryz.f3 false true false false):=by
 refine returnsInHanded_of_change_and (C:=Tryz.checked) (X:=fun w _=>laidMetH Tryz.prog clearLaid.laid w) (fun _ _ _ hh h=>h.of_heap hh) clearLaid.own started (by kernel_rfl) Tryz.func3
  (ChangeSpec.witness_shaped (enc:=enc) (C:=Tryz.checked) (os:=os) (X:=fun w _=>laidMetH Tryz.prog clearLaid.laid w) false (World.doorLaid Tryz.prog 19 os) #[.agg #[.int .i64 0, .slice none 0 0], .agg #[.slice none 0 0, .slice none 0 0, .int .i64 0, .slice none 0 0]] 8 rfl (World.shaped_of_RefB (by kernel_rfl) (by kernel_rfl)) (by kernel_rfl) (by kernel_rfl) (by kernel_rfl) (clearLaid.ahX os _)) ?_
 intro W base args ds gs before aki hW _ anL hL _
 have hsz:(DataW.weightsEach Tryz.prog (Tryz.f3.params.toList++Rows.clearDualMatchesSpec.plain.varTypes Tryz.prog) (ds++gs)).all (· ≤reachBytes)=true:=anL
 have hval:∀(j:Nat) t v,Tryz.f3.params[j]? =some t→args[j]? =some v→Value.okWide Tryz.prog W .any base t v:=aki
 have hW':=hW
 obtain⟨p,q,hA0,hV,rfl,hfz,hnd⟩:=hW
 have hA:DataW.TrodAll enc Tryz.prog W 0 (fun _=>true) true Tryz.f3.params.toList args.toList ds p:=hA0
 rw[Tryz.params3] at hA hval hsz
 obtain⟨v0,vs0,d0,ds0,q0_,q0,hargs,rfl,rfl,h0,r0⟩:=trodAll_cons hA
 obtain⟨v1,vs1,d1,ds1,q1_,q1,rfl,rfl,rfl,h1,r1⟩:=trodAll_cons r0
 obtain⟨rfl,rfl,rfl⟩:=trodAll_nil r1
 obtain rfl:args= #[v0,v1]:=by cases args;simp_all
 obtain⟨rfl,rfl⟩:=trodVars_none hV
 obtain⟨l0,rfl,z0⟩:=okWide_struct Tryz.underlying24 (hval 0 24 v0 rfl rfl)
 have lt0:∀x∈q0_,x.block<W.heap.size:=by obtain⟨m,hm⟩:=h0;exact DataW.trod_lt m _ _ _ hm
 obtain⟨x0,w0,b0⟩:=Go.Abs.agP anJ h0 hsz (j:=0) rfl rfl
 obtain⟨l1,rfl,z1⟩:=okWide_struct Tryz.underlying28 (hval 1 28 v1 rfl rfl)
 have lt1:∀x∈q1_,x.block<W.heap.size:=by obtain⟨m,hm⟩:=h1;exact DataW.trod_lt m _ _ _ hm
 obtain⟨x1,w1,b1⟩:=Go.Abs.agP anK h1 hsz (j:=1) rfl rfl
 clear hA0 aki anL hsz
 refine(walk W hL l0 x0 w0 b0 l1 x1 w1 b1).mono fun e W' ⟨he,bel⟩=> ?_
 subst he
 exact⟨_,rfl,_,_,_,[],_,[],hW',trodAll_mk1 (shut_bool Tryz.underlying4 _),(trodAll_cons_mk (Below.trod laidOut (by kernel_rfl) (of_decide_eq_true (by kernel_rfl)) h0 bel lt0) (trodAll_cons_mk (Below.trod laidOut (by kernel_rfl) (of_decide_eq_true (by kernel_rfl)) h1 bel lt1) trodAll_mk0)),rfl,bel.frame _,fun h=>by cases h⟩
theorem over:Rows.clearDualMatchesRow.holds Tryz.pinned (OpenSpec.ofChange Rows.clearDualMatchesSpec):=
 OpenClaim.holds_of_wide 3 Tryz.f3 rfl rfl rfl rfl rfl rfl rfl ⟨rfl,rfl,rfl,rfl,rfl⟩ rfl rfl rfl rfl rfl (by kernel_rfl) Tryz.func3 (by kernel_rfl)
  (of_decide_eq_true (by kernel_rfl)) (by unfold Func.isWrapper;first | (rw[if_pos (by decide+kernel)];kernel_rfl) | (rw[if_neg (by decide+kernel)];exact⟨rfl,rfl⟩))
  (fun os started H enc _=>lifted os started H enc)
theorem apz:Rows.ClearDualMatchesCardSaid:=
 Claim7.holds_tied_plain_at .later [] [.funcs, .funcs] true (true, "646fabaf2cebbacc9a084797f15646a8f53b2861734cfa52447632ca260b63f2") false
  over (fun _ h=>by cases h) (by kernel_rfl) (fun _ h=>by cases h) clearDualMatches_row_tie rfl ⟨rfl,rfl⟩ (by kernel_rfl) rfl
  (fun f fn hf hfn=>by
   obtain rfl:f=3:=Option.some.inj ((show Tryz.prog.funcNamed "torus/toruslaw22.ClearDualMatches" =some 3 by kernel_rfl).symm.trans hf) |>.symm
   obtain rfl:fn=Tryz.f3:=(Option.some.inj (Tryz.func3.symm.trans hfn)).symm
   exact⟨by kernel_rfl,fun j t ht=>by
    rw[Tryz.params3] at ht
    have hj:j<2:=by
     rcases Nat.lt_or_ge j 2 with h |h
     ·exact h
     ·rw[Array.getElem?_eq_none (by simpa using h)] at ht;cases ht
    match j,hj with
    |0,_=>(obtain rfl:t=24:=by simpa using ht.symm);exact(show Tryz.prog.wantsStandIn 24=false by kernel_rfl)
    |1,_=>(obtain rfl:t=28:=by simpa using ht.symm);exact(show Tryz.prog.wantsStandIn 28=false by kernel_rfl)⟩)
  (by kernel_rfl)
end Go.Proofs.YtofjebmoebhiiaaGreatDoor.clearDualMatches
namespace Go.Proofs.YtofjebmoebhiiaaGreatDoor
theorem clearDualMatches_holds:Rows.ClearDualMatchesCardSaid:=clearDualMatches.apz
#print axioms clearDualMatches_holds
end Go.Proofs.YtofjebmoebhiiaaGreatDoor
