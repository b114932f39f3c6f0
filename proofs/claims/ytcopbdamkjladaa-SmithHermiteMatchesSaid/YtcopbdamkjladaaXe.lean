/- YtcopbdamkjladaaXe: a part of the proof (PK, Hm, Hl ..). No condition. -/
import Derived.Test.YtcopbdamkjladaaXd
import Derived.KernelRfl
import Derived.Test.YtcopbdamkjladaaRows
import Derived.WalkKit
import Derived.ProofKit
import Derived.OpenShut
import Derived.ShutString
import Derived.ChangeOld
import Derived.Below
import Derived.SizedLaws
set_option linter.unusedVariables false
set_option linter.unusedSimpArgs false
set_option maxRecDepth 100000
set_option exponentiation.threshold 2000
namespace Go.Abs
theorem fd_eq (a b:Int):a - a.fdiv b*b=a.fmod b:=by have:=Int.mul_fdiv_add_fmod a b;rw[Int.mul_comm];omega
theorem q7 {a b:Int}(h:0<b):0≤a.fmod b∧a.fmod b<b:=⟨Int.fmod_nonneg_of_pos a h,Int.fmod_lt_of_pos a h⟩
theorem wi {a b:Int}(h:b<0):b<a.fmod b∧a.fmod b≤0:=by
 have h1:=q7 (a:= -a) (b:= -b) (by omega);have h2:(-a).fmod (-b)= -(a.fmod b):=by have e1:=fd_eq (-a) (-b);have e2:=fd_eq a b;rw[Int.neg_fdiv_neg] at e1;rw[Int.mul_neg] at e1;omega
 omega
theorem P9 {a b:Int}(hb:b≠0):(a.fdiv b).natAbs*b.natAbs≤a.natAbs+b.natAbs:=by
 rw[←Int.natAbs_mul];have e:=fd_eq a b;have h:(a.fmod b).natAbs≤b.natAbs:=by
  rcases Int.lt_or_gt_of_ne hb with g |g
  ·have:=wi (a:=a) g;omega
  ·have:=q7 (a:=a) g;omega
 omega
theorem W7 {a b:Int}(h:(0≤a∧0<b)∨(a≤0∧b<0)):(a.fdiv b).natAbs*b.natAbs≤a.natAbs:=by
 rw[←Int.natAbs_mul];have e:=fd_eq a b;rcases h with ⟨h1,h2⟩ | ⟨h1,h2⟩
 ·have:=q7 (a:=a) h2;have hq:0≤a.fdiv b*b:=by have:0≤a.fdiv b:=Int.fdiv_nonneg h1 (by omega);exact Int.mul_nonneg this (by omega)
  omega
 ·have:=wi (a:=a) h2;have hq:a.fdiv b*b≤0:=by
   have h3:0≤a.fdiv b:=by have:=Int.fdiv_nonneg (show 0≤ -a by omega) (show 0≤ -b by omega);rw[Int.neg_fdiv_neg] at this;exact this
   exact Int.mul_nonpos_of_nonneg_of_nonpos h3 (by omega)
  omega
structure EH (N w r c:Nat) (M:Nat→Nat→Int) (B u v:Nat):Prop where
 oW:∀i,i<N→∀q,q<w→(M i q).natAbs≤B
 old:(M r c).natAbs=u
 u1:1≤u
 v1:1≤v
 lt:∀i,r<i→i<N→(M i c).natAbs<u
 sgn:(∀i,r≤i→i<N→0≤M i c)∨(∀i,r≤i→i<N→M i c≤0)
 half:(∀i,r<i→i<N→M i c=0)∨∃i,r<i∧i<N∧M i c≠0∧2*(M i c).natAbs≤v
def sz (r P t:Nat):Nat:=if t=r then P else if t=P then r else t
section
variable {N w r c P:Nat}{M M':Nat→Nat→Int}{y8:Nat→Int}{B u v:Nat}
theorem Qa:sz r P r=P:=if_pos rfl
theorem ac7:sz r P P=r:=by unfold sz;by_cases e:P=r; ·rw[if_pos e];exact e
                           ·rw[if_neg e,if_pos rfl]
theorem ac8 {t:Nat}(h1:t≠r)(h2:t≠P):sz r P t=t:=by unfold sz;rw[if_neg h1,if_neg h2]
theorem KV {t:Nat}(hr:r<N)(hP:P<N)(ht:t<N):sz r P t<N:=by unfold sz;split<;>(try split)<;>omega
theorem XX {t:Nat}(hP:r≤P)(ht:r≤t):r≤sz r P t:=by unfold sz;split<;>(try split)<;>omega
theorem EH.first (hr:r<N)(hc:c<w)(hB:1≤B)(hb:∀i,i<N→∀q,q<w→(M i q).natAbs≤B)(hP:r≤P)(Mu:P<N)(hne:M P c≠0)(hmin:∀i,r≤i→i<N→M i c≠0→(M P c).natAbs≤(M i c).natAbs)
  (hM:∀i,i<N→∀q,q<w→M' i q=M (sz r P i) q+y8 i*M P q) (PL:∀i,i≤r→y8 i=0) (hk:∀i,r<i→i<N→y8 i= - (M (sz r P i) c).fdiv (M P c)):
  ∃B',EH N w r c M' B' (M P c).natAbs (2*B)∧B'*(M P c).natAbs≤3*B*B:=by
 obtain⟨p,hp⟩:∃p,p=(M P c).natAbs:=⟨_,rfl⟩
 have ai:1≤p:=by omega
 have hpB:p≤B:=by rw[hp];exact hb P Mu c hc
 have Lk:∀i,r<i→i<N→M' i c=(M (sz r P i) c).fmod (M P c):=fun i h1 h2=>by rw[hM i h2 c hc,hk i h1 h2,Int.neg_mul];have:=fd_eq (M (sz r P i) c) (M P c);omega
 have hr':∀q,q<w→M' r q=M P q:=fun q hq=>by rw[hM r hr q hq,PL r (Nat.le_refl r),Int.zero_mul,Int.add_zero,Qa]
 have P4:∀i,i<N→(y8 i).natAbs*p≤B+p:=fun i hi=>by
  by_cases e:i≤r
  ·rw[PL i e];simp
  ·rw[hk i (by omega) hi,Int.natAbs_neg,hp];have h1:=P9 (a:=M (sz r P i) c) hne;have h2:=hb (sz r P i) (KV hr Mu hi) c hc;exact Nat.le_trans h1 (Nat.add_le_add_right h2 _)
 refine⟨3*B*B / p,⟨fun i hi q hq=> ?_, ?_,by omega,by omega,fun i h1 h2=> ?_, ?_, ?_⟩, ?_⟩
 ·refine(Nat.le_div_iff_mul_le (by omega)).2 ?_;have e1:(M' i q).natAbs≤B+(y8 i).natAbs*B:=by rw[hM i hi q hq];refine Nat.le_trans (Int.natAbs_add_le _ _) (Nat.add_le_add (hb _ (KV hr Mu hi) q hq) ?_);rw[Int.natAbs_mul];exact Nat.mul_le_mul_left _ (hb P Mu q hq)
  have e2:(B+(y8 i).natAbs*B)*p≤3*B*B:=by
   have h1:=P4 i hi;have h2:(y8 i).natAbs*p*B≤(B+p)*B:=Nat.mul_le_mul_right B h1;have h3:p*B≤B*B:=Nat.mul_le_mul_right B hpB;have h4:(B+(y8 i).natAbs*B)*p=p*B+(y8 i).natAbs*p*B:=by rw[Nat.add_mul,Nat.mul_comm B p,Nat.mul_right_comm]
   have h5:3*B*B=3*(B*B):=Nat.mul_assoc ..;have h6:(B+p)*B=B*B+p*B:=Nat.add_mul ..;rw[h4,h5];omega
  exact Nat.le_trans (Nat.mul_le_mul_right p e1) e2
 ·rw[hr' c hc]
 ·rw[Lk i h1 h2];rcases Int.lt_or_gt_of_ne hne with g |g
  ·have:=wi (a:=M (sz r P i) c) g;omega
  ·have:=q7 (a:=M (sz r P i) c) g;omega
 ·rcases Int.lt_or_gt_of_ne hne with g |g
  ·refine .inr fun i h1 h2=> ?_;by_cases e:i=r
   ·rw[e,hr' c hc];omega
   ·rw[Lk i (by omega) h2];exact(wi g).2
  ·refine .inl fun i h1 h2=> ?_;by_cases e:i=r
   ·rw[e,hr' c hc];omega
   ·rw[Lk i (by omega) h2];exact(q7 g).1
 ·by_cases g:∃i,r<i∧i<N∧M' i c≠0
  ·obtain⟨i,h1,h2,h3⟩:=g;refine .inr ⟨i,h1,h2,h3, ?_⟩;have:(M' i c).natAbs≤p:=by
    rw[Lk i h1 h2,hp];rcases Int.lt_or_gt_of_ne hne with g |g
    ·have:=wi (a:=M (sz r P i) c) g;omega
    ·have:=q7 (a:=M (sz r P i) c) g;omega
   omega
  ·exact .inl fun i h1 h2=>Classical.byContradiction fun q=>g ⟨i,h1,h2,q⟩
 ·rw[←hp];exact Nat.div_mul_le_self _ _
theorem EH.next (hr:r<N)(hc:c<w)(h:EH N w r c M B u v)(hP:r<P)(Mu:P<N)(hne:M P c≠0)(hmin:∀i,r≤i→i<N→M i c≠0→(M P c).natAbs≤(M i c).natAbs)
  (hM:∀i,i<N→∀q,q<w→M' i q=M (sz r P i) q+y8 i*M P q) (PL:∀i,i≤r→y8 i=0) (hk:∀i,r<i→i<N→y8 i= - (M (sz r P i) c).fdiv (M P c)):
  ∃B',EH N w r c M' B' (M P c).natAbs u∧B'*(M P c).natAbs^3*u^2≤B*u^3*v^2∧(M P c).natAbs<u:=by
 obtain⟨p,hp⟩:∃p,p=(M P c).natAbs:=⟨_,rfl⟩
 have ai:1≤p:=by omega
 have hpu:p<u:=by rw[hp];exact h.lt P hP Mu
 have hpv:2*p≤v:=by
  rcases h.half with g | ⟨i,h1,h2,h3,h4⟩
  ·exact absurd (g P hP Mu) hne
  ·have:=hmin i (by omega) h2 h3;omega
 have hle:∀i,r≤i→i<N→(M i c).natAbs≤u:=fun i h1 h2=>by
  by_cases e:i=r
  ·rw[e,h.old];exact Nat.le_refl _
  ·have:=h.lt i (by omega) h2;omega
 have hsame:∀i,r≤i→i<N→(0≤M i c∧0<M P c)∨(M i c≤0∧M P c<0):=fun i h1 h2=>by
  rcases h.sgn with g |g
  ·have a1:=g i h1 h2;have a2:=g P (by omega) Mu;exact .inl ⟨a1,by omega⟩
  ·have a1:=g i h1 h2;have a2:=g P (by omega) Mu;exact .inr ⟨a1,by omega⟩
 have Lk:∀i,r<i→i<N→M' i c=(M (sz r P i) c).fmod (M P c):=fun i h1 h2=>by rw[hM i h2 c hc,hk i h1 h2,Int.neg_mul];have:=fd_eq (M (sz r P i) c) (M P c);omega
 have hr':∀q,q<w→M' r q=M P q:=fun q hq=>by rw[hM r hr q hq,PL r (Nat.le_refl r),Int.zero_mul,Int.add_zero,Qa]
 have P4:∀i,i<N→(y8 i).natAbs*p≤u:=fun i hi=>by
  by_cases e:i≤r
  ·rw[PL i e];simp
  ·rw[hk i (by omega) hi,Int.natAbs_neg,hp];have g1:=XX (r:=r) (P:=P) (t:=i) (by omega) (by omega);have g2:=KV (r:=r) (P:=P) hr Mu hi;have h1:=W7 (hsame _ g1 g2);have h2:=hle _ g1 g2;exact Nat.le_trans h1 h2
 have hlt':∀i,r<i→i<N→(M' i c).natAbs<p:=fun i h1 h2=>by
  rw[Lk i h1 h2,hp];rcases Int.lt_or_gt_of_ne hne with g |g
  ·have:=wi (a:=M (sz r P i) c) g;omega
  ·have:=q7 (a:=M (sz r P i) c) g;omega
 obtain⟨B',hB'⟩:∃B',B'=2*u*B / p:=⟨_,rfl⟩
 have hBp:B'*p≤2*u*B:=by rw[hB'];exact Nat.div_mul_le_self _ _
 refine⟨B',⟨fun i hi q hq=> ?_, ?_,by omega,h.u1,fun i h1 h2=>by rw[←hp];exact hlt' i h1 h2, ?_, ?_⟩, ?_,by omega⟩
 ·rw[hB'];refine(Nat.le_div_iff_mul_le (by omega)).2 ?_;have e1:(M' i q).natAbs≤B+(y8 i).natAbs*B:=by rw[hM i hi q hq];refine Nat.le_trans (Int.natAbs_add_le _ _) (Nat.add_le_add (h.oW _ (KV hr Mu hi) q hq) ?_);rw[Int.natAbs_mul];exact Nat.mul_le_mul_left _ (h.oW P Mu q hq)
  have e2:(B+(y8 i).natAbs*B)*p≤2*u*B:=by
   have h2:(y8 i).natAbs*p*B≤u*B:=Nat.mul_le_mul_right B (P4 i hi);have h3:p*B≤u*B:=Nat.mul_le_mul_right B (by omega);have h4:(B+(y8 i).natAbs*B)*p=p*B+(y8 i).natAbs*p*B:=by rw[Nat.add_mul,Nat.mul_comm B p,Nat.mul_right_comm]
   have h5:2*u*B=2*(u*B):=Nat.mul_assoc ..;rw[h4,h5];omega
  exact Nat.le_trans (Nat.mul_le_mul_right p e1) e2
 ·rw[hr' c hc]
 ·rcases Int.lt_or_gt_of_ne hne with g |g
  ·refine .inr fun i h1 h2=> ?_;by_cases e:i=r
   ·rw[e,hr' c hc];omega
   ·rw[Lk i (by omega) h2];exact(wi g).2
  ·refine .inl fun i h1 h2=> ?_;by_cases e:i=r
   ·rw[e,hr' c hc];omega
   ·rw[Lk i (by omega) h2];exact(q7 g).1
 · -- zw old abO rest
   have Y9:M' P c=(M r c).fmod (M P c):=by rw[Lk P hP Mu,ac7]
   have hold:=h.old;have hs:=hsame r (Nat.le_refl r) hr;have hq:=fd_eq (M r c) (M P c);by_cases e0:M' P c=0
   ·by_cases g:∃i,r<i∧i<N∧M' i c≠0
    ·obtain⟨i,h1,h2,h3⟩:=g;refine .inr ⟨i,h1,h2,h3, ?_⟩;have h4:=hlt' i h1 h2;have h5:2*p≤u:=by
      rw[Y9] at e0;rw[e0] at hq;have h6:M r c=(M r c).fdiv (M P c)*M P c:=by omega
      have h7:u=((M r c).fdiv (M P c)).natAbs*p:=by rw[←hold,hp, ←Int.natAbs_mul, ←h6]
      generalize ((M r c).fdiv (M P c)).natAbs=k at h7
      match k,h7 with
      |0,h7=>omega
      |1,h7=>omega
      |k+2,h7=>have:(k+2)*p=k*p+2*p:=Nat.add_mul ..;omega
     omega
    ·exact .inl fun i h1 h2=>Classical.byContradiction fun q=>g ⟨i,h1,h2,q⟩
   ·refine .inr ⟨P,hP,Mu,e0, ?_⟩;have h4:=hlt' P hP Mu
    -- u=k p+rest with k≥1
    have h5:(M' P c).natAbs+p≤u:=by
     rw[Y9];rw[Y9] at h4;have hk1:((M r c).fdiv (M P c)*M P c).natAbs+((M r c).fmod (M P c)).natAbs=u:=by
      rw[←hold];rcases hs with ⟨s1,s2⟩ | ⟨s1,s2⟩
      ·have f1:=q7 (a:=M r c) s2;have f2:0≤(M r c).fdiv (M P c)*M P c:=Int.mul_nonneg (Int.fdiv_nonneg s1 (by omega)) (by omega);omega
      ·have f1:=wi (a:=M r c) s2;have f3:0≤(M r c).fdiv (M P c):=by have:=Int.fdiv_nonneg (show 0≤ -(M r c) by omega) (show 0≤ -(M P c) by omega);rw[Int.neg_fdiv_neg] at this;exact this
       have f2:(M r c).fdiv (M P c)*M P c≤0:=Int.mul_nonpos_of_nonneg_of_nonpos f3 (by omega);omega
     rw[Int.natAbs_mul, ←hp] at hk1;generalize ((M r c).fdiv (M P c)).natAbs=k at hk1
     match k,hk1 with
     |0,hk1=>omega
     |k+1,hk1=>have:(k+1)*p=k*p+p:=Nat.succ_mul ..;omega
    omega
 ·rw[←hp];have h1:B'*p^3*u^2=(B'*p)*(p*p*(u*u)):=by simp only[Nat.pow_succ,Nat.pow_zero,Nat.one_mul];ac_rfl
  have h2:B*u^3*v^2=(u*B)*((v*v)*(u*u)):=by simp only[Nat.pow_succ,Nat.pow_zero,Nat.one_mul];ac_rfl
  have h3:2*(p*p)≤v*v:=by
   have a1:(2*p)*(2*p)≤v*v:=Nat.mul_le_mul hpv hpv;have a2:(2*p)*(2*p)=4*(p*p):=by ac_rfl
   omega
  rw[h1,h2];refine Nat.le_trans (Nat.mul_le_mul_right _ hBp) ?_;have e1:2*u*B*(p*p*(u*u))=(u*B)*(2*(p*p)*(u*u)):=by ac_rfl
  rw[e1];exact Nat.mul_le_mul_left _ (Nat.mul_le_mul_right _ h3)
end
end Go.Abs
namespace Go.Proofs.Ytcopbdamkjladaa.Ev
open Go.Abs Go.IntWalk
def Tq (B:Nat):Prop:=∀x:Int,x.natAbs≤B→Ln x≤1000000000
theorem Tq.mono {B B':Nat}(h:Tq B)(g:B'≤B):Tq B':=fun x hx=>h x (Nat.le_trans hx g)
theorem U8 {x:Int}(h:x≠0):¬CQ x=0:=by unfold CQ;split; ·omega
                                      ·split<;>omega
theorem U9 {x:Int}(h:x=0):CQ x=0:=by subst h;rfl
theorem Qb {x y:Int}(h:x<y):nS x y<0:=by unfold nS;rw[if_pos h];omega
theorem Qc {x y:Int}(h:y≤x):¬nS x y<0:=by unfold nS;rw[if_neg (by omega)];split<;>omega
theorem Jg {a b:Int}(hb:b≠0):(a.fdiv b).natAbs≤a.natAbs+b.natAbs:=by have h1:=P9 (a:=a) hb;have h2:(a.fdiv b).natAbs*1≤(a.fdiv b).natAbs*b.natAbs:=Nat.mul_le_mul_left _ (by omega);rw[Nat.mul_one] at h2;exact Nat.le_trans h2 h1
theorem Za {r P s:Nat}:S8 P r s=sz r P s:=by
 unfold S8 sz;by_cases h1:s=r
 ·by_cases h2:s=P
  ·simp only[if_pos h1,if_pos h2];omega
  ·simp only[if_pos h1,if_neg h2]
 ·by_cases h2:s=P
  ·simp only[if_neg h1,if_pos h2]
  ·simp only[if_neg h1,if_neg h2]
section
variable {ah:HW}{ai:HN}{g N w:Nat}{rs:List Nat}{M:Nat→Nat→Int}{B:Nat}
theorem Zb (hN:N≤1000){r c:Nat}(hr:r≤N)(hc:c<w)(hB:Tq B)(hb:∀i,i<N→(M i c).natAbs≤B)(h:GM ah ai g N w rs M):∀(d i:Nat) (a:Int),d+i=N→r≤i→
  ((a= -1∧∀t,r≤t→t<i→M t c=0)∨∃P:Nat,a=(P:Int)∧r≤P∧P<i∧M P c≠0∧∀t,r≤t→t<i→M t c≠0→(M P c).natAbs≤(M t c).natAbs)→
  (br g r c a i ah ai=some (false,(ah,ai))∧∀t,r≤t→t<N→M t c=0)∨
  ∃P:Nat,r≤P∧P<N∧M P c≠0∧(∀t,r≤t→t<N→M t c≠0→(M P c).natAbs≤(M t c).natAbs)∧br g r c a i ah ai=(aL g P r ah ai).bind fun v=>b9 g r c true (r+1:Nat) v.2.1 v.2.2:=by
 have hn:=h.n;intro d;induction d with
 |zero=>
  intro i a hd hi hs;obtain rfl:i=N:=by omega
  rcases hs with ⟨rfl,hz⟩ | ⟨P,rfl,p1,p2,p3,p4⟩
  ·refine .inl ⟨?_,hz⟩;rw[kE,jh,h.g,bS,aY (by omega),aO (by omega)]
  ·refine .inr ⟨P,p1,p2,p3,p4, ?_⟩;rw[kE,jh,h.g,bS,aY (by omega),aY (by omega),m8 (by omega)]
 |succ d ih=>
  intro i a hd hi hs;have Td:i<N:=by omega
  have e1:=h.r i Td;have hbi:=hB _ (hb i Td);have step:br g r c a i ah ai=bif CQ (M i c) != 0 then bif decide (a<0) then br g r c i (i+1:Nat) ah ai else
    ((ae ai g).bind fun v8=>(idx v8 (i:Int)).bind fun _=>(ae ai g).bind fun v9=>(v9[(i:Int).toNat]?).bind fun v10=>(ae ah v10).bind fun v11=>(idx v11 (c:Int)).bind fun _=>(ae ah v10).bind fun vG=>(vG[(c:Int).toNat]?).bind fun wK=>(dg (wK.1,(wK.2.1,()))).bind fun Hh=>
    (ae ai g).bind fun yW=>(idx yW a).bind fun _=>(ae ai g).bind fun BM=>(BM[a.toNat]?).bind fun Cu=>(ae ah Cu).bind fun BR=>(idx BR (c:Int)).bind fun _=>(ae ah Cu).bind fun P0=>(P0[(c:Int).toNat]?).bind fun v20=>(dg (v20.1,(v20.2.1,()))).bind fun Bj=>
    (eU (Hh.1,(Hh.2.1,())) (Bj.1,(Bj.2.1,()))).bind fun JJ=>bif decide (JJ<0) then br g r c i (i+1:Nat) ah ai else br g r c a (i+1:Nat) ah ai)
    else br g r c a (i+1:Nat) ah ai:=by
   rw[kE,jh,h.g];simp only[bS];rw[aO (by omega),vA 0 (by omega),e1];simp only[bS];rw[vA wz (by rw[dC];exact hc),fF hc,s7,fl,bS,m8 (by omega)]
  by_cases hz:M i c=0
  ·rw[step,pK (U9 hz)];refine ih (i+1) a (by omega) (by omega) ?_;rcases hs with ⟨e,TG⟩ | ⟨P,e,p1,p2,p3,p4⟩
   ·refine .inl ⟨e,fun t h1 h2=> ?_⟩;by_cases e2:t=i
    ·subst e2;exact hz
    ·exact TG t h1 (by omega)
   ·refine .inr ⟨P,e,p1,by omega,p3,fun t h1 h2 h3=> ?_⟩;by_cases e2:t=i
    ·subst e2;exact absurd hz h3
    ·exact p4 t h1 (by omega) h3
  ·rw[step,vw (U8 hz)];rcases hs with ⟨rfl,TG⟩ | ⟨P,rfl,p1,p2,p3,p4⟩
   ·rw[aO (by omega)];refine ih (i+1) i (by omega) (by omega) (.inr ⟨i,rfl,hi,by omega,hz,fun t h1 h2 h3=> ?_⟩);by_cases e2:t=i
    ·subst e2;exact Nat.le_refl _
    ·exact absurd (TG t h1 (by omega)) h3
   ·have e2:=h.r P (by omega);have hbP:=hB _ (hb P (by omega));rw[aY (by omega),h.g];simp only[bS];rw[vA 0 (by omega),e1];simp only[bS];rw[vA wz (by rw[dC];exact hc),fF hc,s7,xx,bS,vA 0 (by omega),e2];simp only[bS];rw[vA wz (by rw[dC];exact hc),fF hc,s7,xx,bS,s7,s7];have l1:Ln ((M i c).natAbs:Int)≤1000000000:=hB _ (by have:=hb i Td;omega);have l2:Ln ((M P c).natAbs:Int)≤1000000000:=hB _ (by have:=hb P (by omega);omega);rw[Fp (by omega) (by omega),bS];by_cases hlt:(M i c).natAbs<(M P c).natAbs
    ·rw[aO (Qb (by omega))];refine ih (i+1) i (by omega) (by omega) (.inr ⟨i,rfl,hi,by omega,hz,fun t h1 h2 h3=> ?_⟩);by_cases e3:t=i
     ·subst e3;exact Nat.le_refl _
     ·have:=p4 t h1 (by omega) h3;omega
    ·rw[aY (Qc (by omega))];refine ih (i+1) P (by omega) (by omega) (.inr ⟨P,rfl,p1,by omega,p3,fun t h1 h2 h3=> ?_⟩);by_cases e3:t=i
     ·subst e3;omega
     ·exact p4 t h1 (by omega) h3
theorem Zc (hN:N≤1000)(Rp:w≤1000){r c:Nat}(hr:r<N)(hc:c<w)(hB:Tq (2*B))(hb:∀i,i<N→∀q,q<w→(M i q).natAbs≤B)(hne:M r c≠0):∀(d i:Nat) (ah:HW) (done:Bool),d+i=N→r<i→
  GM ah ai g N w rs (fun s q=>if r<s∧s<i then M s q+M r q* - (M s c).fdiv (M r c) else M s q)→(done=true↔∀t,r<t→t<i→(M t c).fmod (M r c)=0)→
  ∃df KW,GM df ai g N w rs (fun s q=>if r<s then M s q+M r q* - (M s c).fdiv (M r c) else M s q)∧(KW=true↔∀t,r<t→t<N→(M t c).fmod (M r c)=0)∧
   b9 g r c done i ah ai=bif KW then some (true,(df,ai)) else b8 g r c df ai:=by
 intro d;induction d with
 |zero=>
  intro i ah done hd hi h hdn;obtain rfl:i=N:=by omega
  have hn:=h.n;refine⟨ah,done,h.congr fun s q hs hq=> ?_,hdn, ?_⟩
  ·by_cases e:r<s
   ·rw[if_pos e,if_pos ⟨e,hs⟩]
   ·rw[if_neg e,if_neg (fun q=>e q.1)]
  ·rw[oq,lP,h.g,bS,aY (by omega)]
 |succ d ih=>
  intro i ah done hd hi h hdn;have Td:i<N:=by omega
  have hn:=h.n;have hw:0<w:=by omega
  have e1:=h.r i Td;have e2:=h.r r hr;have f1:∀q,(if r<i∧i<i then M i q+M r q* - (M i c).fdiv (M r c) else M i q)=M i q:=fun q=>if_neg (by omega);have f2:∀q,(if r<r∧r<i then M r q+M r q* - (M r c).fdiv (M r c) else M r q)=M r q:=fun q=>if_neg (by omega);simp only[f1] at e1;simp only[f2] at e2;have b1:=hb i Td c hc;have b2:=hb r hr c hc;have hfd:=Jg (a:=M i c) hne;have lk:Ln (-(M i c).fdiv (M r c))≤1000000000:=hB _ (by rw[Int.natAbs_neg];omega);have lf:Ln ((M i c).fdiv (M r c))≤1000000000:=hB _ (by omega);have l1:=hB (M i c) (by omega);have l2:=hB (M r c) (by omega);obtain⟨df,g1,g2⟩:=KT h Td hr (by omega) hw (by omega) (k:= -(M i c).fdiv (M r c)) (by omega) (fun q hq=>by
   rw[f1,f2];have a1:=hB (M i q) (by have:=hb i Td q hq;omega);have a2:=hB (M r q) (by have:=hb r hr q hq;omega);omega)
  have g3:GM df ai g N w rs (fun s q=>if r<s∧s<i+1 then M s q+M r q* - (M s c).fdiv (M r c) else M s q):=g2.congr fun s q hs hq=>by
   by_cases e:s=i
   ·subst e;rw[if_pos rfl];simp only[f1,f2];rw[if_pos (by omega)]
   ·rw[if_neg e];by_cases e3:r<s∧s<i
    ·rw[if_pos e3,if_pos (by omega)]
    ·rw[if_neg e3,if_neg (by omega)]
  have aa2:∀b:Bool,(b=true↔done=true∧(M i c).fmod (M r c)=0)→(b=true↔∀t,r<t→t<i+1→(M t c).fmod (M r c)=0):=fun b hb'=>by
   rw[hb',hdn];constructor
   ·rintro ⟨q1,q2⟩ t h1 h2;by_cases e:t=i
    ·subst e;exact q2
    ·exact q1 t h1 (by omega)
   ·intro q;exact⟨fun t h1 h2=>q t h1 (by omega),q i hi (by omega)⟩
  have step:b9 g r c done i ah ai=bif done then b9 g r c (CQ ((M i c).fmod (M r c))==0) (i+1:Nat) df ai else b9 g r c false (i+1:Nat) df ai:=by
   rw[oq,lP,h.g];simp only[bS];rw[aO (by omega),vA 0 (by omega),e1];simp only[bS];rw[vA wz (by rw[dC];exact hc),fF hc,vA 0 (by omega),e2];simp only[bS];rw[vA wz (by rw[dC];exact hc),fF hc,s7,s7,sN (by omega) (by omega) hne,bS];simp only[];rw[s7,m6 (by omega),bS,s7,g1,bS,m8 (by omega)];cases done with
   |true=>rw[cT,cT,s7,fl,bS]
   |false=>rfl
  cases done with
  |true=>
   rw[cT] at step;obtain⟨sO,KW,k1,k2,k3⟩:=ih (i+1) df (CQ ((M i c).fmod (M r c))==0) (by omega) (by omega) g3 (aa2 _ (by
    constructor
    ·intro q;refine⟨rfl,Classical.byContradiction fun hz=> ?_⟩;have:=U8 hz;rw[beq_iff_eq] at q;exact this q
    ·rintro ⟨_,q⟩;rw[U9 q];rfl))
   exact⟨sO,KW,k1,k2,by rw[step,k3]⟩
  |false=>rw[cF] at step;obtain⟨sO,KW,k1,k2,k3⟩:=ih (i+1) df false (by omega) (by omega) g3 (aa2 _ ⟨fun q=>(by cases q),fun q=>(by cases q.1)⟩);exact⟨sO,KW,k1,k2,by rw[step,k3]⟩
end
structure LO (N w r c:Nat) (M0 M1:Nat→Nat→Int):Prop where
 q:xz w N N M0 M1
 top:∀s,s<r→∀q,q<w→M1 s q=M0 s q
 z:∀t,r≤t→t<N→∀q,q<c→M1 t q=0
def CT (r P c:Nat)(M:Nat→Nat→Int)(i q:Nat):Int:=M (sz r P i) q+(if r<i then - (M (sz r P i) c).fdiv (M P c) else 0)*M P q
section
variable {g N w r c P:Nat}{M M0:Nat→Nat→Int}{B:Nat}
theorem LO.round (h:LO N w r c M0 M)(hr:r<N)(hP:r≤P)(Mu:P<N)(hc:c<w):LO N w r c M0 (CT r P c M):=by
 have hs:∀s,s<r→∀q,CT r P c M s q=M s q:=fun s hs q=>by unfold CT;rw[if_neg (by omega),Int.zero_mul,Int.add_zero,ac8 (by omega) (by omega)]
 refine⟨h.q.trans (xz.XW (P:=P) hr Mu (y8:=fun i=>if r<i then - (M (sz r P i) c).fdiv (M P c) else 0) (if_neg (by omega)) fun i hi q hq=>rfl),fun s hs' q hq=>by rw[hs s hs' q];exact h.top s hs' q hq,fun t h1 h2 q hq=> ?_⟩;unfold CT;rw[h.z _ (XX hP h1) (KV hr Mu h2) q hq,h.z P hP Mu q hq,Int.mul_zero];rfl
theorem XY (hne:M P c≠0){i:Nat}(hi:r<i):CT r P c M i c=(M (sz r P i) c).fmod (M P c):=by unfold CT;rw[if_pos hi,Int.neg_mul];have:=fd_eq (M (sz r P i) c) (M P c);omega
theorem XZ:CT r P c M r c=M P c:=by unfold CT;rw[if_neg (by omega),Int.zero_mul,Int.add_zero,Qa]
theorem KX {ah:HW}{ai:HN}{rs:List Nat}(hN:N≤1000)(Rp:w≤1000)(hr:r≤N)(hc:c<w)(hB:Tq (2*B))(hb:∀i,i<N→∀q,q<w→(M i q).natAbs≤B)(h:GM ah ai g N w rs M):
  (b8 g r c ah ai=some (false,(ah,ai))∧∀t,r≤t→t<N→M t c=0)∨
  ∃P df gQ rs' done,r≤P∧P<N∧M P c≠0∧(∀t,r≤t→t<N→M t c≠0→(M P c).natAbs≤(M t c).natAbs)∧GM df gQ g N w rs' (CT r P c M)∧(done=true↔∀t,r<t→t<N→CT r P c M t c=0)∧
   b8 g r c ah ai=bif done then some (true,(df,gQ)) else b8 g r c df gQ:=by
 rcases Zb hN hr hc (hB.mono (by omega)) (fun i hi=>hb i hi c hc) h (N - r) r (-1) (by omega) (Nat.le_refl r) (.inl ⟨rfl,fun t h1 h2=>by omega⟩) with ⟨h1,h2⟩ | ⟨P,p1,p2,p3,p4,p5⟩
 ·exact .inl ⟨by rw[oo,lN,h1],h2⟩
 ·right;obtain⟨gQ,rs',s1,s2⟩:=OB h p2 (show r<N by omega);have s3:GM ah gQ g N w rs' (fun s q=>M (sz r P s) q):=s2.congr fun s q _ _=>by rw[Za]
  have Ph:∀i,i<N→∀q,q<w→(M (sz r P i) q).natAbs≤B:=fun i hi q hq=>hb _ (KV (by omega) p2 hi) q hq;have hne:M (sz r P r) c≠0:=by rw[Qa];exact p3
  obtain⟨df,done,k1,k2,k3⟩:=Zc (M:=fun s q=>M (sz r P s) q) hN Rp (show r<N by omega) hc hB Ph hne (N - (r+1)) (r+1) ah true (by omega) (by omega) (s3.congr fun s q _ _=>if_neg (by omega)) ⟨fun _ t h1 h2=>by omega,fun _=>rfl⟩;refine⟨P,df,gQ,rs',done,p1,p2,p3,p4,k1.congr fun s q hs hq=> ?_, ?_, ?_⟩
  ·unfold CT;by_cases e:r<s
   ·rw[if_pos e,if_pos e,Qa,Int.mul_comm (M P q)]
   ·rw[if_neg e,if_neg e,Int.zero_mul,Int.add_zero]
  ·rw[k2];constructor
   ·intro q t h1 h2;have:=q t h1 h2;rw[Qa] at this;rw[XY p3 h1];exact this
   ·intro q t h1 h2;have:=q t h1 h2;rw[XY p3 h1] at this;rw[Qa];exact this
  ·rw[oo,lN,p5,s1,bS,k3]
theorem Qd {B u v K:Nat}(hu:1≤u)(hv:1≤v)(h:B*u^3*v^2≤K):B≤K:=by have h1:1≤u^3:=Nat.one_le_pow _ _ hu;have h2:1≤v^2:=Nat.one_le_pow _ _ hv;have h3:B*1≤B*u^3:=Nat.mul_le_mul_left _ h1;have h4:B*u^3*1≤B*u^3*v^2:=Nat.mul_le_mul_left _ h2;omega
theorem Va {K:Nat}(hN:N≤1000)(Rp:w≤1000)(hr:r<N)(hc:c<w)(hK:Tq (2*K)):∀(u v B:Nat) (M:Nat→Nat→Int) (ah:HW) (ai:HN) (rs:List Nat),GM ah ai g N w rs M→EH N w r c M B u v→(∃i,r<i∧i<N∧M i c≠0)→B*u^3*v^2≤K→LO N w r c M0 M→
  ∃df gQ rs' M1,b8 g r c ah ai=some (true,(df,gQ))∧GM df gQ g N w rs' M1∧LO N w r c M0 M1∧M1 r c≠0∧(∀t,r<t→t<N→M1 t c=0)∧∀i,i<N→∀q,q<w→(M1 i q).natAbs≤K:=by
 intro u;induction u using Nat.strongRecOn with
 |ind u ih=>
  intro v B M ah ai rs h hE hex Vb hLO;obtain⟨i0,j1,j2,j3⟩:=hex;have hBK:=Qd hE.u1 hE.v1 Vb;rcases KX (B:=B) (r:=r) hN Rp (by omega) hc (hK.mono (by omega)) hE.oW h with ⟨_,hz⟩ | ⟨P,df,gQ,rs',done,p1,p2,p3,p4,k1,k2,k3⟩
  ·exact absurd (hz i0 (by omega) j2) j3
  ·have hPr:r<P:=by
    rcases Nat.lt_or_ge r P with e |e
    ·exact e
    ·obtain rfl:P=r:=by omega
     have a1:=p4 i0 (by omega) j2 j3;have a2:=hE.lt i0 j1 j2;have a3:=hE.old;omega
   obtain⟨B',e1,e2,e3⟩:=EH.next (M':=CT r P c M) (y8:=fun i=>if r<i then - (M (sz r P i) c).fdiv (M P c) else 0) hr hc hE hPr p2 p3 p4 (fun i hi q hq=>rfl) (fun i hi=>if_neg (by omega)) fun i h1 h2=>if_pos h1
   have Vc:=hLO.round hr p1 p2 hc;have X0:=Nat.le_trans e2 Vb;cases done with
   |true=>refine⟨df,gQ,rs',_,by rw[k3,cT],k1,Vc,by rw[XZ];exact p3,k2.1 rfl,fun i hi q hq=> ?_⟩;have:=Qd e1.u1 e1.v1 X0;have h2:=e1.oW i hi q hq;omega
   |false=>
    have Zd:∃i,r<i∧i<N∧CT r P c M i c≠0:=Classical.byContradiction fun hn=>by have:(false=true):=k2.2 fun t h1 h2=>Classical.byContradiction fun q=>hn ⟨t,h1,h2,q⟩;cases this
    obtain⟨sO,Ca,JT,M1,f1,f2⟩:=ih _ e3 u B' _ df gQ rs' k1 e1 Zd X0 Vc;exact⟨sO,Ca,JT,M1,by rw[k3,cF,f1],f2⟩
theorem Te {ah:HW}{ai:HN}{rs:List Nat}(hN:N≤1000)(Rp:w≤1000)(hr:r≤N)(hc:c<w)(hB1:1≤B)(hK:Tq (24*B^6))(hb:∀i,i<N→∀q,q<w→(M i q).natAbs≤B)(h:GM ah ai g N w rs M)(hz:∀t,r≤t→t<N→∀q,q<c→M t q=0):
  (iM g r c ah ai=some (false,(ah,ai))∧∀t,r≤t→t<N→M t c=0)∨
  (r<N∧∃df gQ rs' M1,iM g r c ah ai=some (true,(df,gQ))∧GM df gQ g N w rs' M1∧LO N w r c M M1∧M1 r c≠0∧(∀t,r<t→t<N→M1 t c=0)∧∀i,i<N→∀q,q<w→(M1 i q).natAbs≤12*B^6):=by
 have hp6:B≤B^6:=by have h1:1≤B^5:=Nat.one_le_pow _ _ hB1;have h2:B^6=B^5*B:=Nat.pow_succ ..;have h3:1*B≤B^5*B:=Nat.mul_le_mul_right _ h1;omega
 have ac9:LO N w r c M M:=⟨xz.refl,fun s _ q _=>rfl,hz⟩
 rw[yH,uc];rcases KX (B:=B) (r:=r) hN Rp hr hc (hK.mono (by omega)) hb h with ⟨e,TG⟩ | ⟨P,df,gQ,rs',done,p1,p2,p3,p4,k1,k2,k3⟩
 ·exact .inl ⟨e,TG⟩
 ·right;refine⟨by omega, ?_⟩;have Qe:r<N:=by omega
  obtain⟨B',e1,e2⟩:=EH.first (M':=CT r P c M) (y8:=fun i=>if r<i then - (M (sz r P i) c).fdiv (M P c) else 0) Qe hc hB1 hb p1 p2 p3 p4 (fun i hi q hq=>rfl) (fun i hi=>if_neg (by omega)) fun i h1 h2=>if_pos h1
  have Vc:=ac9.round Qe p1 p2 hc;have hpB:(M P c).natAbs≤B:=hb P p2 c hc;have Vb:B'*(M P c).natAbs^3*(2*B)^2≤12*B^6:=by
   generalize (M P c).natAbs=p at*
   have a1:B'*p^3*(2*B)^2=(B'*p)*((p*p)*(4*(B*B))):=by
    have:(2*B)^2=4*(B*B):=by rw[Nat.pow_succ,Nat.pow_succ,Nat.pow_zero,Nat.one_mul,Nat.mul_mul_mul_comm]
    rw[this];simp only[Nat.pow_succ,Nat.pow_zero,Nat.one_mul];ac_rfl
   have a2:(p*p)*(4*(B*B))≤(B*B)*(4*(B*B)):=Nat.mul_le_mul_right _ (Nat.mul_le_mul hpB hpB);have a3:(3*B*B)*((B*B)*(4*(B*B)))=12*B^6:=by
    have LV:(3*B*B)*((B*B)*(4*(B*B)))=3*4*(B*B*B*B*B*B):=by ac_rfl
    rw[LV];simp only[Nat.pow_succ,Nat.pow_zero,Nat.one_mul]
   rw[a1, ←a3];exact Nat.mul_le_mul e2 a2
  cases done with
  |true=>refine⟨df,gQ,rs',_,by rw[k3,cT],k1,Vc,by rw[XZ];exact p3,k2.1 rfl,fun i hi q hq=> ?_⟩;have:=Qd e1.u1 e1.v1 Vb;have h2:=e1.oW i hi q hq;omega
  |false=>
   have Zd:∃i,r<i∧i<N∧CT r P c M i c≠0:=Classical.byContradiction fun hn=>by have:(false=true):=k2.2 fun t h1 h2=>Classical.byContradiction fun q=>hn ⟨t,h1,h2,q⟩;cases this
   obtain⟨sO,Ca,JT,M1,f1,f2⟩:=Va (M0:=M) (K:=12*B^6) hN Rp Qe hc (hK.mono (by omega)) _ (2*B) B' _ df gQ rs' k1 e1 Zd Vb Vc;exact⟨sO,Ca,JT,M1,by rw[k3,cF,f1],f2⟩
end
theorem ada (n:Nat):(1000000000:Nat)^n=10^(9*n):=by rw[Nat.pow_mul]
theorem Rt {e:Nat}(h:e<9000000000):Tq (10^e):=fun x hx=>by
 obtain⟨n,hn⟩:∃n:Nat,n=1000000000:=⟨_,rfl⟩
 rw[←hn,tg,ada];exact Nat.lt_of_le_of_lt hx (Nat.pow_lt_pow_right (by omega) (by omega))
def ee:Nat→Nat
 |0=>6
 |c+1=>12*ee c+5
theorem X1:∀{c d:Nat},c≤d→ee c≤ee d:=fun {c d} h=>by
 induction h with
 |refl=>exact Nat.le_refl _
 |step h ih=>rw[ee];omega
section
variable {g N w r c:Nat}{M M0:Nat→Nat→Int}{B:Nat}
theorem W8 (hN:N≤1000)(Rp:w≤1000)(hr:r<N)(hc:c<w)(hB:Tq (2*B))(hb:∀i,i<N→∀q,q<w→(M i q).natAbs≤B)(hne:M r c≠0)(t t2:Int):∀(d i:Nat) (ah:HW) (ai:HN) (rs:List Nat),d+i=r→GM ah ai g N w rs (fun s q=>if s<i then M s q+M r q* - (M s c).fdiv (M r c) else M s q)→
  ∃df rs',GM df ai g N w rs' (fun s q=>if s<r then M s q+M r q* - (M s c).fdiv (M r c) else M s q)∧bZ g r c t t2 r i ah ai=bo g (r+1:Nat) t (IntKind.wrap .i64 (t2+1)) df ai:=by
 intro d;induction d with
 |zero=>
  intro i ah ai rs hd h;obtain rfl:i=r:=by omega
  exact⟨ah,rs,h,by rw[nF,kD,aY (by omega),m8 (by omega)]⟩
 |succ d ih=>
  intro i ah ai rs hd h;have hn:=h.n;have hir:i<r:=by omega
  have Td:i<N:=by omega
  have e1:=h.r i Td;have e2:=h.r r hr;have f1:∀q,(if i<i then M i q+M r q* - (M i c).fdiv (M r c) else M i q)=M i q:=fun q=>if_neg (by omega);have f2:∀q,(if r<i then M r q+M r q* - (M r c).fdiv (M r c) else M r q)=M r q:=fun q=>if_neg (by omega);simp only[f1] at e1;simp only[f2] at e2;have b1:=hb i Td c hc;have b2:=hb r hr c hc;have hfd:=Jg (a:=M i c) hne;have lk:Ln (-(M i c).fdiv (M r c))≤1000000000:=hB _ (by rw[Int.natAbs_neg];omega);have lf:Ln ((M i c).fdiv (M r c))≤1000000000:=hB _ (by omega);have l1:=hB (M i c) (by omega);have l2:=hB (M r c) (by omega);obtain⟨df,g1,g2⟩:=KT h Td hr (by omega) (by omega) (by omega) (k:= -(M i c).fdiv (M r c)) (by omega) (fun q hq=>by
   rw[f1,f2];have a1:=hB (M i q) (by have:=hb i Td q hq;omega);have a2:=hB (M r q) (by have:=hb r hr q hq;omega);omega)
  obtain⟨sO,rs',k1,k2⟩:=ih (i+1) df ai rs (by omega) (g2.congr fun s q hs hq=>by
   by_cases e:s=i
   ·subst e;rw[if_pos rfl];simp only[f1,f2];rw[if_pos (by omega)]
   ·rw[if_neg e];by_cases e3:s<i
    ·rw[if_pos e3,if_pos (by omega)]
    ·rw[if_neg e3,if_neg (by omega)])
  refine⟨sO,rs',k1, ?_⟩;rw[←k2,nF,kD,aO (by omega),h.g];simp only[bS];rw[vA 0 (by omega),e1];simp only[bS];rw[vA wz (by rw[dC];exact hc),fF hc,vA 0 (by omega),e2];simp only[bS];rw[vA wz (by rw[dC];exact hc),fF hc,s7,s7,sN (by omega) (by omega) hne,bS];simp only[];rw[s7,m6 (by omega),bS,s7,g1,bS,m8 (by omega)]
theorem aa3 {e:Nat}:12*(10^e)^6≤10^(6*e+2):=by rw[←Nat.pow_mul,Nat.mul_comm e 6,Nat.pow_add];generalize 10^(6*e)=a;omega
theorem aa4 {e:Nat}:24*(10^e)^6≤10^(6*e+2):=by rw[←Nat.pow_mul,Nat.mul_comm e 6,Nat.pow_add];generalize 10^(6*e)=a;omega
theorem Vd {e:Nat}{x y k:Int}{K:Nat}(hK:K≤10^(6*e+2))(h1:1≤K)(hx:x.natAbs≤K)(hy:y.natAbs≤K)(hk:k.natAbs≤2*K):(x+y*k).natAbs≤10^(12*e+5):=by
 have a1:(x+y*k).natAbs≤K+K*(2*K):=Nat.le_trans (Int.natAbs_add_le _ _) (Nat.add_le_add hx (by rw[Int.natAbs_mul];exact Nat.mul_le_mul hy hk));have a2:K*1≤K*K:=Nat.mul_le_mul_left _ h1;have a3:K*(2*K)=2*(K*K):=by ac_rfl
 have a4:K*K≤10^(6*e+2)*10^(6*e+2):=Nat.mul_le_mul hK hK;have a5:(10:Nat)^(6*e+2)*10^(6*e+2)*10=10^(12*e+5):=by rw[←Nat.pow_add, ←Nat.pow_succ];congr 1;omega
 generalize (10:Nat)^(6*e+2)*10^(6*e+2)=Z at a4 a5;omega
theorem Ze {m:Nat→Nat→Int}(hN:N≤1000)(hw6:w≤6):∀(d c r:Nat) (M:Nat→Nat→Int) (pos:Nat→Nat) (ah:HW) (ai:HN) (rs:List Nat),d+c=w→GM ah ai g N w rs M→HI w N r c m M pos→(∀i,i<N→∀q,q<w→(M i q).natAbs≤10^ee c)→
  ∃df gQ rs' r' H pos',GM df gQ g N w rs' H∧HI w N r' w m H pos'∧(∀i,i<N→∀q,q<w→(H i q).natAbs≤10^ee w)∧bo g r w c ah ai=(kl g df gQ).bind fun r9=>some (r9,(0:Int)):=by
 intro d;induction d with
 |zero=>
  intro c r M pos ah ai rs hd h hI hb;obtain rfl:c=w:=by omega
  exact⟨ah,ai,rs,r,M,pos,h,hI,hb,by rw[jI,ij,aY (by omega)]⟩
 |succ d ih=>
  intro c r M pos ah ai rs hd h hI hb;have hc:c<w:=by omega
  have hec:ee c≤ee 5:=X1 (by omega);have he5:ee 5=1606097:=by decide
  have Pn:1≤10^ee c:=Nat.one_le_pow _ _ (by omega);have he1:ee (c+1)=12*ee c+5:=rfl;generalize hE:ee c=e at*
  have hle:(10:Nat)^e≤10^(12*e+5):=Nat.pow_le_pow_right (by omega) (by omega);have h24:=aa4 (e:=e);have hK:Tq (24*(10^e)^6):=(Rt (e:=6*e+2) (by omega)).mono h24;rcases Te (r:=r) hN (by omega) hI.le hc Pn hK hb h hI.z with ⟨s1,s2⟩ | ⟨Qe,df,gQ,rs',M1,s1,s2,s3,s4,s5,s6⟩
  ·obtain⟨sO,Ca,JT,r',H,pos',k1,k2,k3,k4⟩:=ih (c+1) r M pos ah ai rs (by omega) h (hI.skip hc s2) (fun i hi q hq=>by rw[he1];exact Nat.le_trans (hb i hi q hq) hle);refine⟨sO,Ca,JT,r',H,pos',k1,k2,k3, ?_⟩;rw[jI,ij,aO (by omega),s1,bS];simp only[];rw[show (!false)=true from rfl,cT,m8 (by omega)];exact k4
  ·have hz3:=s3.z;have hn:=s2.n;obtain⟨K,hKe⟩:∃K,K=12*(10^e)^6:=⟨_,rfl⟩
   rw[←hKe] at s6;have hK1:1≤K:=by have:=s6 r Qe c hc;omega
   have hKK:K≤10^(6*e+2):=by rw[hKe];exact aa3
   have hOk:Tq (2*K):=hK.mono (by omega)
   -- zw sign
   obtain⟨fm,M2,t1,t2,t3,t4,t5,t6⟩:∃fm M2,GM fm gQ g N w rs' M2∧0<M2 r c∧(∀s,s≠r→∀q,M2 s q=M1 s q)∧xz w N N M1 M2∧(∀q,(M2 r q).natAbs=(M1 r q).natAbs)∧bo g r w c ah ai=bZ g r c w c r (0:Int) fm gQ:=by
    have step:bo g r w c ah ai=bif decide (CQ (M1 r c)<(0:Int)) then (dE g r df gQ).bind fun r8=>bZ g r c w c r (0:Int) r8.2.1 r8.2.2 else bZ g r c w c r (0:Int) df gQ:=by rw[jI,ij,aO (by omega),s1,bS];simp only[];rw[show (!true)=false from rfl,cF,s2.g];simp only[bS];rw[vA 0 (by omega),s2.r r Qe];simp only[bS];rw[vA wz (by rw[dC];exact hc),fF hc,s7,fl,bS]
    by_cases hneg:M1 r c<0
    ·obtain⟨fm,u1,u2⟩:=Ta s2 Qe (by omega) (by omega) (fun q hq=>by have:=hOk (M1 r q) (by have:=s6 r Qe q hq;omega);omega);refine⟨fm,_,u2,by simp only[if_true];omega,fun s hs q=>by simp only[if_neg hs],xz.neg (r:=r) fun i hi q hq=> ?_,fun q=>by simp only[if_true];exact Int.natAbs_neg _, ?_⟩
     ·by_cases ei:i=r
      ·simp only[if_pos ei];rw[ei]
      ·simp only[if_neg ei]
     ·rw[step,aO (by unfold CQ;split<;>(try split)<;>omega),u1,bS]
    ·refine⟨df,M1,s2,by omega,fun s hs q=>rfl,xz.refl,fun q=>rfl, ?_⟩;rw[step,aY (by unfold CQ;split<;>(try split)<;>omega)]
   have R4:∀i,i<N→∀q,q<w→(M2 i q).natAbs≤K:=fun i hi q hq=>by
    by_cases ei:i=r
    ·rw[ei,t5];exact s6 r Qe q hq
    ·rw[t3 i ei];exact s6 i hi q hq
   obtain⟨hp3,rs3,v1,v2⟩:=W8 hN (by omega) Qe hc hOk R4 (by omega) (w:Int) (c:Int) r 0 fm gQ rs' (by omega) (t1.congr fun s q _ _=>if_neg (by omega));have hI':HI w N (r+1) (c+1) m (fun s q=>if s<r then M2 s q+M2 r q* - (M2 s c).fdiv (M2 r c) else M2 s q) (fun s=>if s=r then c else pos s):=by
    refine hI.step (M1:=M2) (y8:=fun s=> - (M2 s c).fdiv (M2 r c)) hc Qe (s3.q.trans t4) (fun s hs q hq=>by rw[t3 s (by omega)];exact s3.top s hs q hq) (fun t h1 h2 q hq=> ?_) t2 (fun t h1 h2=>by rw[t3 t (by omega)];exact s5 t h1 h2) (fun s hs q hq=>by simp only[if_pos hs];rw[Int.mul_comm (M2 r q)]) (fun s hs=> ?_) fun t h1 h2 q hq=>by simp only[if_neg (show ¬t<r by omega)]
    ·by_cases ei:t=r
     ·have:=t5 q;have h0:=hz3 r (Nat.le_refl r) Qe q hq;rw[ei];omega
     ·rw[t3 t ei];exact hz3 t h1 h2 q hq
    ·simp only[if_pos hs];have h1:=fd_eq (M2 s c) (M2 r c);have h2:=q7 (a:=M2 s c) t2;have h3:M2 s c+M2 r c* -(M2 s c).fdiv (M2 r c)=(M2 s c).fmod (M2 r c):=by rw[Int.mul_neg,Int.mul_comm];omega
     omega
   obtain⟨sO,Ca,JT,r',H,pos',k1,k2,k3,k4⟩:=ih (c+1) (r+1) _ _ hp3 gQ rs3 (by omega) v1 hI' (fun i hi q hq=>by
    rw[he1];by_cases ei:i<r
    ·simp only[if_pos ei];refine Vd hKK hK1 (R4 i hi q hq) (R4 r Qe q hq) ?_;have:=Jg (a:=M2 i c) (b:=M2 r c) (by omega);have b1:=R4 i hi c hc;have b2:=R4 r Qe c hc;rw[Int.natAbs_neg];omega
    ·simp only[if_neg ei];exact Nat.le_trans (Nat.le_trans (R4 i hi q hq) hKK) (Nat.pow_le_pow_right (by omega) (by omega)))
   refine⟨sO,Ca,JT,r',H,pos',k1,k2,k3, ?_⟩;rw[←k4,t6];have v3:=v2;rw[m8 (by omega)] at v3;exact v3
end
end Go.Proofs.Ytcopbdamkjladaa.Ev
namespace Go.Abs
theorem kg (s:ByteArray):(bytesOf s).length=s.size:=by rw[bytesOf,List.length_map,Array.length_toList];rfl
theorem Cb (s:ByteArray):fp 256 (bytesOf s):=fun x hx=>by simp only[bytesOf,List.mem_map] at hx;obtain⟨b,_,rfl⟩:=hx;have:=b.toNat_lt;omega
theorem Eg (s:ByteArray)(i:Int):En s i=idx (bytesOf s) i:=by
 cases i with
 |ofNat n=>show (s[n]?).map _=(bytesOf s)[n]?;simp only[bytesOf,List.getElem?_map,Array.getElem?_toList];rfl
 |negSucc n=>rfl
theorem AE {s t:ByteArray}(h:bytesOf s=bytesOf t):s=t:=by apply ByteArray.ext;apply Array.ext';refine(List.map_inj_right fun a b hab=> ?_).1 h;have h2:a.toNat=b.toNat:=Int.ofNat.inj hab;exact UInt8.toNat_inj.1 h2
theorem JU {xs:List Int}(h:fp 256 xs):bytesOf (strOf xs)=xs:=by
 simp only[bytesOf,strOf,List.map_map]
 conv=>rhs;rw[←List.map_id xs]
 apply List.map_congr_left;intro x hx;have:=h x hx;simp only[Function.comp,id,UInt8.toNat_ofNat'];omega
theorem OC (s:ByteArray):∀(n i:Nat) (r:List UInt8),s.size - i=n→ByteArray.toList.loop s i r=r.reverse++s.data.toList.drop i:=by
 intro n;induction n with
 |zero=>intro i r h;rw[ByteArray.toList.loop,if_neg (by omega)];rw[List.drop_eq_nil_of_le (by simp;exact(show s.data.size≤i by have:= @ByteArray.size_data s;omega))];simp
 |succ n ih=>
  intro i r h;have hi:i<s.size:=by omega
  have hi':i<s.data.toList.length:=by simp;exact(show i<s.data.size by have:= @ByteArray.size_data s;omega)
  rw[ByteArray.toList.loop,if_pos hi,ih (i+1) _ (by omega)];rw[List.drop_eq_getElem_cons hi'];simp;have:s.get! i=s.data[i]'(by simpa using hi'):=by simp only[ByteArray.get!];exact getElem!_pos _ _ _
  exact this
theorem toList_eq (s:ByteArray):s.toList=s.data.toList:=by rw[ByteArray.toList,OC s _ 0 [] rfl];simp
theorem W9 (s t:ByteArray):(s.toList==t.toList)=decide (bytesOf s=bytesOf t):=by
 rw[toList_eq,toList_eq];by_cases h:s=t
 ·subst h;simp
 ·have h1:¬bytesOf s=bytesOf t:=fun e=>h (AE e);have h2:¬s.data.toList=t.data.toList:=fun e=>h (ByteArray.ext (Array.ext' e));rw[decide_eq_false h1];simpa using h2
theorem Vf (s t:ByteArray):(s.toList==t.toList)=decide (s=t):=by rw[W9];exact decide_eq_decide.2 ⟨AE,fun h=>by rw[h]⟩
abbrev dX (n:Nat):List Int:=KQ 10 n
abbrev VX (d:List Int):Int:=val 10 d
abbrev DX (d:List Int):Prop:=fp 10 d
theorem y9 (n:Nat):DX (dX n):=Mi (B:=10) (by omega) n
theorem BA (n:Nat):VX (dX n)=n:=Mj (B:=10) (by omega) n
theorem Jh {d:List Int}(h:DX d):ke d=dX (VX d).toNat:=xu (B:=10) (by omega) d h
theorem A6 {d:List Int}(h:DX d):0≤VX d:=jz (by omega) h
theorem yu (n:Nat):((10^n:Nat):Int)=(10:Int)^n:=by rw[Int.natCast_pow];rfl
theorem OD {k n:Nat}(h:k≤n):(10:Int)^k≤10^n:=by have h1:=Nat.pow_le_pow_right (show 10>0 by omega) h;rw[←yu, ←yu];exact Int.ofNat_le.2 h1
def yv (d:List Int):List Int:=d.map (· +48)
def m9 (n:Nat):List Int:=if n=0 then [48] else (yv (dX n)).reverse
def uL (z:Int):List Int:=(if z<0 then [45] else [])++m9 z.natAbs
def c8 (z:Int):ByteArray:=strOf (uL z)
theorem q8 (n:Nat):∀c∈m9 n,48≤c∧c≤57:=by
 intro c hc;unfold m9 at hc;split at hc
 ·simp at hc;omega
 ·rw[List.mem_reverse] at hc;obtain⟨y,hy,rfl⟩:=List.mem_map.1 hc;have:=y9 n y hy;omega
theorem Qf (z:Int):fp 256 (uL z):=fun c hc=>by
 unfold uL at hc;rcases List.mem_append.1 hc with h |h
 ·split at h
  ·simp at h;omega
  ·cases h
 ·have:=q8 _ c h;omega
theorem gw (z:Int):bytesOf (c8 z)=uL z:=JU (Qf z)
theorem Ru (n:Nat):m9 n≠ []:=by
 unfold m9;split
 ·simp
 ·rename_i h;intro e;have h1:yv (dX n)=[]:=by simpa using e
  have h2:dX n=[]:=by simpa [yv] using h1
  exact h ((ov (B:=10) (by omega)).1 h2)
theorem rX (n:Nat):(m9 n).length=max 1 (dX n).length:=by
 unfold m9;split
 ·rename_i h;subst h;rw[dX,eQ];rfl
 ·rename_i h;have:(dX n).length≠0:=fun e=>h ((ov (B:=10) (by omega)).1 (List.length_eq_zero_iff.1 e));simp[yv];omega
def oV (l:List Int):Int:=l.foldl (fun x c=>10*x+(c - 48)) 0
theorem A7:∀(l:List Int) (x:Int),l.foldl (fun x c=>10*x+(c - 48)) x=x*10^l.length+oV l
 | [],x=>by simp[oV]
 |c::l,x=>by
  simp only[List.foldl_cons,oV];rw[A7 l (10*x+(c - 48)),A7 l (10*0+(c - 48)),List.length_cons,Int.pow_succ,Int.add_mul];have e1:10*x*10^l.length=x*(10^l.length*10):=by rw[Int.mul_comm 10 x,Int.mul_assoc,Int.mul_comm 10]
  rw[e1];simp only[Int.mul_zero,Int.zero_add];omega
theorem Gq (l m:List Int):oV (l++m)=oV l*10^m.length+oV m:=by rw[oV,List.foldl_append,A7];rfl
theorem q9:∀(d:List Int),oV (yv d).reverse=VX d
 | []=>rfl
 |x::d=>by simp only[yv,List.map_cons,List.reverse_cons];rw[Gq];have:=q9 d;rw[yv] at this;rw[this];simp[oV,VX,val];omega
theorem Fu (n:Nat):oV (m9 n)=n:=by
 unfold m9;split
 ·rename_i h;subst h;rfl
 ·rw[q9,BA]
theorem AF:∀(l:List Int),(∀c∈l,48≤c∧c≤57)→0≤oV l∧oV l<10^l.length
 | [],_=>by simp[oV]
 |c::l,h=>by
  have h1:=h c (by simp);have h2:=AF l (fun x hx=>h x (by simp[hx]));have h3:oV (c::l)=(c - 48)*10^l.length+oV l:=by have:=A7 l (10*0+(c - 48));simpa [oV] using this
  rw[h3,List.length_cons,Int.pow_succ];have hp:(0:Int)<10^l.length:=Int.pow_pos (by omega);have h4:0≤(c - 48)*10^l.length:=Int.mul_nonneg (by omega) (by omega);have h5:(c - 48)*10^l.length≤9*10^l.length:=Int.mul_le_mul_of_nonneg_right (by omega) (by omega);omega
def isD (c:Int):Bool:=decide (48≤c)&&decide (c≤57)
theorem Xa (c:Int):isD c=true↔48≤c∧c≤57:=by simp[isD]
theorem Tf {l:List Int}(h:∀c∈l,48≤c∧c≤57)(hne:l≠ [])(h0:l.head?=some 48→l=[48]):l=m9 (oV l).toNat:=by
 by_cases hz:l.head?=some 48
 ·rw[h0 hz];rfl
 · -- zw digits from zw lowest one on
   have hD:DX (l.map (· - 48)).reverse:=fun x hx=>by rw[List.mem_reverse] at hx;obtain⟨c,hc,rfl⟩:=List.mem_map.1 hx;have:=h c hc;omega
   have aa5:yv (l.map (· - 48)).reverse=l.reverse:=by
    simp only[yv, ←List.map_reverse,List.map_map]
    conv=>rhs;rw[←List.map_id l.reverse]
    apply List.map_congr_left;intro c _;simp only[Function.comp,id];omega
   have hv:VX (l.map (· - 48)).reverse=oV l:=by rw[←q9,aa5,List.reverse_reverse]
   have aa6:ke (l.map (· - 48)).reverse=(l.map (· - 48)).reverse:=by
    cases l with
    |nil=>exact absurd rfl hne
    |cons c l=>simp only[List.map_cons,List.reverse_cons];exact uD (fun e=>hz (by simp;omega)) _
   have hu:=P3 (B:=10) (by omega) hD aa6;rw[show val ((10:Nat):Int) (l.map (· - 48)).reverse=oV l from hv] at hu;have hnz:(oV l).toNat≠0:=fun e=>by rw[e,eQ] at hu;exact hne (by simpa using hu)
   unfold m9;rw[if_neg hnz,dX, ←hu,aa5,List.reverse_reverse]
theorem OE {m n:Nat}(h:m9 m=m9 n):m=n:=by have h1:=Fu m;rw[h,Fu n] at h1;omega
theorem Vg {x y:Int}(h:uL x=uL y):x=y:=by
 unfold uL at h;have key:∀(m n:Nat),([45]:List Int)++m9 m≠ []++m9 n:=fun m n e=>by
  have:(45:Int)∈m9 n:=by rw[List.nil_append] at e;rw[←e];simp
  have:=q8 n _ this;omega
 split at h<;>split at h
 ·have:=OE (List.append_cancel_left h);omega
 ·exact absurd h (key _ _)
 ·exact absurd h.symm (key _ _)
 ·have:=OE (List.append_cancel_left h);omega
theorem Xb {x y:Int}(h:c8 x=c8 y):x=y:=Vg (by rw[←gw, ←gw,h])
theorem Qg {x y:Int}:c8 x=c8 y↔x=y:=⟨Xb,fun h=>by rw[h]⟩
def yw (l:List Int):Bool:=l.head?==some 45
def gD (l:List Int):List Int:=if l.head?=some 45 then l.tail else l
def Qh (l:List Int):Bool:=
 (gD l).all isD&& !((gD l).isEmpty)&&(!((gD l).head?==some 48)||((gD l).length==1&& !(yw l)))
def numOf (l:List Int):Int:=if yw l then -oV (gD l) else oV (gD l)
theorem Qi {l:List Int}(h:Qh l=true):l=uL (numOf l):=by
 unfold Qh at h;simp only[Bool.and_eq_true,Bool.or_eq_true,Bool.not_eq_true',List.isEmpty_eq_false_iff] at h;obtain⟨⟨h1,h2⟩,h3⟩:=h;have hr:∀c∈gD l,48≤c∧c≤57:=fun c hc=>(Xa c).1 (List.all_eq_true.1 h1 c hc);have h0:(gD l).head?=some 48→gD l=[48]∧yw l=false:=fun e=>by
  rcases h3 with h3 |h3
  ·rw[e] at h3;cases h3
  ·refine⟨?_,h3.2⟩;cases hb:gD l with
   |nil=>exact absurd hb h2
   |cons c r=>rw[hb] at e h3;simp at e h3;rw[e,h3.1]
 have hn:=Tf hr h2 (fun e=>(h0 e).1);have hb:=AF _ hr;by_cases hm:l.head?=some 45
 ·have hm':yw l=true:=by simpa [yw] using hm
  have hnz:oV (gD l)≠0:=fun e=>by
   rw[e] at hn;have:(gD l).head?=some 48:=by rw[hn];rfl
   have:=(h0 this).2;rw[hm'] at this;cases this
  have hl:l=45::gD l:=by
   cases l with
   |nil=>cases hm
   |cons c r=>simp at hm;subst hm;simp[gD]
  unfold numOf uL;rw[if_pos hm',if_pos (by omega)]
  conv=>lhs;rw[hl,hn]
  have:(-oV (gD l)).natAbs=(oV (gD l)).toNat:=by omega
  rw[this];rfl
 ·have hm':yw l=false:=by simpa [yw] using hm
  have hl:gD l=l:=by unfold gD;rw[if_neg hm]
  unfold numOf uL;rw[hm',hl];rw[hl] at hn hb;simp only[Bool.false_eq_true,if_false];rw[if_neg (by omega),List.nil_append];have:(oV l).natAbs=(oV l).toNat:=by omega
  rw[this];exact hn
def nd (z:Int):Nat:=(m9 z.natAbs).length
theorem kh (z:Int)(k:Nat)(hk:1≤k):nd z≤k↔z.natAbs<10^k:=by unfold nd;rw[rX];have:=bg (B:=10) (by omega) k z.natAbs;simp only[dX];rw[←this];omega
theorem Qj (z:Int):nd (-z)=nd z:=by unfold nd;rw[Int.natAbs_neg]
theorem Vh (z:Int):(c8 z).size=nd z+(if z<0 then 1 else 0):=by rw[←kg,gw];unfold uL nd;split<;>simp<;>omega
end Go.Abs
namespace Go.Proofs.Ytcopbdamkjladaa.Ev
open Go.Abs Go.IntWalk
end Go.Proofs.Ytcopbdamkjladaa.Ev
namespace Go.Abs
def g9:Nat→Int→List Int
 |0,_=>[]
 |k+1,x=>x % 10::g9 k (x / 10)
theorem A8:∀k x,(g9 k x).length=k
 |0,_=>rfl
 |k+1,x=>by simp[g9,A8 k]
theorem aa7:∀k x,DX (g9 k x)
 |0,_=>fp.nil
 |k+1,x=>fp.cons (by omega) (by omega) (aa7 k _)
theorem Vi:∀k (x:Int),0≤x→x<10^k→VX (g9 k x)=x
 |0,x,h0,h1=>by simp at h1;simp[g9,VX,val];omega
 |k+1,x,h0,h1=>by rw[Int.pow_succ] at h1;have ih:=Vi k (x / 10) (by omega) (by omega);simp only[g9,VX,val] at ih ⊢;rw[ih];omega
def Cc (d:List Int):List Int:=d.flatMap (g9 9)
theorem Eh:∀d:List Int,(Cc d).length=9*d.length
 | []=>rfl
 |x::d=>by have:=Eh d;simp only[Cc,List.flatMap_cons,List.length_append,A8,List.length_cons] at this ⊢;omega
theorem Mv:∀d:List Int,DX (Cc d)
 | []=>fp.nil
 |x::d=>by simp only[Cc,List.flatMap_cons];exact(aa7 9 x).append (Mv d)
theorem KY:∀d:List Int,fp 1000000000 d→VX (Cc d)=val 1000000000 d
 | [],_=>rfl
 |x::d,h=>by have ih:=KY d h.tail;have hx:=h.head;simp only[Cc,List.flatMap_cons] at ih ⊢;rw[VX,fj,A8];have:=Vi 9 x hx.1 (by simpa using hx.2);rw[VX] at this ih;rw[this,ih,val];rfl
theorem yx (d e:List Int):yv (d++e)=yv d++yv e:=by simp[yv]
theorem mM (d:List Int):(yv d).length=d.length:=by simp[yv]
end Go.Abs
namespace Go.Proofs.Ytcopbdamkjladaa.Ev
open Go.Abs Go.IntWalk
theorem Qk {t:List Int}{t2 t3:Int}{a:Bool}{a2:List Int}:∀(m k:Nat) (x:Int) (out:List Int),m+k=9→0≤x→x<1000000000→out.length+m≤10000000000000→
  dm x t t2 t3 k out a a2=cO t t2 (IntKind.wrap .i64 (t3+1)) (out++yv (g9 m x)) a a2:=by
 intro m;induction m with
 |zero=>intro k x out hk h0 h1 ho;rw[l9,jG,aY (by omega)];simp[g9,yv]
 |succ m ih=>intro k x out hk h0 h1 ho;rw[l9,jG,aO (by omega)];simp (disch:=omega) only[fL,u32_in,u8_in,u32_quo,pL,i64_in];have pM:=fun x out=>ih (k+1) x out (by omega);simp only[Int.natCast_add,Int.natCast_one] at pM;rw[pM _ _ (by omega) (by omega) (by simp;omega)];simp only[g9,yv,List.map_cons,List.append_assoc,List.singleton_append,Int.add_comm (48:Int)]
theorem Ql {d:List Int}{a:Bool}{a2:List Int}(hd:DU d)(hl:d.length≤1000000000000):∀(m i:Nat) (out:List Int),m+i=d.length→out.length=9*i→
  cO d d.length i out a a2=cP (out++yv (Cc (d.drop i))) a a2:=by
 intro m;induction m with
 |zero=>intro i out hi ho;rw[l8,jF,aY (by omega),drop_nil (by omega)];simp[Cc,yv]
 |succ m ih=>intro i out hi ho;have hx:=hd.getD (by omega) i;rw[l8,jF,aO (by omega),oU (by omega) (by omega),Int.toNat_natCast];have hI:=Qk (t:=d) (t2:=d.length) (t3:=i) (a:=a) (a2:=a2) 9 0 (d.getD i 0) out rfl hx.1 hx.2 (by omega);simp only[Int.natCast_zero] at hI;have pM:=fun out=>ih (i+1) out (by omega);simp only[Int.natCast_add,Int.natCast_one] at pM;rw[hI,i64_in _ (by omega),pM _ (by rw[List.length_append,mM,A8];omega),drop_eq (show i<d.length by omega)];simp only[Cc,List.flatMap_cons,yx,List.append_assoc]
theorem Vj:∀(m:Nat) (M A C:List Int),M.length=m→A.length=C.length→(A++M++C).length≤1000000000000000→
  cQ A.length ((A.length:Int)+M.length - 1) (A++M++C)=some (strOf (A++M.reverse++C)):=by
 intro m;induction m using Nat.strongRecOn with
 |ind m ih=>
  intro M A C hm hac hl;rw[rL,nB];by_cases h:M.length≤1
  ·rw[aY (by omega)];have:M.reverse=M:=by
    match M,h with
    | [],_=>rfl
    | [x],_=>rfl
    |_::_::_,h=>simp at h
   rw[this]
  ·obtain⟨x,M1,rfl⟩:∃x M1,M=x::M1:=by
    cases M with
    |nil=>simp at h
    |cons x M1=>exact⟨x,M1,rfl⟩
   have hne:M1≠ []:=fun e=>by rw[e] at h;simp at h
   obtain⟨M2,y,rfl⟩:∃M2 y,M1=M2++[y]:=⟨M1.dropLast,M1.getLast hne,(List.dropLast_concat_getLast hne).symm⟩
   have hlen:(A++x::(M2++[y])++C).length=A.length+M2.length+2+C.length:=by simp;omega
   have hM:(x::(M2++[y])).length=M2.length+2:=by simp
   rw[hM];rw[hlen] at hl;have ej:((A.length:Int)+((M2.length+2:Nat):Int) - 1).toNat=A.length+M2.length+1:=by omega
   have hL:A++x::(M2++[y])++C=A++(x::(M2++(y::C))):=by simp
   rw[hL] at hlen ⊢;have gx:(A++(x::(M2++(y::C)))).getD A.length 0=x:=by simp[List.getD]
   have gy:(A++(x::(M2++(y::C)))).getD (A.length+M2.length+1) 0=y:=by
    rw[List.getD,List.getElem?_append_right (by omega)];have:A.length+M2.length+1 - A.length=M2.length+1:=by omega
    rw[this];simp
   have s1:(A++(x::(M2++(y::C)))).set A.length y=A++(y::(M2++(y::C))):=by rw[List.set_append_right _ _ (by omega)];simp
   have s2:(A++(y::(M2++(y::C)))).set (A.length+M2.length+1) x=(A++[y])++M2++(x::C):=by
    rw[List.set_append_right _ _ (by omega)];have:A.length+M2.length+1 - A.length=M2.length+1:=by omega
    rw[this,List.set_cons_succ,List.set_append_right _ _ (by omega)];simp
   have N5:(A++(y::(M2++(y::C)))).length=A.length+M2.length+2+C.length:=by simp;omega
   rw[aO (by omega)];simp (disch:=omega) only[oU,y6,ej,Int.toNat_natCast,gx,gy,s1,s2,i64_in];have:=ih M2.length (by simp at hm;omega) M2 (A++[y]) (x::C) rfl (by simp;omega) (by simp;omega);have e1:((A++[y]).length:Int)=(A.length:Int)+1:=by simp
   rw[e1] at this;have e2:(A.length:Int)+1+M2.length - 1=(A.length:Int)+((M2.length+2:Nat):Int) - 1 - 1:=by omega
   rw[e2] at this;rw[this];simp
theorem KZ (o:List Int)(hl:o.length≤1000000000000000):cQ 0 ((o.length:Int) - 1) o=some (strOf o.reverse):=by have:=Vj o.length o [] [] rfl rfl (by simpa using hl);simpa using this
theorem Qm {a:Bool}{a2:List Int}:∀(n:Nat) (ds:List Int),ds.length=n→n≤100000000000000→DX ds→VX ds≠0→
  cP (yv ds) a a2=some (strOf ((if a then [45] else [])++(yv (ke ds)).reverse)):=by
 intro n;induction n with
 |zero=>intro ds hn _ _ hv;have:ds=[]:=List.length_eq_zero_iff.1 hn;subst this;exact absurd rfl hv
 |succ n ih=>
  intro ds hn hl hd hv;have hne:ds≠ []:=fun e=>by rw[e] at hn;cases hn
  obtain⟨d',y,rfl⟩:∃d' y,ds=d'++[y]:=⟨ds.dropLast,ds.getLast hne,(List.dropLast_concat_getLast hne).symm⟩
  have hn':d'.length=n:=by simpa using hn
  have hy:=hd.right.head;rw[yx,rK,nA];have Wn:(yv d'++yv [y]).length=d'.length+1:=by simp[mM]
  have e1:(((d'.length+1:Nat):Int) - 1).toNat=d'.length:=by omega
  have g1:(yv d'++yv [y]).getD d'.length 0=y+48:=by rw[List.getD,List.getElem?_append_right (by rw[mM];omega),mM];simp[yv]
  simp (disch:=omega) only[Wn,i64_in,oU,y6,e1,g1];by_cases h0:y=0
  ·subst h0;have SV:VX d'≠0:=fun e=>hv (by rw[VX,fj,show val 10 d'=0 from e];simp[val]);have ht:(yv d'++yv [0]).take d'.length=yv d':=List.take_left' (mM _);rw[yP (by omega),W0 (by omega) (by omega) (by omega),ht,ih d' hn' (by omega) hd.left SV,vv]
  ·rw[xv (by omega),uD h0, ←yx];have ade:(yv (d'++[y])).length=d'.length+1:=by simp[mM]
   cases a with
   |true=>rw[cT,pL (by omega) (by omega)];have e5:IntKind.wrap .i64 (((yv (d'++[y])++[45]).length:Int) - 1)=((yv (d'++[y])++[45]).length:Int) - 1:=i64_in _ (by simp[mM];omega);rw[e5,KZ _ (by simp[mM];omega)];simp
   |false=>rw[cF];have:=KZ (yv (d'++[y])) (by omega);rw[ade] at this;rw[this];simp
theorem Ei {z:Int}(hz:Ln z≤10000000000):eX (W z)=some (c8 z):=by
 rw[u6,qM,XQ,Y1,Y2];by_cases h:z=0
 ·subst h;have:Ln 0=0:=(vz 0).2 rfl;rw[this,yP (by omega)];rfl
 ·have hpos:Ln z≠0:=fun e=>h ((vz z).1 e);rw[xv (by omega)];simp (disch:=omega) only[i64_in,Jd];have hd:=wh z.natAbs;have h1:=Ql (a:=decide (z<0)) (a2:=dU z.natAbs) hd (by rw[fk];omega) (dU z.natAbs).length 0 [] (by omega) rfl;simp only[Int.natCast_zero,List.drop_zero,List.nil_append,fk] at h1;have hv:VX (Cc (dU z.natAbs))=z.natAbs:=by rw[KY _ hd];exact sZ _
  rw[h1,Qm _ _ rfl (by rw[Eh,fk];omega) (Mv _) (by rw[hv];omega),Jh (Mv _),hv,Int.toNat_natCast];unfold c8 uL m9;rw[if_neg (show ¬z.natAbs=0 by omega)]
  congr 3
  by_cases h2:z<0<;>simp[h2]
def Mx (m:List (List Int))(s q:Nat):Int:=(m.getD s []).getD q 0
structure IG (ah:HW) (ai:HN) (g N:Nat) (rs:List Nat) (L:Nat→Nat) (M:Nat→Nat→Int):Prop where
 g0:g≠0
 g:ae ai g=some rs
 n:rs.length=N
 r:∀s,s<N→ae ah (rs.getD s 0)=some (y7 (L s) (M s))
 i:∀s t,s<N→t<N→s≠t→rs.getD s 0=rs.getD t 0→rs.getD s 0=0
 z:∀s,s<N→0<L s→rs.getD s 0≠0
theorem Tg {k:Nat}{f:Nat→Int}:y7 k f++[W (f k)]=y7 (k+1) f:=by unfold y7;rw[List.range_succ,List.map_append];rfl
section
variable {ah:HW}{ai:HN}{g N w:Nat}{rs:List Nat}{L L':Nat→Nat}{M:Nat→Nat→Int}
theorem IG.congr (h:IG ah ai g N rs L M)(e:∀s,s<N→L' s=L s):IG ah ai g N rs L' M:=
 ⟨h.g0,h.g,h.n,fun s hs=>by rw[e s hs];exact h.r s hs,h.i,fun s hs=>by rw[e s hs];exact h.z s hs⟩
theorem IG.gm (h:IG ah ai g N rs (fun _=>w) M):GM ah ai g N w rs M:=
 ⟨h.g0,h.g,h.n,h.r,fun hw s t hs ht e=>Classical.byContradiction fun q=>h.z s hs hw (h.i s t hs ht q e),fun hw s hs=>h.z s hs hw⟩
theorem IG.step (h:IG ah ai g N rs L M){i:Nat}(hi:i<N)(a:List Wt):
  IG (jB (ah++[some a]) (rs.getD i 0)++[some (y7 (L i+1) (M i))]) (gF ai g (rs.set i ((jB (ah++[some a]) (rs.getD i 0)).length+1))) g N (rs.set i ((jB (ah++[some a]) (rs.getD i 0)).length+1)) (fun s=>if s=i then L i+1 else L s) M:=by
 have hn:=h.n;have hlen:(jB (ah++[some a]) (rs.getD i 0)).length=ah.length+1:=by rw[S7,List.length_append];rfl
 have o7:∀s,s<N→s≠i→(rs.set i ((jB (ah++[some a]) (rs.getD i 0)).length+1)).getD s 0=rs.getD s 0:=fun s hs e=>by rw[m7,if_neg (fun q=>e q.1.symm)]
 have hold:(rs.set i ((jB (ah++[some a]) (rs.getD i 0)).length+1)).getD i 0=(jB (ah++[some a]) (rs.getD i 0)).length+1:=by rw[m7,if_pos ⟨rfl,by omega⟩]
 refine⟨h.g0,A5 h.g h.g0,by rw[List.length_set];exact hn,fun s hs=> ?_,fun s t hs ht hne e=> ?_,fun s hs hp=> ?_⟩
 ·by_cases e:s=i
  ·subst e;rw[hold,if_pos rfl];exact Je
  ·rw[o7 s hs e,if_neg e];exact AD (P8 (AD (h.r s hs)) fun q=>h.i s i hs hi e q)
 ·have b1:=sS (h.r s hs);have b2:=sS (h.r t ht);by_cases e1:s=i
  ·subst e1;rw[hold,o7 t ht (fun q=>hne q.symm)] at e;omega
  ·rw[o7 s hs e1] at e ⊢;by_cases e2:t=i
   ·subst e2;rw[hold] at e;omega
   ·rw[o7 t ht e2] at e;exact h.i s t hs ht hne e
 ·by_cases e:s=i
  ·subst e;rw[hold];omega
  ·simp only[if_neg e] at hp;rw[o7 s hs e];exact h.z s hs hp
theorem Zf {m:List (List Int)}(hN:m.length=N)(hN2:N≤1000)(hw:w≤1000){i:Nat}(hi:i<N)(hrow:(m.getD i []).length=w)(hb:∀q,q<w→ -1000000≤Mx m i q∧Mx m i q≤1000000):∀(d k:Nat) (ah:HW) (ai:HN) (rs:List Nat),d+k=w→IG ah ai g N rs (fun s=>if s<i then w else if s=i then k else 0) (Mx m)→
  ∃df gQ rs',IG df gQ g N rs' (fun s=>if s<i+1 then w else 0) (Mx m)∧ed g i m (N:Int) i (m.getD i []) w k ah ai=dD g m (N:Int) (i+1:Nat) df gQ:=by
 intro d;induction d with
 |zero=>
  intro k ah ai rs hd h;obtain rfl:k=w:=by omega
  refine⟨ah,ai,rs,h.congr fun s hs=> ?_,by rw[oc,lI,aY (by omega),m8 (by omega)]⟩;by_cases e1:s<i
  ·rw[if_pos e1,if_pos (by omega)]
  ·rw[if_neg e1];by_cases e2:s=i
   ·rw[if_pos e2,if_pos (by omega)]
   ·rw[if_neg e2,if_neg (by omega)]
 |succ d ih=>
  intro k ah ai rs hd h;have hn:=h.n;have hk:k<w:=by omega
  have e1:=h.r i hi;simp only[if_neg (show ¬i<i by omega),if_true] at e1;have hst:=h.step hi [W (Mx m i k)];simp only[if_neg (show ¬i<i by omega),if_true] at hst;obtain⟨df,gQ,rs',k1,k2⟩:=ih (k+1) _ _ _ (by omega) (hst.congr fun s hs=>by
   by_cases e1:s<i
   ·rw[if_pos e1,if_neg (by omega),if_pos e1]
   ·rw[if_neg e1];by_cases e2:s=i
    ·rw[if_pos e2,if_pos e2]
    ·simp only[if_neg e1,if_neg e2])
  refine⟨df,gQ,rs',k1, ?_⟩;have Zq:=hb k hk;have e2:ae (ah++[some [W (Mx m i k)]]) (rs.getD i 0)=some (y7 k (Mx m i)):=AD e1;have e3:ae (ah++[some [W (Mx m i k)]]) (ah.length+1)=some [W (Mx m i k)]:=Je;rw[←k2,oc,lI,aO (by omega),gJ 0 (by omega),h.g];simp only[bS];rw[vA 0 (by omega),show (m.getD i []).getD k 0=Mx m i k from rfl,Fq (by omega) (by omega),bS,s7,e2,bS,e3,bS,pL (by omega) (by rw[dC];show (k+1)*32≤_;omega)];rw[show List.isEmpty [W (Mx m i k)]=false from rfl,cF];rw[vA 0 (by omega),Int.toNat_natCast,m8 (by omega),Tg]
theorem Zg {m:List (List Int)}(hN:m.length=N)(hN2:N≤1000)(hw:w≤1000)(hrow:∀i,i<N→(m.getD i []).length=w)(hb:∀i,i<N→∀q,q<w→ -1000000≤Mx m i q∧Mx m i q≤1000000):∀(d i:Nat) (ah:HW) (ai:HN) (rs:List Nat),d+i=N→IG ah ai g N rs (fun s=>if s<i then w else 0) (Mx m)→
  ∃df gQ rs',GM df gQ g N w rs' (Mx m)∧dD g m (N:Int) i ah ai=some (g,(df,gQ)):=by
 intro d;induction d with
 |zero=>
  intro i ah ai rs hd h;obtain rfl:i=N:=by omega
  exact⟨ah,ai,rs,(h.congr (L':=fun _=>w) fun s hs=>(if_pos hs).symm).gm,by rw[ob,lG,aY (by omega)]⟩
 |succ d ih=>
  intro i ah ai rs hd h;have hi:i<N:=by omega
  obtain⟨df,gQ,rs',k1,k2⟩:=Zf hN hN2 hw hi (hrow i hi) (hb i hi) w 0 ah ai rs (by omega) (h.congr fun s hs=>by
   by_cases e1:s<i
   ·rw[if_pos e1];simp only[if_pos e1]
   ·rw[if_neg e1];simp only[if_neg e1,ite_self])
  obtain⟨sO,Ca,JT,j1,j2⟩:=ih (i+1) df gQ rs' (by omega) k1;refine⟨sO,Ca,JT,j1, ?_⟩;rw[←j2, ←k2,ob,lG,aO (by omega),gJ [] (by omega),hrow i hi];rfl
theorem Gr {m:List (List Int)}(hN:m.length=N)(hN2:N≤1000)(hw:w≤1000)(hrow:∀i,i<N→(m.getD i []).length=w)(hb:∀i,i<N→∀q,q<w→ -1000000≤Mx m i q∧Mx m i q≤1000000)(ah:HW)(ai:HN):
  ∃df gQ rs',GM df gQ (ai.length+1) N w rs' (Mx m)∧cY m ah ai=some (ai.length+1,(df,gQ)):=by
 obtain⟨df,gQ,rs',k1,k2⟩:=Zg (g:=ai.length+1) hN hN2 hw hrow hb N 0 ah (ai++[some (List.replicate N 0)]) (List.replicate N 0) (by omega) ⟨by omega,Je,by simp,fun s hs=>by
   have:(List.replicate N 0).getD s 0=0:=by simp[List.getD,hs]
   rw[this];rfl,fun s t hs ht hne e=>by simp[List.getD,hs],fun s hs hp=>by simp at hp⟩
 refine⟨df,gQ,rs',k1, ?_⟩;rw[yF,tF,hN,Jd (by omega) (by omega) (by omega),Int.toNat_natCast];exact k2
end
theorem Xc {row:List Int}(hl:row.length≤1000):∃b,ky row=some b∧jS row=some b∧(b=true→∀q,q<row.length→ -1000000≤row.getD q 0∧row.getD q 0≤1000000):=by
 have key:∀(d i:Nat),d+i=row.length→∃b,fH row (row.length:Int) i=some b∧dP row i=some b∧(b=true→∀q,i≤q→q<row.length→ -1000000≤row.getD q 0∧row.getD q 0≤1000000):=by
  intro d;induction d with
  |zero=>intro i hd;exact⟨true,by rw[jZ,iH,aY (by omega)],by rw[gP,fy,aY (by omega)],fun _ q h1 h2=>by omega⟩
  |succ d ih=>
   intro i hd;by_cases h1:row.getD i 0< -1000000
   ·exact⟨false,by rw[jZ,iH,aO (by omega),gJ 0 (by omega),aO h1],by rw[gP,fy,aO (by omega),gJ 0 (by omega),aO h1],fun h=>by cases h⟩
   ·by_cases h2:row.getD i 0>1000000
    ·exact⟨false,by rw[jZ,iH,aO (by omega),gJ 0 (by omega),aY h1,lR h2],by rw[gP,fy,aO (by omega),gJ 0 (by omega),aY h1,gJ 0 (by omega),lR h2],fun h=>by cases h⟩
    ·obtain⟨b,k1,k2,k3⟩:=ih (i+1) (by omega);refine⟨b,by rw[jZ,iH,aO (by omega),gJ 0 (by omega),aY h1,lS h2,m8 (by omega),k1],by rw[gP,fy,aO (by omega),gJ 0 (by omega),aY h1,gJ 0 (by omega),lS h2,m8 (by omega),k2],fun h q g1 g2=> ?_⟩;by_cases e:q=i
     ·subst e;omega
     ·exact k3 h q (by omega) g2
 obtain⟨b,k1,k2,k3⟩:=key row.length 0 (by omega);exact⟨b,by rw[BY,yi];exact k1,by rw[Bu,uv];exact k2,fun h q hq=>k3 h q (by omega) hq⟩
structure OF (m:List (List Int)) (w:Nat):Prop where
 n:m.length≤64
 wl:w≤64
 row:∀i,i<m.length→(m.getD i []).length=w
 b:∀i,i<m.length→∀q,q<w→ -1000000≤Mx m i q∧Mx m i q≤1000000
 e:m.length=0→w=0
theorem Vk {m:List (List Int)}(hn:m.length≤64)(hr:∀i,i<m.length→(m.getD i []).length≤64):∀(d i:Nat),d+i=m.length→(∃e,e≠0∧cH m (m.length:Int) i=some e∧bA m i=some e)∨(cH m (m.length:Int) i=some 0∧bA m i=some 0∧∀s,i≤s→s<m.length→∀q,q<(m.getD s []).length→ -1000000≤Mx m s q∧Mx m s q≤1000000):=by
 intro d;induction d with
 |zero=>intro i hd;exact .inr ⟨by rw[lM,jY,aY (by omega)],by rw[kP,iA,aY (by omega)],fun s h1 h2=>by omega⟩
 |succ d ih=>
  intro i hd;obtain⟨b,f1,f2,f3⟩:=Xc (row:=m.getD i []) (by have:=hr i (by omega);omega);cases b with
  |false=>exact .inl ⟨1,by omega,by rw[lM,jY,aO (by omega),gJ [] (by omega),f1,bS,show (!false)=true from rfl,cT],by rw[kP,iA,aO (by omega),gJ [] (by omega),f2,bS,show (!false)=true from rfl,cT]⟩
  |true=>
   have e1:cH m (m.length:Int) i=cH m (m.length:Int) (i+1:Nat):=by rw[lM,jY,aO (by omega),gJ [] (by omega),f1,bS,show (!true)=false from rfl,cF,m8 (by omega)]
   have e2:bA m i=bA m (i+1:Nat):=by rw[kP,iA,aO (by omega),gJ [] (by omega),f2,bS,show (!true)=false from rfl,cF,m8 (by omega)]
   rw[e1,e2];rcases ih (i+1) (by omega) with h | ⟨h1,h2,h3⟩
   ·exact .inl h
   ·refine .inr ⟨h1,h2,fun s g1 g2 q hq=> ?_⟩;by_cases e:s=i
    ·subst e;exact f3 rfl q hq
    ·exact h3 s (by omega) g2 q hq
theorem Vl {m:List (List Int)}(hn:m.length≤64):∀(d i:Nat),d+i=m.length→(∃e,e≠0∧cG m m (m.length:Int) i=some e∧bz m i=some e)∨(cG m m (m.length:Int) i=cH m (m.length:Int) 0∧bz m i=bA m 0∧∀s,i≤s→s<m.length→(m.getD s []).length=(m.getD 0 []).length):=by
 intro d;induction d with
 |zero=>intro i hd;exact .inr ⟨by rw[lL,jX,aY (by omega)],by rw[kO,iz,aY (by omega)],fun s h1 h2=>by omega⟩
 |succ d ih=>
  intro i hd;have i0:∀{β:Type} {f:List Int→Option β},(idx m (0:Int)).bind f=f (m.getD 0 []):=fun {β f}=>gJ (k:=0) [] (by omega);by_cases hl:(m.getD i []).length=(m.getD 0 []).length
  ·have e1:cG m m (m.length:Int) i=cG m m (m.length:Int) (i+1:Nat):=by rw[lL,jX,aO (by omega),gJ [] (by omega),i0,pK (by omega),m8 (by omega)]
   have e2:bz m i=bz m (i+1:Nat):=by rw[kO,iz,aO (by omega),gJ [] (by omega),i0,pK (by omega),m8 (by omega)]
   rw[e1,e2];rcases ih (i+1) (by omega) with h | ⟨h1,h2,h3⟩
   ·exact .inl h
   ·refine .inr ⟨h1,h2,fun s g1 g2=> ?_⟩;by_cases e:s=i
    ·subst e;exact hl
    ·exact h3 s (by omega) g2
  ·exact .inl ⟨10,by omega,by rw[lL,jX,aO (by omega),gJ [] (by omega),i0,vw (by omega)],by rw[kO,iz,aO (by omega),gJ [] (by omega),i0,vw (by omega)]⟩
theorem Vm {m:List (List Int)}(hn:m.length≤64):∀(d i:Nat),d+i=m.length→(∃e,e≠0∧dc m m (m.length:Int) i=some e∧bM m i=some e)∨(dc m m (m.length:Int) i=cG m m (m.length:Int) 0∧bM m i=bz m 0∧∀s,i≤s→s<m.length→(m.getD s []).length≤64):=by
 intro d;induction d with
 |zero=>intro i hd;exact .inr ⟨by rw[lK,jW,aY (by omega)],by rw[kN,iy,aY (by omega)],fun s h1 h2=>by omega⟩
 |succ d ih=>
  intro i hd;by_cases hl:(m.getD i []).length≤64
  ·have e1:dc m m (m.length:Int) i=dc m m (m.length:Int) (i+1:Nat):=by rw[lK,jW,aO (by omega),gJ [] (by omega),lS (by omega),m8 (by omega)]
   have e2:bM m i=bM m (i+1:Nat):=by rw[kN,iy,aO (by omega),gJ [] (by omega),lS (by omega),m8 (by omega)]
   rw[e1,e2];rcases ih (i+1) (by omega) with h | ⟨h1,h2,h3⟩
   ·exact .inl h
   ·refine .inr ⟨h1,h2,fun s g1 g2=> ?_⟩;by_cases e:s=i
    ·subst e;exact hl
    ·exact h3 s (by omega) g2
  ·exact .inl ⟨3,by omega,by rw[lK,jW,aO (by omega),gJ [] (by omega),lR (by omega)],by rw[kN,iy,aO (by omega),gJ [] (by omega),lR (by omega)]⟩
theorem Vo (m:List (List Int)):(∃e,e≠0∧gT m=some e∧g8 m=some e)∨(gT m=some 0∧g8 m=some 0∧∃w,OF m w):=by
 rw[Ab,vT,Bt,ur];by_cases hn:m.length≤64
 ·rw[lS (by omega),lS (by omega)];rcases Vm hn m.length 0 (by omega) with h | ⟨a1,a2,a3⟩
  ·exact .inl h
  ·rw[Int.natCast_zero] at a1 a2;rw[a1,a2];rcases Vl hn m.length 0 (by omega) with h | ⟨b1,b2,b3⟩
   ·exact .inl h
   ·rw[Int.natCast_zero] at b1 b2;rw[b1,b2];rcases Vk hn (fun i hi=>a3 i (by omega) hi) m.length 0 (by omega) with h | ⟨c1,c2,c3⟩
    ·exact .inl h
    ·rw[Int.natCast_zero] at c1 c2;refine .inr ⟨c1,c2,(m.getD 0 []).length,hn, ?_,fun i hi=>b3 i (by omega) hi,fun i hi q hq=>c3 i (by omega) hi q (by rw[b3 i (by omega) hi];exact hq),fun h0=> ?_⟩
     ·by_cases h0:m.length=0
      ·have:m=[]:=List.length_eq_zero_iff.1 h0;rw[this];simp[List.getD]
      ·exact a3 0 (by omega) (by omega)
     ·have:m=[]:=List.length_eq_zero_iff.1 h0;rw[this];simp[List.getD]
 ·exact .inl ⟨3,by omega,by rw[lR (by omega)],by rw[lR (by omega)]⟩
theorem Ji {m:List (List Int)}{w:Nat}(h:OF m w):dI m=some (w:Int):=by
 rw[Bs,uq];by_cases h0:m.length=0
 ·rw[yP (by omega),h.e h0];rfl
 ·rw[xv (by omega),show (idx m (0:Int)).bind (fun v0:List Int=>some (v0.length:Int))=some ((m.getD 0 []).length:Int) from gJ (k:=0) [] (by omega),h.row 0 (by omega)]
theorem Vp (m:List (List Int)):(∃e,e≠0∧cI m=some e∧eM m=some e)∨(cI m=some 0∧eM m=some 0∧∃w,OF m w∧w≤8∧m.length≤8):=by
 rw[sG,oi,Br,uo];rcases Vo m with ⟨e,h0,h1,h2⟩ | ⟨h1,h2,w,hG⟩
 ·exact .inl ⟨e,h0,by rw[h1,bS,vw h0],by rw[h2,bS,xv h0]⟩
 ·rw[h1,h2,bS,bS,pK rfl,yP rfl,Ji hG];by_cases hn:m.length≤8
  ·rw[lS (by omega),lS (by omega),bS];have agI:=hG.wl;obtain⟨df,gQ,rs',k1,k2⟩:=Gr (w:=w) rfl (by omega) (by omega) hG.row hG.b ([]:HW) ([]:HN);rw[k2,bS,Ro k1 hG.e,bS];simp only[];by_cases hw:w≤8
   ·exact .inr ⟨by rw[lS (by omega)],by rw[lS (by omega)],w,hG,hw,hn⟩
   ·exact .inl ⟨3,by omega,by rw[lR (by omega)],by rw[lR (by omega)]⟩
  ·exact .inl ⟨3,by omega,by rw[lR (by omega)],by rw[lR (by omega)]⟩
def fv (w:Nat)(f:Nat→Int):List ByteArray:=(List.range w).map fun q=>c8 (f q)
def jq (N w:Nat)(M:Nat→Nat→Int):List (List ByteArray):=(List.range N).map fun s=>fv w (M s)
theorem gK {w:Nat}{f:Nat→Int}:(fv w f).length=w:=by simp[fv]
theorem Fv {k:Nat}{f:Nat→Int}:fv k f++[c8 (f k)]=fv (k+1) f:=by unfold fv;rw[List.range_succ,List.map_append];rfl
theorem fz {N w:Nat}{M:Nat→Nat→Int}:(jq N w M).length=N:=by simp[jq]
theorem na {w q:Nat}{f:Nat→Int}{d:ByteArray}(h:q<w):(fv w f).getD q d=c8 (f q):=by simp[fv,List.getD,h]
theorem th {N w s:Nat}{M:Nat→Nat→Int}{d:List ByteArray}(h:s<N):(jq N w M).getD s d=fv w (M s):=by simp[jq,List.getD,h]
theorem Jj {w:Nat}{f f':Nat→Int}(h:∀q,q<w→f q=f' q):fv w f=fv w f':=by unfold fv;exact List.map_congr_left fun q hq=>by rw[h q (List.mem_range.1 hq)]
theorem uF {N w:Nat}{M M':Nat→Nat→Int}(h:∀s,s<N→∀q,q<w→M s q=M' s q):jq N w M=jq N w M':=by unfold jq;exact List.map_congr_left fun s hs=>Jj (h s (List.mem_range.1 hs))
theorem Vq {ah:HW}{l w:Nat}{f:Nat→Int}(hw:w≤1000)(h:ae ah l=some (y7 w f))(hb:∀q,q<w→Ln (f q)≤1000000000):ig l ah=some (fv w f):=by
 have key:∀(d i:Nat),d+i=w→dn l (w:Int) i (fv i f) ah=some (fv w f):=by
  intro d;induction d with
  |zero=>
   intro i hd;obtain rfl:i=w:=by omega
   rw[mc,jJ,aY (by omega)]
  |succ d ih=>
   intro i hd;have hi:i<w:=by omega
   have hbi:=hb i hi;rw[mc,jJ,aO (by omega),h];simp only[bS];rw[vA wz (by rw[dC];exact hi),fF hi,s7,Ei (by omega),bS,pL (by omega) (by rw[gK];omega),m8 (by omega),Fv];exact ih (i+1) (by omega)
 rw[va,qY,h,bS,dC];exact key w 0 (by omega)
theorem Vr {ah:HW}{ai:HN}{g N w:Nat}{rs:List Nat}{M:Nat→Nat→Int}(hN:N≤1000)(hw:w≤1000)(h:GM ah ai g N w rs M)(hb:∀s,s<N→∀q,q<w→Ln (M s q)≤1000000000):kl g ah ai=some (jq N w M):=by
 have hn:=h.n;have key:∀(d i:Nat) (out:List (List ByteArray)),d+i=N→out.length=N→(∀s,s<i→out.getD s []=fv w (M s))→eW g (N:Int) i out ah ai=some (jq N w M):=by
  intro d;induction d with
  |zero=>
   intro i out hd hl ho;obtain rfl:i=N:=by omega
   rw[pq,mX,aY (by omega)]
   congr 1
   apply List.ext_getElem (by rw[hl,fz]);intro s h1 h2;have e:=ho s (by omega);have e2:=th (N:=i) (w:=w) (M:=M) (d:=[]) (show s<i by omega);simp only[List.getD,List.getElem?_eq_getElem h1,List.getElem?_eq_getElem h2,Option.getD_some] at e e2;rw[e,e2]
  |succ d ih=>
   intro i out hd hl ho;have hi:i<N:=by omega
   rw[pq,mX,aO (by omega),h.g];simp only[bS];rw[vA 0 (by omega),Vq hw (h.r i hi) (hb i hi),bS,vA [] (by omega),m8 (by omega),Int.toNat_natCast];refine ih (i+1) _ (by omega) (by rw[List.length_set];exact hl) fun s hs=> ?_;rw[m7];by_cases e:i=s
   ·subst e;rw[if_pos ⟨rfl,by omega⟩]
   ·rw[if_neg (fun q=>e q.1)];exact ho s (by omega)
 rw[Ac,vU,h.g];simp only[bS];rw[hn,Jd (by omega) (by omega) (by omega),Int.toNat_natCast];exact key N 0 _ (by omega) (by simp) fun s hs=>by omega
theorem Vs {z:Int}{k:Nat}(h:nd z≤k):Ln z≤k / 9+1:=by rw[tg];have h1:=(kh z (k+1) (by omega)).1 (by omega);have h2:10^(k+1)≤10^(9*(k / 9+1)):=Nat.pow_le_pow_right (by omega) (by omega);rw[Nat.pow_mul] at h2;exact Nat.lt_of_lt_of_le h1 h2
def Sm (z:Int):Prop:=nd z≤1000
instance (z:Int):Decidable (Sm z):=inferInstanceAs (Decidable (nd z≤1000))
theorem Sm.Ln {z:Int}(h:Sm z):Ln z≤112:=Vs h
theorem Qn (z:Int):Sm z↔z.natAbs<10^1000:=kh z 1000 (by omega)
theorem Sm.mono {x y:Int}(h:Sm y)(hxy:x.natAbs≤y.natAbs):Sm x:=(Qn x).2 (Nat.lt_of_le_of_lt hxy ((Qn y).1 h))
theorem Sm.neg {x:Int}(h:Sm x):Sm (-x):=h.mono (by omega)
def Gs (s:ByteArray):Prop:=s.size≤140737488355328
section
variable {a b:ByteArray}{x y:Int}(ha:Gs a)(hb:Gs b)(hx:Sm x)(hy:Sm y)
include hx hy
end
section
variable {x:Int}(hx:Sm x)
include hx
end
section
variable {a b:ByteArray}(ha:Gs a)(hb:Gs b)
include ha
include hb
end
theorem Qo:∀(n:Nat) (d:List Int),d.length=n→n≤1000000000000000→eG d=some (ke d):=by
 intro n;induction n with
 |zero=>intro d hd hn;have:d=[]:=List.length_eq_zero_iff.1 hd;subst this;rw[p8,mn];rfl
 |succ n ih=>
  intro d hd hn;obtain⟨d',y,rfl⟩:∃d' y,d=d'++[y]:=by
   have hne:d≠ []:=fun e=>by rw[e] at hd;cases hd
   exact⟨d.dropLast,d.getLast hne,(List.dropLast_concat_getLast hne).symm⟩
  have hl:d'.length=n:=by simpa using hd
  have hy:(d'++[y]).getD d'.length 0=y:=by simp[List.getD]
  have ht:(d'++[y]).take d'.length=d':=by simp
  rw[p8,mn];simp only[List.length_append,List.length_cons,List.length_nil];simp (disch:=omega) only[i64_in,lR,W0,aaI];rw[kd (by omega) (by simp;omega)];have e:(((d'.length+(0+1):Nat):Int) - 1).toNat=d'.length:=by omega
  rw[e,hy,ht,bS];by_cases h0:y=0
  ·subst h0;rw[vv,ih d' hl (by omega),yP rfl]
  ·rw[xv h0,uD h0]
theorem AG {d:List Int}(h:d.length≤1000000000000000):bt d=some (ke d):=by rw[CE,vj];exact Qo _ d rfl h
theorem Qp {d:List Int}(hd:DX d)(hl:d.length≤100000000000000):∀(k:Nat) (out:List Int),k≤d.length→out.length+k≤1000000000000000 / 10→
  eE d ((k:Int) - 1) out=some (strOf (out++(yv (d.take k)).reverse)):=by
 intro k;induction k with
 |zero=>intro out hk ho;rw[p6,mh,Gn (by omega)];simp[yv]
 |succ k ih=>
  intro out hk ho;have hx:=hd.getD (by omega) k;have e:((k+1:Nat):Int) - 1=k:=by omega
  rw[p6,mh,e,Jc (by omega),oU (by omega) (by omega),Int.toNat_natCast];simp (disch:=omega) only[i64_in,u8_in,pL];rw[ih _ (by omega) (by simp;omega),eH (show k<d.length by omega),yx];simp[yv,Int.add_comm]
theorem rY {minus:Bool}{d:List Int}(hd:DX d)(hl:d.length≤10000000000000):aw minus d=some (c8 (if minus then -VX d else VX d)):=by
 obtain⟨v,hv⟩:=Int.eq_ofNat_of_zero_le (A6 hd);rw[CC,vh,AG (by omega),bS,Jh hd,hv,Int.toNat_natCast];have hlen:=yr d;rw[Jh hd,hv,Int.toNat_natCast] at hlen;by_cases h0:v=0
 ·subst h0;rw[show dX 0=[] from eQ _,yP (by rfl)];cases minus<;>rfl
 ·have hne:(dX v).length≠0:=fun e=>h0 ((ov (B:=10) (by omega)).1 (List.length_eq_zero_iff.1 e));rw[xv (by omega)];have hw:=Qp (y9 v) (by omega) (dX v).length;have e5:IntKind.wrap .i64 (((dX v).length:Int) - 1)=((dX v).length:Int) - 1:=i64_in _ (by omega);cases minus with
  |true=>
   rw[cT,pL (by omega) (by omega),e5,hw _ (Nat.le_refl _) (by simp;omega),List.take_length];unfold c8 uL m9;simp only[if_true];rw[if_pos (by omega),if_neg (by omega)];have:(-(v:Int)).natAbs=v:=by omega
   rw[this];simp
  |false=>rw[cF,e5,hw _ (Nat.le_refl _) (by simp;omega),List.take_length];unfold c8 uL m9;simp only[Bool.false_eq_true,if_false];rw[if_neg (by omega),if_neg (by omega)];simp
def Nd (k:Nat)(z:Int):Prop:=z.natAbs<10^k
theorem Nd.mono {k l:Nat}{z:Int}(h:Nd k z)(hkl:k≤l):Nd l z:=Nat.lt_of_lt_of_le h (Nat.pow_le_pow_right (by omega) hkl)
theorem Nd.add {k l:Nat}{x y:Int}(hx:Nd k x)(hy:Nd l y):Nd (max k l+1) (x+y):=by
 have h1:=hx.mono (Nat.le_max_left k l);have h2:=hy.mono (Nat.le_max_right k l);unfold Nd at*
 rw[Nat.pow_succ];omega
theorem Nd.neg {k:Nat}{x:Int}(hx:Nd k x):Nd k (-x):=by unfold Nd at*;omega
theorem Nd.sub {k l:Nat}{x y:Int}(hx:Nd k x)(hy:Nd l y):Nd (max k l+1) (x - y):=hx.add hy.neg
theorem Nd.mul {k l:Nat}{x y:Int}(hx:Nd k x)(hy:Nd l y):Nd (k+l) (x*y):=by
 unfold Nd at*
 rw[Int.natAbs_mul,Nat.pow_add];exact Nat.mul_lt_mul'' hx hy
theorem Nd.Sm {k:Nat}{x:Int}(hx:Nd k x)(hk:k≤1000):Sm x:=(Qn x).2 (hx.mono hk)
theorem Nd.le {k:Nat}{x y:Int}(hy:Nd k y)(h:x.natAbs≤y.natAbs):Nd k x:=Nat.lt_of_le_of_lt h hy
theorem Rv (x y:Int):((c8 x).toList==(c8 y).toList)=decide (x=y):=by rw[Vf];exact decide_eq_decide.2 Qg
theorem Fw {x y:Int}(h:x=y):((c8 x).toList==(c8 y).toList)=true:=by rw[Rv];exact decide_eq_true h
theorem xy {x y:Int}(h:¬x=y):((c8 x).toList==(c8 y).toList)=false:=by rw[Rv];exact decide_eq_false h
theorem Qq {l:List Nat}{z:Int}(h:Qh (bytesOf (bs l))=true)(hz:numOf (bytesOf (bs l))=z):bs l=c8 z:=
 AE (by rw[gw, ←hz];exact Qi h)
theorem Mw:bs [48]=c8 0:=Qq rfl rfl
theorem Zh:bs [49]=c8 1:=Qq rfl rfl
theorem Vt:bs [45,49]=c8 (-1):=Qq rfl rfl
section
variable {x y:Int}(hx:Sm x)(hy:Sm y)
include hx hy
end
end Go.Proofs.Ytcopbdamkjladaa.Ev
namespace Go.Abs
def Fx (l:List Int):List Int:=((l.filter (fun c=>c != 45)).reverse).map (· - 48)
theorem Gt (l m:List Int):Fx (l++m)=Fx m++Fx l:=by simp[Fx]
theorem aa8 {c:Int}(h:¬c=45):([c]:List Int).filter (fun c=>c != 45)=[c]:=by simp[List.filter_cons,h]
theorem aa9 {c:Int}(h:¬c=45):Fx [c]=[c - 48]:=by simp[Fx,List.filter_cons,h]
theorem vB (n:Nat):(m9 n).filter (fun c=>c != 45)=m9 n:=by apply List.filter_eq_self.2;intro c hc;have:=q8 n c hc;simp;omega
theorem Th (n:Nat):ke (Fx (m9 n))=dX n:=by
 unfold Fx;rw[vB];unfold m9;split
 ·rename_i h;subst h;rw[dX,eQ];rfl
 ·rw[List.reverse_reverse];have:(yv (dX n)).map (· - 48)=dX n:=by
   simp only[yv,List.map_map]
   conv=>rhs;rw[←List.map_id (dX n)]
   apply List.map_congr_left;intro c _;simp only[Function.comp,id];omega
  rw[this];exact Mk (B:=10) (by omega) n
theorem Ti (z:Int):ke (Fx (uL z))=dX z.natAbs:=by
 unfold uL;rw[Gt];have:Fx (if z<0 then [45] else [])=[]:=by split<;>rfl
 rw[this,List.append_nil,Th]
theorem Ej (z:Int):(dX z.natAbs).length≤nd z:=by unfold nd;rw[rX];omega
theorem K0 {m n:Nat}(h:m≤n):(dX m).length≤(dX n).length:=by have l2:=(bg (B:=10) (by omega) (dX n).length n).1 (Nat.le_refl _);exact(bg (B:=10) (by omega) (dX n).length m).2 (by omega)
theorem Rw {x y:Int}(h:x.natAbs≤y.natAbs):nd x≤nd y:=by unfold nd;rw[rX,rX];have:=K0 h;omega
theorem Zi (z:Int):1≤nd z:=by unfold nd;rw[rX];omega
theorem Vu {x:Int}(h:x.natAbs<10):nd x=1:=by have h1:=(kh x 1 (by omega)).2 (by omega);have:=Zi x;omega
def Bd (z:Int):Prop:=nd z≤10000000
end Go.Abs
namespace Go.Proofs.Ytcopbdamkjladaa.Ev
open Go.Abs Go.IntWalk
theorem My {s:ByteArray}{minus:Bool}(hs:s.size≤100000000000):∀(k:Nat) (d:List Int),k≤s.size→d.length+k≤1000000000000→
  dy s minus ((k:Int) - 1) d=some (minus,ke (d++Fx ((bytesOf s).take k))):=by
 intro k;induction k with
 |zero=>intro d hk hd;rw[oM,kM,Gn (by omega),AG (by omega),bS];simp[Fx]
 |succ k ih=>
  intro d hk hd;have hb:=(Cb s).getD (by omega) k;have hl:=kg s;have e:((k+1:Nat):Int) - 1=k:=by omega
  rw[oM,kM,e,Jc (by omega),Eg,kd (by omega) (by omega),bS,Int.toNat_natCast,eH (show k<(bytesOf s).length by omega),Gt];by_cases h:(bytesOf s).getD k 0=45
  ·rw[pK h,i64_in _ (by omega),ih d (by omega) (by omega)];have:Fx [(bytesOf s).getD k 0]=[]:=by rw[h];rfl
   rw[this,List.nil_append]
  ·rw[vw h,bS];simp (disch:=omega) only[i64_in,pL];rw[ih _ (by omega) (by simp;omega)];rw[aa9 h,List.append_assoc]
theorem Jk (z:Int):(c8 z).size>0∧(bytesOf (c8 z)).getD 0 0=(if z<0 then 45 else (m9 z.natAbs).getD 0 0):=by
 have hn:=Ru z.natAbs;constructor
 ·rw[←kg,gw];unfold uL;have:0<(m9 z.natAbs).length:=List.length_pos_iff.2 hn;simp;omega
 ·rw[gw];unfold uL;split<;>rfl
theorem Qr (n:Nat):(m9 n).getD 0 0≠45:=by
 have hn:=Ru n;have h1:=q8 n;cases h:m9 n with
 |nil=>exact absurd h hn
 |cons c r=>rw[h] at h1;have:=h1 c (by simp);simp;omega
theorem K1 (z:Int):((bytesOf (c8 z)).getD 0 0==45)=decide (z<0):=by
 rw[(Jk z).2];by_cases h:z<0
 ·rw[if_pos h,decide_eq_true h];rfl
 ·rw[if_neg h,decide_eq_false h];exact KP (Qr _)
theorem AH (z:Int):(c8 z).size≤nd z+1:=by rw[Vh];split<;>omega
theorem kR {z:Int}(hz:Bd z):ay (c8 z)=some (decide (z<0),dX z.natAbs):=by have h1:=(Jk z).1;have hsz:=AH z;unfold Bd at hz;have hl:=kg (c8 z);rw[Ah,sJ,lR (by omega),Eg,kd (by omega) (by omega),bS];have e0:(0:Int).toNat=0:=rfl;rw[e0,K1,i64_in _ (by omega),My (by omega) _ [] (Nat.le_refl _) (by simp;omega),List.nil_append, ←hl,List.take_length,gw,Ti]
theorem Qs {s:ByteArray}(hs:Gs s):ja s=some ((gD (bytesOf s)).length:Int):=by
 have hl:=kg s;unfold Gs at hs;rw[Ai,sK];by_cases h:s.size>0
 ·rw[lR (by omega),Eg,kd (by omega) (by omega),bS];have e0:(0:Int).toNat=0:=rfl;rw[e0];cases hb:bytesOf s with
  |nil=>rw[hb] at hl;simp at hl;omega
  |cons c r=>
   rw[hb] at hl;have:(c::r).getD 0 0=c:=rfl;rw[this];by_cases hc:c=45
   ·subst hc;rw[yP rfl,i64_in _ (by omega)];have:gD (45::r)=r:=by simp[gD]
    rw[this];simp at hl
    congr 1;omega
   ·rw[xv hc];have:gD (c::r)=c::r:=by unfold gD;rw[if_neg (by simp;exact hc)]
    rw[this,hl]
 ·have hb:bytesOf s=[]:=List.length_eq_zero_iff.1 (by omega);rw[lS (by omega),hb];have:s.size=0:=by omega
  rw[this];rfl
theorem Vv (z:Int):gD (bytesOf (c8 z))=m9 z.natAbs:=by
 rw[gw];unfold gD uL;by_cases h:z<0
 ·simp[h]
 ·have:(m9 z.natAbs).head?≠some 45:=by intro e;have:(45:Int)∈m9 z.natAbs:=List.mem_of_mem_head? (by rw[e];rfl);have:=q8 _ _ this;omega
  simp[h,this]
theorem Qt:∀(k u:Nat) (d:List Int),u<10^k→u≤9223372036854775807→d.length+k≤1000→dw u d=(aw false (d++dX u)).bind fun r=>some r:=by
 intro k;induction k with
 |zero=>
  intro u d hu XG hd;have:u=0:=by rw[Nat.pow_zero] at hu;omega
  subst this;rw[oL,kJ,lS (by omega),show dX 0=[] from eQ _,List.append_nil]
 |succ k ih=>
  intro u d hu XG hd;rw[oL,kJ];by_cases h0:u=0
  ·subst h0;rw[lS (by omega),show dX 0=[] from eQ _,List.append_nil]
  ·rw[lR (by omega),pL (by omega) (by omega),i64_quo _ _ (by omega),fL (by omega)];have e1:((u:Int) / 10)=((u / 10:Nat):Int):=by omega
   have e2:((u:Int) % 10)=((u % 10:Nat):Int):=by omega
   rw[Nat.pow_succ] at hu;rw[e1,e2,ih (u / 10) _ (by omega) (by omega) (by simp;omega),show dX u=_ from sX (B:=10) (by omega) (by omega)];simp
theorem Qu:∀(k u:Nat) (d:List Int),u<10^k→u≤9223372036854775807→d.length+k≤1000→du u d=(aw true (d++dX u)).bind fun r=>some r:=by
 intro k;induction k with
 |zero=>
  intro u d hu XG hd;have:u=0:=by rw[Nat.pow_zero] at hu;omega
  subst this;rw[oK,kH,lS (by omega),show dX 0=[] from eQ _,List.append_nil]
 |succ k ih=>
  intro u d hu XG hd;rw[oK,kH];by_cases h0:u=0
  ·subst h0;rw[lS (by omega),show dX 0=[] from eQ _,List.append_nil]
  ·rw[lR (by omega),pL (by omega) (by omega),i64_quo _ _ (by omega),fL (by omega)];have e1:((u:Int) / 10)=((u / 10:Nat):Int):=by omega
   have e2:((u:Int) % 10)=((u % 10:Nat):Int):=by omega
   rw[Nat.pow_succ] at hu;rw[e1,e2,ih (u / 10) _ (by omega) (by omega) (by simp;omega),show dX u=_ from sX (B:=10) (by omega) (by omega)];simp
theorem ir {n:Int}(h0: -9223372036854775808≤n)(h1:n≤9223372036854775807):cf n=some (c8 n):=by
 rw[Ag,sI];by_cases h:n<0
 ·obtain⟨u,hu⟩:∃u:Nat,(u:Int)= -n:=⟨n.natAbs,by omega⟩
  have hm:n.tmod 10= -((u % 10:Nat):Int):=by
   have:n= -(u:Int):=by omega
   rw[this,Int.neg_tmod,fL (by omega)];omega
  have hq:n.tdiv 10= -((u / 10:Nat):Int):=by
   have:n= -(u:Int):=by omega
   rw[this,Int.neg_tdiv,jL (by omega)];omega
  have e1:IntKind.wrap .i64 (0 - n.tmod 10)=((u % 10:Nat):Int):=by rw[hm,i64_in _ (by omega)];omega
  have e2:IntKind.wrap .i64 (n.tdiv 10)= -((u / 10:Nat):Int):=by rw[hq,i64_in _ (by omega)]
  have e3:IntKind.wrap .i64 (0 - -((u / 10:Nat):Int))=((u / 10:Nat):Int):=by rw[i64_in _ (by omega)];omega
  have hl:([((u % 10:Nat):Int)]:List Int).length=1:=rfl;rw[aO h];simp only[e1,e2,e3];rw[pL (by omega) (by first |omega | (rw[hl];omega)),List.nil_append,Qu 19 (u / 10) _ (by omega) (by omega) (by simp)];have hd:DX ([((u % 10:Nat):Int)]++dX (u / 10)):=(fp.cons (by omega) (by omega) fp.nil).append (y9 _);have hv:VX ([((u % 10:Nat):Int)]++dX (u / 10))=u:=by have:=BA (u / 10);simp only[VX,List.singleton_append,val] at this ⊢;rw[this];omega
  have hlen:(dX (u / 10)).length≤19:=(bg (B:=10) (by omega) 19 (u / 10)).2 (by omega);rw[rY hd (by simp;omega),bS,hv]
  congr 2
  rw[if_pos rfl];omega
 ·obtain⟨u,rfl⟩:=Int.eq_ofNat_of_zero_le (show 0≤n by omega);have hlen:(dX u).length≤19:=(bg (B:=10) (by omega) 19 u).2 (by omega);rw[aY h,Qt 19 u [] (by omega) (by omega) (by simp),List.nil_append,rY (y9 u) (by omega),bS,BA];rfl
theorem OG {z:Int}(hz:nd z≤9):∀(m k:Nat) (n:Int),m+k=(c8 z).size→n=oV (((bytesOf (c8 z)).take k).filter (fun c=>c != 45))→
  dS (c8 z) n k=some (z,true):=by
 intro m;have hsz:=AH z;have hl:=kg (c8 z);have hh:=Jk z;induction m with
 |zero=>
  intro k n hk hn;have hk':k=(bytesOf (c8 z)).length:=by omega
  rw[hk',List.take_length] at hn;have hf:(bytesOf (c8 z)).filter (fun c=>c != 45)=m9 z.natAbs:=by rw[gw];unfold uL;rw[List.filter_append,vB];split<;>rfl
  rw[hf,Fu] at hn;have e0:(0:Int).toNat=0:=rfl;rw[pG,lv,aY (by omega),lR (by omega),Eg,kd (by omega) (by omega),bS,e0,K1];have hzb:z.natAbs<10^9:=(kh z 9 (by omega)).1 hz;by_cases h:z<0
  ·rw[decide_eq_true h,cT,i64_in _ (by omega)]
   congr 2;omega
  ·rw[decide_eq_false h,cF]
   congr 2;omega
 |succ m ih=>
  intro k n hk hn;have hkl:k<(bytesOf (c8 z)).length:=by omega
  have hb:=(Cb (c8 z)).getD (by omega) k;have pM:=fun n=>ih (k+1) n (by omega);simp only[Int.natCast_add,Int.natCast_one] at pM;rw[pG,lv,aO (by omega),Eg,kd (by omega) (by omega),bS,Int.toNat_natCast]
  -- all abQ but zw sign are digits
  have hmem:∀c∈(bytesOf (c8 z)).filter (fun c=>c != 45),48≤c∧c≤57:=by
   rw[gw];unfold uL;rw[List.filter_append,vB];intro c hc;rcases List.mem_append.1 hc with h |h
   ·exfalso;split at h
    ·simp at h
    ·cases h
   ·exact q8 _ c h
  have hlen:(((bytesOf (c8 z)).take k).filter (fun c=>c != 45)).length≤9:=by
   have h1:(((bytesOf (c8 z)).take k).filter (fun c=>c != 45)).length≤((bytesOf (c8 z)).filter (fun c=>c != 45)).length:=
    ((List.take_sublist k (bytesOf (c8 z))).filter _).length_le
   have h2:(bytesOf (c8 z)).filter (fun c=>c != 45)=m9 z.natAbs:=by rw[gw];unfold uL;rw[List.filter_append,vB];split<;>rfl
   rw[h2] at h1;unfold nd at hz;omega
  have hnb:=AF (((bytesOf (c8 z)).take k).filter (fun c=>c != 45)) (fun c hc=>hmem c (((List.take_sublist k _).filter _).subset hc));have hp:=OD hlen;rw[←hn] at hnb;have hts:(bytesOf (c8 z)).take (k+1)=(bytesOf (c8 z)).take k++[(bytesOf (c8 z)).getD k 0]:=eH hkl;by_cases h:(bytesOf (c8 z)).getD k 0=45
  ·rw[pK h,i64_in _ (by omega),pM n (by rw[hts,List.filter_append,h];simpa using hn)]
  ·rw[vw h,bS];simp (disch:=omega) only[i64_in];rw[pM];rw[hts,List.filter_append,aa8 h,Gq, ←hn];simp only[oV,List.foldl_cons,List.foldl_nil,List.length_singleton,Int.mul_zero,Int.zero_add,Int.pow_one];omega
theorem ti {z:Int}(hz:Bd z):dL (c8 z)=some (if nd z≤9 then (z,true) else (0,false)):=by
 unfold Bd at hz;have Y6:Gs (c8 z):=by unfold Gs;have:=AH z;omega
 rw[Bp,uk,Qs Y6,bS,Vv];have e:(m9 z.natAbs).length=nd z:=rfl;rw[e];by_cases h:nd z≤9
 ·rw[lS (by omega),if_pos h];have:=OG h (c8 z).size 0 0 (by omega) (by simp[oV]);simpa using this
 ·rw[lR (by omega),if_neg h]
theorem Qv {a b:List Int}(ha:DX a)(hb:DX b)(hl:a.length=b.length)(hl':a.length≤1000000000000):∀(k:Nat),k≤a.length→
  eF a b ((k:Int) - 1)=some (nS (VX (a.take k)) (VX (b.take k))):=by
 intro k;induction k with
 |zero=>intro hk;rw[p7,mj];simp (disch:=omega) only[Gn];simp[nS]
 |succ k ih=>
  intro hk;have e:((k+1:Nat):Int) - 1=k:=by omega
  rw[p7,mj,e,eH (show k<a.length by omega),eH (show k<b.length by omega)];simp (disch:=omega) only[Jc,oU,Int.toNat_natCast,i64_in];have YY:(a.take k).length=(b.take k).length:=by simp;omega
  by_cases h1:a.getD k 0<b.getD k 0
  ·rw[aO h1,n6 (Ml (by omega) (ha.take k) (hb.take k) YY h1)]
  ·rw[aY h1];by_cases h2:a.getD k 0>b.getD k 0
   ·rw[lR h2,sY (Ml (by omega) (hb.take k) (ha.take k) YY.symm h2)]
   ·have h:a.getD k 0=b.getD k 0:=by omega
    rw[lS h2,ih (by omega)];simp only[VX,fj,YY,h];generalize (10:Int)^(b.take k).length*val 10 [b.getD k 0]=z;by_cases h1:val 10 (a.take k)<val 10 (b.take k)
    ·rw[n6 h1,n6 (by omega)]
    ·by_cases h2:val 10 (b.take k)<val 10 (a.take k)
     ·rw[sY h2,sY (by omega)]
     ·rw[Hi (by omega),Hi (by omega)]
theorem Ek {m n:Nat}(hm:(dX m).length≤1000000000000)(hn:(dX n).length≤1000000000000):dF (dX m) (dX n)=some (nS m n):=by
 rw[CD,vi];by_cases h:(dX m).length=(dX n).length
 ·have:=Qv (y9 m) (y9 n) h hm (dX m).length (Nat.le_refl _);rw[pK (by omega)];simp (disch:=omega) only[i64_in];rw[this,List.take_length];rw[h,List.take_length,BA,BA]
 ·rw[vw (by omega)];have l1:=(bg (B:=10) (by omega) (dX m).length m).1 (Nat.le_refl _);have l2:=(bg (B:=10) (by omega) (dX n).length n).1 (Nat.le_refl _);by_cases h1:(dX m).length<(dX n).length
  ·rw[aO (by omega)];have:=(gX (B:=10) (by omega) (dX m).length n).1 h1;rw[n6 (by omega)]
  ·rw[aY (by omega)];have:=(gX (B:=10) (by omega) (dX n).length m).1 (show (dX n).length<(dX m).length by omega);rw[sY (by omega)]
def OH:List Int→List Int→Int→List Int
 | [],[],c=>if c>0 then [c % 10] else []
 |x::xs,[],c=>(c+x) % 10::OH xs [] ((c+x) / 10)
 | [],y::ys,c=>(c+y) % 10::OH [] ys ((c+y) / 10)
 |x::xs,y::ys,c=>(c+x+y) % 10::OH xs ys ((c+x+y) / 10)
theorem Tj {a b:List Int}(ha:DX a)(hb:DX b)(hl:a.length≤1000000000000)(hl':b.length≤1000000000000):∀(m k:Nat) (c:Int) (out:List Int),m+k=max a.length b.length→out.length=k→0≤c∧c≤1→
  fa a b c k out=some (out++OH (a.drop k) (b.drop k) c):=by
 intro m;induction m with
 |zero=>
  intro k c out hk ho hc;have hka:a.length≤k:=by omega
  have P4:b.length≤k:=by omega
  rw[drop_nil hka,drop_nil P4,mi,jK];rw[aY (by omega),aY (by omega)];by_cases h:c>0
  ·have hc1:c=1:=by omega
   subst hc1;simp (disch:=omega) only[lR,aY,pL,fL,jL,i64_in];rw[mi,jK];simp (disch:=omega) only[aY,lS];simp[OH]
  ·rw[lS h];have:c=0:=by omega
   subst this;simp[OH]
 |succ m ih=>
  intro k c out hk ho hc;have hx:=ha.getD (by omega) k;have hy:=hb.getD (by omega) k;have pM:=fun c out=>ih (k+1) c out (by omega);simp only[Int.natCast_add,Int.natCast_one] at pM;rw[mi,jK];by_cases hka:k<a.length
  ·by_cases P4:k<b.length
   ·rw[drop_eq hka,drop_eq P4];simp (disch:=omega) only[aO,oU,Int.toNat_natCast,i64_in,fL,jL,pL];rw[pM _ _ (by simp;omega) (by omega)];simp[OH]
   ·have hd:b.drop (k+1)=[]:=drop_nil (by omega);rw[drop_eq hka,drop_nil (show b.length≤k by omega)];simp (disch:=omega) only[aO,aY,oU,Int.toNat_natCast,i64_in,fL,jL,pL];rw[pM _ _ (by simp;omega) (by omega),hd];simp[OH]
  ·have P4:k<b.length:=by omega
   have hd:a.drop (k+1)=[]:=drop_nil (by omega);rw[drop_eq P4,drop_nil (show a.length≤k by omega)];simp (disch:=omega) only[aO,aY,oU,Int.toNat_natCast,i64_in,fL,jL,pL];rw[pM _ _ (by simp;omega) (by omega),hd];simp[OH]
theorem Hk:∀(a b:List Int) (c:Int),DX a→DX b→0≤c∧c≤1→VX (OH a b c)=VX a+VX b+c∧DX (OH a b c)∧(OH a b c).length≤max a.length b.length+1
 | [],[],c,ha,hb,hc=>by
   simp only[OH];split
   ·exact⟨by simp[VX,val];omega,fp.cons (by omega) (by omega) fp.nil,by simp⟩
   ·exact⟨by simp[VX,val];omega,fp.nil,by simp⟩
 |x::xs,[],c,ha,hb,hc=>by have hx:=ha.head;obtain⟨e1,e2,e3⟩:=Hk xs [] ((c+x) / 10) ha.tail fp.nil (by omega);simp only[OH];refine⟨?_,fp.cons (by omega) (by omega) e2,by simp at e3 ⊢;omega⟩;simp only[VX,val] at e1 ⊢;rw[e1];omega
 | [],y::ys,c,ha,hb,hc=>by have hy:=hb.head;obtain⟨e1,e2,e3⟩:=Hk [] ys ((c+y) / 10) fp.nil hb.tail (by omega);simp only[OH];refine⟨?_,fp.cons (by omega) (by omega) e2,by simp at e3 ⊢;omega⟩;simp only[VX,val] at e1 ⊢;rw[e1];omega
 |x::xs,y::ys,c,ha,hb,hc=>by have hx:=ha.head;have hy:=hb.head;obtain⟨e1,e2,e3⟩:=Hk xs ys ((c+x+y) / 10) ha.tail hb.tail (by omega);simp only[OH];refine⟨?_,fp.cons (by omega) (by omega) e2,by simp at e3 ⊢;omega⟩;simp only[VX,val] at e1 ⊢;rw[e1];omega
theorem Xd {a b:List Int}(ha:DX a)(hb:DX b)(hl:a.length≤1000000000000)(hl':b.length≤1000000000000):
  ∃r,ie a b=some r∧VX r=VX a+VX b∧DX r∧r.length≤max a.length b.length+1:=by
 obtain⟨e1,e2,e3⟩:=Hk a b 0 ha hb ⟨by omega,by omega⟩;have:=Tj ha hb hl hl' (max a.length b.length) 0 0 [] (by omega) rfl ⟨by omega,by omega⟩;refine⟨OH a b 0, ?_,by omega,e2,e3⟩;rw[DQ,xg];simpa using this
def K2:List Int→List Int→Int→List Int
 | [],_,_=>[]
 |x::xs,[],c=>if x - c<0 then (x - c+10)::K2 xs [] 1 else (x - c)::K2 xs [] 0
 |x::xs,y::ys,c=>if x - c - y<0 then (x - c - y+10)::K2 xs ys 1 else (x - c - y)::K2 xs ys 0
theorem Qw {a b:List Int}(ha:DX a)(hb:DX b)(hl:a.length≤1000000000000):∀(m k:Nat) (c:Int) (out:List Int),m+k=a.length→out.length=k→0≤c∧c≤1→
  cq a b c k out=(bt (out++K2 (a.drop k) (b.drop k) c)).bind fun r=>some r:=by
 intro m;induction m with
 |zero=>intro k c out hk ho hc;rw[lQ,im,aY (by omega),drop_nil (show a.length≤k by omega)];simp[K2]
 |succ m ih=>
  intro k c out hk ho hc;have hx:=ha.getD (by omega) k;have hy:=hb.getD (by omega) k;have pM:=fun c out=>ih (k+1) c out (by omega);simp only[Int.natCast_add,Int.natCast_one] at pM;rw[lQ,im,aO (by omega),oU (by omega) (by omega),Int.toNat_natCast,drop_eq (show k<a.length by omega)];have R3:∀z:Int,([z]:List Int).length=1:=fun z=>rfl;by_cases P4:k<b.length
  ·rw[drop_eq P4,aO (by omega),oU (by omega) (by omega),Int.toNat_natCast];simp (disch:=omega) only[i64_in,R3];by_cases h:a.getD k 0 - c - b.getD k 0<0
   ·rw[aO h,pL (by omega) (by omega),pM _ _ (by simp;omega) ⟨by omega,by omega⟩];simp only[K2,if_pos h];simp
   ·rw[aY h,pL (by omega) (by omega),pM _ _ (by simp;omega) ⟨by omega,by omega⟩];simp only[K2,if_neg h];simp
  ·have hd:b.drop (k+1)=[]:=drop_nil (by omega);rw[drop_nil (show b.length≤k by omega),aY (by omega)];simp (disch:=omega) only[i64_in];by_cases h:a.getD k 0 - c<0
   ·rw[aO h,pL (by omega) (by omega),pM _ _ (by simp;omega) ⟨by omega,by omega⟩,hd];simp only[K2,if_pos h];simp
   ·rw[aY h,pL (by omega) (by omega),pM _ _ (by simp;omega) ⟨by omega,by omega⟩,hd];simp only[K2,if_neg h];simp
theorem Hl:∀(a b:List Int) (c:Int),b.length≤a.length→DX a→DX b→0≤c∧c≤1→
  ∃c',0≤c'∧VX (K2 a b c)=VX a - VX b - c+c'*10^a.length∧DX (K2 a b c)∧(K2 a b c).length=a.length
 | [],[],c,hl,ha,hb,hc=>⟨c,hc.1,by simp[K2,VX,val];omega,fp.nil,rfl⟩
 | [],y::ys,c,hl,ha,hb,hc=>by simp at hl
 |x::xs,[],c,hl,ha,hb,hc=>by
  have hx:=ha.head;have key:∀d:Int,(0≤d∧d≤1)→∃c',0≤c'∧VX (K2 xs [] d)=VX xs - d+c'*10^xs.length∧DX (K2 xs [] d)∧(K2 xs [] d).length=xs.length:=fun d hd=>by obtain⟨c',h2,h3,h4,h5⟩:=Hl xs [] d (by simp) ha.tail fp.nil hd;exact⟨c',h2,by simpa [VX,val] using h3,h4,h5⟩
  simp only[K2];split
  ·obtain⟨c',h2,h3,h4,h5⟩:=key 1 ⟨by omega,by omega⟩;refine⟨c',h2, ?_,fp.cons (by omega) (by omega) h4,by simp[h5]⟩;simp only[VX,val,List.length_cons,Int.pow_succ] at h3 ⊢;rw[←Int.mul_assoc,h3];omega
  ·obtain⟨c',h2,h3,h4,h5⟩:=key 0 ⟨by omega,by omega⟩;refine⟨c',h2, ?_,fp.cons (by omega) (by omega) h4,by simp[h5]⟩;simp only[VX,val,List.length_cons,Int.pow_succ] at h3 ⊢;rw[←Int.mul_assoc,h3];omega
 |x::xs,y::ys,c,hl,ha,hb,hc=>by
  have hx:=ha.head;have hy:=hb.head;simp only[K2];split
  ·obtain⟨c',h2,h3,h4,h5⟩:=Hl xs ys 1 (by simp at hl;omega) ha.tail hb.tail ⟨by omega,by omega⟩;refine⟨c',h2, ?_,fp.cons (by omega) (by omega) h4,by simp[h5]⟩;simp only[VX,val,List.length_cons,Int.pow_succ] at h3 ⊢;rw[←Int.mul_assoc,h3];omega
  ·obtain⟨c',h2,h3,h4,h5⟩:=Hl xs ys 0 (by simp at hl;omega) ha.tail hb.tail ⟨by omega,by omega⟩;refine⟨c',h2, ?_,fp.cons (by omega) (by omega) h4,by simp[h5]⟩;simp only[VX,val,List.length_cons,Int.pow_succ] at h3 ⊢;rw[←Int.mul_assoc,h3];omega
theorem OI {m n:Nat}(hl:(dX m).length≤1000000000000)(h:n≤m):bq (dX m) (dX n)=some (dX (m - n)):=by
 have ha:=y9 m;have hb:=y9 n;obtain⟨c',h1,h2,h3,h4⟩:=Hl (dX m) (dX n) 0 (K0 h) ha hb ⟨by omega,by omega⟩;have hv:VX (K2 (dX m) (dX n) 0)=((m - n:Nat):Int):=by
  have h5:=sA (B:=10) (by omega) h3;rw[h4] at h5;change VX _<_ at h5;rw[BA,BA] at h2;by_cases hc:c'=0
  ·subst hc;simp at h2;omega
  ·exfalso;have hp:(0:Int)≤10^(dX m).length:=Int.pow_nonneg (by omega);have h8:1*(10:Int)^(dX m).length≤c'*10^(dX m).length:=Int.mul_le_mul_of_nonneg_right (by omega) hp;rw[Int.one_mul] at h8;omega
 have:=Qw ha hb hl (dX m).length 0 0 [] (by omega) rfl ⟨by omega,by omega⟩;simp only[Int.natCast_zero,List.drop_zero,List.nil_append] at this;rw[vY,oN,this,AG (by omega),bS,Jh h3,hv,Int.toNat_natCast]
theorem Tk {m n:Nat}{s:Bool}(hm:(dX m).length≤1000000000000)(hn:(dX n).length≤1000000000000):
  ((ie (dX m) (dX n)).bind fun r5=>(aw s r5).bind fun r6=>some r6)=some (c8 (if s then -((m:Int)+n) else (m:Int)+n)):=by
 obtain⟨r,e1,e2,e3,e4⟩:=Xd (y9 m) (y9 n) hm hn;rw[e1,bS,rY e3 (by omega),bS,e2,BA,BA]
theorem Jl {m n:Nat}{s:Bool}(hm:(dX m).length≤1000000000000)(h:n≤m):
  ((bq (dX m) (dX n)).bind fun r5=>(aw s r5).bind fun r6=>some r6)=some (c8 (if s then -((m:Int) - n) else (m:Int) - n)):=by
 have:=K0 (show m - n≤m by omega);rw[OI hm h,bS,rY (y9 _) (by omega),bS,BA];have:((m - n:Nat):Int)=(m:Int) - n:=by omega
 rw[this]
theorem Jm {x y:Int}(hx:Bd x)(hy:Bd y):ef (c8 x) (c8 y)=some (c8 (x+y)):=by
 have Zj:=Ej x;have ZI:=Ej y;rw[CA,vg,ti hx,bS,ti hy,bS];unfold Bd at hx hy
 -- zw JV way
 have JV:((ay (c8 x)).bind fun r3=>(ay (c8 y)).bind fun r4=>
   bif (r3.1==r4.1) then
    (ie r3.2 r4.2).bind fun r5=>(aw r3.1 r5).bind fun r6=>some r6
   else
    (dF r3.2 r4.2).bind fun r7=>
    bif (decide (r7<(0:Int))) then
     (bq r4.2 r3.2).bind fun r8=>(aw r4.1 r8).bind fun r9=>some r9
    else
     (bq r3.2 r4.2).bind fun Bi=>(aw r3.1 Bi).bind fun P1=>some P1)=some (c8 (x+y)):=by
  rw[kR hx,bS,kR hy,bS];simp only;by_cases hs:(x<0↔y<0)
  ·have:(decide (x<0)==decide (y<0))=true:=beq_iff_eq.2 (decide_eq_decide.2 hs);rw[this,cT,Tk (by omega) (by omega)]
   congr 2
   by_cases h:x<0
   ·rw[decide_eq_true h,if_pos rfl];omega
   ·rw[decide_eq_false h,if_neg (by simp)];omega
  ·have:(decide (x<0)==decide (y<0))=false:=by simpa using hs
   rw[this,cF,Ek (by omega) (by omega),bS];by_cases hc:x.natAbs<y.natAbs
   ·rw[aO (CP.2 (by omega)),Jl (by omega) (by omega)]
    congr 2
    by_cases h:y<0
    ·rw[decide_eq_true h,if_pos rfl];omega
    ·rw[decide_eq_false h,if_neg (by simp)];omega
   ·rw[aY (fun e=>by have:=CP.1 e;omega),Jl (by omega) (by omega)]
    congr 2
    by_cases h:x<0
    ·rw[decide_eq_true h,if_pos rfl];omega
    ·rw[decide_eq_false h,if_neg (by simp)];omega
 by_cases h1:nd x≤9
 ·rw[if_pos h1];simp only[cT];by_cases h2:nd y≤9
  ·rw[if_pos h2];simp only[cT];have b1:=(kh x 9 (by omega)).1 h1;have b2:=(kh y 9 (by omega)).1 h2;rw[i64_in _ (by omega),ir (by omega) (by omega),bS]
  ·rw[if_neg h2];simp only[cF];exact JV
 ·rw[if_neg h1];simp only[cF];exact JV
theorem nb {x:Int}(hx:Bd x):aH (c8 x)=some (c8 (-x)):=by
 have Zj:=Ej x;rw[yl,pZ,kR hx,bS];unfold Bd at hx;rw[rY (y9 _) (by omega),bS,BA]
 congr 2
 by_cases h:x<0
 ·rw[decide_eq_true h,if_neg (by simp)];omega
 ·rw[decide_eq_false h,if_pos (by rfl)];omega
theorem Fy {x y:Int}(hx:Bd x)(hy:Bd y):dM (c8 x) (c8 y)=some (c8 (x - y)):=by rw[Bq,um,nb hy,bS,Jm hx (by unfold Bd at*;rw[Qj];exact hy),bS];rfl
theorem AI {x y:Int}(hx:Bd x)(hy:Bd y):bD (c8 x) (c8 y)=some (nS x y):=by
 have Zj:=Ej x;have ZI:=Ej y;rw[y0,rS,kR hx,bS,kR hy,bS];unfold Bd at hx hy;simp only;rw[Ek (by omega) (by omega),Ek (by omega) (by omega),bS,bS];rcases (show x<y∨x=y∨y<x by omega) with h |h |h
 all_goals
  by_cases h1:x<0<;>by_cases h2:y<0
  all_goals simp only[h1,h2,decide_true,decide_false,beq_self_eq_true,Bool.not_true,Bool.not_false,cT,cF,show (true==false)=false from rfl,show (false==true)=false from rfl,Option.some.injEq]
  all_goals unfold nS
  all_goals (repeat' split)<;>omega
def OX:List Int→Int→List Int→List Int
 | [],x,os=>os
 |y::ys,x,o::os=>(o+x*y)::OX ys x os
 |_::_,_,[]=>[]
def X2:List Int→List Int→List Int→List Int
 | [],b,o=>o
 |x::xs,b,o=>match OX b x o with
  | []=>[]
  |h::t=>h::X2 xs b t
def Gu:List Int→List Int
 | []=>[]
 | [o]=>[o]
 |o::p::r=>o % 10::Gu ((p+o / 10)::r)
termination_by l=>l.length
theorem CU:∀(b:List Int) (x:Int) (o:List Int),b.length≤o.length→(OX b x o).length=o.length
 | [],x,o,h=>by simp[OX]
 |y::ys,x,[],h=>by simp at h
 |y::ys,x,o::os,h=>by simp only[OX,List.length_cons];rw[CU ys x os (by simpa using h)]
theorem Rx:∀(b:List Int) (x:Int) (o:List Int),b.length≤o.length→VX (OX b x o)=VX o+x*VX b
 | [],x,o,h=>by simp[OX,VX,val]
 |y::ys,x,[],h=>by simp at h
 |y::ys,x,o::os,h=>by
  have ih:=Rx ys x os (by simpa using h);simp only[OX,VX,val] at ih ⊢;have e:x*(y+10*val 10 ys)=x*y+10*(x*val 10 ys):=by rw[Int.mul_add,Int.mul_left_comm]
  rw[ih,e];omega
def uM (M:Int)(l:List Int):Prop:=∀x∈l,0≤x∧x≤M
theorem uM.mono {M M':Int}{l:List Int}(h:uM M l)(hM:M≤M'):uM M' l:=fun x hx=>by have:=h x hx;omega
theorem uM.getD {M:Int}{l:List Int}(h:uM M l)(hM:0≤M)(k:Nat):0≤l.getD k 0∧l.getD k 0≤M:=by
 by_cases hk:k<l.length
 ·have:l.getD k 0=l[k]:=by simp[List.getD,hk]
  rw[this];exact h _ (List.getElem_mem hk)
 ·rw[getD_none (by omega)];omega
theorem uM.take {M:Int}{l:List Int}(h:uM M l)(k:Nat):uM M (l.take k):=fun x hx=>h x (List.mem_of_mem_take hx)
theorem uM.drop {M:Int}{l:List Int}(h:uM M l)(k:Nat):uM M (l.drop k):=fun x hx=>h x (List.mem_of_mem_drop hx)
theorem uM.append {M:Int}{l m:List Int}(h:uM M l)(h':uM M m):uM M (l++m):=fun x hx=>by
 rcases List.mem_append.1 hx with hx |hx
 ·exact h x hx
 ·exact h' x hx
theorem OJ {M x:Int}(hx:0≤x∧x≤9):∀(b o:List Int),DX b→uM M o→uM (M+81) (OX b x o)
 | [],o,hb,ho=>ho.mono (by omega)
 |y::ys,[],hb,ho=>fun z hz=>by cases hz
 |y::ys,o::os,hb,ho=>by
  have hy:=hb.head;have h1:=Int.mul_nonneg hx.1 hy.1;have h2:x*y≤9*y:=Int.mul_le_mul_of_nonneg_right hx.2 hy.1;have h3:=ho o (by simp);have ih:=OJ hx ys os hb.tail (fun z hz=>ho z (by simp[hz]));intro z hz;simp only[OX,List.mem_cons] at hz;rcases hz with rfl |hz
  ·omega
  ·exact ih z hz
theorem Mz {p q:Bool}{x y:List Int}{i:Nat}(hy:DX y)(hx:0≤x.getD i 0∧x.getD i 0≤9)(hi:i<x.length)(Zj:x.length≤10000000)(ZI:y.length≤10000000):
  ∀(m k:Nat) (M:Int) (out:List Int),m+k=y.length→out.length=x.length+y.length+1→uM M out→0≤M→M+81*m≤1000000000000000→
  dQ p x q y i k out=bN p x q y (i+1) (out.take (i+k)++OX (y.drop k) (x.getD i 0) (out.drop (i+k))):=by
 intro m;induction m with
 |zero=>intro k M out hk ho hu h0 hM;rw[pE,lr,aY (by omega),drop_nil (show y.length≤k by omega),i64_in _ (by omega)];simp[OX]
 |succ m ih=>
  intro k M out hk ho hu h0 hM;have hyk:=hy.getD (by omega) k;have hok:=hu.getD h0 (i+k);have h1:=Int.mul_nonneg hx.1 hyk.1;have h2:x.getD i 0*y.getD k 0≤9*y.getD k 0:=Int.mul_le_mul_of_nonneg_right hx.2 hyk.1;have e1:((i:Int)+k).toNat=i+k:=by omega
  have pM:=fun M out=>ih (k+1) M out (by omega);simp only[Int.natCast_add,Int.natCast_one] at pM;rw[pE,lr];simp (disch:=omega) only[aO,i64_in,oU,y6,e1,Int.toNat_natCast];have gF:uM (M+81) (out.set (i+k) (out.getD (i+k) 0+x.getD i 0*y.getD k 0)):=fun z hz=>by
   rcases List.mem_or_eq_of_mem_set hz with hz |rfl
   ·have:=hu z hz;omega
   ·omega
  rw[pM (M+81) _ (by simp[ho]) gF (by omega) (by omega),drop_eq (show k<y.length by omega),drop_eq (show i+k<out.length by omega)];simp only[OX];rw[show i+(k+1)=i+k+1 by omega,uE (by omega),set_drop];simp
theorem Ry:∀(a b o:List Int),o.length=a.length+b.length+1→DX a→VX (X2 a b o)=VX o+VX a*VX b∧(X2 a b o).length=o.length
 | [],b,o,hl,ha=>by simp[X2,VX,val]
 |x::xs,b,o,hl,ha=>by
  have hlen:=CU b x o (by simp at hl;omega);have hval:=Rx b x o (by simp at hl;omega);simp only[X2];split
  ·rename_i e;rw[e] at hlen;simp at hlen hl;omega
  ·rename_i h t e;rw[e] at hlen hval;obtain⟨f1,f2⟩:=Ry xs b t (by simp at hl hlen;omega) ha.tail;refine⟨?_,by simp[f2] at hlen ⊢;omega⟩;simp only[VX,val] at hval f1 ⊢;rw[f1,Int.add_mul,Int.mul_assoc];omega
theorem MA {p q:Bool}{x y:List Int}(hxd:DX x)(hy:DX y)(Zj:x.length≤10000000)(ZI:y.length≤10000000):
  ∀(m i:Nat) (out:List Int),m+i=x.length→out.length=x.length+y.length+1→uM (81*i) out→
  ∃o',bN p x q y i out=di p q 0 o'∧o'=out.take i++X2 (x.drop i) y (out.drop i)∧uM 1000000000000 o':=by
 intro m;induction m with
 |zero=>
  intro i out hi ho hu;refine⟨out, ?_, ?_,hu.mono (by omega)⟩
  ·rw[pD,ll,aY (by omega)]
  ·rw[drop_nil (show x.length≤i by omega)];simp[X2]
 |succ m ih=>
  intro i out hi ho hu;have hx:=hxd.getD (by omega) i;have hI:=Mz (p:=p) (q:=q) (i:=i) hy ⟨hx.1,by omega⟩ (by omega) Zj ZI y.length 0 (81*i) out (by omega) ho hu (by omega) (by omega);simp only[Int.natCast_zero,Nat.add_zero,List.drop_zero] at hI;rw[pD,ll,aO (by omega),hI];have pM:=fun out=>ih (i+1) out (by omega);simp only[Int.natCast_add,Int.natCast_one] at pM;have Vw:=CU y (x.getD i 0) (out.drop i) (by rw[List.length_drop];omega);have hup:uM (81*((i:Int)+1)) (out.take i++OX y (x.getD i 0) (out.drop i)):=((hu.take i).mono (by omega)).append ((OJ ⟨hx.1,by omega⟩ y (out.drop i) hy (hu.drop i)).mono (by omega));obtain⟨o',e1,e2,e3⟩:=pM (out.take i++OX y (x.getD i 0) (out.drop i)) (by rw[List.length_append,Vw,List.length_take,List.length_drop];omega) hup;refine⟨o',e1, ?_,e3⟩;rw[e2,drop_eq (show i<x.length by omega)];simp only[X2];cases hp:OX y (x.getD i 0) (out.drop i) with
  |nil=>rw[hp] at Vw;simp at Vw;omega
  |cons h t=>
   have htl:(out.take i).length=i:=by simp;omega
   have h7:(out.take i++h::t).drop (i+1)=t:=by rw[List.drop_append,htl];have:(out.take i).drop (i+1)=[]:=drop_nil (by omega);rw[this];simp
   have h8:(out.take i++h::t).take (i+1)=out.take i++[h]:=by rw[List.take_append,htl];have:(out.take i).take (i+1)=out.take i:=List.take_of_length_le (by omega);rw[this];simp
   rw[h7,h8];simp
theorem Rz (o:Int):Gu [o]=[o]:=by rw[Gu]
theorem RA (o p:Int)(r:List Int):Gu (o::p::r)=o % 10::Gu ((p+o / 10)::r):=by rw[Gu]
theorem RC:∀(n:Nat) (l:List Int),l.length=n→(∀x∈l,0≤x)→VX (Gu l)=VX l∧(Gu l).length=l.length∧(∀x∈Gu l,0≤x)∧DX (Gu l).dropLast
 |0,l,hl,h=>by have:l=[]:=List.length_eq_zero_iff.1 hl;subst this;rw[Gu];exact⟨rfl,rfl,h,fp.nil⟩
 |1,l,hl,h=>by
  obtain⟨o,rfl⟩:∃o,l=[o]:=by
   cases l with
   |nil=>cases hl
   |cons o r=>exact⟨o,by have:r=[]:=List.length_eq_zero_iff.1 (by simpa using hl);rw[this]⟩
  rw[Rz];exact⟨rfl,rfl,h,fp.nil⟩
 |n+2,l,hl,h=>by
  match l,hl,h with
  |o::q::r,hl,h=>
   have h1:=h o (by simp);have h2:=h q (by simp);obtain⟨e1,e2,e3,e4⟩:=RC (n+1) ((q+o / 10)::r) (by simpa using hl) (fun x hx=>by
    rcases List.mem_cons.1 hx with rfl |hx
    ·omega
    ·exact h x (by simp[hx]))
   rw[RA];refine⟨?_,by simp[e2], ?_, ?_⟩
   ·simp only[VX,val] at e1 ⊢;rw[e1];omega
   ·intro x hx;rcases List.mem_cons.1 hx with rfl |hx
    ·omega
    ·exact e3 x hx
   ·have hne:Gu ((q+o / 10)::r)≠ []:=fun e=>by rw[e] at e2;simp at e2
    rw[List.dropLast_cons_of_ne_nil hne];exact fp.cons (by omega) (by omega) e4
theorem MB {p q:Bool}:∀(n:Nat) (A l:List Int),l.length=n+1→(A++l).length≤100000000→(∀x∈l,0≤x)→(∀x∈l.tail,x≤1000000000000)→l.getD 0 0≤2000000000000→
  di p q A.length (A++l)=(aw (!(p==q)) (A++Gu l)).bind fun r=>some r:=by
 intro n;induction n with
 |zero=>
  intro A l hl hlen h0 h1 h2;obtain⟨o,rfl⟩:∃o,l=[o]:=by
   cases l with
   |nil=>cases hl
   |cons o r=>exact⟨o,by have:r=[]:=List.length_eq_zero_iff.1 (by simpa using hl);rw[this]⟩
  have TY:(A++[o]).length=A.length+1:=by simp
  rw[pF,lu,i64_in _ (by omega),aY (by omega),Rz]
 |succ n ih=>
  intro A l hl hlen h0 h1 h2
  match l,hl,hlen,h0,h1,h2 with
  |o::t::r,hl,hlen,h0,h1,h2=>
   have ho:=h0 o (by simp);have ht:=h0 t (by simp);have ht1:=h1 t (by simp);have ho1:o≤2000000000000:=h2;have TY:(A++o::t::r).length=A.length+r.length+2:=by simp;omega
   have e1:((A.length:Int)+1).toNat=A.length+1:=by omega
   have g0:(A++o::t::r).getD A.length 0=o:=by simp[List.getD]
   have g1:(A++o::t::r).getD (A.length+1) 0=t:=by rw[List.getD,List.getElem?_append_right (by omega),show A.length+1 - A.length=1 by omega];rfl
   have s1:∀z,(A++o::t::r).set (A.length+1) z=A++o::z::r:=fun z=>by rw[List.set_append_right _ _ (by omega),show A.length+1 - A.length=1 by omega];rfl
   have s2:∀z w,(A++o::z::r).set A.length w=A++w::z::r:=fun z w=>by rw[List.set_append_right _ _ (by omega),show A.length - A.length=0 by omega];rfl
   have N5:∀z,(A++o::z::r).length=A.length+r.length+2:=fun z=>by simp;omega
   have g2:∀z,(A++o::z::r).getD A.length 0=o:=fun z=>by simp[List.getD]
   rw[pF,lu];simp (disch:=omega) only[i64_in,aO,oU,y6,e1,g0,g1,s1,Int.toNat_natCast,jL,fL];have Wj:=N5 (t+o / 10);simp (disch:=omega) only[oU,y6,g2,s2,Int.toNat_natCast,fL];have:=ih (A++[o % 10]) ((t+o / 10)::r) (by simpa using hl) (by simp at hlen ⊢;omega) (fun x hx=>by
    rcases List.mem_cons.1 hx with rfl |hx
    ·omega
    ·exact h0 x (by simp[hx])) (fun x hx=>h1 x (by simp at hx ⊢;exact .inr hx)) (by show t+o / 10≤_;omega)
   have e3:((A++[o % 10]).length:Int)=(A.length:Int)+1:=by simp
   rw[e3] at this;simp only[List.append_assoc,List.singleton_append] at this;rw[RA];exact this
theorem OK {m n:Nat}{s t:Bool}(hm:(dX m).length≤10000000)(hn:(dX n).length≤10000000):
  bN s (dX m) t (dX n) 0 (List.replicate ((dX m).length+(dX n).length+1) 0)=some (c8 (if s=t then (m:Int)*n else -((m:Int)*n))):=by
 have OS:=y9 m;have hdn:=y9 n;obtain⟨o',e1,e2,e3⟩:=MA (p:=s) (q:=t) OS hdn hm hn (dX m).length 0 (List.replicate ((dX m).length+(dX n).length+1) 0) (by omega) (by simp) (fun x hx=>by
  obtain⟨_,rfl⟩:=List.mem_replicate.1 hx;omega)
 simp only[Int.natCast_zero,List.take_zero,List.nil_append,List.drop_zero] at e1 e2;obtain⟨v1,v2⟩:=Ry (dX m) (dX n) (List.replicate ((dX m).length+(dX n).length+1) 0) (by simp) OS;rw[←e2,List.length_replicate] at v2;rw[←e2,BA,BA] at v1;simp only[VX,B8,Int.zero_add] at v1;have VQ:∀x∈o',0≤x:=fun x hx=>(e3 x hx).1;obtain⟨c1,c2,c3,c4⟩:=RC _ o' rfl VQ;have hc:=MB (p:=s) (q:=t) ((dX m).length+(dX n).length) [] o' (by omega) (by simp;omega) VQ (fun x hx=>(e3 x (List.mem_of_mem_tail hx)).2) (by have:=(e3.getD (by omega) 0).2;omega);simp only[List.nil_append,List.length_nil,Int.natCast_zero] at hc;rw[e1,hc]
 -- zw last entry is a digit,too
 have hne:Gu o'≠ []:=fun e=>by rw[e] at c2;simp at c2;omega
 have Vx:Gu o'=(Gu o').dropLast++[(Gu o').getLast hne]:=(List.dropLast_concat_getLast hne).symm;have hvs:VX (Gu o')=VX (Gu o').dropLast+10^(Gu o').dropLast.length*(Gu o').getLast hne:=by
  conv=>lhs;rw[Vx]
  rw[VX,fj];simp[val]
 have Y5:(Gu o').dropLast.length=(dX m).length+(dX n).length:=by rw[List.length_dropLast,c2,v2];omega
 have aaW:=A6 c4;have aba:=c3 _ (List.getLast_mem hne);have Zk:(Gu o').getLast hne<10:=by
  by_cases hcc:(Gu o').getLast hne<10
  ·exact hcc
  ·exfalso;have h1:=(bg (B:=10) (by omega) (dX m).length m).1 (Nat.le_refl _);have h2:=(bg (B:=10) (by omega) (dX n).length n).1 (Nat.le_refl _);have h3:m*n<10^(dX m).length*10^(dX n).length:=Nat.mul_lt_mul'' h1 h2;rw[←Nat.pow_add] at h3;have h4:((m*n:Nat):Int)<((10^((dX m).length+(dX n).length):Nat):Int):=Int.ofNat_lt.2 h3;rw[yu,Int.natCast_mul] at h4;have h5:(10:Int)^((dX m).length+(dX n).length)*1≤10^((dX m).length+(dX n).length)*(Gu o').getLast hne:=Int.mul_le_mul_of_nonneg_left (by omega) (Int.pow_nonneg (by omega));rw[Y5] at hvs;rw[c1] at hvs;change VX o'=_ at v1;omega
 have hD:DX (Gu o'):=by rw[Vx];exact c4.append (fp.cons aba Zk fp.nil)
 rw[rY hD (by rw[c2,v2];omega),bS,c1];change VX o'=_ at v1;rw[v1]
 congr 2
 cases s<;>cases t<;>simp
theorem A9 {x y:Int}(hx:Bd x)(hy:Bd y):dJ (c8 x) (c8 y)=some (c8 (x*y)):=by
 have Zj:=Ej x;have ZI:=Ej y;rw[Bn,uj,ti hx,bS,ti hy,bS];unfold Bd at hx hy;have JV:((ay (c8 x)).bind fun r3=>(ay (c8 y)).bind fun r4=>
   bif (fP 8 (IntKind.wrap .i64 ((IntKind.wrap .i64 ((r3.2.length:Int)+(r4.2.length:Int)))+(1:Int))) (IntKind.wrap .i64 ((IntKind.wrap .i64 ((r3.2.length:Int)+(r4.2.length:Int)))+(1:Int)))) then
   bN r3.1 r3.2 r4.1 r4.2 (0:Int) (List.replicate (IntKind.wrap .i64 ((IntKind.wrap .i64 ((r3.2.length:Int)+(r4.2.length:Int)))+(1:Int))).toNat (0:Int))
   else none)=some (c8 (x*y)):=by
  rw[kR hx,bS,kR hy,bS];simp only;simp (disch:=omega) only[i64_in,Jd];have e1:(((dX x.natAbs).length:Int)+(dX y.natAbs).length+1).toNat=(dX x.natAbs).length+(dX y.natAbs).length+1:=by omega
  rw[e1,OK (by omega) (by omega)]
  congr 2
  by_cases h1:x<0<;>by_cases h2:y<0
  ·have a1:(x.natAbs:Int)= -x:=by omega
   have a2:(y.natAbs:Int)= -y:=by omega
   rw[decide_eq_true h1,decide_eq_true h2,if_pos rfl,a1,a2];simp[Int.neg_mul,Int.mul_neg]
  ·have a1:(x.natAbs:Int)= -x:=by omega
   have a2:(y.natAbs:Int)=y:=by omega
   rw[decide_eq_true h1,decide_eq_false h2,if_neg (by simp),a1,a2];simp[Int.neg_mul,Int.mul_neg]
  ·have a1:(x.natAbs:Int)=x:=by omega
   have a2:(y.natAbs:Int)= -y:=by omega
   rw[decide_eq_false h1,decide_eq_true h2,if_neg (by simp),a1,a2];simp[Int.neg_mul,Int.mul_neg]
  ·have a1:(x.natAbs:Int)=x:=by omega
   have a2:(y.natAbs:Int)=y:=by omega
   rw[decide_eq_false h1,decide_eq_false h2,if_pos rfl,a1,a2]
 by_cases h1:nd x≤9
 ·rw[if_pos h1];simp only[cT];by_cases h2:nd y≤9
  ·rw[if_pos h2];simp only[cT];have b1:=(kh x 9 (by omega)).1 h1;have b2:=(kh y 9 (by omega)).1 h2;have b3:(x*y).natAbs<10^9*10^9:=by rw[Int.natAbs_mul];exact Nat.mul_lt_mul'' b1 b2
   rw[i64_in _ (by omega),ir (by omega) (by omega),bS]
  ·rw[if_neg h2];simp only[cF];exact JV
 ·rw[if_neg h1];simp only[cF];exact JV
end Go.Proofs.Ytcopbdamkjladaa.Ev
namespace Go.Abs
theorem Vy {x y:Int}(hy:y≠0){Q R:Int}(hQ:Q=((x.natAbs / y.natAbs:Nat):Int))(hR:R=((x.natAbs % y.natAbs:Nat):Int)):
  (x.fdiv y=if (x<0↔y<0) then Q else if R=0 then -Q else -Q - 1)∧
  (x.fmod y=if (x<0↔y<0) then (if x<0 then -R else R) else if R=0 then 0 else (if x<0 then -R else R)+y):=by
 have OS:=Nat.div_add_mod x.natAbs y.natAbs;have hlt:=Nat.mod_lt x.natAbs (show y.natAbs>0 by omega);obtain⟨A,hA⟩:∃A,A=x.natAbs:=⟨_,rfl⟩
 obtain⟨B,hB⟩:∃B,B=y.natAbs:=⟨_,rfl⟩
 rw[←hA, ←hB] at OS hlt hQ hR;have aaY:(B:Int)*Q+R=A:=by rw[hQ,hR, ←Int.natCast_mul, ←Int.natCast_add,OS]
 have hR0:0≤R:=by rw[hR];exact Int.natCast_nonneg _
 have YC:R<B:=by rw[hR];exact Int.ofNat_lt.2 hlt
 by_cases h1:x<0<;>by_cases h2:y<0
 ·have hx':x= -(A:Int):=by omega
  have hy':y= -(B:Int):=by omega
  have hu:=(Int.fdiv_fmod_unique' (a:=x) (b:=y) (r:= -R) (q:=Q) h2).2 ⟨by rw[hx',hy',Int.neg_mul];omega,by omega,by omega⟩;rw[hu.1,hu.2];simp[h1,h2]
 ·have hx':x= -(A:Int):=by omega
  have hy':y=(B:Int):=by omega
  by_cases hz:R=0
  ·have hu:=(Int.fdiv_fmod_unique (a:=x) (b:=y) (r:= -R) (q:= -Q) (by omega)).2 ⟨by rw[hx',hy',Int.mul_neg];omega,by omega,by omega⟩;rw[hu.1,hu.2];simp[h1,h2,hz]
  ·have hu:=(Int.fdiv_fmod_unique (a:=x) (b:=y) (r:= -R+y) (q:= -Q - 1) (by omega)).2 ⟨by rw[hx',hy',Int.mul_sub,Int.mul_neg];omega,by omega,by omega⟩;rw[hu.1,hu.2];simp[h1,h2,hz]
 ·have hx':x=(A:Int):=by omega
  have hy':y= -(B:Int):=by omega
  by_cases hz:R=0
  ·have hu:=(Int.fdiv_fmod_unique' (a:=x) (b:=y) (r:=R) (q:= -Q) (by omega)).2 ⟨by rw[hx',hy',Int.neg_mul_neg];omega,by omega,by omega⟩;rw[hu.1,hu.2];simp[h1,h2,hz]
  ·have hu:=(Int.fdiv_fmod_unique' (a:=x) (b:=y) (r:=R+y) (q:= -Q - 1) (by omega)).2 ⟨by rw[hx',hy',Int.mul_sub,Int.neg_mul_neg];omega,by omega,by omega⟩;rw[hu.1,hu.2];simp[h1,h2,hz]
 ·have hx':x=(A:Int):=by omega
  have hy':y=(B:Int):=by omega
  have hu:=(Int.fdiv_fmod_unique (a:=x) (b:=y) (r:=R) (q:=Q) (by omega)).2 ⟨by rw[hx',hy'];omega,by omega,by omega⟩;rw[hu.1,hu.2];simp[h1,h2]
end Go.Abs
namespace Go.Proofs.Ytcopbdamkjladaa.Ev
open Go.Abs Go.IntWalk
section
variable {b:ByteArray}{p s:Bool}
theorem abb {x:List Int}{B:Nat}(hB:0<B)(hBl:(dX B).length≤10000000){i:Int}{q:List Int}(hq:q.length≤10000000):∀(S k:Nat),(dX S).length≤10000001→k+S / B≤1000→
  c5 b p x s (dX B) (dX S) i k q=bB b p x s (dX B) (dX (S % B)) (IntKind.wrap .i64 (i - 1)) (q++[((k+S / B:Nat):Int)]):=by
 intro S;induction S using Nat.strongRecOn with
 |ind S ih=>
  intro k hS hk;rw[uJ,nP,Ek (by omega) (by omega),bS];by_cases h:B≤S
  ·have hc:nS (S:Int) B≥0:=by
    by_cases hh:nS (S:Int) B≥0
    ·exact hh
    ·have:=CP.1 (show nS (S:Int) B<0 by omega);omega
   have e1:=Nat.mod_eq_sub_mod h;have e2:S / B=(S - B) / B+1:=Nat.div_eq_sub_div hB h;obtain⟨D,hD⟩:∃D,(S - B) / B=D:=⟨_,rfl⟩
   rw[e2,hD] at hk;rw[Jc hc,OI (by omega) h,bS,i64_in _ (by omega)];have:=ih (S - B) (by omega) (k+1) (by have:=K0 (show S - B≤S by omega);omega) (by rw[hD];omega);simp only[Int.natCast_add,Int.natCast_one] at this;rw[this, ←e1,e2]
   congr 3
   omega
  ·have hc:¬nS (S:Int) B≥0:=by rw[n6 (by omega)];omega
   rw[Gn hc,pL (by omega) (by omega),Nat.mod_eq_of_lt (by omega),Nat.div_eq_of_lt (by omega),Nat.add_zero]
theorem abc {x:List Int}(hx:DX x){B:Nat}(hB:0<B)(hBl:(dX B).length≤10000000)(Z2:x.length≤10000000):∀(k:Nat) (R:Nat) (q:List Int),k≤x.length→R<B→q.length+k≤10000000→DX q→
  VX (x.drop k)=B*VX q.reverse+R→
  ∃q' R',bB b p x s (dX B) (dX R) ((k:Int) - 1) q=aQ b p s (dX R') 0 q'∧R'<B∧DX q'∧VX x=B*VX q'.reverse+R'∧q'.length≤10000000:=by
 intro k;induction k with
 |zero=>intro R q hk hR YK hq hv;refine⟨q,R, ?_,hR,hq,by simpa using hv,by omega⟩;rw[nq,ju,Gn (by omega)]
 |succ k ih=>
  intro R q hk hR YK hq hv;have hxk:=hx.getD (by omega) k;have hRl:=K0 (show R≤B by omega);have e:((k+1:Nat):Int) - 1=k:=by omega
  obtain⟨c,hc⟩:=Int.eq_ofNat_of_zero_le hxk.1;rw[hc] at hxk;have hDc:DX ([(c:Int)]++dX R):=(fp.cons hxk.1 hxk.2 fp.nil).append (y9 R);have hVc:VX ([(c:Int)]++dX R)=((c+10*R:Nat):Int):=by have:=BA R;simp only[VX,List.singleton_append,val] at this ⊢;rw[this];omega
  have hlen:(dX (c+10*R)).length≤10000001:=by have h1:=yr ([(c:Int)]++dX R);rw[Jh hDc,hVc,Int.toNat_natCast] at h1;simp at h1;show (dX (c+10*R)).length≤_;omega
  have hdiv:(c+10*R) / B<10:=by rw[Nat.div_lt_iff_lt_mul hB];omega
  have hmod:=Nat.mod_lt (c+10*R) hB;have OS:=Nat.div_add_mod (c+10*R) B;rw[nq,ju,e,Jc (by omega),oU (by omega) (by omega),Int.toNat_natCast,hc,pL (by omega) (by omega),AG (by simp;omega),bS,Jh hDc,hVc,Int.toNat_natCast];have h1:=abb (b:=b) (p:=p) (s:=s) (x:=x) hB hBl (i:=k) (q:=q) (by omega) (c+10*R) 0 hlen (by omega);simp only[Int.natCast_zero,Nat.zero_add] at h1;rw[h1,i64_in _ (by omega)];refine ih _ _ (by omega) hmod (by simp;omega) (hq.append (fp.cons (Int.natCast_nonneg _) (Int.ofNat_lt.2 hdiv) fp.nil)) ?_;rw[drop_eq (show k<x.length by omega),hc,List.reverse_append,List.reverse_singleton,List.singleton_append];simp only[VX,val] at hv ⊢;rw[hv];have h2:((B*((c+10*R) / B)+(c+10*R) % B:Nat):Int)=((c+10*R:Nat):Int):=by rw[OS]
  rw[Int.natCast_add,Int.natCast_mul] at h2;have h3:(B:Int)*(((c+10*R) / B:Nat)+10*val 10 q.reverse)=B*((c+10*R) / B:Nat)+10*(B*val 10 q.reverse):=by rw[Int.mul_add,Int.mul_left_comm]
  rw[h3];omega
theorem Zl {r:List Int}:∀(m:Nat) (M A C:List Int),M.length=m→A.length=C.length→(A++M++C).length≤1000000000→
  aQ b p s r A.length (A++M++C)=aQ b p s r (((A++M++C).length:Int) / 2) (A++M.reverse++C):=by
 intro m;induction m using Nat.strongRecOn with
 |ind m ih=>
  intro M A C hm hac hl;by_cases h:M.length≤1
  ·have adg:M.reverse=M:=by
    match M,h with
    | [],_=>rfl
    | [x],_=>rfl
    |_::_::_,h=>simp at h
   have:((A++M++C).length:Int) / 2=A.length:=by simp;omega
   rw[adg,this]
  ·obtain⟨x,M1,rfl⟩:∃x M1,M=x::M1:=by
    cases M with
    |nil=>simp at h
    |cons x M1=>exact⟨x,M1,rfl⟩
   have hne:M1≠ []:=fun e=>by rw[e] at h;simp at h
   obtain⟨M2,y,rfl⟩:∃M2 y,M1=M2++[y]:=⟨M1.dropLast,M1.getLast hne,(List.dropLast_concat_getLast hne).symm⟩
   have hlen:(A++x::(M2++[y])++C).length=A.length+M2.length+2+C.length:=by simp;omega
   rw[hlen] at hl;have hL:A++x::(M2++[y])++C=A++(x::(M2++(y::C))):=by simp
   have hR:A++(x::(M2++[y])).reverse++C=(A++[y])++M2.reverse++(x::C):=by simp
   have abe:((A++[y])++M2++(x::C)).length=A.length+M2.length+2+C.length:=by simp;omega
   have LI:=ih M2.length (by simp at hm;omega) M2 (A++[y]) (x::C) rfl (by simp;omega) (by omega);have e1:((A++[y]).length:Int)=(A.length:Int)+1:=by simp
   rw[e1,abe] at LI;rw[hlen,hR, ←LI,hL];rw[hL] at hlen;have gx:(A++(x::(M2++(y::C)))).getD A.length 0=x:=by simp[List.getD]
   have gy:(A++(x::(M2++(y::C)))).getD (A.length+M2.length+1) 0=y:=by
    rw[List.getD,List.getElem?_append_right (by omega)];have:A.length+M2.length+1 - A.length=M2.length+1:=by omega
    rw[this];simp
   have s1:(A++(x::(M2++(y::C)))).set A.length y=A++(y::(M2++(y::C))):=by rw[List.set_append_right _ _ (by omega)];simp
   have s2:(A++(y::(M2++(y::C)))).set (A.length+M2.length+1) x=(A++[y])++M2++(x::C):=by
    rw[List.set_append_right _ _ (by omega)];have:A.length+M2.length+1 - A.length=M2.length+1:=by omega
    rw[this,List.set_cons_succ,List.set_append_right _ _ (by omega)];simp
   have N5:(A++(y::(M2++(y::C)))).length=A.length+M2.length+2+C.length:=by simp;omega
   have ej:(((A.length+M2.length+2+C.length:Nat):Int) - 1 - A.length).toNat=A.length+M2.length+1:=by omega
   rw[nr,jx];simp only[hlen];rw[jL (by omega)];simp (disch:=omega) only[aO,i64_in,oU,y6,ej,Int.toNat_natCast,gx,gy,s1,s2]
theorem Xe {r q:List Int}(hl:q.length≤1000000000):aQ b p s r 0 q=aQ b p s r ((q.length:Int) / 2) q.reverse:=by have:=Zl (b:=b) (p:=p) (s:=s) (r:=r) q.length q [] [] rfl rfl (by simpa using hl);simpa using this
end
theorem s8 {x y:Int}(hx:Bd x)(hy:Bd y)(hy0:y≠0):aR (c8 x) (c8 y)=some (c8 (x.fdiv y),c8 (x.fmod y)):=by
 have Zj:=Ej x;have ZI:=Ej y;obtain⟨fq,fr⟩:=Vy (x:=x) (y:=y) hy0 rfl rfl;have OS:=Nat.div_add_mod x.natAbs y.natAbs;have hlt:=Nat.mod_lt x.natAbs (show y.natAbs>0 by omega);have OT:=hx;have hby:=hy;rw[yk,pY,ti hx,bS,ti hy,bS];unfold Bd at hx hy
 -- zw JV way
 have JV:((ay (c8 x)).bind fun r9=>(ay (c8 y)).bind fun Bi=>
   let LK:Int:=(IntKind.wrap .i64 ((Bi.2.length:Int) - (1:Int)))
   let LV:Int:=(bif decide (LK>(0:Int)) then LK else (0:Int))
   let PZ:Int:=(bif decide ((IntKind.wrap .i64 ((r9.2.length:Int) - LV))>(0:Int)) then (IntKind.wrap .i64 ((r9.2.length:Int) - LV)) else (0:Int))
   bif (nc r9.2.length PZ (r9.2.length:Int)) then
   bif (bj 8 1 0 (cut r9.2 PZ (r9.2.length:Int)).length) then
   let UT:List Int:=(([]:List Int)++(cut r9.2 PZ (r9.2.length:Int)))
   (bt UT).bind fun LS=>
   bB (c8 y) r9.1 r9.2 Bi.1 Bi.2 LS (IntKind.wrap .i64 (PZ - (1:Int))) ([]:List Int)
   else none
   else none)=some (c8 (x.fdiv y),c8 (x.fmod y)):=by
  rw[kR OT,bS,kR hby,bS];simp only;obtain⟨LX,hLX⟩:∃LX,LX=(dX x.natAbs).length:=⟨_,rfl⟩
  obtain⟨LY,hLY⟩:∃LY,LY=(dX y.natAbs).length:=⟨_,rfl⟩
  have agN:0<LY:=by
   have:(dX y.natAbs).length≠0:=fun e=>by have:=(ov (B:=10) (n:=y.natAbs) (by omega)).1 (List.length_eq_zero_iff.1 e);omega
   omega
  obtain⟨st,hst⟩:∃st:Nat,st=LX - (LY - 1):=⟨_,rfl⟩
  rw[←hLX, ←hLY];have LK:IntKind.wrap .i64 ((LY:Int) - 1)=((LY - 1:Nat):Int):=by rw[i64_in _ (by omega)];omega
  have LV:(bif decide (((LY - 1:Nat):Int)>0) then ((LY - 1:Nat):Int) else 0)=((LY - 1:Nat):Int):=by
   by_cases h:((LY - 1:Nat):Int)>0
   ·rw[lR h]
   ·rw[lS h];omega
  have PZ:(bif decide (IntKind.wrap .i64 ((LX:Int) - ((LY - 1:Nat):Int))>0) then IntKind.wrap .i64 ((LX:Int) - ((LY - 1:Nat):Int)) else 0)=(st:Int):=by
   rw[i64_in _ (by omega)];by_cases h:(LX:Int) - ((LY - 1:Nat):Int)>0
   ·rw[lR h];omega
   ·rw[lS h];omega
  have adi:cut (dX x.natAbs) (st:Int) (LX:Int)=(dX x.natAbs).drop st:=by unfold cut;rw[Int.toNat_natCast,Int.toNat_natCast,hLX,List.take_length]
  simp only[LK,LV,PZ,adi];have Y5:((dX x.natAbs).drop st).length=LX - st:=by rw[List.length_drop,hLX]
  have hDd:=(y9 x.natAbs).drop st;obtain⟨R0,hR0⟩:=Int.eq_ofNat_of_zero_le (A6 hDd);rw[W0 (by omega) (by omega) (by omega),pL (by omega) (by omega),List.nil_append,AG (by omega),bS,Jh hDd,hR0,Int.toNat_natCast,i64_in _ (by omega)]
  -- zw first digits are less acX zw W5
  have adk:R0<y.natAbs:=by have h1:VX ((dX x.natAbs).drop st)<10^((dX x.natAbs).drop st).length:=sA (B:=10) (by omega) hDd;have h2:=OD (show ((dX x.natAbs).drop st).length≤LY - 1 by omega);have h3:=(gX (B:=10) (by omega) (LY - 1) y.natAbs).1 (by show LY - 1<(dX y.natAbs).length;omega);have h4:((10^(LY - 1):Nat):Int)≤(y.natAbs:Int):=Int.ofNat_le.2 h3;rw[yu] at h4;omega
  obtain⟨q',R',w1,w2,w3,w4,w5⟩:=abc (b:=c8 y) (p:=decide (x<0)) (s:=decide (y<0)) (y9 x.natAbs) (B:=y.natAbs) (by omega) (by omega) (by omega) st R0 [] (by omega) adk (by simp;omega) fp.nil (by rw[hR0];simp[VX,val]);have hq0:=A6 (show DX q'.reverse from fun z hz=>w3 z (List.mem_reverse.1 hz));obtain⟨Q,hQ⟩:=Int.eq_ofNat_of_zero_le hq0;rw[BA,hQ] at w4;have XV:x.natAbs=y.natAbs*Q+R':=by
   have:((y.natAbs*Q+R':Nat):Int)=(y.natAbs:Int)*Q+R':=by rw[Int.natCast_add,Int.natCast_mul]
   omega
  have W2:x.natAbs / y.natAbs=Q:=by rw[XV,Nat.mul_add_div (by omega),Nat.div_eq_of_lt w2];omega
  have EA:x.natAbs % y.natAbs=R':=by rw[XV,Nat.mul_add_mod,Nat.mod_eq_of_lt w2]
  rw[W2,EA] at fq;rw[EA] at fr;have agO:=K0 (show R'≤y.natAbs by omega);rw[w1,Xe (by omega),nr,jx];have YK:(q'.reverse).length=q'.length:=by simp
  rw[YK,jL (by omega)];simp (disch:=omega) only[i64_in,aY];have hD':DX q'.reverse:=fun z hz=>w3 z (List.mem_reverse.1 hz);rw[rY hD' (by rw[YK];omega),bS,rY (y9 R') (by omega),bS,hQ,BA,Mw];have adl:nd (Q:Int)≤10000000:=by
   have:Q≤x.natAbs:=by rw[←W2];exact Nat.div_le_self _ _
   have:=Rw (x:=(Q:Int)) (y:=x) (by omega);omega
  have abf:nd (R':Int)≤10000000:=by have:=Rw (x:=(R':Int)) (y:=y) (by omega);omega
  have b1:Bd 1:=by unfold Bd;rw[Vu (by decide)];omega
  by_cases hs:(x<0↔y<0)
  ·have hd:(decide (x<0)==decide (y<0))=true:=beq_iff_eq.2 (decide_eq_decide.2 hs);rw[if_pos hs] at fq fr;rw[hd,Bool.not_true,fq,fr];simp only[Bool.false_eq_true,if_false,cF,decide_eq_true_eq];cases ((c8 (if x<0 then -(R':Int) else (R':Int))).toList==(c8 0).toList)<;>rfl
  ·have hd:(decide (x<0)==decide (y<0))=false:=by
    cases hh:(decide (x<0)==decide (y<0)) with
    |false=>rfl
    |true=>exact absurd (decide_eq_decide.1 (beq_iff_eq.1 hh)) hs
   rw[if_neg hs] at fq fr;rw[hd,Bool.not_false,fq,fr];simp only[if_true,cT,decide_eq_true_eq];by_cases hz:R'=0
   ·subst hz;have:(if x<0 then -((0:Nat):Int) else ((0:Nat):Int))=0:=by split<;>rfl
    rw[this,Fw rfl,Bool.not_true,cF,if_pos (by rfl),if_pos (by rfl)]
   ·have h1:¬(if x<0 then -(R':Int) else (R':Int))=0:=by split<;>omega
    rw[xy h1,Bool.not_false,cT,if_neg (show ¬((R':Nat):Int)=0 by omega),if_neg (show ¬((R':Nat):Int)=0 by omega),Zh,Fy (by unfold Bd;rw[Qj];exact adl) b1,bS,Jm (by
     unfold Bd;split
     ·rw[Qj];exact abf
     ·exact abf) hby,bS]
 by_cases h1:nd x≤9
 ·rw[if_pos h1];simp only[cT];by_cases h2:nd y≤9
  ·rw[if_pos h2];simp only[cT];have c1:=(kh x 9 (by omega)).1 h1;have c2:=(kh y 9 (by omega)).1 h2;have adm:=Nat.div_le_self x.natAbs y.natAbs
   -- truncated abg by zw absolute values
   have eq1:x.tdiv y=if (x<0↔y<0) then ((x.natAbs / y.natAbs:Nat):Int) else -((x.natAbs / y.natAbs:Nat):Int):=by
    by_cases a:x<0<;>by_cases b:y<0
    ·have hx':x= -(x.natAbs:Int):=by omega
     have hy':y= -(y.natAbs:Int):=by omega
     rw[if_pos (by simp[a,b])]
     conv=>lhs;rw[hx',hy']
     rw[Int.neg_tdiv,Int.tdiv_neg,Int.neg_neg,jL (by omega),Int.natCast_ediv]
    ·have hx':x= -(x.natAbs:Int):=by omega
     have hy':y=(y.natAbs:Int):=by omega
     rw[if_neg (by simp[a,b])]
     conv=>lhs;rw[hx',hy']
     rw[Int.neg_tdiv,jL (by omega),Int.natCast_ediv]
    ·have hx':x=(x.natAbs:Int):=by omega
     have hy':y= -(y.natAbs:Int):=by omega
     rw[if_neg (by simp[a,b])]
     conv=>lhs;rw[hx',hy']
     rw[Int.tdiv_neg,jL (by omega),Int.natCast_ediv]
    ·have hx':x=(x.natAbs:Int):=by omega
     have hy':y=(y.natAbs:Int):=by omega
     rw[if_pos (by simp[a,b])]
     conv=>lhs;rw[hx',hy']
     rw[jL (by omega),Int.natCast_ediv]
   have eq2:x.tmod y=if x<0 then -((x.natAbs % y.natAbs:Nat):Int) else ((x.natAbs % y.natAbs:Nat):Int):=by
    have key:x.tmod y=x.tmod (y.natAbs:Int):=by
     by_cases b:y<0
     ·have hy':y= -(y.natAbs:Int):=by omega
      conv=>lhs;rw[hy']
      rw[Int.tmod_neg]
     ·have hy':y=(y.natAbs:Int):=by omega
      conv=>lhs;rw[hy']
    rw[key];by_cases a:x<0
    ·have hx':x= -(x.natAbs:Int):=by omega
     rw[if_pos a]
     conv=>lhs;rw[hx']
     rw[Int.neg_tmod,fL (by omega),Int.natCast_emod]
    ·have hx':x=(x.natAbs:Int):=by omega
     rw[if_neg a]
     conv=>lhs;rw[hx']
     rw[fL (by omega),Int.natCast_emod]
   obtain⟨Q,hQ⟩:∃Q,Q=x.natAbs / y.natAbs:=⟨_,rfl⟩
   obtain⟨R,hR⟩:∃R,R=x.natAbs % y.natAbs:=⟨_,rfl⟩
   rw[Ol hy0,Ol hy0,eq1,eq2,fq,fr];rw[←hQ, ←hR] at OS;rw[←hR] at hlt;rw[←hQ] at adm;rw[←hQ, ←hR];clear hQ hR fq fr eq1 eq2;by_cases hz:R=0
   ·subst hz;have e0:(if x<0 then -((0:Nat):Int) else ((0:Nat):Int))=0:=by split<;>rfl
    rw[e0,pK rfl];by_cases hs:(x<0↔y<0)
    ·rw[if_pos hs,if_pos hs,if_pos hs,i64_in _ (by omega),ir (by omega) (by omega),bS,ir (by omega) (by omega),bS]
    ·rw[if_neg hs,if_neg hs,if_neg hs,if_pos (by rfl),if_pos (by rfl),i64_in _ (by omega),ir (by omega) (by omega),bS,ir (by omega) (by omega),bS]
   ·have Ng:¬(if x<0 then -(R:Int) else (R:Int))=0:=by split<;>omega
    rw[vw Ng];have hsg:(decide ((if x<0 then -(R:Int) else (R:Int))<0))=decide (x<0):=decide_eq_decide.2 (by split<;>omega);rw[hsg];by_cases hs:(x<0↔y<0)
    ·have hd:(decide (x<0)==decide (y<0))=true:=beq_iff_eq.2 (decide_eq_decide.2 hs);rw[hd,Bool.not_true,cF,if_pos hs,if_pos hs,if_pos hs,i64_in _ (by omega),ir (by omega) (by omega),bS,ir (by split<;>omega) (by split<;>omega),bS]
    ·have hd:(decide (x<0)==decide (y<0))=false:=by
      cases hh:(decide (x<0)==decide (y<0)) with
      |false=>rfl
      |true=>exact absurd (decide_eq_decide.1 (beq_iff_eq.1 hh)) hs
     rw[hd,Bool.not_false,cT,if_neg hs,if_neg hs,if_neg hs,if_neg (show ¬((R:Nat):Int)=0 by omega),if_neg (show ¬((R:Nat):Int)=0 by omega)];have w1:IntKind.wrap .i64 (-(Q:Int))= -(Q:Int):=i64_in _ (by omega);have w2:IntKind.wrap .i64 (-(Q:Int) - 1)= -(Q:Int) - 1:=i64_in _ (by omega);have w3:IntKind.wrap .i64 ((if x<0 then -(R:Int) else (R:Int))+y)=(if x<0 then -(R:Int) else (R:Int))+y:=i64_in _ (by split<;>omega);simp only[w1,w2,w3];rw[ir (by omega) (by omega),bS,ir (by split<;>omega) (by split<;>omega),bS]
  ·rw[if_neg h2];simp only[cF];exact JV
 ·rw[if_neg h1];simp only[cF];exact JV
end Go.Proofs.Ytcopbdamkjladaa.Ev
namespace Go.Abs
structure EU (a b r s x y u v:Int) (X Y R:Nat):Prop where
 r0:r≠0
 er:r=a*x+b*y
 es:s=a*u+b*v
 sg:(0≤r∧0≤s)∨(r≤0∧s≤0)
 px:x.natAbs*s.natAbs+u.natAbs*r.natAbs≤X
 py:y.natAbs*s.natAbs+v.natAbs*r.natAbs≤Y
 bx:x.natAbs≤X
 bY:y.natAbs≤Y
 dv:∀d:Int,d ∣ r→d ∣ s→d ∣ a∧d ∣ b
 rR:r.natAbs≤R
 sR:s.natAbs≤R
section
variable {a b r s x y u v:Int}{X Y R:Nat}
theorem EU.bu (h:EU a b r s x y u v X Y R):u.natAbs≤X:=by have h1:u.natAbs*1≤u.natAbs*r.natAbs:=Nat.mul_le_mul_left _ (by have:=h.r0;omega);have:=h.px;omega
theorem EU.bv (h:EU a b r s x y u v X Y R):v.natAbs≤Y:=by have h1:v.natAbs*1≤v.natAbs*r.natAbs:=Nat.mul_le_mul_left _ (by have:=h.r0;omega);have:=h.py;omega
theorem Vz (hs:s≠0)(h:(0≤r∧0≤s)∨(r≤0∧s≤0)):(r.fdiv s).natAbs*s.natAbs+(r.fmod s).natAbs=r.natAbs:=by
 have e:=fd_eq r s;rw[←Int.natAbs_mul];rcases h with ⟨h1,h2⟩ | ⟨h1,h2⟩
 ·have g1:=q7 (a:=r) (b:=s) (by omega);have g2:0≤r.fdiv s*s:=Int.mul_nonneg (Int.fdiv_nonneg h1 h2) h2;omega
 ·have g1:=wi (a:=r) (b:=s) (by omega);have g2:0≤r.fdiv s:=by have:=Int.fdiv_nonneg (show 0≤ -r by omega) (show 0≤ -s by omega);rw[Int.neg_fdiv_neg] at this;exact this
  have g3:r.fdiv s*s≤0:=Int.mul_nonpos_of_nonneg_of_nonpos g2 h2;omega
theorem OL {x u q r s t:Nat}(h:q*s+t=r){y:Nat}(hy:y≤x+q*u):u*t+y*s≤x*s+u*r:=by
 have h1:y*s≤(x+q*u)*s:=Nat.mul_le_mul_right _ hy;have h2:(x+q*u)*s=x*s+q*u*s:=Nat.add_mul ..;have h3:u*r=u*(q*s)+u*t:=by rw[←h,Nat.mul_add]
 have h4:q*u*s=u*(q*s):=by ac_rfl
 omega
theorem VA (hs:s≠0):((0≤s∧0≤r.fmod s)∨(s≤0∧r.fmod s≤0))∧(r.fmod s).natAbs<s.natAbs:=by
 rcases Int.lt_or_gt_of_ne hs with g |g
 ·have:=wi (a:=r) g;exact⟨.inr (by omega),by omega⟩
 ·have:=q7 (a:=r) g;exact⟨.inl (by omega),by omega⟩
theorem EU.step (h:EU a b r s x y u v X Y R)(hs:s≠0):EU a b s (r.fmod s) u v (x - r.fdiv s*u) (y - r.fdiv s*v) X Y R:=by
 have e:=fd_eq r s;obtain⟨g1,g2⟩:=VA (r:=r) hs;have hsp:=Vz hs h.sg;refine⟨hs,h.es, ?_,g1, ?_, ?_,h.bu,h.bv,fun d h1 h2=> ?_,h.sR,by have:=h.sR;omega⟩
 ·rw[←e,h.er];generalize hq:(a*x+b*y).fdiv s=q;rw[h.es]
  grind
 ·refine Nat.le_trans (OL (y:=(x - r.fdiv s*u).natAbs) hsp ?_) h.px;rw[←Int.natAbs_mul];omega
 ·refine Nat.le_trans (OL (y:=(y - r.fdiv s*v).natAbs) hsp ?_) h.py;rw[←Int.natAbs_mul];omega
 ·refine h.dv d ?_ h1;have:r=r.fmod s+r.fdiv s*s:=by omega
  rw[this];exact Int.dvd_add h2 (Int.dvd_mul_of_dvd_right h1)
theorem EU.first (ha:a≠0)(hb:b≠0):EU a b b (a.fmod b) 0 1 (1 - a.fdiv b*0) (0 - a.fdiv b*1) b.natAbs (a.natAbs+2*b.natAbs) (a.natAbs+2*b.natAbs):=by
 have e:=fd_eq a b;obtain⟨g1,g2⟩:=VA (r:=a) hb;have g3:=P9 (a:=a) hb;rw[Int.mul_zero,Int.sub_zero,Int.mul_one,Int.zero_sub];refine⟨hb,by omega, ?_,g1, ?_, ?_,by simp,by simp;omega,fun d h1 h2=>⟨?_,h1⟩,by omega,by omega⟩
 ·rw[Int.mul_one,Int.mul_neg,Int.mul_comm b];omega
 ·simp
 ·rw[Int.natAbs_neg];simp;omega
 ·have:a=a.fmod b+a.fdiv b*b:=by omega
  rw[this];exact Int.dvd_add h2 (Int.dvd_mul_of_dvd_right h1)
structure EE (a b g x y:Int):Prop where
 pos:0<g
 e:g=a*x+b*y
 da:g ∣ a
 db:g ∣ b
 bx:x.natAbs≤b.natAbs
 bY:y.natAbs≤a.natAbs+1
theorem EU.fin (h:EU a b r s x y u v b.natAbs Y R)(hs:s=0)(hb:b≠0):EE a b (if r<0 then -r else r) (if r<0 then -x else x) (if r<0 then -y else y):=by
 obtain⟨d1,d2⟩:=h.dv r (Int.dvd_refl r) (by rw[hs];exact Int.dvd_zero r);have Ng:=h.r0;have OT:=h.bx;have er:=h.er;have hrb:r.natAbs≤b.natAbs:=Nat.le_of_dvd (by omega) (Int.natAbs_dvd_natAbs.2 d2);have hy:y.natAbs≤a.natAbs+1:=by
  have h1:(b*y).natAbs≤b.natAbs+a.natAbs*b.natAbs:=by
   have e1:b*y=r - a*x:=by omega
   have e2:(a*x).natAbs≤a.natAbs*b.natAbs:=by rw[Int.natAbs_mul];exact Nat.mul_le_mul_left _ OT
   omega
  rw[Int.natAbs_mul] at h1;have h2:b.natAbs+a.natAbs*b.natAbs=b.natAbs*(a.natAbs+1):=by rw[Nat.mul_add,Nat.mul_one,Nat.mul_comm a.natAbs,Nat.add_comm]
  rw[h2] at h1;exact Nat.le_of_mul_le_mul_left h1 (by omega)
 by_cases hn:r<0
 ·simp only[if_pos hn];exact⟨by omega,by rw[Int.mul_neg,Int.mul_neg];omega,Int.neg_dvd.2 d1,Int.neg_dvd.2 d2,by rw[Int.natAbs_neg];exact OT,by rw[Int.natAbs_neg];exact hy⟩
 ·simp only[if_neg hn];exact⟨by omega,er,d1,d2,OT,hy⟩
theorem EE.one {a b g x y:Int}(h:EE a b g x y):a.fdiv g*x+b.fdiv g*y=1:=by
 have hg:=h.pos;obtain⟨k,hk⟩:=h.da;obtain⟨l,hl⟩:=h.db;have e1:a.fdiv g=k:=by rw[hk];exact Int.mul_fdiv_cancel_left k (by omega)
 have e2:b.fdiv g=l:=by rw[hl];exact Int.mul_fdiv_cancel_left l (by omega)
 rw[e1,e2];have e:=h.e;have:g*(k*x+l*y)=g*1:=by rw[Int.mul_one,Int.mul_add, ←Int.mul_assoc, ←Int.mul_assoc, ←hk, ←hl];exact e.symm
 exact Int.eq_of_mul_eq_mul_left (by omega) this
theorem EE.qa {a b g x y:Int}(h:EE a b g x y):a.fdiv g*g=a∧b.fdiv g*g=b:=by
 have hg:=h.pos;obtain⟨k,hk⟩:=h.da;obtain⟨l,hl⟩:=h.db;have e1:a.fdiv g=k:=by rw[hk];exact Int.mul_fdiv_cancel_left k (by omega)
 have e2:b.fdiv g=l:=by rw[hl];exact Int.mul_fdiv_cancel_left l (by omega)
 rw[e1,e2,Int.mul_comm k,Int.mul_comm l];exact⟨hk.symm,hl.symm⟩
theorem OM {a g q:Int}(hg:0<g)(h:q*g=a):q.natAbs≤a.natAbs:=by rw[←h,Int.natAbs_mul];have:q.natAbs*1≤q.natAbs*g.natAbs:=Nat.mul_le_mul_left _ (by omega);omega
end
end Go.Abs
namespace Go.Proofs.Ytcopbdamkjladaa.Ev
open Go.Abs Go.IntWalk
theorem eS {z:Int}{e:Nat}(h:z.natAbs≤10^e)(he:e<10000000):Bd z:=by
 unfold Bd;obtain⟨n,hn⟩:∃n:Nat,n=10000000:=⟨_,rfl⟩
 rw[←hn,kh _ _ (by omega)];exact Nat.lt_of_le_of_lt h (Nat.pow_lt_pow_right (by omega) (by omega))
theorem yQ {x y:Int}{a b:Nat}(hx:x.natAbs≤10^a)(hy:y.natAbs≤10^b):(x*y).natAbs≤10^(a+b):=by rw[Int.natAbs_mul,Nat.pow_add];exact Nat.mul_le_mul hx hy
theorem kj {x:Int}{a b:Nat}(hx:x.natAbs≤10^a)(h:a≤b):x.natAbs≤10^b:=Nat.le_trans hx (Nat.pow_le_pow_right (by omega) h)
theorem RD {e:Nat}:1≤10^e:=Nat.one_le_pow _ _ (by omega)
theorem Xf {e:Nat}:10^(e+1)=10*10^e:=by rw[Nat.pow_succ,Nat.mul_comm]
theorem VB {w:Nat}{l:List ByteArray}{f:Nat→Int}(hl:l.length=w)(h:∀q,q<w→l.getD q ByteArray.empty=c8 (f q)):l=fv w f:=by apply List.ext_getElem (by rw[hl,gK]);intro q h1 h2;have e:=h q (by omega);have e2:=na (w:=w) (f:=f) (d:=ByteArray.empty) (show q<w by omega);simp only[List.getD,List.getElem?_eq_getElem h1,List.getElem?_eq_getElem h2,Option.getD_some] at e e2;rw[e,e2]
theorem Qx {m:List (List Int)}{w:Nat}(h:OF m w):ic m=some (jq m.length w (Mx m)):=by
 have hn:=h.n;have hw:=h.wl;have row:∀(d k i:Nat) (out:List (List ByteArray)),out.length≤64→i<m.length→d+k=w→dj m i k out (fv k (Mx m i))=cu m (i+1:Nat) (out++[fv w (Mx m i)]):=by
  intro d;induction d with
  |zero=>
   intro k i out ho hi hd;obtain rfl:k=w:=by omega
   rw[nR,j8,gJ [] hi,h.row i hi,aY (by omega),pL (by omega) (by omega),m8 (by omega)]
  |succ d ih=>intro k i out ho hi hd;have hb:=h.b i hi k (by omega);have hr:=h.row i hi;rw[nR,j8,gJ [] hi,hr,aO (by omega),gJ [] hi,gJ 0 (by omega),show (m.getD i []).getD k 0=Mx m i k from rfl,ir (by omega) (by omega),bS,pL (by omega) (by rw[gK];omega),m8 (by omega),Fv];exact ih (k+1) i out ho hi (by omega)
 have key:∀(d i:Nat),d+i=m.length→cu m i (jq i w (Mx m))=some (jq m.length w (Mx m)):=by
  intro d;induction d with
  |zero=>
   intro i hd;obtain rfl:i=m.length:=by omega
   rw[nQ,j6,aY (by omega)]
  |succ d ih=>
   intro i hd;have hr:=row w 0 i (jq i w (Mx m)) (by rw[fz];omega) (by omega) (by omega);rw[nQ,j6,aO (by omega)];refine hr.trans ?_;have:jq i w (Mx m)++[fv w (Mx m i)]=jq (i+1) w (Mx m):=by unfold jq;rw[List.range_succ,List.map_append];rfl
   rw[this];exact ih (i+1) (by omega)
 rw[y3,rT];exact key m.length 0 (by omega)
theorem MC {w e:Nat}{f f':Nat→Int}{k l:Int}(hw:w≤1000)(he:e<10000000)(hk:k.natAbs≤10^e)(hl:l.natAbs≤10^e)(h:∀q,q<w→(f q).natAbs≤10^e∧(f' q).natAbs≤10^e∧(k*f q).natAbs≤10^e∧(l*f' q).natAbs≤10^e):
  eY (c8 k) (fv w f) (c8 l) (fv w f')=some (fv w (fun q=>k*f q+l*f' q)):=by
 have key:∀(d i:Nat),d+i=w→eZ (c8 k) (fv w f) (c8 l) (fv w f') i (fv i (fun q=>k*f q+l*f' q))=some (fv w (fun q=>k*f q+l*f' q)):=by
  intro d;induction d with
  |zero=>
   intro i hd;obtain rfl:i=w:=by omega
   rw[rU,nH,gK,aY (by omega)]
  |succ d ih=>
   intro i hd;have hi:i<w:=by omega
   obtain⟨h1,h2,h3,h4⟩:=h i hi;rw[rU,nH,gK,aO (by omega),gJ ByteArray.empty (by rw[gK];exact hi),na hi,A9 (eS hk he) (eS h1 he),bS,gJ ByteArray.empty (by rw[gK];exact hi),na hi,A9 (eS hl he) (eS h2 he),bS,Jm (eS h3 he) (eS h4 he),bS,pL (by omega) (by rw[gK];omega),m8 (by omega)];have:fv i (fun q=>k*f q+l*f' q)++[c8 (k*f i+l*f' i)]=fv (i+1) (fun q=>k*f q+l*f' q):=Fv (f:=fun q=>k*f q+l*f' q);rw[this];exact ih (i+1) (by omega)
 rw[DV,xi];exact key w 0 (by omega)
theorem ON {r s x y u v:Int}{e:Nat}(he:e<10000000)(hs:s≠0)(h1:r.natAbs≤10^e)(h2:s.natAbs≤10^e)(h3:x.natAbs≤10^e)(h4:y.natAbs≤10^e)(h5:u.natAbs≤10^e)(h6:v.natAbs≤10^e)(h7:(r.fdiv s).natAbs≤10^e)(h8:(r.fdiv s*u).natAbs≤10^e)(h9:(r.fdiv s*v).natAbs≤10^e):
  ax (c8 r) (c8 s) (c8 x) (c8 y) (c8 u) (c8 v)=ax (c8 s) (c8 (r.fmod s)) (c8 u) (c8 v) (c8 (x - r.fdiv s*u)) (c8 (y - r.fdiv s*v)):=by
 have step:ax (c8 r) (c8 s) (c8 x) (c8 y) (c8 u) (c8 v)=ea ax aR dJ dM bD aH (c8 r) (c8 s) (c8 x) (c8 y) (c8 u) (c8 v):=ns _ _ _ _ _ _;rw[step,ea,Mw,xy hs,show (!false)=true from rfl,cT,s8 (eS h1 he) (eS h2 he) hs,bS];simp only[];rw[A9 (eS h7 he) (eS h5 he),bS,Fy (eS h3 he) (eS h8 he),bS,A9 (eS h7 he) (eS h6 he),bS,Fy (eS h4 he) (eS h9 he),bS]
theorem VC {a b:Int}{Y R E:Nat}(hE:2*E+2<10000000)(hb:b≠0)(hbE:b.natAbs≤10^E)(hY:Y≤10^E)(hR:R≤10^E):∀(n:Nat) (r s x y u v:Int),s.natAbs=n→EU a b r s x y u v b.natAbs Y R→
  ∃g x' y',ax (c8 r) (c8 s) (c8 x) (c8 y) (c8 u) (c8 v)=some (c8 g,c8 x',c8 y')∧EE a b g x' y':=by
 intro n;induction n using Nat.strongRecOn with
 |ind n ih=>
  intro r s x y u v hn h;have b1:r.natAbs≤10^E:=Nat.le_trans h.rR hR;have b2:s.natAbs≤10^E:=Nat.le_trans h.sR hR;have b3:x.natAbs≤10^E:=Nat.le_trans h.bx hbE;have b4:y.natAbs≤10^E:=Nat.le_trans h.bY hY;have b5:u.natAbs≤10^E:=Nat.le_trans h.bu hbE;have b6:v.natAbs≤10^E:=Nat.le_trans h.bv hY;by_cases hs:s=0
  ·have hf:=h.fin hs hb;have he:E<10000000:=by omega
   have step:ax (c8 r) (c8 s) (c8 x) (c8 y) (c8 u) (c8 v)=bif decide (nS r 0<(0:Int)) then some (c8 (-r),c8 (-x),c8 (-y)) else some (c8 r,c8 x,c8 y):=by have step:ax (c8 r) (c8 s) (c8 x) (c8 y) (c8 u) (c8 v)=ea ax aR dJ dM bD aH (c8 r) (c8 s) (c8 x) (c8 y) (c8 u) (c8 v):=ns _ _ _ _ _ _;rw[step,ea,Mw,Fw hs,show (!true)=false from rfl,cF,AI (eS b1 he) (eS (e:=0) (by decide) (by omega)),bS,nb (eS b1 he),bS,nb (eS b3 he),bS,nb (eS b4 he),bS]
   by_cases hr:r<0
   ·simp only[if_pos hr] at hf;exact⟨_,_,_,by rw[step,aO (Qb hr)],hf⟩
   ·simp only[if_neg hr] at hf;exact⟨_,_,_,by rw[step,aY (Qc (by omega))],hf⟩
  ·have hst:=h.step hs;have b7:(r.fdiv s).natAbs≤10^(E+1):=by have:=Jg (a:=r) hs;rw[Xf];omega
   obtain⟨g,x',y',k1,k2⟩:=ih (r.fmod s).natAbs (by have:=(VA (r:=r) hs).2;omega) _ _ _ _ _ _ rfl hst;refine⟨g,x',y', ?_,k2⟩;rw[ON (e:=E+1+E) (by omega) hs (kj b1 (by omega)) (kj b2 (by omega)) (kj b3 (by omega)) (kj b4 (by omega)) (kj b5 (by omega)) (kj b6 (by omega)) (kj b7 (by omega)) (yQ b7 b5) (yQ b7 b6)];exact k1
theorem OO {a b:Int}{D:Nat}(hD:D<4000000)(ha:a≠0)(hb:b≠0)(h1:a.natAbs≤10^D)(h2:b.natAbs≤10^D):∃g x y,dR (c8 a) (c8 b)=some (c8 g,c8 x,c8 y)∧EE a b g x y:=by
 have hY:a.natAbs+2*b.natAbs≤10^(D+1):=by rw[Xf];omega
 obtain⟨g,x,y,k1,k2⟩:=VC (E:=D+1) (by omega) hb (kj h2 (by omega)) hY hY _ _ _ _ _ _ _ rfl (EU.first ha hb);refine⟨g,x,y, ?_,k2⟩;have b7:(a.fdiv b).natAbs≤10^(D+1):=by have:=Jg (a:=a) hb;rw[Xf];omega
 have o1:(1:Int).natAbs≤10^(D+1):=RD;have o0:(0:Int).natAbs≤10^(D+1):=Nat.zero_le _;rw[ym,ql,Mw,Zh,ON (e:=D+1) (by omega) hb (kj h1 (by omega)) (kj h2 (by omega)) o1 o0 o0 o1 b7 (by rw[Int.mul_zero];exact o0) (by rw[Int.mul_one];exact b7)];exact k1
end Go.Proofs.Ytcopbdamkjladaa.Ev
namespace Go.Abs
def El (w:Nat)(V:Nat→Nat→Int)(v:Nat→Int)(k:Nat):Nat→Int:=if k<w then V k else v
theorem RE {w:Nat}{V:Nat→Nat→Int}{v:Nat→Int}{k:Nat}(h:k<w):El w V v k=V k:=if_pos h
theorem VD {w:Nat}{V:Nat→Nat→Int}{v:Nat→Int}:El w V v w=v:=if_neg (by omega)
section
variable {w n:Nat}{m V V':Nat→Nat→Int}{v v':Nat→Int}
theorem Em (h:∀k,k<w→jD w n m (V k))(hv:jD w n m v):∀k,k<w+1→jD w n m (El w V v k):=fun k hk=>by
 by_cases e:k<w
 ·rw[RE e];exact h k e
 ·obtain rfl:k=w:=by omega
  rw[VD];exact hv
theorem RF {x:Nat→Int}(h:jD w w V x):jD w (w+1) (El w V v) x:=jD.trans (fun k hk=>by
 have:=jD.gen (w:=w) (V:=El w V v) (show k<w+1 by omega);rw[RE hk] at this;exact this) h
theorem K3:jD w (w+1) (El w V v) v:=by have:=jD.gen (w:=w) (V:=El w V v) (show w<w+1 by omega);rw[VD] at this;exact this
theorem Gv {k:Nat}(hk:k<w):jD w (w+1) (El w V v) (V k):=RF (jD.gen hk)
theorem Tl {c:Nat}(hc:c<w){x y p q:Int}(hd:p*x+q*y=1)(ho:∀k,k<w→k≠c→∀j,j<w→V' k j=V k j)(h1:∀j,j<w→V' c j=x*V c j+y*v j)(h2:∀j,j<w→v' j=p*v j - q*V c j):xz w (w+1) (w+1) (El w V v) (El w V' v'):=by
 refine⟨Em (fun k hk=> ?_) ?_,Em (fun k hk=> ?_) ?_⟩
 ·by_cases e:k=c
  ·subst e;refine((jD.smul p (Gv (V:=V') (v:=v') hk)).add (-y) K3).congr fun j hj=> ?_;rw[h1 j hj,h2 j hj];generalize V k j=A;generalize v j=C;have:A=(p*x+q*y)*A:=by rw[hd,Int.one_mul]
   grind
  ·exact(Gv (V:=V') (v:=v') hk).congr fun j hj=>(ho k hk e j hj).symm
 ·refine((jD.smul q (Gv (V:=V') (v:=v') hc)).add x K3).congr fun j hj=> ?_;rw[h1 j hj,h2 j hj];generalize V c j=A;generalize v j=C;have:C=(p*x+q*y)*C:=by rw[hd,Int.one_mul]
  grind
 ·by_cases e:k=c
  ·subst e;exact((jD.smul x (Gv (V:=V) (v:=v) hk)).add y K3).congr h1
  ·exact(Gv (V:=V) (v:=v) hk).congr (ho k hk e)
 ·refine((jD.smul p (K3 (V:=V) (v:=v))).add (-q) (Gv hc)).congr fun j hj=> ?_;rw[h2 j hj,Int.neg_mul];omega
theorem K4 {c:Nat}(hc:c<w)(h0:∀j,j<w→V c j=0){s:Int}(hs:s=1∨s= -1)(ho:∀k,k<w→k≠c→∀j,j<w→V' k j=V k j)(h1:∀j,j<w→V' c j=s*v j):xz w (w+1) w (El w V v) V':=by
 refine⟨Em (fun k hk=> ?_) ?_,fun k hk=> ?_⟩
 ·by_cases e:k=c
  ·subst e;exact jD.zero h0
  ·exact(jD.gen (V:=V') hk).congr fun j hj=>(ho k hk e j hj).symm
 ·refine(jD.smul s (jD.gen (V:=V') hc)).congr fun j hj=> ?_;rw[h1 j hj, ←Int.mul_assoc];rcases hs with rfl |rfl
  ·omega
  ·omega
 ·by_cases e:k=c
  ·subst e;exact(jD.smul s (K3 (V:=V) (v:=v))).congr h1
  ·exact(Gv (V:=V) (v:=v) hk).congr (ho k hk e)
theorem VE (h0:∀j,j<w→v j=0):xz w (w+1) w (El w V v) V:=
 ⟨Em (fun k hk=>jD.gen hk) (jD.zero h0),fun k hk=>Gv hk⟩
theorem Xh (h:xz w n w m V)(hv:∀j,j<w→v j=m n j):xz w (n+1) (w+1) m (El w V v):=by
 refine⟨fun s hs=> ?_,Em (fun k hk=> ?_) ?_⟩
 ·by_cases e:s<n
  ·exact RF (h.1 s e)
  ·obtain rfl:s=n:=by omega
   exact(K3 (V:=V) (v:=v)).congr fun j hj=>(hv j hj).symm
 ·exact jD.trans (fun s hs=>jD.gen (V:=m) (show s<n+1 by omega)) (h.2 k hk)
 ·exact(jD.gen (V:=m) (show n<n+1 by omega)).congr hv
end
structure RO (w:Nat) (V:Nat→Nat→Int) (c r:Nat) (M:Nat→Nat→Int) (pos:Nat→Nat):Prop where
 cl:c≤w
 a:∀s,s<r→jD w w V (M s)
 b:∀k,k<c→jD w r M (V k)
 pc:∀s,s<r→pos s<c
 mono:∀s t,s<t→t<r→pos s<pos t
 lead:∀s,s<r→0<M s (pos s)
 Rs:∀s,s<r→∀q,q<pos s→M s q=0
 red:∀s t,s<t→t<r→0≤M s (pos t)∧M s (pos t)<M t (pos t)
section
variable {w c r:Nat}{V M M':Nat→Nat→Int}{pos:Nat→Nat}
theorem RO.zero:RO w V 0 0 M pos:=⟨by omega,fun s h=>by omega,fun s h=>by omega,fun s h=>by omega,fun s t _ h=>by omega,fun s h=>by omega,fun s h=>by omega,fun s t _ h=>by omega⟩
theorem RO.skip (h:RO w V c r M pos)(hc:c<w)(h0:∀q,q<w→V c q=0):RO w V (c+1) r M pos:=
 ⟨hc,h.a,fun k hk=>by
  by_cases e:k=c
  ·subst e;exact jD.zero h0
  ·exact h.b k (by omega),fun s hs=>by have:=h.pc s hs;omega,h.mono,h.lead,h.Rs,h.red⟩
theorem RO.step (h:RO w V c r M pos)(hc:c<w)(h1:0<V c c)(h2:∀q,q<c→V c q=0){y8:Nat→Int}(h3:∀s,s<r→∀q,q<w→M' s q=M s q+y8 s*V c q)(h4:∀s,s<r→0≤M' s c∧M' s c<V c c)(h5:∀q,q<w→M' r q=V c q):RO w V (c+1) (r+1) M' (fun s=>if s=r then c else pos s):=by
 have old:∀s,s<r→∀q,q<c→M' s q=M s q:=fun s hs q hqc=>by rw[h3 s hs q (by omega),h2 q hqc,Int.mul_zero,Int.add_zero]
 have hV:jD w (r+1) M' (V c):=(jD.gen (V:=M') (show r<r+1 by omega)).congr fun q hq=>(h5 q hq).symm;refine⟨hc,fun s hs=> ?_,fun k hk=> ?_,fun s hs=> ?_,fun s t hst ht=> ?_,fun s hs=> ?_,fun s hs q W6=> ?_,fun s t hst ht=> ?_⟩
 ·by_cases e:s=r
  ·subst e;exact(jD.gen (V:=V) hc).congr h5
  ·exact((h.a s (by omega)).add (y8 s) (jD.gen (V:=V) hc)).congr (h3 s (by omega))
 ·by_cases e:k=c
  ·subst e;exact hV
  ·refine jD.trans (fun s hs=> ?_) (h.b k (by omega));refine((jD.gen (V:=M') (show s<r+1 by omega)).add (- y8 s) hV).congr fun q hq=> ?_;rw[h3 s hs q hq,Int.neg_mul];omega
 ·by_cases e:s=r
  ·simp only[if_pos e];omega
  ·simp only[if_neg e];have:=h.pc s (by omega);omega
 ·simp only[if_neg (show s≠r by omega)];by_cases e:t=r
  ·simp only[if_pos e];exact h.pc s (by omega)
  ·simp only[if_neg e];exact h.mono s t hst (by omega)
 ·by_cases e:s=r
  ·subst e;simp only[if_true];rw[h5 c hc];exact h1
  ·simp only[if_neg e];rw[old s (by omega) _ (h.pc s (by omega))];exact h.lead s (by omega)
 ·by_cases e:s=r
  ·subst e;simp only[if_true] at W6;rw[h5 q (by omega)];exact h2 q W6
  ·simp only[if_neg e] at W6;have:=h.pc s (by omega);rw[old s (by omega) q (by omega)];exact h.Rs s (by omega) q W6
 ·by_cases e:t=r
  ·subst e;simp only[if_true];rw[h5 c hc];exact h4 s (by omega)
  ·simp only[if_neg e];rw[old s (by omega) _ (h.pc t (by omega)),old t (by omega) _ (h.pc t (by omega))];exact h.red s t hst (by omega)
theorem RO.fin (h:RO w V w r M pos):Tc w r M r pos∧xz w w r V M:=
 ⟨⟨Nat.le_refl r,h.pc,h.mono,h.lead,h.Rs,h.red,fun s h1 h2=>by omega⟩,h.b,h.a⟩
end
theorem MD {w N r r':Nat}{m V H M:Nat→Nat→Int}{pos pos':Nat→Nat}(h1:xz w N N m H)(h2:Tc w N H r pos)(h3:xz w N w m V)(h4:RO w V w r' M pos'):r=r'∧∀s,s<r→∀q,q<w→H s q=M s q:=by
 obtain⟨g1,g2⟩:=h4.fin
 have e:=(h1.symm.trans h3).trans g2;exact h2.uniq g1 e.1 e.2
end Go.Abs
namespace Go.Proofs.Ytcopbdamkjladaa.Ev
open Go.Abs Go.IntWalk
theorem VF {x:List ByteArray}(h:x≠ []):sB [] (.mN (.str)) [⟨.slice (.str),x⟩]=some (some x):=by
 cases x with
 |nil=>exact absurd rfl h
 |cons a r=>rfl
theorem ME {w:Nat}{f:Nat→Int}(h:0<w):fv w f≠ []:=fun e=>by have:=congrArg List.length e;rw[gK] at this;simp at this;omega
structure PV (w:Nat) (ps:List (Option (List ByteArray))) (V:Nat→Nat→Int):Prop where
 n:ps.length=w
 a:∀c,c<w→(ps.getD c none=none∧∀q,q<w→V c q=0)∨(ps.getD c none=some (fv w (V c))∧0<V c c∧∀q,q<c→V c q=0)
section
variable {w n:Nat}{ps:List (Option (List ByteArray))}{V:Nat→Nat→Int}{m:Nat→Nat→Int}
theorem PV.set (h:PV w ps V){c:Nat}(hc:c<w){f:Nat→Int}(h1:0<f c)(h2:∀q,q<c→f q=0):PV w (ps.set c (some (fv w f))) (fun k=>if k=c then f else V k):=by
 have hn:=h.n;refine⟨by rw[List.length_set];exact hn,fun k hk=> ?_⟩;rw[m7];by_cases e:k=c
 ·subst e;simp only[if_true];rw[if_pos ⟨trivial,by omega⟩];exact .inr ⟨rfl,h1,h2⟩
 ·simp only[if_neg e];rw[if_neg (fun q=>e q.1.symm)];exact h.a k hk
theorem Zm {mt:List (List ByteArray)}{i:Nat}{v:Nat→Int}(hw:w≤1000):∀(d c:Nat),d+c=w→eA mt w i c ps (fv w v)=dh mt w i (fv w v) c ps:=by
 intro d;induction d with
 |zero=>intro c hd;rw[qg,mC,c6,cA,aY (by omega),aY (by omega)]
 |succ d ih=>
  intro c hd;have hc:c<(fv w v).length:=by rw[gK];omega
  rw[qg,mC,c6,cA,aO (by omega),aO (by omega)];simp only[vA ByteArray.empty hc,gJ ByteArray.empty hc];rw[m8 (by omega),ih (c+1) (by omega)]
theorem VG {mt:List (List ByteArray)}{i D:Nat}(hi:i≤1000)(hw:w≤6)(hD:D≤100000):∀(d c:Nat) (V:Nat→Nat→Int) (ps:List (Option (List ByteArray))) (v:Nat→Int),d+c=w→PV w ps V→(∀q,q<c→v q=0)→(∀k,k<w→∀q,q<w→(V k q).natAbs≤10^(if k<c then 6*D+13 else D))→(∀q,q<w→(v q).natAbs≤10^(6+c*(D+1)))→xz w (n+1) (w+1) m (El w V v)→
  ∃ps' V',dh mt w i (fv w v) c ps=cn mt w (i+1:Nat) ps'∧PV w ps' V'∧xz w (n+1) w m V'∧∀k,k<w→∀q,q<w→(V' k q).natAbs≤10^(6*D+13):=by
 intro d;induction d with
 |zero=>
  intro c V ps v hd hp hz hb hv hL;obtain rfl:c=w:=by omega
  refine⟨ps,V,by rw[c6,cA,aY (by omega),m8 (by omega)],hp,hL.trans (VE hz),fun k hk q hq=> ?_⟩;have:=hb k hk q hq;rw[if_pos hk] at this;exact this
 |succ d ih=>
  intro c V ps v hd hp hz hb hv hL;have hc:c<w:=by omega
  have hcT:c<(fv w v).length:=by rw[gK];omega
  have hpn:=hp.n;have X3:c<ps.length:=by omega
  have hw0:0<w:=by omega
  have hcD:c*(D+1)≤5*(D+1):=Nat.mul_le_mul_right _ (by omega);have hcS:(c+1)*(D+1)=c*(D+1)+(D+1):=Nat.succ_mul ..;have hall:∀k,k<w→∀q,q<w→(V k q).natAbs≤10^(6*D+13):=fun k hk q hq=>by
   have:=hb k hk q hq;by_cases e:k<c
   ·rw[if_pos e] at this;exact this
   ·rw[if_neg e] at this;exact kj this (by omega)
  by_cases ZJ:v c=0
  · -- zw entry is 0
    obtain⟨ps',V',k1,k2,k3,k4⟩:=ih (c+1) V ps v (by omega) hp (fun q hq=>by
     by_cases e:q=c
     ·subst e;exact ZJ
     ·exact hz q (by omega)) (fun k hk q hq=>by
      by_cases e:k<c+1
      ·rw[if_pos e];exact hall k hk q hq
      ·rw[if_neg e];have:=hb k hk q hq;rw[if_neg (by omega)] at this;exact this) (fun q hq=>kj (hv q hq) (by omega)) hL
    refine⟨ps',V', ?_,k2,k3,k4⟩;rw[←k1,c6,cA,aO (by omega),gJ ByteArray.empty hcT,na hc,Mw,V3 (Fw ZJ),m8 (by omega)]
  ·have hvc:=hv c hc;have hvB:∀q,q<w→Bd (v q):=fun q hq=>eS (hv q hq) (by omega);rcases hp.a c hc with ⟨p1,p2⟩ | ⟨p1,p2,p3⟩
   · -- zw row abU a pivot row
     have h0:Bd 0:=eS (e:=0) (by decide) (by omega);by_cases hneg:v c<0
     ·refine⟨ps.set c (some (fv w (fun q=> -1*v q+0*v q))),fun k=>if k=c then (fun q=> -1*v q+0*v q) else V k, ?_,hp.set hc (by omega) (fun q hq=>by rw[hz q hq];rfl),hL.trans (K4 hc p2 (s:= -1) (.inr rfl) (fun k hk e j hj=>by simp only[if_neg e]) (fun j hj=>by simp only[if_true];omega)),fun k hk q hq=> ?_⟩
      ·have Zn:=MC (w:=w) (e:=6+c*(D+1)) (f:=v) (f':=v) (k:= -1) (l:=0) (by omega) (by omega) RD (Nat.zero_le _) (fun q hq=>⟨hv q hq,hv q hq,by have:=hv q hq;omega,by rw[Int.zero_mul];exact Nat.zero_le _⟩);rw[c6,cA,aO (by omega)];simp only[gJ ByteArray.empty hcT,vA (none:Option (List ByteArray)) X3,na hc,Mw,Vt];rw[WZ (xy ZJ),p1,show Option.isNone (none:Option (List ByteArray))=true from rfl,cT,AI (hvB c hc) h0,bS,aO (Qb hneg),Zn,bS,VF (ME hw0),bS,Int.toNat_natCast,m8 (by omega)]
      ·by_cases e:k=c
       ·simp only[if_pos e];have:=kj (hv q hq) (show 6+c*(D+1)≤6*D+13 by omega);omega
       ·simp only[if_neg e];exact hall k hk q hq
     ·refine⟨ps.set c (some (fv w v)),fun k=>if k=c then v else V k, ?_,hp.set hc (by omega) hz,hL.trans (K4 hc p2 (s:=1) (.inl rfl) (fun k hk e j hj=>by simp only[if_neg e]) (fun j hj=>by simp only[if_true];omega)),fun k hk q hq=> ?_⟩
      ·rw[c6,cA,aO (by omega)];simp only[gJ ByteArray.empty hcT,vA (none:Option (List ByteArray)) X3,na hc,Mw,Vt];rw[WZ (xy ZJ),p1,show Option.isNone (none:Option (List ByteArray))=true from rfl,cT,AI (hvB c hc) h0,bS,aY (Qc (by omega)),VF (ME hw0),bS,Int.toNat_natCast,m8 (by omega)]
      ·by_cases e:k=c
       ·simp only[if_pos e];exact kj (hv q hq) (show 6+c*(D+1)≤6*D+13 by omega)
       ·simp only[if_neg e];exact hall k hk q hq
   · -- zw rows are abi
     have hP:∀q,q<w→(V c q).natAbs≤10^D:=fun q hq=>by have:=hb c hc q hq;rw[if_neg (by omega)] at this;exact this
     obtain⟨Q,hQ⟩:∃Q,Q=6+c*(D+1):=⟨_,rfl⟩
     have hQl:Q≤5*D+11:=by omega
     rw[←hQ] at hvc;have SV:∀q,q<w→(v q).natAbs≤10^Q:=fun q hq=>by rw[hQ];exact hv q hq
     have Y9:=hP c hc;obtain⟨g,x,y,e1,e2⟩:=OO (D:=D+Q) (by omega) (show V c c≠0 by omega) ZJ (kj Y9 (by omega)) (kj hvc (by omega));obtain⟨qa,qb⟩:=e2.qa;have ga:=OM e2.pos qa;have gb:=OM e2.pos qb;have gg:g.natAbs≤10^Q:=Nat.le_trans (Nat.le_of_dvd (by omega) (Int.natAbs_dvd_natAbs.2 e2.db)) hvc;have hx:x.natAbs≤10^Q:=Nat.le_trans e2.bx hvc;have hy:y.natAbs≤10^(D+1):=by have:=e2.bY;have h1:1≤10^D:=RD;rw[Xf];omega
     have hp':((V c c).fdiv g).natAbs≤10^D:=Nat.le_trans ga Y9;have TW:((v c).fdiv g).natAbs≤10^Q:=Nat.le_trans gb hvc;have hone:=e2.one;have he0:=e2.e;have m1:∀q,q<w→(x*V c q+y*v q).natAbs≤10^(D+Q+2):=fun q hq=>by have a1:=yQ hx (hP q hq);have a2:=yQ hy (SV q hq);have a3:=kj a1 (show Q+D≤D+1+Q by omega);rw[show D+Q+2=(D+1+Q)+1 by omega,Xf];omega
     have m2:∀q,q<w→((V c c).fdiv g*v q+ -(v c).fdiv g*V c q).natAbs≤10^(D+Q+1):=fun q hq=>by have a1:=yQ hp' (SV q hq);have a2:=yQ (x:= -(v c).fdiv g) (by rw[Int.natAbs_neg];exact TW) (hP q hq);rw[show Q+D=D+Q by omega] at a2;rw[Xf];omega
     have abj:=MC (w:=w) (e:=D+Q+2) (f:=V c) (f':=v) (k:=x) (l:=y) (by omega) (by omega) (kj hx (by omega)) (kj hy (by omega)) (fun q hq=>⟨kj (hP q hq) (by omega),kj (SV q hq) (by omega),kj (yQ hx (hP q hq)) (by omega),kj (yQ hy (SV q hq)) (by omega)⟩);have abk:=MC (w:=w) (e:=D+Q+2) (f:=v) (f':=V c) (k:=(V c c).fdiv g) (l:= -(v c).fdiv g) (by omega) (by omega) (kj hp' (by omega)) (by rw[Int.natAbs_neg];exact kj TW (by omega)) (fun q hq=>⟨kj (SV q hq) (by omega),kj (hP q hq) (by omega),kj (yQ hp' (SV q hq)) (by omega),kj (yQ (x:= -(v c).fdiv g) (by rw[Int.natAbs_neg];exact TW) (hP q hq)) (by omega)⟩);have adp:∀q,q<c→x*V c q+y*v q=0:=fun q hq=>by rw[p3 q hq,hz q hq,Int.mul_zero,Int.mul_zero];rfl
     have adq:∀q,q<c+1→(V c c).fdiv g*v q+ -(v c).fdiv g*V c q=0:=fun q hq=>by
      by_cases e:q=c
      ·subst e;generalize hA:(V q q).fdiv g=A at*
       generalize hB:(v q).fdiv g=B at*
       rw[←qa, ←qb]
       grind
      ·rw[p3 q (by omega),hz q (by omega),Int.mul_zero,Int.mul_zero];rfl
     have hpos:=e2.pos;obtain⟨ps',V',k1,k2,k3,k4⟩:=ih (c+1) (fun k=>if k=c then (fun q=>x*V c q+y*v q) else V k) (ps.set c (some (fv w (fun q=>x*V c q+y*v q)))) (fun q=>(V c c).fdiv g*v q+ -(v c).fdiv g*V c q) (by omega) (hp.set hc (by rw[Int.mul_comm x,Int.mul_comm y];omega) adp) adq (fun k hk q hq=>by
       by_cases e:k=c
       ·simp only[if_pos e];rw[if_pos (by omega)];exact kj (m1 q hq) (by omega)
       ·simp only[if_neg e];by_cases e3:k<c+1
        ·rw[if_pos e3];exact hall k hk q hq
        ·rw[if_neg e3];have:=hb k hk q hq;rw[if_neg (by omega)] at this;exact this) (fun q hq=>kj (m2 q hq) (by omega)) (hL.trans (Tl hc (x:=x) (y:=y) (p:=(V c c).fdiv g) (q:=(v c).fdiv g) hone (fun k hk e j hj=>by simp only[if_neg e]) (fun j hj=>by simp only[if_true]) (fun j hj=>by rw[Int.neg_mul];omega)))
     refine⟨ps',V', ?_,k2,k3,k4⟩;have l1:c<(fv w (V c)).length:=by rw[gK];omega
     rw[←k1,c6,cA,aO (by omega)];simp only[gJ ByteArray.empty hcT,vA (none:Option (List ByteArray)) X3,na hc,Mw,Vt];rw[WZ (xy ZJ),p1,show Option.isNone (some (fv w (V c)))=false from rfl,cF];simp only[show K7 (some (fv w (V c)))=fv w (V c) from rfl,gJ ByteArray.empty l1,na hc];rw[e1,bS];simp only[];rw[s8 (eS Y9 (by omega)) (eS gg (by omega)) (by omega),bS,s8 (hvB c hc) (eS gg (by omega)) (by omega),bS,abj,bS,VF (ME hw0),bS];simp only[];rw[nb (eS TW (by omega)),bS,abk,bS,Int.toNat_natCast,m8 (by omega)]
end
def dd:Nat→Nat
 |0=>0
 |i+1=>6*dd i+13
theorem X4:∀{c d:Nat},c≤d→dd c≤dd d:=fun {c d} h=>by
 induction h with
 |refl=>exact Nat.le_refl _
 |step h ih=>rw[dd];omega
theorem VH {N w i:Nat}{M:Nat→Nat→Int}{f:Nat→Int}(h:i<N):(jq N w M).set i (fv w f)=jq N w (fun s=>if s=i then f else M s):=by
 apply List.ext_getElem (by rw[List.length_set,fz,fz]);intro s h1 h2;have hs:s<N:=by rw[fz] at h2;exact h2
 have e1:((jq N w M).set i (fv w f)).getD s []=(jq N w (fun s=>if s=i then f else M s)).getD s []:=by
  rw[m7,th hs,th hs,fz];by_cases e:s=i
  ·subst e;rw[if_pos ⟨rfl,h⟩,if_pos rfl]
  ·rw[if_neg (fun q=>e q.1.symm),if_neg e]
 simp only[List.getD,List.getElem?_eq_getElem h1,List.getElem?_eq_getElem h2,Option.getD_some] at e1;exact e1
theorem K5 {N w:Nat}{M:Nat→Nat→Int}{f:Nat→Int}:jq N w M++[fv w f]=jq (N+1) w (fun s=>if s=N then f else M s):=by
 unfold jq;rw[List.range_succ,List.map_append]
 congr 1
 ·exact List.map_congr_left fun s hs=>by simp only[if_neg (show s≠N by have:=List.mem_range.1 hs;omega)]
 ·simp
section
variable {w N:Nat}{ps:List (Option (List ByteArray))}{V M:Nat→Nat→Int}
theorem Xi (hN:N≤6)(hw:w≤6)(hM:∀i,i<N→∀q,q<w→(M i q).natAbs≤10^6):∀(d i:Nat) (V:Nat→Nat→Int) (ps:List (Option (List ByteArray))),d+i=N→PV w ps V→xz w i w M V→(∀k,k<w→∀q,q<w→(V k q).natAbs≤10^dd i)→
  ∃ps' V',cn (jq N w M) w i ps=a7 (jq N w M) w (0:Int) ps' []∧PV w ps' V'∧xz w N w M V'∧∀k,k<w→∀q,q<w→(V' k q).natAbs≤10^dd N:=by
 intro d;induction d with
 |zero=>
  intro i V ps hd hp hL hb;obtain rfl:i=N:=by omega
  exact⟨ps,V,by rw[qf,mA,fz,aY (by omega)],hp,hL,hb⟩
 |succ d ih=>
  intro i V ps hd hp hL hb;have hi:i<N:=by omega
  have hdi:dd i≤dd 5:=X4 (by omega);have hd5:dd 5=20215:=by decide
  obtain⟨ps',V',k1,k2,k3,k4⟩:=VG (mt:=jq N w M) (i:=i) (D:=dd i) (by omega) hw (by omega) w 0 V ps (M i) (by omega) hp (fun q hq=>by omega) (fun k hk q hq=>by rw[if_neg (by omega)];exact hb k hk q hq) (fun q hq=>by rw[Nat.zero_mul];exact hM i hi q hq) (Xh hL fun j hj=>rfl);obtain⟨adr,V'',j1,j2,j3,j4⟩:=ih (i+1) V' ps' (by omega) k2 k3 k4;refine⟨adr,V'', ?_,j2,j3,j4⟩;rw[←j1, ←k1,qf,mA,fz,aO (by omega),gJ [] (by rw[fz];exact hi),th hi,pL (by omega) (by rw[gK];omega),List.nil_append];exact Zm (by omega) w 0 (by omega)
theorem Xj {mt:List (List ByteArray)}{c r D A:Nat}(hw:w≤6)(hr:r≤6)(hc:c<w)(hp:PV w ps V)(hps:ps.getD c none=some (fv w (V c)))(hV:0<V c c)(hD:∀q,q<w→(V c q).natAbs≤10^D)(hA:∀s,s<r→∀q,q<w→(M s q).natAbs≤10^A)(hDA:D≤A)(hs:A+D+1<10000000):∀(d i:Nat),d+i=r→
  dt mt w c i ps (jq r w (fun s q=>if s<i then M s q+ -(M s c).fdiv (V c c)*V c q else M s q))=a7 mt w (c+1:Nat) ps (jq (r+1) w (fun s=>if s=r then V c else fun q=>M s q+ -(M s c).fdiv (V c c)*V c q)):=by
 have hn:=hp.n;have X3:c<ps.length:=by omega
 intro d;induction d with
 |zero=>
  intro i hd;obtain rfl:i=r:=by omega
  rw[qi,mG,fz,aY (by omega)];simp only[vA (none:Option (List ByteArray)) X3];rw[hps,show K7 (some (fv w (V c)))=fv w (V c) from rfl,pL (by omega) (by omega),m8 (by omega),K5]
  congr 1
  refine uF fun s h1 q hq=> ?_;by_cases e:s=i
  ·simp only[if_pos e]
  ·simp only[if_neg e,if_pos (show s<i by omega)]
 |succ d ih=>
  intro i hd;have hi:i<r:=by omega
  have l1:c<(fv w (V c)).length:=by rw[gK];omega
  have hMi:=hA i hi;have hVc:=hD c hc;have a1:=hMi c hc;have hq:((M i c).fdiv (V c c)).natAbs≤10^(A+1):=by have b1:=Jg (a:=M i c) (b:=V c c) (by omega);have b2:=kj hVc hDA;rw[Xf];omega
  have Zn:=MC (w:=w) (e:=A+1+D) (f:=M i) (f':=V c) (k:=1) (l:= -(M i c).fdiv (V c c)) (by omega) (by omega) RD (by rw[Int.natAbs_neg];exact kj hq (by omega)) (fun q TW=>⟨kj (hMi q TW) (by omega),kj (hD q TW) (by omega),by rw[Int.one_mul];exact kj (hMi q TW) (by omega),yQ (by rw[Int.natAbs_neg];exact hq) (hD q TW)⟩);have hrow:(jq r w (fun s q=>if s<i then M s q+ -(M s c).fdiv (V c c)*V c q else M s q)).getD i []=fv w (M i):=by rw[th hi];exact Jj fun q hq=>by rw[if_neg (by omega)]
  rw[qi,mG,fz,aO (by omega)];simp only[vA (none:Option (List ByteArray)) X3,vA ([]:List ByteArray) (show i<(jq r w (fun s q=>if s<i then M s q+ -(M s c).fdiv (V c c)*V c q else M s q)).length by rw[fz];exact hi)];simp only[hrow,hps,show K7 (some (fv w (V c)))=fv w (V c) from rfl,gJ ByteArray.empty (show c<(fv w (M i)).length by rw[gK];exact hc),gJ ByteArray.empty l1,na hc];rw[s8 (eS a1 (by omega)) (eS hVc (by omega)) (by omega),bS];simp only[];rw[nb (eS hq (by omega)),bS,Zh,Zn,bS,m8 (by omega),Int.toNat_natCast,VH hi, ←ih (i+1) (by omega)]
  congr 1
  refine uF fun s h1 q hq=> ?_;by_cases e:s=i
  ·subst e;simp only[if_true];rw[if_pos (by omega),Int.one_mul]
  ·simp only[if_neg e];by_cases e2:s<i
   ·rw[if_pos e2,if_pos (by omega)]
   ·rw[if_neg e2,if_neg (by omega)]
theorem Xk {mt:List (List ByteArray)}{D:Nat}(hw:w≤6)(hp:PV w ps V)(hD:D≤1000000)(hV:∀k,k<w→∀q,q<w→(V k q).natAbs≤10^D):∀(d c r:Nat) (M:Nat→Nat→Int) (pos:Nat→Nat),d+c=w→RO w V c r M pos→r≤c→(∀s,s<r→∀q,q<w→(M s q).natAbs≤10^(D+c*(D+2)))→
  ∃r' M' pos',r'≤w∧a7 mt w c ps (jq r w M)=cX mt w (jq r' w M')∧RO w V w r' M' pos':=by
 intro d;induction d with
 |zero=>
  intro c r M pos hd hR hrc hb;obtain rfl:c=w:=by omega
  exact⟨r,M,pos,hrc,by rw[qh,mD,aY (by omega)],hR⟩
 |succ d ih=>
  intro c r M pos hd hR hrc hb;have hc:c<w:=by omega
  have hn:=hp.n;have X3:c<ps.length:=by omega
  have hcS:(c+1)*(D+2)=c*(D+2)+(D+2):=Nat.succ_mul ..;have hcD:c*(D+2)≤5*(D+2):=Nat.mul_le_mul_right _ (by omega);have step:a7 mt w c ps (jq r w M)=bif Option.isNone (ps.getD c none) then a7 mt w (c+1:Nat) ps (jq r w M) else dt mt w c (0:Int) ps (jq r w M):=by rw[qh,mD,aO (by omega)];simp only[vA (none:Option (List ByteArray)) X3];rw[m8 (by omega)]
  rcases hp.a c hc with ⟨p1,p2⟩ | ⟨p1,p2,p3⟩
  ·obtain⟨r',M',pos',k0,k1,k2⟩:=ih (c+1) r M pos (by omega) (hR.skip hc p2) (by omega) (fun s hs q hq=>kj (hb s hs q hq) (by omega));exact⟨r',M',pos',k0,by rw[step,p1,show Option.isNone (none:Option (List ByteArray))=true from rfl,cT,k1],k2⟩
  ·have hst:=hR.step (M':=fun s=>if s=r then V c else fun q=>M s q+ -(M s c).fdiv (V c c)*V c q) (y8:=fun s=> -(M s c).fdiv (V c c)) hc p2 p3 (fun s hs q hq=>by simp only[if_neg (show s≠r by omega)]) (fun s hs=>by
    simp only[if_neg (show s≠r by omega)];have h1:=fd_eq (M s c) (V c c);have h2:=q7 (a:=M s c) p2;have h3:M s c+ -(M s c).fdiv (V c c)*V c c=(M s c).fmod (V c c):=by rw[Int.neg_mul];omega
    omega) (fun q hq=>by simp only[if_true])
   obtain⟨r',M',pos',k0,k1,k2⟩:=ih (c+1) (r+1) _ _ (by omega) hst (by omega) (fun s hs q hq=>by
    by_cases e:s=r
    ·simp only[if_pos e];exact kj (hV c hc q hq) (by omega)
    ·simp only[if_neg e];have a1:=hb s (by omega) q hq;have a2:=hb s (by omega) c hc;have a3:=hV c hc c hc;have a4:=hV c hc q hq;obtain⟨A,hA⟩:∃A,A=D+c*(D+2):=⟨_,rfl⟩
     rw[←hA] at a1 a2;have hq:(-(M s c).fdiv (V c c)).natAbs≤10^(A+1):=by have b1:=Jg (a:=M s c) (b:=V c c) (by omega);have b2:=kj a3 (show D≤A by omega);rw[Int.natAbs_neg,Xf];omega
     have a5:=yQ hq a4;have a6:=kj a1 (show A≤A+1+D by omega);rw[show D+(c+1)*(D+2)=A+1+D+1 by omega,Xf];omega)
   refine⟨r',M',pos',k0, ?_,k2⟩;rw[step,p1,show Option.isNone (some (fv w (V c)))=false from rfl,cF, ←k1];have:=Xj (M:=M) (mt:=mt) (A:=D+c*(D+2)) hw (show r≤6 by omega) hc hp p1 p2 (hV c hc) hb (by omega) (by omega) r 0 (by omega);refine Eq.trans ?_ this
   congr 1
theorem Xl {mt:List (List ByteArray)}(hN:mt.length=N)(hN6:N≤6)(hw:w≤6):∀(d r:Nat) (M:Nat→Nat→Int),d+r=N→cX mt w (jq r w M)=some (jq N w (fun s q=>if s<r then M s q else 0)):=by
 have zero:∀(d c:Nat) (out zs:List (List ByteArray)) (z:List ByteArray),d+c=w→out.length≤6→z.length=w→(∀q,q<c→z.getD q ByteArray.empty=c8 0)→eB mt w c out z=cX mt w (out++[fv w (fun _=>0)]):=by
  intro d;induction d with
  |zero=>
   intro c out zs z hd ho hl hz;obtain rfl:c=w:=by omega
   rw[qk,mJ,aY (by omega),pL (by omega) (by omega),VB (f:=fun _=>0) hl hz]
  |succ d ih=>
   intro c out zs z hd ho hl hz;rw[qk,mJ,aO (by omega),vA ByteArray.empty (by omega),Mw,m8 (by omega),Int.toNat_natCast];refine ih (c+1) out zs _ (by omega) ho (by rw[List.length_set];exact hl) fun q hq=> ?_;rw[m7];by_cases e:c=q
   ·rw[if_pos ⟨e,by omega⟩]
   ·rw[if_neg (fun h=>e h.1)];exact hz q (by omega)
 intro d;induction d with
 |zero=>
  intro r M hd;obtain rfl:r=N:=by omega
  rw[qj,mH,fz,aY (by omega)]
  congr 1
  exact uF fun s hs q hq=>(if_pos hs).symm
 |succ d ih=>
  intro r M hd;have hz:=zero w 0 (jq r w M) [] (List.replicate w ByteArray.empty) (by omega) (by rw[fz];omega) (by simp) (fun q hq=>by omega);rw[qj,mH,fz,aO (by omega),Jd (by omega) (by omega) (by omega),Int.toNat_natCast];refine hz.trans ?_;rw[K5,ih (r+1) _ (by omega)]
  congr 1
  refine uF fun s hs q hq=> ?_;by_cases e:s<r
  ·rw[if_pos (by omega),if_neg (by omega),if_pos e]
  ·rw[if_neg e];by_cases e2:s=r
   ·rw[if_pos (by omega),if_pos e2]
   ·rw[if_neg (by omega)]
theorem Xm {H:Nat→Nat→Int}{r:Nat}{pos:Nat→Nat}(hN:N≤6)(hw:w≤6)(hM:∀i,i<N→∀q,q<w→(M i q).natAbs≤10^6)(h1:xz w N N M H)(h2:Tc w N H r pos):kX (jq N w M) w=some (jq N w H):=by
 have hdd:dd N≤dd 6:=X4 hN;have hd6:dd 6=121303:=by decide
 have ae:∀c,c<w→(List.replicate w (none:Option (List ByteArray))).getD c none=none:=fun c hc=>by simp[List.getD,hc]
 obtain⟨ps,V,k1,k2,k3,k4⟩:=Xi hN hw hM N 0 (fun _ _=>0) (List.replicate w none) (by omega) ⟨by simp,fun c hc=> .inl ⟨ae c hc,fun q hq=>rfl⟩⟩ ⟨fun s hs=>by omega,fun s hs=>jD.zero fun q hq=>rfl⟩ (fun k hk q hq=>Nat.zero_le _);obtain⟨r',M',pos',j0,j1,j2⟩:=Xk (mt:=jq N w M) hw k2 (show dd N≤1000000 by omega) k4 w 0 0 (fun _ _=>0) (fun _=>0) (by omega) RO.zero (by omega) (fun s hs=>by omega);obtain⟨e1,e2⟩:=MD h1 h2 k3 j2;have Qe:=h2.le;have hL4:=Xl (mt:=jq N w M) (N:=N) fz hN hw (N - r') r' M' (by omega);rw[CK,vo,Jd (by omega) (by omega) (by omega),Int.toNat_natCast];refine k1.trans (j1.trans (hL4.trans ?_))
 congr 1
 refine uF fun s hs q hq=> ?_;by_cases e:s<r
 ·rw[if_pos (by omega)];exact(e2 s e q hq).symm
 ·rw[if_neg (by omega)];exact(h2.zer s (by omega) hs q hq).symm
end
theorem VI:gZ=some true:=(Bz 3000).symm.trans (by kernel_rfl)
theorem VJ {i:Nat}(h:i≤1000000000000000000):IntKind.wrap .i64 ((i:Int)+1)=((i+1:Nat):Int):=by have:IntKind.wrap .i64 ((i:Int)+1)=(i:Int)+1:=i64_in _ (by omega);rw[this];omega
def Fits (m:List (List Int)):Prop:=m.length*24≤140737488351232∧∀i,i<m.length→(m.getD i []).length*8≤140737488351232
theorem VK {a:List Int}(h:a.length*8≤140737488351232):kW a=some a:=by rw[Cy,ve,pL (by omega) (by omega),List.nil_append]
theorem Tm {α:Type}{m:List α}{i:Nat}(d:α)(h:i<m.length):m.take i++[m.getD i d]=m.take (i+1):=by rw[List.take_add_one,List.getElem?_eq_getElem h];simp[List.getD,h]
theorem VL {m:List (List Int)}(h:Fits m):kT m=some m:=by
 have hl:=h.1;have key:∀(d i:Nat),d+i=m.length→eo m i (m.take i)=some m:=by
  intro d;induction d with
  |zero=>intro i hd;rw[p9,mq,aY (by omega),List.take_of_length_le (by omega)]
  |succ d ih=>intro i hd;rw[p9,mq,aO (by omega),gJ [] (by omega),VK (h.2 i (by omega)),bS,pL (by omega) (by rw[List.length_take];omega),VJ (by omega),Tm [] (by omega)];exact ih (i+1) (by omega)
 rw[CF,vk];exact key m.length 0 (by omega)
theorem VM {a:List Int}(h:a.length≤1000000000000000):kY a a=some true:=by
 have key:∀(d i:Nat),d+i=a.length→eC a a i=some true:=by
  intro d;induction d with
  |zero=>intro i hd;rw[pX,me,aY (by omega)]
  |succ d ih=>intro i hd;rw[pX,me,aO (by omega),gJ 0 (by omega),gJ 0 (by omega),pK rfl,VJ (by omega)];exact ih (i+1) (by omega)
 rw[Cz,vf,pK rfl];exact key a.length 0 (by omega)
theorem OP {m:List (List Int)}(h:Fits m):kV m m=some true:=by
 have hl:=h.1;have key:∀(d i:Nat),d+i=m.length→ew m m i=some true:=by
  intro d;induction d with
  |zero=>intro i hd;rw[qc,mu,aY (by omega)]
  |succ d ih=>intro i hd;have:=h.2 i (by omega);rw[qc,mu,aO (by omega),gJ [] (by omega),gJ [] (by omega),VM (by omega),bS,show (!true)=false from rfl,cF,VJ (by omega)];exact ih (i+1) (by omega)
 rw[CG,vm,pK rfl];exact key m.length 0 (by omega)
theorem VN {a:List ByteArray}(h:a.length≤1000000):eb a a=some true:=by
 have key:∀(d i:Nat),d+i=a.length→cW a a i=some true:=by
  intro d;induction d with
  |zero=>intro i hd;rw[lj,jl,aY (by omega)]
  |succ d ih=>intro i hd;rw[lj,jl,aO (by omega),gJ ByteArray.empty (by omega),gJ ByteArray.empty (by omega),WZ (by rw[show ((a.getD i ByteArray.empty).toList==(a.getD i ByteArray.empty).toList)=true from beq_self_eq_true _];rfl),VJ (by omega)];exact ih (i+1) (by omega)
 rw[ui,pC,pK rfl];exact key a.length 0 (by omega)
theorem OQ {m:List (List ByteArray)}(h:m.length≤1000000)(hr:∀i,i<m.length→(m.getD i []).length≤1000000):kU m m=some true:=by
 have key:∀(d i:Nat),d+i=m.length→ep m m i=some true:=by
  intro d;induction d with
  |zero=>intro i hd;rw[qe,my,aY (by omega)]
  |succ d ih=>intro i hd;rw[qe,my,aO (by omega),gJ [] (by omega),gJ [] (by omega),VN (hr i (by omega)),bS,show (!true)=false from rfl,cF,VJ (by omega)];exact ih (i+1) (by omega)
 rw[CI,vn,pK rfl];exact key m.length 0 (by omega)
theorem Qy {m:List (List Int)}{w:Nat}(hG:OF m w)(hw:w≤6)(hs:cI m=some 0):∃H r pos,eT m=some (jq m.length w H,(0:Int))∧xz w m.length m.length (Mx m) H∧Tc w m.length H r pos:=by
 have hn:=hG.n;obtain⟨df,gQ,rs',k1,k2⟩:=Gr (w:=w) rfl (by omega) (by omega) hG.row hG.b ([]:HW) ([]:HN);obtain⟨sO,Ca,JT,r',H,pos',j1,j2,j3,j4⟩:=Ze (m:=Mx m) (by omega) hw w 0 0 (Mx m) (fun _=>0) df gQ rs' (by omega) k1 HI.zero (fun i hi q hq=>by
  have:=hG.b i hi q hq;show (Mx m i q).natAbs≤1000000;omega)
 have hew:ee w≤ee 6:=X1 hw;have he6:ee 6=19273169:=by decide
 have hok:=Rt (e:=ee w) (by omega);refine⟨H,r',pos', ?_,j2.q,j2.fin⟩;rw[qQ,nW,hs,bS,pK rfl,k2,bS];simp only[];rw[Ro k1 hG.e,bS];simp only[];refine Eq.trans j4 ?_;rw[Vr (by omega) (by omega) j1 (fun s h1 q h2=>hok _ (j3 s h1 q h2)),bS]
theorem Zo (m:List (List Int))(hb:V1 (.slice (.slice (.int .i64))) m):fB m=some true:=by
 have hF:Fits m:=by
  refine⟨hb.1,fun i hi=> ?_⟩;have hm:List.Mem (m.getD i []) m:=by
   have:m.getD i []=m[i]:=by simp[List.getD,hi]
   rw[this];exact List.getElem_mem hi
  exact(hb.2 _ hm).1
 rw[oT,jk,VL hF];simp only[bS];rw[VI];simp only[bS];rcases Vp m with ⟨e,h0,h1,h2⟩ | ⟨h1,h2,w,hG,hw8,hn8⟩
 ·have e1:eT m=some ([],e):=by rw[qQ,nW,h1,bS,vw h0]
  have e2:fC m=some ([],e):=by rw[qd,mw,h2,bS,vw h0]
  rw[h2,bS,xv h0,e1,bS,e2,bS];simp only[];rw[OQ (by simp) (fun i hi=>by simp at hi),bS,cT,yP rfl,OP hF,bS,cT]
 ·rw[h2,bS,yP rfl];by_cases hn:m.length≤6
  ·rw[lS (by omega),Ji hG,bS];by_cases hw:w≤6
   ·obtain⟨H,r,pos,k1,k2,k3⟩:=Qy hG hw h1;have e2:fC m=some (jq m.length w H,(0:Int)):=by rw[qd,mw,h2,bS,pK rfl,Qx hG,bS,Ji hG,bS,Xm hn hw (fun i hi q hq=>by have:=hG.b i hi q hq;show (Mx m i q).natAbs≤1000000;omega) k2 k3,bS]
    rw[lS (by omega),k1,bS,e2,bS];simp only[];rw[OQ (by rw[fz];omega) (fun i hi=>by rw[fz] at hi;rw[th hi,gK];omega),bS,cT,yP rfl,OP hF,bS,cT]
   ·rw[lR (by omega)]
  ·rw[lR (by omega)]
end Go.Proofs.Ytcopbdamkjladaa.Ev
namespace Go.Proofs.Ytcopbdamkjladaa.smithHermiteMatches
open Go.ChangeShapes Go.WideShapes Go.ChangeAt Go.RowKit
theorem own:ownKnob Try.prog.godebug=none:=by kernel_rfl
theorem Xn:Go.Abs.PQ Try.prog Ev.T Ev.B:=fun v g h=>by cases h
theorem laidOut:laidOutB Try.prog=true:=by kernel_rfl
theorem abl:Go.Abs.zN Try.prog (.slice (.slice (.int .i64))) 22=true:=by kernel_rfl
theorem walk (W:World)(p0:Option Addr)(Xo Xp:Nat)(x0:Go.Abs.Ty.den (.slice (.slice (.int .i64))))(w0:Go.Abs.Rel (Go.Abs.wv W) (.slice (.slice (.int .i64))) x0 [.slice p0 Xo Xp])(b0:Go.Abs.V1 (.slice (.slice (.int .i64))) x0):Calls Try.prog 3 #[.slice p0 Xo Xp] W fun e w'=>e= .returned (.bool true)∧Below W.heap.size W w':=
 Go.Abs.aaB (T:=Ev.T) (V0:=fun key u=>∃ad:Addr,key= .cell ad∧W.cell? ad=some u) (w:=W) (v:=3) (xh:=x0) (yh:=true) ((Go.Abs.SP Ev.WT Xn Ev.YV) 3 x0 true (Ev.Zo x0 b0) rfl) rfl HEq.rfl
   (fun ad u ⟨RT,e,hc⟩=>by cases e;exact hc) (fun i x h=>by cases h) ⟨_,rfl,Go.Abs.qA.mono (V:=Go.Abs.wv W) (t:=(.slice (.slice (.int .i64)))) (fun key u ⟨ad,e,h⟩=>⟨ad,e,by rw[←e];exact⟨ad,e,h⟩⟩) w0⟩
set_option maxRecDepth 100000 in
theorem lifted (os:Os)(started:os.Started)(H:Type)(enc:TypeId×Value→H):
  ReturnsInHanded {} Try.checked os 3 .any (Rows.smithHermiteMatchesSpec.pre6 enc Try.prog Try.f3 Rows.smithHermiteMatchesRow.domain false) (Rows.smithHermiteMatchesSpec.post enc Try.prog Try.f3 false true false false):=by
 refine returnsInHanded_of_change_sized (C:=Try.checked) own started (by kernel_rfl) Try.func3
  (ChangeSpec.witness6 (enc:=enc) (C:=Try.checked) false ⟨#[], #[.slice none 0 0],[]⟩ 8 (by kernel_rfl) (by kernel_rfl) (by kernel_rfl) (by kernel_rfl)) ?_
 intro W base args ds gs before X5 hW agW abm _;have hsz:(DataW.weightsEach Try.prog (Try.f3.params.toList++Rows.smithHermiteMatchesSpec.plain.varTypes Try.prog) (ds++gs)).all (· ≤reachBytes)=true:=abm;have hval:∀(j:Nat) t v,Try.f3.params[j]? =some t→args[j]? =some v→Value.okWide Try.prog W .any base t v:=X5;have hW':=hW;obtain⟨p,q,hA0,hV,rfl,hfz,hnd⟩:=hW;have hA:DataW.TrodAll enc Try.prog W 0 (fun _=>true) true Try.f3.params.toList args.toList ds p:=hA0;rw[Try.params3] at hA hval hsz;obtain⟨v0,vs0,d0,ds0,q0_,q0,hargs,rfl,rfl,h0,r0⟩:=trodAll_cons hA;obtain⟨rfl,rfl,rfl⟩:=trodAll_nil r0;obtain rfl:args= #[v0]:=by cases args;simp_all
 obtain⟨rfl,rfl⟩:=trodVars_none hV;obtain⟨p0,Xo,Xp,rfl⟩:=okWide_slice Try.underlying22 (hval 0 22 v0 rfl rfl);have lt0:∀x∈q0_,x.block<W.heap.size:=by obtain⟨m,hm⟩:=h0;exact DataW.trod_lt m _ _ _ hm
 obtain⟨x0,w0,b0⟩:=Go.Abs.YS abl h0 hsz (j:=0) rfl rfl;clear hA0 X5 abm hsz;refine(walk W p0 Xo Xp x0 w0 b0).mono fun e W' ⟨he,bel⟩=> ?_;subst he;exact⟨_,rfl,_,_,_,[],_,[],hW',trodAll_mk1 (shut_bool Try.underlying4 _),(trodAll_cons_mk (Below.trod laidOut (by kernel_rfl) (of_decide_eq_true (by kernel_rfl)) h0 bel lt0) trodAll_mk0),rfl,bel.frame _,fun h=>by cases h⟩
theorem adt:Rows.smithHermiteMatchesRow.holds Try.pinned (OpenSpec.ofChange Rows.smithHermiteMatchesSpec):=
 OpenClaim.holds_of_wide 3 Try.f3 rfl rfl rfl rfl rfl rfl rfl ⟨rfl,rfl,rfl,rfl,rfl⟩ rfl rfl rfl rfl rfl (by kernel_rfl) Try.func3 (by kernel_rfl)
  (of_decide_eq_true (by kernel_rfl)) (by unfold Func.isWrapper;first | (rw[if_pos (by decide+kernel)];kernel_rfl) | (rw[if_neg (by decide+kernel)];exact⟨rfl,rfl⟩))
  (fun os started H enc _=>lifted os started H enc)
theorem proved:Rows.SmithHermiteMatchesSaid:=adt
end Go.Proofs.Ytcopbdamkjladaa.smithHermiteMatches
namespace Go.Proofs.Ytcopbdamkjladaa
theorem smithHermiteMatches_holds:Rows.SmithHermiteMatchesSaid:=smithHermiteMatches.proved
#print axioms smithHermiteMatches_holds
end Go.Proofs.Ytcopbdamkjladaa
