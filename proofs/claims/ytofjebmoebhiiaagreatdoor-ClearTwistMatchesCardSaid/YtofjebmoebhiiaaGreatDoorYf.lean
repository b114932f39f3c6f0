/- YtofjebmoebhiiaaGreatDoorYf: a part of the proof (Cq, Fp, De ..). No condition. -/
import Derived.Test.YtofjebmoebhiiaaGreatDoorYe
import Derived.Lib.Bytealg
import Derived.Laws.StandIn
import Derived.WalkKit
import Derived.Test.YtofjebmoebhiiaaGreatDoorTie
import Derived.Test.YtofjebmoebhiiaaGreatDoorCards
import Derived.ProofKit
import Derived.OpenShut
import Derived.ShutString
import Derived.ChangeOld
import Derived.Below
import Derived.SizedLaws
import Derived.LaidMore
import Derived.Stop.Joined
set_option linter.unusedVariables false
set_option linter.unusedSimpArgs false
set_option maxRecDepth 100000
set_option exponentiation.threshold 2000
namespace Go.Proofs.YtofjebmoebhiiaaGreatDoor.Ev
open Go.Abs Go.IntWalk
theorem IX {α:Type}(a:α)(r:List α):(((a::r).length:Nat):Int)=(r.length:Int)+1:=by simp
theorem acy:∀(t t2:List Tm) (trace:List Tr2),eZ t t2 trace=some (trace++mg t t2):=by
 intro t t2
 induction t,t2 using mg.induct with
 |case1=>
  intro trace
  rw[eD,dI,List.length_nil,c8 (by omega),c8 (by omega),mg,List.append_nil]
 |case2 a r ih=>
  intro trace
  rw[eD,dI,List.length_nil,IX]
  rw[cZ (by omega),ur (by omega),O7,bS,bS,JX (by omega) (by omega) (Int.le_of_eq (IX _ _).symm),ahD (IX _ _).symm,ih,mg,List.append_assoc]
  rfl
 |case3 b s ih=>
  intro trace
  rw[eD,dI,List.length_nil,IX]
  rw[c8 (by omega),cZ (by omega),ko (by omega),c8 (by omega),ur (by omega),O7,bS,bS,JX (by omega) (by omega) (Int.le_of_eq (IX _ _).symm),ahD (IX _ _).symm,ih,mg,List.append_assoc]
  rfl
 |case4 a r b s hlt ih=>
  intro trace
  rw[eD,dI,IX,IX]
  rw[cZ (by omega),ko (by omega),cZ (by omega),O7,bS,O7,bS,aB hlt,bS,bS,JX (by omega) (by omega) (Int.le_of_eq (IX _ _).symm),ahD (IX _ _).symm,ih,mg,if_pos hlt,List.append_assoc]
  rfl
 |case5 a r b s hlt hgt ih=>
  intro trace
  rw[eD,dI,IX,IX]
  rw[cZ (by omega),ko (by omega),cZ (by omega),O7,bS,O7,bS,az hlt,ko (by omega),bS,bS,aB hgt,bS,bS,JX (by omega) (by omega) (Int.le_of_eq (IX _ _).symm),ahD (IX _ _).symm,ih,mg,if_neg hlt,if_pos hgt,List.append_assoc]
  rfl
 |case6 a r b s hlt hgt ih=>
  intro trace
  rw[eD,dI,IX,IX]
  rw[cZ (by omega),ko (by omega),cZ (by omega),O7,bS,O7,bS,az hlt,ko (by omega),bS,bS,az hgt,bS,bS,bS,JX (by omega) (by omega) (Int.le_of_eq (IX _ _).symm),JX (by omega) (by omega) (Int.le_of_eq (IX _ _).symm),ahD (IX _ _).symm,ahD (IX _ _).symm,ih,mg,if_neg hlt,if_neg hgt,List.append_assoc]
  rfl
theorem S7 {p k:Int}(hp:0<p∧p≤251)(hk:0≤k∧k<p):∀(rest:List Tr2) (row:List Tm),(∀x∈rest,(0≤x.2.1.1∧x.2.1.1<p)∧0≤x.2.1.2.1∧x.2.1.2.1<p)→row.length+rest.length≤1000000000→
  jF row p k rest=some (row++fl p k rest)
 | [],row,h,hl=>by
   rw[yA,tR,fl,List.append_nil]
 |x::r,row,h,hl=>by
  obtain⟨⟨h1,h2⟩,h3,h4⟩:=h x (by simp)
  have hm:0≤k*x.2.1.2.1∧k*x.2.1.2.1≤251*251:=⟨Int.mul_nonneg (by omega) (by omega),Int.mul_le_mul (by omega) (by omega) (by omega) (by omega)⟩
  rw[yA,tR]
  simp only
  rw[i64_in (k*x.2.1.2.1) (by omega),i64_in _ (by omega),j5 (by omega),bT (by omega),fl]
  by_cases hz:(x.2.1.1+k*x.2.1.2.1) % p=0
  ·rw[pe hz,if_neg (by omega)]
   exact S7 hp hk r row (fun y hy=>h y (by simp[hy])) (by simp at hl;omega)
  ·rw[Cj hz,if_pos hz,kg (by omega) (by simp at hl;omega),S7 hp hk r _ (fun y hy=>h y (by simp[hy])) (by simp at hl ⊢;omega),List.append_assoc]
   rfl
theorem aki {p:Int}(hp:0<p):∀(a b:List Tm),Cp p a→Cp p b→∀x∈mg a b,(0≤x.2.1.1∧x.2.1.1<p)∧0≤x.2.1.2.1∧x.2.1.2.1<p:=by
 intro a b
 induction a,b using mg.induct with
 |case1=>intro ha hb x h;rw[mg] at h;cases h
 |case2 a r ih=>
  intro ha hb x h
  rw[mg] at h
  rcases List.mem_cons.1 h with rfl |h
  ·have:=ha a (by simp);simp only;omega
  ·exact ih (fun t ht=>ha t (by simp[ht])) hb x h
 |case3 b s ih=>
  intro ha hb x h
  rw[mg] at h
  rcases List.mem_cons.1 h with rfl |h
  ·have:=hb b (by simp);simp only;omega
  ·exact ih ha (fun t ht=>hb t (by simp[ht])) x h
 |case4 a r b s hlt ih=>
  intro ha hb x h
  rw[mg,if_pos hlt] at h
  rcases List.mem_cons.1 h with rfl |h
  ·have:=ha a (by simp);simp only;omega
  ·exact ih (fun t ht=>ha t (by simp[ht])) hb x h
 |case5 a r b s hlt hgt ih=>
  intro ha hb x h
  rw[mg,if_neg hlt,if_pos hgt] at h
  rcases List.mem_cons.1 h with rfl |h
  ·have:=hb b (by simp);simp only;omega
  ·exact ih ha (fun t ht=>hb t (by simp[ht])) x h
 |case6 a r b s hlt hgt ih=>
  intro ha hb x h
  rw[mg,if_neg hlt,if_neg hgt] at h
  rcases List.mem_cons.1 h with rfl |h
  ·have h1:=ha a (by simp);have h2:=hb b (by simp);simp only;omega
  ·exact ih (fun t ht=>ha t (by simp[ht])) (fun t ht=>hb t (by simp[ht])) x h
theorem ahE:∀(a b:List Tm),(mg a b).length≤a.length+b.length:=by
 intro a b
 induction a,b using mg.induct with
 |case1=>rw[mg];simp
 |case2 a r ih=>rw[mg];simp only[List.length_cons] at ih ⊢;omega
 |case3 b s ih=>rw[mg];simp only[List.length_cons] at ih ⊢;omega
 |case4 a r b s hlt ih=>rw[mg,if_pos hlt];simp only[List.length_cons] at ih ⊢;omega
 |case5 a r b s hlt hgt ih=>rw[mg,if_neg hlt,if_pos hgt];simp only[List.length_cons] at ih ⊢;omega
 |case6 a r b s hlt hgt ih=>rw[mg,if_neg hlt,if_neg hgt];simp only[List.length_cons] at ih ⊢;omega
theorem WQ {p k:Int}(hp:0<p∧p≤251)(hk:0≤k∧k<p){a b:List Tm}(ha:Cp p a)(hb:Cp p b)(hl:a.length+b.length≤1000000000):xf p a k b=some (xY p a k b):=by
 rw[LA,G7,HW,Cw,bS,Ez,yB,acy,bS]
 have:=ahE a b
 rw[List.nil_append,S7 hp hk _ _ (aki hp.1 a b ha hb) (by simp;omega)]
 rfl
def ob:Option Int→Int→Bool
 |none,_=>false
 |some q,x=>decide (x≤q)
def OI (p:Int):Option Int→List Tm→Int
 |_,[]=>0
 |q,t::r=>if t.1<0∨t.1≥1024∨t.2.1<1∨t.2.1≥p then 1 else if ob q t.1=true then 6 else OI p (some t.1) r
abbrev nY:Tm:=(0,(0,()))
def prev (c:List Tm):Nat→Option Int
 |0=>none
 |i+1=>some (c.getD i nY).1
theorem acz {p:Int}{c:List Tm}(hl:c.length≤1000000000):∀(m i:Nat),m+i=c.length→iy p c c (c.length:Int) i=some (OI p (prev c i) (c.drop i)):=by
 intro m
 induction m with
 |zero=>intro i hi;rw[wb,sh,az (by omega),List.drop_eq_nil_of_le (by omega)];rfl
 |succ m ih=>
  intro i hi
  rw[wb,sh,aB (by omega),iT nY (by omega),qA nY (by omega),OI]
  have e1:IntKind.wrap .i64 ((i:Int)+1)=((i+1:Nat):Int):=by rw[i64_in _ (by omega)];omega
  have ym:=ih (i+1) (by omega)
  have ep:prev c (i+1)=some (c.getD i nY).1:=rfl
  rw[ep] at ym
  generalize c.getD i nY=t at ym ⊢
  by_cases h1:t.1<0
  ·rw[aB h1,if_pos (.inl h1)]
  ·rw[az h1]
   by_cases h2:t.1≥1024
   ·rw[tt h2,if_pos (.inr (.inl h2))]
   ·rw[tu h2]
    by_cases h3:t.2.1<1
    ·rw[aB h3,if_pos (.inr (.inr (.inl h3)))]
    ·rw[az h3]
     by_cases h4:t.2.1≥p
     ·rw[tt h4,if_pos (.inr (.inr (.inr h4)))]
     ·rw[tu h4,if_neg (by omega),e1,ym]
      cases i with
      |zero=>rw[c8 (by omega),if_neg (by intro h;cases h)]
      |succ j=>
       have e2:IntKind.wrap .i64 (((j+1:Nat):Int) - 1)=(j:Int):=by rw[i64_in _ (by omega)];omega
       rw[cZ (by omega),e2,iT nY (by omega)]
       by_cases h5:t.1≤(c.getD j nY).1
       ·rw[OF h5,if_pos (show ob (prev c (j+1)) t.1=true from decide_eq_true h5)]
       ·rw[WC h5,if_neg (by intro h;exact h5 (of_decide_eq_true h))]
theorem aal {p:Int}{c:List Tm}(hl:c.length≤1000000000):∀(m i:Nat),m+i=c.length→gu p c i=some (OI p (prev c i) (c.drop i)):=by
 intro m
 induction m with
 |zero=>intro i hi;rw[xF,qd,az (by omega),List.drop_eq_nil_of_le (by omega)];rfl
 |succ m ih=>
  intro i hi
  have hb:∀{β:Type} {f:Tm→Option β},(idx c (i:Int)).bind f=f (c.getD i nY):=iT nY (by omega)
  rw[xF,qd,aB (by omega),hb,hb,hb,hb,hb,qA nY (by omega),OI]
  have e1:IntKind.wrap .i64 ((i:Int)+1)=((i+1:Nat):Int):=by rw[i64_in _ (by omega)];omega
  have ym:=ih (i+1) (by omega)
  have ep:prev c (i+1)=some (c.getD i nY).1:=rfl
  rw[ep] at ym
  generalize c.getD i nY=t at ym ⊢
  by_cases h1:t.1<0
  ·rw[aB h1,if_pos (.inl h1)]
  ·rw[az h1]
   by_cases h2:t.1≥1024
   ·rw[tt h2,if_pos (.inr (.inl h2))]
   ·rw[tu h2]
    by_cases h3:t.2.1<1
    ·rw[aB h3,if_pos (.inr (.inr (.inl h3)))]
    ·rw[az h3]
     by_cases h4:t.2.1≥p
     ·rw[tt h4,if_pos (.inr (.inr (.inr h4)))]
     ·rw[tu h4,if_neg (by omega),e1,ym]
      cases i with
      |zero=>rw[c8 (by omega),if_neg (by intro h;cases h)]
      |succ j=>
       have e2:IntKind.wrap .i64 (((j+1:Nat):Int) - 1)=(j:Int):=by rw[i64_in _ (by omega)];omega
       rw[cZ (by omega),e2,iT nY (by omega)]
       by_cases h5:t.1≤(c.getD j nY).1
       ·rw[OF h5,if_pos (show ob (prev c (j+1)) t.1=true from decide_eq_true h5)]
       ·rw[WC h5,if_neg (by intro h;exact h5 (of_decide_eq_true h))]
def XF (p:Int)(c:List Tm):Int:=OI p none c
theorem aep {p:Int}{c:List Tm}(hl:c.length≤1000000000):se p c=some (XF p c):=by
 rw[L4,Ds]
 exact aal hl c.length 0 (by omega)
theorem acA {p:Int}:∀{c:List Tm} {q:Option Int},OI p q c=0→(∀t∈c,0≤t.1∧t.1<1024∧1≤t.2.1∧t.2.1<p)∧Sr (q.getD (-1)) c
 | [],q,h=>⟨fun t ht=>(by cases ht),trivial⟩
 |t::r,q,h=>by
  rw[OI] at h
  split at h
  ·cases h
  ·rename_i h1
   split at h
   ·cases h
   ·rename_i h2
    obtain⟨g1,g2⟩:=acA h
    refine⟨fun u hu=> ?_, ?_,g2⟩
    ·rcases List.mem_cons.1 hu with rfl |hu
     ·omega
     ·exact g1 u hu
    ·cases q with
     |none=>simp only[Option.getD_none];omega
     |some q=>
      simp only[Option.getD_some]
      have:¬t.1≤q:=fun g=>h2 (decide_eq_true g)
      omega
theorem acB {p:Int}:∀{c:List Tm} {q:Option Int},(∀t∈c,0≤t.1∧t.1<1024∧1≤t.2.1∧t.2.1<p)→Sr (q.getD (-1)) c→OI p q c=0
 | [],q,h,g=>rfl
 |t::r,q,h,g=>by
  have h1:=h t (by simp)
  have h2:=g.1
  rw[OI,if_neg (by omega),if_neg (by
   cases q with
   |none=>intro h;cases h
   |some q=>simp only[Option.getD_some] at h2;intro h;have:=of_decide_eq_true h;omega)]
  exact acB (q:=some t.1) (fun u hu=>h u (by simp[hu])) g.2
theorem MA {p:Int}{c:List Tm}:XF p c=0↔Vc p 1024 c:=by
 constructor
 ·intro h
  obtain⟨g1,g2⟩:=acA h
  exact⟨g2,fun t ht=>by have:=g1 t ht;omega⟩
 ·intro h
  refine acB (fun t ht=> ?_) h.s
  have h1:=h.r t ht
  have h2:=Sr.mem h.s t ht
  omega
end Go.Proofs.YtofjebmoebhiiaaGreatDoor.Ev
namespace Go.Proofs.YtofjebmoebhiiaaGreatDoor.Ev
open Go.Abs Go.IntWalk
def prB (p:Nat):Bool:=Nat.ble 2 p&&Nat.ble p 251&&(List.range 14).all fun d=> !(p % (d+2)==0)||p==d+2
def Pr (p:Int):Prop:=2≤p∧p≤251∧prB p.toNat=true
instance (p:Int):Decidable (Pr p):=by unfold Pr;infer_instance
theorem af0 {α:Type}{f g:Nat→α}{n:Nat}(h:(List.range n).map f=(List.range n).map g){i:Nat}(hi:i<n):f i=g i:=by
 have:=congrArg (fun l=>l[i]?) h
 simpa [hi] using this
theorem acC:(List.range 250).map (fun i=>zl 400 ((i+2:Nat):Int))=(List.range 250).map fun i=>some (prB (i+2)):=by kernel_rfl
theorem aam:(List.range 250).map (fun i=>wW 400 ((i+2:Nat):Int))=(List.range 250).map fun i=>some (prB (i+2)):=by kernel_rfl
theorem akj {i:Nat}(hi:i<250):decide (Pr ((i+2:Nat):Int))=prB (i+2):=by
 rw[Bool.eq_iff_iff,decide_eq_true_eq]
 unfold Pr
 rw[Int.toNat_natCast]
 exact⟨fun h=>h.2.2,fun h=>⟨by omega,by omega,h⟩⟩
theorem aeq {p:Int}(hp:p≤1∨251<p):∀(m t:Nat),m+t=16→kM p t=some false:=by
 intro m
 induction m with
 |zero=>
  intro t ht
  rw[AI,vR,az (by omega)]
  rcases hp with h |h
  ·rw[c8 (by omega)]
  ·rw[cZ (by omega),ajN (by omega)]
 |succ m ih=>
  intro t ht
  have e1:IntKind.wrap .i64 ((t:Int)+1)=((t+1:Nat):Int):=by rw[i64_in _ (by omega)];omega
  rw[AI,vR,aB (by omega),e1,ih (t+1) (by omega)]
  by_cases h:(t:Int)>1
  ·rw[cZ h,j5 (by omega)]
   cases (p.tmod t==0)<;>cases (p != (t:Int))<;>rfl
  ·rw[c8 h]
theorem Bt (p:Int):nt p=some (decide (Pr p)):=by
 by_cases h:2≤p∧p≤251
 ·obtain⟨i,hi⟩:=Int.eq_ofNat_of_zero_le (show 0≤p - 2 by omega)
  have e:p=((i+2:Nat):Int):=by omega
  subst e
  have:=af0 acC (show i<250 by omega)
  rw[Bn] at this
  rw[this,akj (by omega)]
 ·have hf:decide (Pr p)=false:=decide_eq_false fun g=>h ⟨g.1,g.2.1⟩
  rw[On,JB,hf]
  exact aeq (by omega) 16 0 rfl
theorem YZ (p:Int):fu p=some (decide (Pr p)):=by
 by_cases h:2≤p∧p≤251
 ·obtain⟨i,hi⟩:=Int.eq_ofNat_of_zero_le (show 0≤p - 2 by omega)
  have e:p=((i+2:Nat):Int):=by omega
  subst e
  have:=af0 aam (show i<250 by omega)
  rw[Du] at this
  rw[this,akj (by omega)]
 ·have hf:decide (Pr p)=false:=decide_eq_false fun g=>h ⟨g.1,g.2.1⟩
  rw[Dp,wV,hf,zg,rH]
  by_cases h1:2<p
  ·rw[aB h1,WC (by omega),tt (by omega),ajN (by omega)]
  ·rw[az h1,tu (by omega)]
theorem aan {p a:Int}(hp:2≤p∧p≤251):fo p a=some (a % p):=by
 have h1:=Int.tmod_lt_of_pos a (show 0<p by omega)
 have h2:=Int.lt_tmod_of_pos a (show 0<p by omega)
 rw[EA,yD,j5 (by omega),j5 (by omega),i64_in _ (by omega),bT (by omega),Int.add_emod_right]
 congr 1
 rw[Int.tmod_def,Int.sub_mul_emod_self_left]
theorem T4 {p:Int}(hp:Pr p)(a:Int):vk p a=some (a % p):=by
 rw[TH,Pd,Pe,MZ,Bt,bS,decide_eq_true hp,Bool.not_true,cF,bS,pe rfl,aan ⟨hp.1,hp.2.1⟩,bS]
def iv (p a:Int):Int:=((a.toNat^(p.toNat - 2) % p.toNat:Nat):Int)
theorem aer {f:Nat}(hf:2≤f∧f≤251):∀(n o b:Nat),o<f→b<f→n≤1000→eo f n o b=some ((o*b^n % f:Nat):Int):=by
 intro n
 induction n using Nat.strongRecOn with
 |ind n ih=>
  intro o b ho hb hn
  rw[yE,qK]
  by_cases h0:n=0
  ·subst h0
   rw[c8 (by omega),Nat.pow_zero,Nat.mul_one,Nat.mod_eq_of_lt ho]
  ·have e1:((n:Int).tmod 2)=((n % 2:Nat):Int):=by rw[bT (by omega),Int.natCast_emod];rfl
   have e2:IntKind.wrap .i64 ((n:Int).tdiv 2)=((n / 2:Nat):Int):=by rw[nk (by omega),i64_in _ (by omega)];omega
   have bb:b*b≤251*251:=Nat.mul_le_mul (by omega) (by omega)
   have ob:o*b≤251*251:=Nat.mul_le_mul (by omega) (by omega)
   have c1:((b:Int)*(b:Int))=((b*b:Nat):Int):=by rw[Int.natCast_mul]
   have c2:((o:Int)*(b:Int))=((o*b:Nat):Int):=by rw[Int.natCast_mul]
   have e3:(IntKind.wrap .i64 ((b:Int)*(b:Int))).tmod (f:Int)=((b*b % f:Nat):Int):=by
    rw[c1,i64_in _ (by omega),bT (by omega),Int.natCast_emod]
   have e4:(IntKind.wrap .i64 ((o:Int)*(b:Int))).tmod (f:Int)=((o*b % f:Nat):Int):=by
    rw[c2,i64_in _ (by omega),bT (by omega),Int.natCast_emod]
   have hpw:(b*b)^(n / 2)=b^(2*(n / 2)):=by rw[Nat.pow_mul,Nat.pow_two]
   rw[cZ (by omega),e1,e2,e3,e4]
   by_cases h1:n % 2=1
   ·rw[h1,ur (by rfl),j5 (by omega),j5 (by omega),ih (n / 2) (by omega) _ _ (Nat.mod_lt _ (by omega)) (Nat.mod_lt _ (by omega)) (by omega)]
    congr 2
    rw[Nat.mul_mod,Nat.mod_mod, ←Nat.pow_mod, ←Nat.mul_mod,hpw,Nat.mul_assoc, ←Nat.pow_succ']
    have:(2*(n / 2)).succ=n:=by omega
    rw[this]
   ·have h2:n % 2=0:=by omega
    rw[h2,ko (by omega),j5 (by omega),ih (n / 2) (by omega) _ _ ho (Nat.mod_lt _ (by omega)) (by omega)]
    congr 2
    rw[Nat.mul_mod, ←Nat.pow_mod, ←Nat.mul_mod,hpw]
    have:2*(n / 2)=n:=by omega
    rw[this]
theorem akk:((List.range 252).all fun p=> !(prB p)||(List.range p).all fun a=>a==0||a*(a^(p - 2) % p) % p==1)=true:=by kernel_rfl
theorem aao {p a:Int}(hp:Pr p)(ha:1≤a∧a<p):a*iv p a % p=1:=by
 obtain⟨h1,h2,h3⟩:=hp
 have h:=List.all_eq_true.1 akk p.toNat (List.mem_range.2 (by omega))
 rw[h3,Bool.not_true,Bool.false_or] at h
 have h:=List.all_eq_true.1 h a.toNat (List.mem_range.2 (by omega))
 rw[Bool.or_eq_true] at h
 rcases h with h |h
 ·have:=beq_iff_eq.1 h;omega
 ·have h:=beq_iff_eq.1 h
  unfold iv
  have e1:(a.toNat:Int)=a:=by omega
  have e2:(p.toNat:Int)=p:=by omega
  have h':((a.toNat*(a.toNat^(p.toNat - 2) % p.toNat) % p.toNat:Nat):Int)=1:=by rw[h];rfl
  rw[Int.natCast_emod,Int.natCast_mul,e1,e2] at h'
  exact h'
theorem RJ {p a:Int}(hp:Pr p)(ha:1≤a∧a<p):1≤iv p a∧iv p a<p:=by
 have h:=aao hp ha
 obtain⟨h1,h2,h3⟩:=hp
 have h4:iv p a<p:=by
  unfold iv
  have:=Nat.mod_lt (a.toNat^(p.toNat - 2)) (show 0<p.toNat by omega)
  omega
 have h5:0≤iv p a:=by unfold iv;omega
 refine⟨?_,h4⟩
 by_cases h0:iv p a=0
 ·rw[h0,Int.mul_zero,Int.zero_emod] at h;omega
 ·omega
theorem acD {p a:Int}(hp:Pr p)(ha:1≤a∧a<p):BF p a=some (iv p a,0):=by
 obtain⟨h1,h2,h3⟩:=hp
 have hm:a % p=a:=Int.emod_eq_of_lt (by omega) ha.2
 rw[TG,Pc,Pe,MZ,Bt,bS,decide_eq_true ⟨h1,h2,h3⟩,Bool.not_true,cF,bS,pe rfl,aan ⟨h1,h2⟩,bS,hm,ko (by omega),zZ,sS,CW,wc,aan ⟨h1,h2⟩,bS,hm]
 obtain⟨q,hq⟩:=Int.eq_ofNat_of_zero_le (show 0≤p by omega)
 obtain⟨b,hb⟩:=Int.eq_ofNat_of_zero_le (show 0≤a by omega)
 subst hq hb
 have e:IntKind.wrap .i64 ((q:Int) - 2)=((q - 2:Nat):Int):=by rw[i64_in _ (by omega)];omega
 have:=aer (f:=q) (by omega) (q - 2) 1 b (by omega) (by omega) (by omega)
 rw[Nat.one_mul] at this
 have e1:((1:Nat):Int)=1:=rfl
 rw[e1] at this
 rw[e,this,bS,bS]
 unfold iv
 rw[Int.toNat_natCast,Int.toNat_natCast]
theorem aap {p a:Int}(hp:2≤p∧p≤251)(ha:1≤a∧a<p){w:Int}(hw:1≤w∧w<p)(hm:a*w % p=1)(hu:∀b,1≤b→b<p→a*b % p=1→b=w):∀(m:Nat) (b:Int),1≤b→b≤w→w - b=m→fN p a b=some w:=by
 intro m
 induction m with
 |zero=>
  intro b h1 h2 h3
  have:b=w:=by omega
  subst this
  have hb:0≤a*b∧a*b≤251*251:=⟨Int.mul_nonneg (by omega) (by omega),Int.mul_le_mul (by omega) (by omega) (by omega) (by omega)⟩
  rw[vB,oN,aB (by omega),j5 (by omega),i64_in _ (by omega),bT (by omega),ur hm]
 |succ m ih=>
  intro b h1 h2 h3
  have hb:0≤a*b∧a*b≤251*251:=⟨Int.mul_nonneg (by omega) (by omega),Int.mul_le_mul (by omega) (by omega) (by omega) (by omega)⟩
  rw[vB,oN,aB (by omega),j5 (by omega),i64_in (a*b) (by omega),bT (by omega),ko (fun e=>by have:=hu b h1 (by omega) e;omega),i64_in _ (by omega)]
  exact ih (b+1) (by omega) (by omega) (by omega)
theorem ahF {p a b w:Int}(hp:2≤p)(hb:0≤b∧b<p)(hw:0≤w∧w<p)(h1:a*b % p=1)(h2:a*w % p=1):b=w:=by
 have e1:b*(a*w) % p=b:=by
  rw[Int.mul_emod,h2,Int.mul_one,Int.emod_emod_of_dvd _ (Int.dvd_refl p),Int.emod_eq_of_lt hb.1 hb.2]
 have e2:w*(a*b) % p=w:=by
  rw[Int.mul_emod,h1,Int.mul_one,Int.emod_emod_of_dvd _ (Int.dvd_refl p),Int.emod_eq_of_lt hw.1 hw.2]
 have e3:b*(a*w)=w*(a*b):=by
  rw[←Int.mul_assoc,Int.mul_comm b a,Int.mul_assoc,Int.mul_comm b w, ←Int.mul_assoc,Int.mul_comm a w,Int.mul_assoc]
 rw[←e1,e3,e2]
theorem WS {p a:Int}(hp:Pr p)(ha:1≤a∧a<p):i6 p a=some (iv p a):=by
 have hr:=RJ hp ha
 rw[KM,B3]
 refine aap ⟨hp.1,hp.2.1⟩ ha hr (aao hp ha) (fun b h1 h2 h3=>ahF hp.1 (by omega) (by omega) h3 (aao hp ha)) (iv p a - 1).toNat 1 (by omega) (by omega) (by omega)
theorem CQ {p:Int}(hp:Pr p){c:List Tm}(hl:c.length≤1000000000):mS p c=some (XF p c):=by
 rw[Kd,Ew,Bt,bS,decide_eq_true hp,Bool.not_true,cF]
 exact acz hl c.length 0 (by omega)
theorem OJ {p k:Int}(hp:Pr p){a b:List Tm}(ha:Vc p 1024 a)(hb:Vc p 1024 b)(hla:a.length≤100000000)(hlb:b.length≤100000000):ka p a k b=some (xY p a (k % p) b,0):=by
 have h0:∀{x y:List Tm},([x,y]:List (List Tm)).length=2:=rfl
 rw[Ol,JA,Ey,yz,h0,lP,jJ,aB (by omega)]
 have i0:idx ([a,b]:List (List Tm)) 0=some a:=rfl
 have i1:idx ([a,b]:List (List Tm)) 1=some b:=rfl
 have w1:IntKind.wrap .i64 ((0:Int)+1)=1:=rfl
 have w2:IntKind.wrap .i64 ((1:Int)+1)=2:=rfl
 rw[i0,bS,CQ hp (by omega),bS,MA.2 ha,pe rfl,w1,lP,jJ,aB (by omega),i1,bS,CQ hp (by omega),bS,MA.2 hb,pe rfl,w2,lP,jJ,az (by omega),bS,pe rfl,T4 hp,bS]
 have h1:=Int.emod_nonneg k (show p≠0 by have:=hp.1;omega)
 have h2:=Int.emod_lt_of_pos k (show 0<p by have:=hp.1;omega)
 rw[WQ ⟨by have:=hp.1;omega,hp.2.1⟩ ⟨h1,h2⟩ ha.c hb.c (by omega),bS]
theorem akl {c:List Tm}(hl:c.length≤1000000000):j9 c=some (match c.getLast? with |some t=>(t.1,true) |none=>(0,false)):=by
 rw[Ok,Jz]
 by_cases h:c=[]
 ·subst h;rw[List.length_nil,ur (by rfl)];rfl
 ·have hn:c.length≠0:=fun e=>h (List.length_eq_zero_iff.1 e)
  have e:IntKind.wrap .i64 ((c.length:Int) - 1)=((c.length - 1:Nat):Int):=by rw[i64_in _ (by omega)];omega
  rw[ko (by omega)]
  simp only[e]
  rw[iT nY (by omega),List.getLast?_eq_getElem?]
  have:c[c.length - 1]? =some (c.getD (c.length - 1) nY):=by simp[List.getD,show c.length - 1<c.length by omega]
  rw[this]
end Go.Proofs.YtofjebmoebhiiaaGreatDoor.Ev
namespace Go.Abs
abbrev Cl:=Int×ByteArray×List Tm×Unit
abbrev sB:Cl:=(0,(ByteArray.empty,([],())))
theorem zF {l:List Int}{k j:Nat}{v:Int}:(l.set k v).getD j 0=if k=j∧k<l.length then v else l.getD j 0:=by
 simp only[List.getD,List.getElem?_set]
 by_cases h:k=j
 ·subst h
  by_cases hk:k<l.length
  ·simp[hk]
  ·simp[hk]
 ·simp[h]
theorem Cm (n j:Nat):(List.replicate n (0:Int)).getD j 0=0:=by
 simp only[List.getD,List.getElem?_replicate];split<;>rfl
structure Vr (n:Nat) (l:List Tm) (v:List Int):Prop where
 len:v.length=n
 at_:∀j:Nat,j<n→v.getD j 0=cf l j
def mw (out:List Int):List Tm→List Int
 | []=>out
 |t::r=>mw (out.set t.1.toNat t.2.1) r
theorem J0:∀(l:List Tm) (out:List Int),(mw out l).length=out.length
 | [],out=>rfl
 |t::r,out=>by rw[mw,J0 r];simp
theorem RK {p:Int}:∀{l:List Tm} {lo:Int} {out:List Int} {j:Nat},Sr lo l→ -1≤lo→Cp p l→(∀t∈l,t.1<out.length)→(mw out l).getD j 0=if cf l j=0 then out.getD j 0 else cf l j
 | [],lo,out,j,h,h0,hc,hn=>by rw[mw,WO,if_pos rfl]
 |t::r,lo,out,j,h,h0,hc,hn=>by
  have h1:=h.1
  have h2:=hn t (by simp)
  have h3:=hc t (by simp)
  rw[mw,RK (lo:=t.1) (p:=p) h.2 (by omega) (fun u hu=>hc u (by simp[hu])) (fun u hu=>by rw[List.length_set];exact hn u (by simp[hu])),zF,M7]
  by_cases e:t.1=j
  ·rw[if_pos e,Sr.cf0 h.2 (by omega),if_pos rfl,if_pos (by omega),if_neg (by omega)]
  ·rw[if_neg e,if_neg (show ¬(t.1.toNat=j∧t.1.toNat<out.length) by omega)]
def XG (i:Nat):List Int→List Tm
 | []=>[]
 |x::r=>if x≠0 then ((i:Int),(x,()))::XG (i+1) r else XG (i+1) r
theorem af1:∀{v:List Int} {i:Nat},XG i v=[]↔∀j:Nat,v.getD j 0=0
 | [],i=>by simp[XG]
 |x::r,i=>by
  rw[XG]
  split
  ·rename_i h
   constructor
   ·intro e;cases e
   ·intro g;exact absurd (g 0) (by simpa using h)
  ·rename_i h
   have h:x=0:=by omega
   rw[af1]
   constructor
   ·intro g j
    cases j with
    |zero=>simpa using h
    |succ j=>simpa using g j
   ·intro g j;simpa using g (j+1)
theorem aes:∀(v:List Int) (i:Nat) (lo:Int),lo<i→Sr lo (XG i v)
 | [],i,lo,h=>trivial
 |x::r,i,lo,h=>by
  rw[XG];split
  ·exact⟨h,aes r (i+1) i (by omega)⟩
  ·exact aes r (i+1) lo (by omega)
theorem aaq:∀{v:List Int} {i:Nat} {t:Tm},t∈XG i v→(i:Int)≤t.1∧t.1<i+v.length∧t.2.1∈v∧t.2.1≠0
 |x::r,i,t,h=>by
  rw[XG] at h
  split at h
  ·rename_i hx
   rcases List.mem_cons.1 h with rfl |h
   ·exact⟨by simp,by simp;omega,by simp,hx⟩
   ·have:=aaq h
    exact⟨by omega,by simp only[List.length_cons];omega,by simp[this.2.2.1],this.2.2.2⟩
  ·have:=aaq h
   exact⟨by omega,by simp only[List.length_cons];omega,by simp[this.2.2.1],this.2.2.2⟩
def adL (p:Int)(out:List Int)(c:Int):List Tm→List Int
 | []=>out
 |u::r=>adL p (out.set u.1.toNat ((out.getD u.1.toNat 0+c*u.2.1) % p)) c r
theorem P7 {p c:Int}:∀(l:List Tm) (out:List Int),(adL p out c l).length=out.length
 | [],out=>rfl
 |t::r,out=>by rw[adL,P7 r];simp
def Rs (p:Int)(out:List Int):Prop:=∀j:Nat,0≤out.getD j 0∧out.getD j 0<p
theorem Rs.set {p v:Int}{out:List Int}(h:Rs p out)(hv:0≤v∧v<p)(k:Nat):Rs p (out.set k v):=fun j=>by
 rw[zF];split
 ·exact hv
 ·exact h j
theorem aet {p c:Int}(hp:0<p):∀(l:List Tm) (out:List Int),Rs p out→Rs p (adL p out c l)
 | [],out,h=>h
 |u::r,out,h=>by
  rw[adL]
  exact aet hp r _ (h.set ⟨Int.emod_nonneg _ (by omega),Int.emod_lt_of_pos _ hp⟩ _)
theorem acE {p c:Int}(hp:0<p):∀{l:List Tm} {lo:Int} {out:List Int} {j:Nat},Sr lo l→ -1≤lo→Rs p out→(∀t∈l,t.1<out.length)→(adL p out c l).getD j 0=(out.getD j 0+c*cf l j) % p
 | [],lo,out,j,h,h0,hr,hn=>by rw[adL,WO,Int.mul_zero,Int.add_zero,Int.emod_eq_of_lt (hr j).1 (hr j).2]
 |u::r,lo,out,j,h,h0,hr,hn=>by
  have h1:=h.1
  have h2:=hn u (by simp)
  have hv:0≤(out.getD u.1.toNat 0+c*u.2.1) % p∧(out.getD u.1.toNat 0+c*u.2.1) % p<p:=⟨Int.emod_nonneg _ (by omega),Int.emod_lt_of_pos _ hp⟩
  rw[adL,acE hp (lo:=u.1) h.2 (by omega) (hr.set hv _) (fun t ht=>by rw[List.length_set];exact hn t (by simp[ht])),zF,M7]
  by_cases e:u.1=j
  ·rw[if_pos e,if_pos (by omega),Sr.cf0 h.2 (by omega),Int.mul_zero,Int.add_zero,Int.emod_emod_of_dvd _ (Int.dvd_refl p)]
   have:u.1.toNat=j:=by omega
   rw[this]
  ·rw[if_neg e,if_neg (show ¬(u.1.toNat=j∧u.1.toNat<out.length) by omega)]
def oW (ah:List Cl)(r:Int):List Tm:=(ah.getD r.toNat sB).2.2.1
def XI (p:Int)(ah:List Cl)(out:List Int):List Tm→List Int
 | []=>out
 |t::r=>XI p ah (adL p out t.2.1 (oW ah t.1)) r
def RL (p:Int)(ah:List Cl)(out:List Tm):List Tm→List Tm
 | []=>out
 |t::r=>RL p ah (xY p out (t.2.1 % p) (oW ah t.1)) r
theorem OK:∀{l:List Tm} {lo:Int} {n:Int},Sr lo l→(∀t∈l,t.1<n)→lo<n→(l.length:Int)≤n - lo - 1
 | [],lo,n,h,hn,hl=>by simp;omega
 |t::r,lo,n,h,hn,hl=>by
  have:=OK h.2 (fun u hu=>hn u (by simp[hu])) (hn t (by simp))
  have:=h.1
  simp only[List.length_cons];omega
theorem Vc.length {p n:Int}{l:List Tm}(h:Vc p n l)(hn:0≤n):(l.length:Int)≤n:=by
 have:=OK h.s (fun t ht=>(h.r t ht).1) (by omega);omega
theorem af2 {p:Int}(hp:0<p){ah:List Cl}{n:Nat}:∀{x:List Tm} {S:List Tm} {v:List Int},(∀t∈x,Vc p n (oW ah t.1))→Vc p n S→Vr n S v→Rs p v→
  Vc p n (RL p ah S x)∧Vr n (RL p ah S x) (XI p ah v x)∧Rs p (XI p ah v x)
 | [],S,v,hx,hS,hv,hr=>⟨hS,hv,hr⟩
 |t::r,S,v,hx,hS,hv,hr=>by
  have hb:=hx t (by simp)
  obtain⟨h1,h2⟩:=M8 (k:=t.2.1 % p) hp hS hb
  rw[RL,XI]
  refine af2 hp (x:=r) (S:=xY p S (t.2.1 % p) (oW ah t.1)) (v:=adL p v t.2.1 (oW ah t.1)) (fun u hu=>hx u (by simp[hu])) h1 ⟨by rw[P7,hv.len],fun j hj=> ?_⟩ (aet hp _ _ hr)
  rw[acE hp hb.s (by omega) hr (fun u hu=>by rw[hv.len];exact(hb.r u hu).1),h2,hv.at_ j hj,Int.add_emod,Int.mul_emod, ←Int.add_emod (cf S j),Int.add_emod (cf S j) (t.2.1 % p*cf (oW ah t.1) j),Int.mul_emod (t.2.1 % p),Int.emod_emod_of_dvd _ (Int.dvd_refl p), ←Int.add_emod]
theorem amc {p:Int}{n:Nat}{S:List Tm}{v:List Int}(hS:Vc p n S)(hv:Vr n S v):S=[]↔XG 0 v=[]:=by
 rw[af1]
 constructor
 ·intro e j
  subst e
  by_cases hj:j<n
  ·rw[hv.at_ j hj];rfl
  ·have:=hv.len
   simp only[List.getD]
   rw[List.getElem?_eq_none (by omega)];rfl
 ·intro h
  cases hS':S with
  |nil=>rfl
  |cons t r=>
   exfalso
   have h1:=hS.r t (by rw[hS'];simp)
   have h2:=Sr.mem hS.s t (by rw[hS'];simp)
   have h3:=Mz hS.s t (by rw[hS'];simp)
   have h4:=hv.at_ t.1.toNat (by omega)
   rw[h] at h4
   have e:((t.1.toNat:Nat):Int)=t.1:=by omega
   rw[e] at h4
   omega
end Go.Abs
namespace Go.Proofs.YtofjebmoebhiiaaGreatDoor.Ev
open Go.Abs Go.IntWalk
theorem cq {i:Nat}(h:i≤1000000000):IntKind.wrap .i64 ((i:Int)+1)=((i+1:Nat):Int):=by rw[i64_in _ (by omega)];omega
theorem aeu {x:List Tm}{n:Nat}(hl:x.length≤1000000000)(hx:∀t∈x,0≤t.1∧t.1<n):∀(m i:Nat) (out:List Int),m+i=x.length→out.length=n→ic x i out=some (mw out (x.drop i)):=by
 intro m
 induction m with
 |zero=>intro i out hi ho;rw[zh,rJ,az (by omega),List.drop_eq_nil_of_le (by omega)];rfl
 |succ m ih=>
  intro i out hi ho
  have hb:∀{β:Type} {f:Tm→Option β},(idx x (i:Int)).bind f=f (x.getD i nY):=iT nY (by omega)
  have hm:x.getD i nY∈x:=by
   have:x.getD i nY=x[i]'(by omega):=by simp[List.getD,show i<x.length by omega]
   rw[this];exact List.getElem_mem _
  have hr:=hx _ hm
  rw[zh,rJ,aB (by omega),hb,hb,eL (by omega) (by omega),rS (by omega),cq (by omega),ih (i+1) _ (by omega) (by simpa using ho),qA nY (show i<x.length by omega),mw]
theorem acF {p:Int}{x:List Tm}{n:Nat}(hn:n≤1000000)(hx:Vc p n x):∃v,tG x n=some v∧Vr n x v∧(0<p→Rs p v):=by
 have hl:=hx.length (by omega)
 have hx':∀t∈x,0≤t.1∧t.1<n:=fun t ht=>⟨by have:=Sr.mem hx.s t ht;omega,(hx.r t ht).1⟩
 have hg:∀j:Nat,(mw (List.replicate n 0) x).getD j 0=cf x j:=fun j=>by
  rw[RK hx.s (by omega) hx.c (fun t ht=>by rw[List.length_replicate];exact(hx' t ht).2),Cm]
  split<;>omega
 refine⟨mw (List.replicate n 0) x, ?_,⟨by rw[J0,List.length_replicate],fun j _=>hg j⟩,fun hp j=>by rw[hg];exact RH hp hx.c j⟩
 rw[NI,Fc,GM (by omega) (by omega) (by omega),Int.toNat_natCast]
 exact aeu (by omega) hx' x.length 0 _ (by omega) (by simp)
theorem acG {v:List Int}(hl:v.length≤1000000):∀(m i:Nat) (out:List Tm),m+i=v.length→out.length≤i→gr v i out=some (out++XG i (v.drop i)):=by
 intro m
 induction m with
 |zero=>intro i out hi ho;rw[xE,qc,az (by omega),List.drop_eq_nil_of_le (by omega),XG,List.append_nil]
 |succ m ih=>
  intro i out hi ho
  rw[xE,qc,aB (by omega),eL (by omega) (by omega),Int.toNat_natCast,drop_eq (by omega),XG,cq (by omega)]
  by_cases h:v.getD i 0=0
  ·rw[pe h,ih (i+1) out (by omega) (by omega),if_neg (by omega)]
  ·rw[Cj h,eL (by omega) (by omega),Int.toNat_natCast,kg (by omega) (by omega),if_pos h]
   simp only
   rw[ih (i+1) _ (by omega) (by simp;omega),List.append_assoc]
   rfl
theorem ahH {v:List Int}(hl:v.length≤1000000):sc v=some (XG 0 v):=by
 rw[L3,Dr]
 have:=acG hl v.length 0 [] (by omega) (by simp)
 simpa using this
theorem aar {p:Int}(hp:2≤p∧p≤251){x:List Tm}{i:Nat}{b:List Tm}{c2:List Cl}(hi:i<x.length)(hxi:0≤(x.getD i nY).2.1∧(x.getD i nY).2.1≤251)(hbl:b.length≤1000000):
  ∀(m k:Nat) (out:List Int),m+k=b.length→Rs p out→(∀t∈b,(0≤t.1∧t.1<out.length)∧0≤t.2.1∧t.2.1≤251)→out.length≤1000000→
   ij x i b k out p c2=fD x (IntKind.wrap .i64 ((i:Int)+1)) (adL p out (x.getD i nY).2.1 (b.drop k)) p c2:=by
 intro m
 induction m with
 |zero=>intro k out hk hr hb ho;rw[zj,rN,az (by omega),List.drop_eq_nil_of_le (by omega),adL]
 |succ m ih=>
  intro k out hk hr hb ho
  have hbk:∀{β:Type} {f:Tm→Option β},(idx b (k:Int)).bind f=f (b.getD k nY):=iT nY (by omega)
  have hm:b.getD k nY∈b:=by
   have:b.getD k nY=b[k]'(by omega):=by simp[List.getD,show k<b.length by omega]
   rw[this];exact List.getElem_mem _
  obtain⟨h1,h2⟩:=hb _ hm
  have hv:=hr (b.getD k nY).1.toNat
  have hmul:0≤(x.getD i nY).2.1*(b.getD k nY).2.1∧(x.getD i nY).2.1*(b.getD k nY).2.1≤251*251:=⟨Int.mul_nonneg (by omega) (by omega),Int.mul_le_mul (by omega) (by omega) (by omega) (by omega)⟩
  rw[zj,rN,aB (by omega),hbk,hbk,eL (by omega) (by omega),rS (by omega),iT nY hi,hbk]
  simp only
  rw[i64_in ((x.getD i nY).2.1*(b.getD k nY).2.1) (by omega),i64_in (out.getD (b.getD k nY).1.toNat 0+(x.getD i nY).2.1*(b.getD k nY).2.1) (by omega),j5 (by omega),eL (by omega) (by omega),rS (by omega),bT (by omega),cq (i:=k) (by omega)]
  rw[ih (k+1) _ (by omega) (hr.set ⟨Int.emod_nonneg _ (by omega),Int.emod_lt_of_pos _ (by omega)⟩ _) (fun t ht=>by rw[List.length_set];exact hb t ht) (by rw[List.length_set];exact ho),qA nY (show k<b.length by omega),adL]
theorem aas {p:Int}(hp:2≤p∧p≤251){x:List Tm}{c2:List Cl}{n:Nat}(hn:n≤1000000)(hxl:x.length≤1000000)(hx:∀t∈x,(0≤t.1∧t.1<c2.length)∧(0≤t.2.1∧t.2.1≤251)∧Vc p n (oW c2 t.1)):
  ∀(m i:Nat) (out:List Int),m+i=x.length→Rs p out→out.length=n→fD x i out p c2=some (XI p c2 out (x.drop i)):=by
 intro m
 induction m with
 |zero=>intro i out hi hr ho;rw[zi,rL,az (by omega),List.drop_eq_nil_of_le (by omega),XI]
 |succ m ih=>
  intro i out hi hr ho
  have hm:x.getD i nY∈x:=by
   have:x.getD i nY=x[i]'(by omega):=by simp[List.getD,show i<x.length by omega]
   rw[this];exact List.getElem_mem _
  obtain⟨h1,h2,h3⟩:=hx _ hm
  have hl:=h3.length (by omega)
  rw[zi,rL,aB (by omega),iT nY (by omega),WN sB (by omega) (by omega)]
  have e:(c2.getD (x.getD i nY).1.toNat sB).2.2.1=oW c2 (x.getD i nY).1:=rfl
  rw[e]
  have:=aar hp (b:=oW c2 (x.getD i nY).1) (c2:=c2) (show i<x.length by omega) h2 (by omega) (oW c2 (x.getD i nY).1).length 0 out (by omega) hr (fun t ht=>by
   have g1:=Sr.mem h3.s t ht
   have g2:=h3.r t ht
   omega) (by omega)
  have e0:((0:Nat):Int)=0:=rfl
  rw[e0] at this
  rw[this,cq (by omega),List.drop_zero,ih (i+1) _ (by omega) (aet (by omega) _ _ hr) (by rw[P7];exact ho),qA nY (show i<x.length by omega),XI]
theorem ahI {p:Int}(hp:2≤p∧p≤251){x:List Tm}{c2:List Cl}(hn:c2.length≤1000000)(hxl:x.length≤1000000)(hx:∀t∈x,(0≤t.1∧t.1<c2.length)∧(0≤t.2.1∧t.2.1≤251)∧Vc p c2.length (oW c2 t.1)):
  tL (p,(c2,())) x=some (XI p c2 (List.replicate c2.length 0) x):=by
 rw[NJ,Fe]
 simp only
 rw[GM (by omega) (by omega) (by omega),Int.toNat_natCast]
 exact aas hp (n:=c2.length) hn hxl hx x.length 0 _ (by omega) (fun j=>by rw[Cm];omega) (by simp)
theorem acH {p:Int}(hp:Pr p){x:List Tm}{c2:List Cl}(hxl:x.length≤1000000)(hx:∀t∈x,(0≤t.1∧t.1<c2.length)∧Vc p 1024 (oW c2 t.1)):
  ∀(m i:Nat) (S:List Tm),m+i=x.length→Vc p 1024 S→fX S x (x.length:Int) i p c2=some (RL p c2 S (x.drop i)):=by
 intro m
 induction m with
 |zero=>intro i S hi hS;rw[po,mZ,az (by omega),List.drop_eq_nil_of_le (by omega),RL]
 |succ m ih=>
  intro i S hi hS
  have hm:x.getD i nY∈x:=by
   have:x.getD i nY=x[i]'(by omega):=by simp[List.getD,show i<x.length by omega]
   rw[this];exact List.getElem_mem _
  obtain⟨h1,h3⟩:=hx _ hm
  have hl:=h3.length (by omega)
  have hl2:=hS.length (by omega)
  rw[po,mZ,aB (by omega),iT nY (by omega),WN sB (by omega) (by omega)]
  have e:(c2.getD (x.getD i nY).1.toNat sB).2.2.1=oW c2 (x.getD i nY).1:=rfl
  rw[e,OJ hp hS h3 (by omega) (by omega),bS,cq (by omega)]
  simp only
  rw[ih (i+1) _ (by omega) (M8 (by have:=hp.1;omega) hS h3).1,qA nY (show i<x.length by omega),RL]
theorem ahJ {p:Int}(hp:Pr p){x:List Tm}{c2:List Cl}(hxl:x.length≤1000000)(hx:∀t∈x,(0≤t.1∧t.1<c2.length)∧Vc p 1024 (oW c2 t.1)):xc (p,(c2,())) x=some (RL p c2 [] x):=by
 have h:=acH hp hxl hx x.length 0 [] (by omega) Vc.nil
 rw[Ly,G4]
 simp only
 have e:oi x (x.length:Int) 0 [] p c2=fX [] x (x.length:Int) 0 p c2:=by
  rw[Gf,AF,po,mZ]
 rw[e]
 simpa using h
end Go.Proofs.YtofjebmoebhiiaaGreatDoor.Ev
namespace Go.Proofs.YtofjebmoebhiiaaGreatDoor.Ev
open Go.Abs Go.IntWalk
def nM (ah:List Cl)(j:Nat):ByteArray:=(ah.getD j sB).2.1
def aat (ah:List Cl)(j:Nat):Bool:=decide (0<j)&&decide (tX ((u7 (nM ah j)).1*(u7 (nM ah (j - 1))).2) ((u7 (nM ah (j - 1))).1*(u7 (nM ah j)).2)<0)
def rT (p:Int)(ah:List Cl)(j:Nat):Int:=
 if (ah.getD j sB).1<0∨4<(ah.getD j sB).1∨zE (nM ah j)=false then 1
 else if XF p (ah.getD j sB).2.2.1≠0 then XF p (ah.getD j sB).2.2.1
 else if ((ah.getD j sB).2.2.1.any fun t=>decide (t.1≥(j:Int)))=true then 7
 else if ((ah.getD j sB).2.2.1.any fun t=>(ah.getD t.1.toNat sB).1 != (ah.getD j sB).1 - 1)=true then 10
 else if (RL p ah [] (ah.getD j sB).2.2.1)≠ [] then 11
 else if aat ah j=true then 6 else 0
def T5 (p:Int)(ah:List Cl)(j:Nat):Nat→Int
 |0=>0
 |m+1=>if rT p ah j≠0 then rT p ah j else T5 p ah (j+1) m
def iN (p:Int)(ah:List Cl):Int:=if Pr p then (if 1024<ah.length then 3 else T5 p ah 0 ah.length) else 8
structure Good (p:Int) (ah:List Cl) (j:Nat):Prop where
 W4:0≤(ah.getD j sB).1∧(ah.getD j sB).1≤4
 at_:zE (nM ah j)=true
 bd:Vc p j (oW ah j)
 low:j≤1024→Vc p 1024 (oW ah j)
 ayR:∀t∈oW ah j,(ah.getD t.1.toNat sB).1=(ah.getD j sB).1 - 1
 cyc:RL p ah [] (oW ah j)=[]
 ord:aat ah j=false
theorem IY (ah:List Cl)(j:Nat):oW ah j=(ah.getD j sB).2.2.1:=by unfold oW;rw[Int.toNat_natCast]
theorem U2 {p:Int}{ah:List Cl}{j:Nat}(h:rT p ah j=0):Good p ah j:=by
 unfold rT at h
 split at h
 ·cases h
 ·rename_i h1
  split at h
  ·rename_i h2;exact absurd h h2
  ·rename_i h2
   split at h
   ·cases h
   ·rename_i h3
    split at h
    ·cases h
    ·rename_i h4
     split at h
     ·cases h
     ·rename_i h5
      split at h
      ·cases h
      ·rename_i h6
       have hv:=MA.1 (show XF p (ah.getD j sB).2.2.1=0 by omega)
       refine⟨by omega, ?_, ?_,fun _=>by rw[IY];exact hv, ?_, ?_,by simpa using h6⟩
       ·cases hh:zE (nM ah j) with
        |true=>rfl
        |false=>exact absurd (.inr (.inr hh)) h1
       ·rw[IY]
        refine⟨hv.s,fun t ht=>⟨?_,(hv.r t ht).2⟩⟩
        have:¬t.1≥(j:Int):=fun g=>h3 (List.any_eq_true.2 ⟨t,ht,decide_eq_true g⟩)
        omega
       ·intro t ht
        rw[IY] at ht
        have:¬((ah.getD t.1.toNat sB).1 != (ah.getD j sB).1 - 1)=true:=fun g=>h4 (List.any_eq_true.2 ⟨t,ht,g⟩)
        simpa using this
       ·rw[IY]
        exact Decidable.not_not.1 h5
structure Sz (ah:List Cl):Prop where
 at_:∀j,(nM ah j).size≤1000
 bd:∀j,((ah.getD j sB).2.2.1).length≤1000
theorem aev {s:List Tm}{j:Int}(hl:s.length≤1000000):∀(m i:Nat),m+i=s.length→∃r:Int,cC s j (s.length:Int) i=some r∧decide (r≥0)=(s.drop i).any fun t=>decide (t.1≥j):=by
 intro m
 induction m with
 |zero=>
  intro i hi
  rw[lv,iI,az (by omega),List.drop_eq_nil_of_le (by omega)]
  exact⟨-1,rfl,rfl⟩
 |succ m ih=>
  intro i hi
  rw[lv,iI,aB (by omega),iT nY (by omega),HP,Cq,bS,qA nY (show i<s.length by omega),List.any_cons]
  by_cases h:(s.getD i nY).1≥j
  ·rw[tt h,decide_eq_true h]
   exact⟨i,rfl,by rw[Bool.true_or];exact decide_eq_true (by omega)⟩
  ·rw[tu h,decide_eq_false h,Bool.false_or,cq (by omega)]
   exact ih (i+1) (by omega)
theorem art {s:List Tm}{j:Int}(hl:s.length≤1000000):fw s j=some (s.any fun t=>decide (t.1≥j)):=by
 obtain⟨r,h1,h2⟩:=aev (j:=j) hl s.length 0 (by omega)
 have e0:((0:Nat):Int)=0:=rfl
 rw[e0] at h1
 rw[ug,nw,xm,pz,h1,bS,h2,List.drop_zero]
theorem aew {s:List Tm}{p d:Int}{ah:List Cl}{a:ByteArray}{b:List Tm}(hd:0≤d∧d≤4)(hl:s.length≤1000000)(hs:∀t∈s,0≤t.1∧t.1<ah.length):∀(m i:Nat),m+i=s.length→
  ∃r:Int,cD s p ah d a b (s.length:Int) i=some r∧decide (r≥0)=(s.drop i).any fun t=>(ah.getD t.1.toNat sB).1 != d - 1:=by
 intro m
 induction m with
 |zero=>
  intro i hi
  rw[lx,iJ,az (by omega),List.drop_eq_nil_of_le (by omega)]
  exact⟨-1,rfl,rfl⟩
 |succ m ih=>
  intro i hi
  have hm:s.getD i nY∈s:=by
   have:s.getD i nY=s[i]'(by omega):=by simp[List.getD,show i<s.length by omega]
   rw[this];exact List.getElem_mem _
  have h1:=hs _ hm
  rw[lx,iJ,aB (by omega),iT nY (by omega),HQ,Ct]
  simp only
  rw[WN sB h1.1 h1.2,bS,i64_in (d - 1) (by omega),qA nY (show i<s.length by omega),List.any_cons]
  cases hc:((ah.getD (s.getD i nY).1.toNat sB).1 != d - 1) with
  |true=>
   rw[cT]
   exact⟨i,rfl,by rw[Bool.true_or];exact decide_eq_true (by omega)⟩
  |false=>
   rw[cF,Bool.false_or,cq (by omega)]
   exact ih (i+1) (by omega)
theorem aru {s:List Tm}{p d:Int}{ah:List Cl}{a:ByteArray}{b:List Tm}(hd:0≤d∧d≤4)(hl:s.length≤1000000)(hs:∀t∈s,0≤t.1∧t.1<ah.length):
  fx s ((p,(ah,())),(d,(a,(b,()))))=some (s.any fun t=>(ah.getD t.1.toNat sB).1 != d - 1):=by
 obtain⟨r,h1,h2⟩:=aew (p:=p) (a:=a) (b:=b) hd hl hs s.length 0 (by omega)
 have e0:((0:Nat):Int)=0:=rfl
 rw[e0] at h1
 rw[uh,ab1,xn,pA]
 simp only
 rw[h1,bS,h2,List.drop_zero]
theorem GU {s:ByteArray}(h:zE s=true)(hs:s.size≤1000):Rt s (u7 s).1 (u7 s).2∧nd (u7 s).1≤1000∧nd (u7 s).2≤1000∧0<(u7 s).2:=by
 obtain⟨n,d,hr⟩:=IW.1 h
 rw[hr.val]
 exact⟨hr,hr.bounds hs⟩
theorem akm {p:Int}{ah:List Cl}{j:Nat}{b:List Tm}(hj:j<ah.length)(hl:ah.length≤1024)(hI:∀i,i<j→rT p ah i=0)(hb:Vc p 1024 b)(hr:∀t∈b,t.1<j):
  ∀t∈b,(0≤t.1∧t.1<ah.length)∧Vc p ah.length (oW ah t.1):=fun t ht=>by
 have h1:=hr t ht
 have h2:=Sr.mem hb.s t ht
 have e:t.1=((t.1.toNat:Nat):Int):=by omega
 have h3:=(U2 (hI t.1.toNat (by omega))).bd
 refine⟨by omega, ?_⟩
 rw[e]
 exact h3.mono (by omega)
theorem acI {p:Int}(hp:Pr p){ah:List Cl}(hs:Sz ah)(hl:ah.length≤1024){j:Nat}{l:(Bool×List Int×Unit)×(Bool×List Int×Unit)×Unit}(hj:j<ah.length)(hI:∀i,i<j→rT p ah i=0)(hL:0<j→l=WR (u7 (nM ah (j - 1))).1 (u7 (nM ah (j - 1))).2)(E:Int)(hE:rT p ah j=E):
  eR ah (ah.length:Int) j p ah l.1.1 l.1.2.1 l.2.1.1 l.2.1.2.1=if E=0 then eR ah (ah.length:Int) ((j+1:Nat):Int) p ah (W (u7 (nM ah j)).1).1 (W (u7 (nM ah j)).1).2.1 (W (u7 (nM ah j)).2).1 (W (u7 (nM ah j)).2).2.1 else some E:=by
 have ea:(ah.getD j sB).2.1=nM ah j:=rfl
 have ha:=hs.at_ j
 have hb:=hs.bd j
 generalize hK:eR ah (ah.length:Int) ((j+1:Nat):Int) p ah (W (u7 (nM ah j)).1).1 (W (u7 (nM ah j)).1).2.1 (W (u7 (nM ah j)).2).1 (W (u7 (nM ah j)).2).2.1=K
 rw[yt,tO,aB (by omega),iT sB (by omega),ea]
 unfold rT at hE
 generalize hx:ah.getD j sB=x at hE hb ⊢
 cases aex:zE (nM ah j) with
 |false=>
  obtain⟨jk,hjk⟩:=YY ha aex
  rw[if_pos (.inr (.inr aex))] at hE
  subst hE
  rw[hjk,bS]
  simp only
  rw[Bool.not_false,cT,if_neg (by omega)]
  cases decide (x.1<0)<;>cases decide (x.1>4)<;>rfl
 |true=>
  obtain⟨hrt,n1,n2,n3⟩:=GU aex ha
  rw[YX ha hrt,bS]
  simp only
  by_cases h1:x.1<0
  ·rw[if_pos (.inl h1)] at hE
   subst hE
   rw[aB h1,if_neg (by omega)]
  rw[az h1]
  by_cases h2:x.1>4
  ·rw[if_pos (.inr (.inl h2))] at hE
   subst hE
   rw[cZ h2,if_neg (by omega)]
  have hc1:¬(x.1<0∨4<x.1∨zE (nM ah j)=false):=by
   rintro (h |h |h)
   ·exact h1 h
   ·exact h2 h
   ·rw[aex] at h;cases h
  rw[if_neg hc1] at hE
  rw[c8 h2,Bool.not_true,cF,WM ha,bS,aex,Bool.not_true,cF,CQ hp (by omega),bS]
  by_cases h3:XF p x.2.2.1=0
  ·rw[if_neg (show ¬XF p x.2.2.1≠0 by omega)] at hE
   rw[pe h3,art (by omega),bS]
   have hv:=MA.1 h3
   cases h4:(x.2.2.1.any fun t=>decide (t.1≥(j:Int))) with
   |true=>
    rw[h4,if_pos rfl] at hE
    subst hE
    rw[cT,if_neg (by omega)]
   |false=>
    rw[h4,if_neg (by decide)] at hE
    rw[cF]
    have hr:∀t∈x.2.2.1,t.1<j:=fun t ht=>by
     have:=List.any_eq_false.1 h4 t ht
     have:¬t.1≥(j:Int):=fun g=>this (decide_eq_true g)
     omega
    have hin:=akm hj hl hI hv hr
    rw[aru (by omega) (by omega) (fun t ht=>(hin t ht).1),bS]
    cases h5:(x.2.2.1.any fun t=>(ah.getD t.1.toNat sB).1 != x.1 - 1) with
    |true=>
     rw[h5,if_pos rfl] at hE
     subst hE
     rw[cT,if_neg (by omega)]
    |false=>
     rw[h5,if_neg (by decide)] at hE
     rw[cF,ahJ hp (by omega) (fun t ht=>⟨(hin t ht).1,(hin t ht).2.mono (by omega)⟩),bS]
     by_cases h6:RL p ah [] x.2.2.1=[]
     ·rw[h6,if_neg (by simp)] at hE
      rw[h6,List.length_nil,c8 (by omega),cq (by omega),hK]
      simp only[GP]
      unfold aat at hE
      by_cases h7:0<j
      ·have hg:=U2 (hI (j - 1) (by omega))
       obtain⟨arv,m1,m2,m3⟩:=GU hg.at_ (hs.at_ (j - 1))
       have hl':=hL h7
       subst hl'
       rw[cZ (by omega),aot n1 n2 m1 m2 n3 m3,bS]
       rw[decide_eq_true h7,Bool.true_and] at hE
       by_cases h8:tX ((u7 (nM ah j)).1*(u7 (nM ah (j - 1))).2) ((u7 (nM ah (j - 1))).1*(u7 (nM ah j)).2)<0
       ·rw[decide_eq_true h8,if_pos rfl] at hE
        subst hE
        rw[aB h8,if_neg (by omega)]
       ·rw[decide_eq_false h8,if_neg (by decide)] at hE
        subst hE
        rw[az h8,if_pos rfl]
      ·rw[decide_eq_false h7,Bool.false_and,if_neg (by decide)] at hE
       subst hE
       rw[c8 (by omega),if_pos rfl]
     ·rw[if_pos h6] at hE
      subst hE
      have hlen:0<(RL p ah [] x.2.2.1).length:=by
       cases hq:RL p ah [] x.2.2.1 with
       |nil=>exact absurd hq h6
       |cons a b=>simp
      rw[cZ (by omega),if_neg (by omega)]
  ·rw[if_pos h3] at hE
   subst hE
   rw[Cj h3,if_neg h3]
theorem ahK {p:Int}(hp:Pr p){ah:List Cl}(hs:Sz ah)(hl:ah.length≤1024):∀(m j:Nat) (l:(Bool×List Int×Unit)×(Bool×List Int×Unit)×Unit),m+j=ah.length→(∀i,i<j→rT p ah i=0)→(0<j→l=WR (u7 (nM ah (j - 1))).1 (u7 (nM ah (j - 1))).2)→
  eR ah (ah.length:Int) j p ah l.1.1 l.1.2.1 l.2.1.1 l.2.1.2.1=some (T5 p ah j m):=by
 intro m
 induction m with
 |zero=>intro j l hj hI hL;rw[yt,tO,az (by omega)];rfl
 |succ m ih=>
  intro j l hj hI hL
  rw[acI hp hs hl (by omega) hI hL _ rfl,T5]
  by_cases h:rT p ah j=0
  ·rw[if_pos h,if_neg (show ¬rT p ah j≠0 by omega)]
   exact ih (j+1) (WR (u7 (nM ah j)).1 (u7 (nM ah j)).2) (by omega) (fun i hi=>by
    by_cases e:i=j
    ·rw[e];exact h
    ·exact hI i (by omega)) (fun _=>by rw[Nat.add_sub_cancel])
  ·rw[if_neg h,if_pos h]
theorem MB {p:Int}{ah:List Cl}(hs:Sz ah):kL (p,(ah,()))=some (iN p ah):=by
 rw[Lx,G3]
 simp only
 unfold iN
 rw[Bt,bS]
 by_cases hp:Pr p
 ·rw[decide_eq_true hp,Bool.not_true,cF,if_pos hp]
  by_cases hl:1024<ah.length
  ·rw[cZ (by omega),if_pos hl]
  ·rw[c8 (by omega),if_neg hl]
   have:=ahK hp hs (by omega) ah.length 0 ((false,([],())),((false,([],())),())) (by omega) (fun i hi=>by omega) (fun h=>by omega)
   exact this
 ·rw[decide_eq_false hp,Bool.not_false,cT,if_neg hp]
theorem arw {p d:Int}{ah:List Cl}{a:ByteArray}{b:List Tm}{j:Int}(hl:b.length≤1000000):∀(m i:Nat),m+i=b.length→
  gq j i p ah d a b=bif (b.drop i).any (fun t=>decide (t.1≥j)) then some 7 else cW j 0 p ah d a b:=by
 intro m
 induction m with
 |zero=>intro i hi;rw[xC,p8,az (by omega),List.drop_eq_nil_of_le (by omega),List.any_nil,cF]
 |succ m ih=>
  intro i hi
  rw[xC,p8,aB (by omega),iT nY (by omega),qA nY (show i<b.length by omega),List.any_cons]
  by_cases h:(b.getD i nY).1≥j
  ·rw[tt h,decide_eq_true h,Bool.true_or,cT]
  ·rw[tu h,decide_eq_false h,Bool.false_or,cq (by omega),ih (i+1) (by omega)]
theorem arx {p d:Int}{ah:List Cl}{a:ByteArray}{b:List Tm}{j:Int}(hd:0≤d∧d≤4)(hl:b.length≤1000000)(hb:∀t∈b,0≤t.1∧t.1<ah.length):∀(m i:Nat),m+i=b.length→
  cW j i p ah d a b=bif (b.drop i).any (fun t=>(ah.getD t.1.toNat sB).1 != d - 1) then some 10 else cW j (b.length:Int) p ah d a b:=by
 intro m
 induction m with
 |zero=>
  intro i hi
  have:i=b.length:=by omega
  subst this
  rw[List.drop_eq_nil_of_le (Nat.le_refl _),List.any_nil,cF]
 |succ m ih=>
  intro i hi
  have hm:b.getD i nY∈b:=by
   have:b.getD i nY=b[i]'(by omega):=by simp[List.getD,show i<b.length by omega]
   rw[this];exact List.getElem_mem _
  have h1:=hb _ hm
  have ym:=ih (i+1) (by omega)
  generalize hE:cW j (b.length:Int) p ah d a b=E at ym ⊢
  rw[xD,qb,aB (by omega),iT nY (by omega),WN sB h1.1 h1.2,i64_in (d - 1) (by omega),cq (by omega),ym,qA nY (show i<b.length by omega),List.any_cons]
  cases hc:((ah.getD (b.getD i nY).1.toNat sB).1 != d - 1) with
  |true=>rw[cT,Bool.true_or,cT]
  |false=>rw[cF,Bool.false_or]
theorem aey {p:Int}(hp:Pr p){ah:List Cl}(hs:Sz ah)(hl:ah.length≤1024){j:Nat}(hj:j<ah.length)(hI:∀i,i<j→rT p ah i=0):rZ (p,(ah,())) j=some (rT p ah j):=by
 have ha:=hs.at_ j
 have hb:=hs.bd j
 have ea:(ah.getD j sB).2.1=nM ah j:=rfl
 rw[L0,Dq]
 simp only
 rw[iT sB hj,ea]
 unfold rT
 generalize hx:ah.getD j sB=x at*
 by_cases h1:x.1<0
 ·rw[aB h1,if_pos (.inl h1)]
 rw[az h1]
 by_cases h2:x.1>4
 ·rw[cZ h2,if_pos (.inr (.inl h2))]
 rw[c8 h2,P6 ha,bS]
 cases aex:zE (nM ah j) with
 |false=>rw[Bool.not_false,cT,if_pos (.inr (.inr rfl))]
 |true=>
  have hc1:¬(x.1<0∨4<x.1∨true=false):=by
   rintro (h |h |h)
   ·exact h1 h
   ·exact h2 h
   ·cases h
  rw[Bool.not_true,cF,aep (by omega),bS,if_neg hc1]
  by_cases h3:XF p x.2.2.1=0
  ·have hv:=MA.1 h3
   have h0:=arw (p:=p) (d:=x.1) (ah:=ah) (a:=nM ah j) (j:=(j:Int)) (show x.2.2.1.length≤1000000 by omega) x.2.2.1.length 0 (by omega)
   have e0:((0:Nat):Int)=0:=rfl
   rw[e0,List.drop_zero] at h0
   rw[pe h3,if_neg (show ¬XF p x.2.2.1≠0 by omega),h0]
   cases h4:(x.2.2.1.any fun t=>decide (t.1≥(j:Int))) with
   |true=>rw[cT,if_pos rfl]
   |false=>
    have hr:∀t∈x.2.2.1,t.1<j:=fun t ht=>by
     have:=List.any_eq_false.1 h4 t ht
     have:¬t.1≥(j:Int):=fun g=>this (decide_eq_true g)
     omega
    have hin:=akm hj hl hI hv hr
    have h5':=arx (p:=p) (d:=x.1) (ah:=ah) (a:=nM ah j) (j:=(j:Int)) (by omega) (show x.2.2.1.length≤1000000 by omega) (fun t ht=>(hin t ht).1) x.2.2.1.length 0 (by omega)
    rw[e0,List.drop_zero] at h5'
    rw[cF,if_neg (by decide),h5']
    cases h5:(x.2.2.1.any fun t=>(ah.getD t.1.toNat sB).1 != x.1 - 1) with
    |true=>rw[cT,if_pos rfl]
    |false=>
     have hpp:0<p:=by have:=hp.1;omega
     obtain⟨g1,g2,g3⟩:=af2 hpp (ah:=ah) (n:=ah.length) (x:=x.2.2.1) (S:=[]) (v:=List.replicate ah.length 0) (fun t ht=>(hin t ht).2) Vc.nil ⟨by simp,fun k hk=>by rw[Cm];rfl⟩ (fun k=>by rw[Cm];omega)
     rw[cF,if_neg (by decide),xD,qb,az (by omega),ahI ⟨hp.1,hp.2.1⟩ (by omega) (by omega) (fun t ht=>⟨(hin t ht).1,by have:=hv.r t ht;have:=hp.2.1;omega,(hin t ht).2⟩),bS,ahH (by rw[g2.len];omega),bS]
     have hn:=amc g1 g2
     by_cases h6:RL p ah [] x.2.2.1=[]
     ·rw[hn.1 h6,List.length_nil,c8 (by omega),if_neg (by rw[h6];simp)]
      unfold aat
      by_cases h7:0<j
      ·have hg:=U2 (hI (j - 1) (by omega))
       obtain⟨hrt,n1,n2,n3⟩:=GU aex ha
       obtain⟨arv,m1,m2,m3⟩:=GU hg.at_ (hs.at_ (j - 1))
       have e1:IntKind.wrap .i64 ((j:Int) - 1)=((j - 1:Nat):Int):=by rw[i64_in _ (by omega)];omega
       have e2:(ah.getD (j - 1) sB).2.1=nM ah (j - 1):=rfl
       rw[cZ (by omega),e1,iT sB (by omega),e2,RG hrt arv ha (hs.at_ (j - 1)),bS,decide_eq_true h7,Bool.true_and]
       by_cases h8:tX ((u7 (nM ah j)).1*(u7 (nM ah (j - 1))).2) ((u7 (nM ah (j - 1))).1*(u7 (nM ah j)).2)<0
       ·rw[aB h8,decide_eq_true h8,if_pos rfl]
       ·rw[az h8,decide_eq_false h8,if_neg (by decide)]
      ·rw[c8 (by omega),decide_eq_false h7,Bool.false_and,if_neg (by decide)]
     ·have hlen:0<(XG 0 (XI p ah (List.replicate ah.length 0) x.2.2.1)).length:=by
       cases hq:XG 0 (XI p ah (List.replicate ah.length 0) x.2.2.1) with
       |nil=>exact absurd (hn.2 hq) h6
       |cons a b=>simp
      rw[cZ (by omega),if_pos h6]
  ·rw[Cj h3,if_pos h3]
theorem ahL {p:Int}(hp:Pr p){ah:List Cl}(hs:Sz ah)(hl:ah.length≤1024):∀(m j:Nat),m+j=ah.length→(∀i,i<j→rT p ah i=0)→ia j p ah=some (T5 p ah j m):=by
 intro m
 induction m with
 |zero=>intro j hj hI;rw[zf,rF,az (by omega)];rfl
 |succ m ih=>
  intro j hj hI
  rw[zf,rF,aB (by omega),aey hp hs hl (by omega) hI,bS,T5]
  by_cases h:rT p ah j=0
  ·rw[pe h,if_neg (show ¬rT p ah j≠0 by omega),cq (by omega)]
   exact ih (j+1) (by omega) fun i hi=>by
    by_cases e:i=j
    ·rw[e];exact h
    ·exact hI i (by omega)
  ·rw[Cj h,if_pos h]
theorem ahM {p:Int}{ah:List Cl}(hs:Sz ah):tD (p,(ah,()))=some (iN p ah):=by
 rw[NC,E9]
 simp only
 unfold iN
 rw[YZ,bS]
 by_cases hp:Pr p
 ·rw[decide_eq_true hp,Bool.not_true,cF,if_pos hp]
  by_cases hl:1024<ah.length
  ·rw[cZ (by omega),if_pos hl]
  ·rw[c8 (by omega),if_neg hl]
   exact ahL hp hs (by omega) ah.length 0 (by omega) (fun i hi=>by omega)
 ·rw[decide_eq_false hp,Bool.not_false,cT,if_neg hp]
theorem ako {p:Int}{ah:List Cl}(h:iN p ah=0):Pr p∧ah.length≤1024∧∀j,j<ah.length→Good p ah j:=by
 unfold iN at h
 split at h
 ·rename_i hp
  split at h
  ·cases h
  ·rename_i hl
   have key:∀(m j:Nat),m+j=ah.length→T5 p ah j m=0→∀i,j≤i→i<ah.length→rT p ah i=0:=by
    intro m
    induction m with
    |zero=>intro j hj h i h1 h2;omega
    |succ m ih=>
     intro j hj h i h1 h2
     rw[T5] at h
     split at h
     ·rename_i hne;exact absurd h hne
     ·rename_i hne
      by_cases e:i=j
      ·subst e;omega
      ·exact ih (j+1) (by omega) h i (by omega) h2
   exact⟨hp,by omega,fun j hj=>U2 (key ah.length 0 (by omega) h j (by omega) hj)⟩
 ·cases h
end Go.Proofs.YtofjebmoebhiiaaGreatDoor.Ev
namespace Go.Abs
theorem WT {l:List Tm}{t:Tm}(h:l.getLast?=some t):∃r,l=r++[t]:=by
 cases hl:l with
 |nil=>subst hl;cases h
 |cons a r=>
  have hne:l≠ []:=by rw[hl];simp
  rw[List.getLast?_eq_some_getLast hne] at h
  have h:=Option.some.inj h
  exact⟨l.dropLast,by rw[←hl, ←h,List.dropLast_concat_getLast hne]⟩
theorem fm {l:List Tm}{t:Tm}(h:l.getLast?=some t):t∈l:=by
 obtain⟨r,rfl⟩:=WT h;simp
theorem acJ:∀{l:List Tm} {lo:Int} {t:Tm},Sr lo l→l.getLast?=some t→∀u∈l,u.1≤t.1
 |a::r,lo,t,h,hl,u,hu=>by
  cases r with
  |nil=>
   simp at hl hu;subst hl hu;exact Int.le_refl _
  |cons b s=>
   have hl':(b::s).getLast?=some t:=by simpa [List.getLast?_cons_cons] using hl
   have ih:=acJ h.2 hl'
   rcases List.mem_cons.1 hu with rfl |hu
   ·have:=ih b (by simp);have:=h.2.1;omega
   ·exact ih u hu
theorem aau {l:List Tm}{lo:Int}{t:Tm}(h:Sr lo l)(hl:l.getLast?=some t){i:Int}(hi:t.1<i):cf l i=0:=by
 by_cases h0:cf l i=0
 ·exact h0
 ·obtain⟨u,hu,e⟩:=ang h0
  have:=acJ h hl u hu
  omega
def aez (x:List Tm):Int×Bool:=match x.getLast? with
 |some t=>(t.1,true)
 |none=>(0,false)
structure Sto (p:Int) (n:Nat) (st:List (Option (List Tm))):Prop where
 len:st.length=n
 ok:∀i y,st.getD i none=some y→Vc p n y∧∃u,y.getLast?=some u∧u.1=i
theorem auY {α:Type}{l:List (Option α)}{i:Nat}(h:i<l.length):l[i]? =some (l.getD i none):=by
 simp[List.getD,h]
def pf (p:Int)(st:List (Option (List Tm))):Nat→List Tm→Int→List Tm×Int
 |0,x,a=>(x,a)
 |f+1,x,a=>match x.getLast? with
  |none=>(x,a)
  |some t=>match st.getD t.1.toNat none with
   |none=>(x,a)
   |some y=>pf p st f (xY p x ((-t.2.1*Go.Proofs.YtofjebmoebhiiaaGreatDoor.Ev.iv p ((y.getLast?.getD (0,(0,()))).2.1)) % p) y) (a+1)
end Go.Abs
namespace Go.Proofs.YtofjebmoebhiiaaGreatDoor.Ev
open Go.Abs Go.IntWalk
theorem kill {p c d:Int}(hp:Pr p)(hc:1≤c∧c<p)(hd:1≤d∧d<p):(c+(-c*iv p d) % p*d) % p=0:=by
 have h:=aao hp hd
 have h0:p≠0:=by have:=hp.1;omega
 rw[Int.add_emod,Int.mul_emod,Int.emod_emod_of_dvd _ (Int.dvd_refl p), ←Int.mul_emod, ←Int.add_emod]
 have e:c+ -c*iv p d*d=c*(1 - d*iv p d):=by
  rw[Int.mul_sub,Int.mul_one,Int.neg_mul,Int.neg_mul,Int.mul_assoc,Int.mul_comm (iv p d) d]
  omega
 rw[e,Int.mul_emod,Int.sub_emod,h]
 have h1:(1:Int) % p=1:=Int.emod_eq_of_lt (by omega) (by have:=hp.1;omega)
 rw[h1]
 simp
theorem acK {p:Int}(hp:Pr p){n:Nat}{x y:List Tm}{t u:Tm}(hx:Vc p n x)(hy:Vc p n y)(ht:x.getLast?=some t)(hu:y.getLast?=some u)(e:t.1=u.1):
  ∀s∈xY p x ((-t.2.1*iv p u.2.1) % p) y,s.1<t.1:=fun s hs=>by
 have hpp:0<p:=by have:=hp.1;omega
 obtain⟨h1,h2⟩:=M8 (k:=(-t.2.1*iv p u.2.1) % p) hpp hx hy
 have h3:=Mz h1.s s hs
 have h4:=h1.r s hs
 rw[h2] at h3
 have ct:=Mz hx.s t (fm ht)
 have cu:=Mz hy.s u (fm hu)
 rcases Int.lt_trichotomy s.1 t.1 with h |h |h
 ·exact h
 ·exfalso
  rw[h,ct,e,cu,kill hp (hx.r t (fm ht)).2 (hy.r u (fm hu)).2] at h3
  omega
 ·exfalso
  rw[aau hx.s ht h,aau hy.s hu (by omega)] at h3
  simp at h3;omega
theorem akp {x:List Tm}(h:x≠ []):va [] (.pg (.st (.pair (.int .i64) (.pair (.int .i64) (.unit))))) [⟨.slice (.st (.pair (.int .i64) (.pair (.int .i64) (.unit)))),x⟩]=some (some x):=by
 cases x with
 |nil=>exact absurd rfl h
 |cons a r=>rfl
theorem ahN {x:List Int}(h:x≠ []):va [] (.pg (.int .i64)) [⟨.slice (.int .i64),x⟩]=some (some x):=by
 cases x with
 |nil=>exact absurd rfl h
 |cons a r=>rfl
theorem aav {α β:Type}{xs:List (Option α)}{k:Nat}{f:Option α→Option β}(h:k<xs.length):(xs[k]?).bind f=f (xs.getD k none):=by rw[auY h];exact bS _ _
theorem RM {α β:Type}{xs:List (Option α)}{i:Int}{f:Option α→Option β}(h0:0≤i)(h:i<xs.length):(idx xs i).bind f=f (xs.getD i.toNat none):=WN none h0 h
abbrev Hp3:=List (Option (List Tm))
end Go.Proofs.YtofjebmoebhiiaaGreatDoor.Ev
namespace Go.Proofs.YtofjebmoebhiiaaGreatDoor.Ev
open Go.Abs Go.IntWalk
def arz (v:List Int)(r:Int):Prop:=(r= -1∧∀j:Nat,v.getD j 0=0)∨(0≤r∧r<v.length∧v.getD r.toNat 0≠0∧∀j:Nat,r<j→v.getD j 0=0)
theorem akr {v:List Int}(hl:v.length≤1000000):∀k:Nat,k≤v.length→(∀j:Nat,k≤j→v.getD j 0=0)→∃r,jP v ((k:Int) - 1)=some r∧arz v r:=by
 intro k
 induction k with
 |zero=>
  intro hk h
  rw[B4,uW,tu (by omega)]
  exact⟨-1,rfl, .inl ⟨rfl,fun j=>h j (by omega)⟩⟩
 |succ k ih=>
  intro hk h
  have e:((k+1:Nat):Int) - 1=(k:Int):=by omega
  rw[e,B4,uW,tt (by omega),eL (by omega) (by omega),Int.toNat_natCast]
  by_cases h0:v.getD k 0=0
  ·rw[pe h0,i64_in _ (by omega)]
   exact ih (by omega) fun j hj=>by
    by_cases e:j=k
    ·rw[e];exact h0
    ·exact h j (by omega)
  ·rw[Cj h0]
   exact⟨k,rfl, .inr ⟨by omega,by omega,by rw[Int.toNat_natCast];exact h0,fun j hj=>h j (by omega)⟩⟩
def amd (x:List Tm):Int:=match x.getLast? with
 |some t=>t.1
 |none=> -1
theorem _root_.Go.Abs.Vr.out {n:Nat}{x:List Tm}{v:List Int}(h:Vr n x v){j:Nat}(hj:n≤j):v.getD j 0=0:=by
 have:=h.len
 simp only[List.getD]
 rw[List.getElem?_eq_none (by omega)];rfl
theorem af3 {p:Int}{n:Nat}(hn:n≤1024){x:List Tm}{v:List Int}(hx:Vc p n x)(hv:Vr n x v):sM v=some (amd x):=by
 have hlen:=hv.len
 obtain⟨r,h1,h2⟩:=akr (v:=v) (by omega) v.length (Nat.le_refl _) (fun j hj=>hv.out (by omega))
 rw[Rc,Iw]
 rw[i64_in _ (by omega),h1]
 congr 1
 unfold amd
 cases hl:x.getLast? with
 |none=>
  have hx0:x=[]:=by
   cases hx':x with
   |nil=>rfl
   |cons a b=>rw[hx'] at hl;simp[List.getLast?_cons] at hl
  rcases h2 with h2 | ⟨g1,g2,g3,g4⟩
  ·exact h2.1
  ·exfalso
   have:=hv.at_ r.toNat (by omega)
   rw[hx0,WO] at this
   exact g3 this
 |some t=>
  simp only
  have ht:=hx.r t (fm hl)
  have ht0:=Sr.mem hx.s t (fm hl)
  have ct:=Mz hx.s t (fm hl)
  have e:((t.1.toNat:Nat):Int)=t.1:=by omega
  have hvt:=hv.at_ t.1.toNat (by omega)
  rw[e,ct] at hvt
  rcases h2 with ⟨g1,g2⟩ | ⟨g1,g2,g3,g4⟩
  ·have:=g2 t.1.toNat;omega
  ·rcases Int.lt_trichotomy r t.1 with h |h |h
   ·have:=g4 t.1.toNat (by omega);omega
   ·exact h
   ·exfalso
    have:=hv.at_ r.toNat (by omega)
    rw[aau hx.s hl (by omega)] at this
    exact g3 this
def XJ (p k:Int)(y:List Int):Nat→Nat→List Int→List Int
 |0,_,x=>x
 |m+1,i,x=>XJ p k y m (i+1) (x.set i ((x.getD i 0+k*y.getD i 0) % p))
theorem T6 {p k:Int}{y:List Int}:∀(m i:Nat) (x:List Int),(XJ p k y m i x).length=x.length
 |0,_,x=>rfl
 |m+1,i,x=>by rw[XJ,T6 m];simp
theorem S8 {p k:Int}{y:List Int}:∀(m i:Nat) (x:List Int) (j:Nat),m+i=x.length→(XJ p k y m i x).getD j 0=if i≤j∧j<x.length then (x.getD j 0+k*y.getD j 0) % p else x.getD j 0
 |0,i,x,j,h=>by rw[XJ,if_neg (by omega)]
 |m+1,i,x,j,h=>by
  rw[XJ,S8 m (i+1) _ j (by rw[List.length_set];omega),List.length_set,zF]
  by_cases e:i=j
  ·subst e
   rw[if_neg (by omega),if_pos ⟨rfl,by omega⟩,if_pos ⟨Nat.le_refl _,by omega⟩]
  ·rw[if_neg (show ¬(i=j∧i<x.length) by omega)]
   by_cases h1:i≤j∧j<x.length
   ·rw[if_pos (by omega),if_pos h1]
   ·rw[if_neg (by omega),if_neg h1]
theorem ame {p k:Int}{n:Nat}(hp:0<p){x y:List Tm}{v w:List Int}(hx:Vc p n x)(hy:Vc p n y)(hv:Vr n x v)(hw:Vr n y w):Vr n (xY p x k y) (XJ p k w v.length 0 v)∧Rs p (XJ p k w v.length 0 v):=by
 have hlen:=hv.len
 obtain⟨h1,h2⟩:=M8 (k:=k) hp hx hy
 refine⟨⟨by rw[T6,hlen],fun j hj=> ?_⟩,fun j=> ?_⟩
 ·rw[S8 _ _ _ _ (by omega),if_pos ⟨by omega,by omega⟩,h2,hv.at_ j hj,hw.at_ j hj]
 ·rw[S8 _ _ _ _ (by omega)]
  split
  ·exact⟨Int.emod_nonneg _ (by omega),Int.emod_lt_of_pos _ hp⟩
  ·rename_i h
   rw[hv.out (by omega)];omega
abbrev aeA:=(Int×List Cl×Unit)×Nat×Nat×Nat×Int×Int×Unit
def h5 (p:Int)(ah:List Cl)(a k:Int):List (Option (List aeA)):=[some [((p,(ah,())),((1:Nat),((1:Nat),((1:Nat),(a,(k,()))))))]]
theorem ahP {p:Int}(hp:2≤p∧p≤251){j:Int}{w:List Int}(hw:Rs p w){k:Int}(hk:0≤k∧k<p){ah:List Cl}{a c:Int}(ha:0≤a∧a≤1000000000){aH:List (Option (List Int))}{sA:List (Option (List (Option (List Int))))}{uA:List (Option (List Bool))}:
  ∀(m i:Nat) (x:List Int),m+i=x.length→x.length≤1024→x.length≤w.length→Rs p x→c7 1 j p w k i x aH (h5 p ah a c) sA uA=bA 1 j p (XJ p k w m i x) aH (h5 p ah (a+1) c) sA uA:=by
 intro m
 induction m with
 |zero=>
  intro i x hi hl hlw hx
  rw[oQ,jM,az (by omega)]
  have e1:(!(Nat.beq 1 0))=true:=rfl
  have e2:af (h5 p ah a c) 1=some [((p,(ah,())),((1:Nat),((1:Nat),((1:Nat),(a,(c,()))))))]:=rfl
  rw[e1,cT,cT,e2,bS]
  have e3:([((p,(ah,())),((1:Nat),((1:Nat),((1:Nat),(a,(c,()))))))]:List aeA)[0]? =some ((p,(ah,())),((1:Nat),((1:Nat),((1:Nat),(a,(c,())))))):=rfl
  rw[e3,bS,cT,cT,bS,e3,bS]
  simp only
  rw[i64_in (a+1) (by omega)]
  rfl
 |succ m ih=>
  intro i x hi hl hlw hx
  have h1:=hx i
  have h2:=hw i
  have hm:0≤k*w.getD i 0∧k*w.getD i 0≤251*251:=⟨Int.mul_nonneg (by omega) (by omega),Int.mul_le_mul (by omega) (by omega) (by omega) (by omega)⟩
  rw[oQ,jM,aB (by omega),eL (by omega) (by omega),rS (by omega),eL (by omega) (by omega),Int.toNat_natCast]
  simp only
  rw[i64_in (k*w.getD i 0) (by omega),i64_in (x.getD i 0+k*w.getD i 0) (by omega),j5 (by omega),eL (by omega) (by omega),rS (by omega),bT (by omega),cq (by omega),ih (i+1) _ (by rw[List.length_set];omega) (by rw[List.length_set];exact hl) (by rw[List.length_set];exact hlw) (hx.set ⟨Int.emod_nonneg _ (by omega),Int.emod_lt_of_pos _ (by omega)⟩ _),XJ]
structure Sv (p:Int) (n:Nat) (st:List (Option (List Tm))) (sd:List (Option (List Int))):Prop where
 len:sd.length=n
 none_:∀i,st.getD i none=none→sd.getD i none=none
 some_:∀i y,st.getD i none=some y→∃w,sd.getD i none=some w∧Vr n y w∧Rs p w
def aks (j:Nat)(x:List Tm)(v:List Int)(sd:List (Option (List Int)))(OL:List Int)(em:List Bool)(p:Int)(ah:List Cl)(a c:Int):Option (Unit×List (Option (List aeA))×List (Option (List (Option (List Int))))×List (Option (List Int))×List (Option (List Bool))):=
 match x.getLast? with
 |some t=>some ((),(h5 p ah a c,([some (sd.set t.1.toNat (some v))],([some (OL.set t.1.toNat j)],[some em]))))
 |none=>some ((),(h5 p ah a c,([some sd],([some OL],[some (em.set j true)]))))
theorem ahQ {p:Int}(hp:Pr p){n:Nat}(hn:n≤1024){st:List (Option (List Tm))}(hst:Sto p n st){sd:List (Option (List Int))}(hsd:Sv p n st sd){OL:List Int}(hby:OL.length=n){em:List Bool}(hem:em.length=n){j:Nat}(hj:j<n){ah:List Cl}{c:Int}:
  ∀(f:Nat) (x:List Tm) (v:List Int) (a:Int),Vc p n x→Vr n x v→Rs p v→(∀t∈x,t.1<f)→0≤a→a+f≤1000000000→
   ∃v',Vr n (pf p st f x a).1 v'∧Rs p v'∧Vc p n (pf p st f x a).1∧(∀t,(pf p st f x a).1.getLast?=some t→st.getD t.1.toNat none=none)∧0≤(pf p st f x a).2∧(pf p st f x a).2≤a+f∧
    bA 1 j p v [some OL] (h5 p ah a c) [some sd] [some em]=aks j (pf p st f x a).1 v' sd OL em p ah (pf p st f x a).2 c:=by
 intro f
 have e1:(!(Nat.beq 1 0))=true:=rfl
 have e2:∀a,af (h5 p ah a c) 1=some [((p,(ah,())),((1:Nat),((1:Nat),((1:Nat),(a,(c,()))))))]:=fun _=>rfl
 have e3:∀a,([((p,(ah,())),((1:Nat),((1:Nat),((1:Nat),(a,(c,()))))))]:List aeA)[0]? =some ((p,(ah,())),((1:Nat),((1:Nat),((1:Nat),(a,(c,())))))):=fun _=>rfl
 have g6:∀{α:Type} (l:List α),af [some l] 1=some l:=fun _=>rfl
 have s6:∀{α:Type} (l m:List α),b9 [some l] 1 m=[some m]:=fun _ _=>rfl
 have stop:∀(x:List Tm) (v:List Int) (a:Int),Vc p n x→Vr n x v→(∀t,x.getLast?=some t→st.getD t.1.toNat none=none)→bA 1 j p v [some OL] (h5 p ah a c) [some sd] [some em]=aks j x v sd OL em p ah a c:=by
  intro x v a hx hv hno
  have ahu:=af3 hn hx hv
  rw[oP,jK,ahu,bS]
  unfold aks amd
  cases hl:x.getLast? with
  |none=>
   simp only
   rw[tu (by omega),bS,aB (by omega),e1,cT,cT,e2,bS,e3,bS]
   simp only
   rw[g6,bS,WN false (by omega) (by omega),bS]
   have eb:em[(j:Int).toNat]? =some (em.getD j false):=by rw[Int.toNat_natCast];simp[List.getD,show j<em.length by omega]
   rw[eb,bS,s6,Int.toNat_natCast]
  |some t=>
   have ht:=hx.r t (fm hl)
   have ht0:=Sr.mem hx.s t (fm hl)
   have Xc:=hsd.len
   have hvl:=hv.len
   have au0:v≠ []:=fun e=>by rw[e] at hvl;simp at hvl;omega
   have au1:=hsd.none_ _ (hno t hl)
   simp only
   rw[tt (by omega),e1,cT,cT,e2,bS,e3,bS,bS]
   simp only
   have e4:(!(Option.isNone (none:Option (List Int))))=false:=rfl
   rw[g6,bS,RM (by omega) (by omega),bS,aav (by omega),au1,e4,cF,bS,az (by omega),cT,cT,bS,e3,bS,bS]
   simp only
   rw[g6,bS,RM (by omega) (by omega),bS,aav (by omega),ahN au0,bS,cT,cT,bS,e3,bS,bS]
   simp only
   rw[g6,bS,eL (by omega) (by omega),bS,rS (by omega),s6,s6]
 induction f with
 |zero=>
  intro x v a hx hv hr hf ha hb
  have:x=[]:=by
   cases x with
   |nil=>rfl
   |cons t r=>
    have h1:=hf t (by simp)
    have h2:=Sr.mem hx.s t (by simp)
    omega
  subst this
  rw[pf]
  exact⟨v,hv,hr,hx,fun t ht=>(by cases ht),ha,by simp,stop [] v a hx hv (fun t ht=>by cases ht)⟩
 |succ f ih=>
  intro x v a hx hv hr hf ha hb
  rw[pf]
  cases hl:x.getLast? with
  |none=>exact⟨v,hv,hr,hx,fun t ht=>(by rw[hl] at ht;cases ht),ha,by simp only;omega,stop x v a hx hv (fun t ht=>by rw[hl] at ht;cases ht)⟩
  |some t=>
   simp only
   cases hy:st.getD t.1.toNat none with
   |none=>exact⟨v,hv,hr,hx,fun u hu=>(by rw[hl] at hu;cases hu;exact hy),ha,by simp only;omega,stop x v a hx hv (fun u hu=>by rw[hl] at hu;cases hu;exact hy)⟩
   |some y=>
    simp only
    have hpp:0<p:=by have:=hp.1;omega
    have ht:=hx.r t (fm hl)
    have ht0:=Sr.mem hx.s t (fm hl)
    have hf':=hf t (fm hl)
    obtain⟨hvy,u,hu,hu1⟩:=hst.ok _ y hy
    obtain⟨w,hw1,hw2,hw3⟩:=hsd.some_ _ y hy
    have hur:=hvy.r u (fm hu)
    have ahu:sM v=some t.1:=by rw[af3 hn hx hv];unfold amd;rw[hl]
    have Xc:=hsd.len
    have hvl:=hv.len
    have hwl:=hw2.len
    have et:((t.1.toNat:Nat):Int)=t.1:=by omega
    have vt:v.getD t.1.toNat 0=t.2.1:=by rw[hv.at_ _ (by omega),et,Mz hx.s t (fm hl)]
    have wt:w.getD t.1.toNat 0=u.2.1:=by
     rw[hw2.at_ _ (by omega),et]
     have:t.1=u.1:=by omega
     rw[this,Mz hvy.s u (fm hu)]
    have hiv:=RJ hp hur.2
    have hm1:0≤(p - t.2.1)*iv p u.2.1:=Int.mul_nonneg (by omega) (by omega)
    have hm2:(p - t.2.1)*iv p u.2.1≤251*251:=Int.mul_le_mul (by have:=hp.2.1;omega) (by have:=hp.2.1;omega) (by omega) (by omega)
    have hk:(p - t.2.1)*iv p u.2.1 % p=(-t.2.1*iv p u.2.1) % p:=by
     have:(p - t.2.1)*iv p u.2.1= -t.2.1*iv p u.2.1+p*iv p u.2.1:=by rw[Int.sub_mul,Int.neg_mul];omega
     rw[this,Int.add_mul_emod_self_left]
    have hd:(y.getLast?.getD (0,(0,())))=u:=by rw[hu];rfl
    have hpl:=acK hp hx hvy hl hu (by omega)
    have hv':=(M8 (k:=(-t.2.1*iv p u.2.1) % p) hpp hx hvy).1
    obtain⟨r1,r2⟩:=ame (k:=(-t.2.1*iv p u.2.1) % p) hpp hx hvy hv hw2
    obtain⟨v',q1,q2,q3,q4,q5,q6,q7⟩:=ih (xY p x ((-t.2.1*iv p u.2.1) % p) y) _ (a+1) hv' r1 r2 (fun s hs=>by have:=hpl s hs;omega) (by omega) (by omega)
    rw[hd]
    refine⟨v',q1,q2,q3,q4,q5,by omega, ?_⟩
    rw[←q7,oP,jK,ahu,bS,tt (by omega),e1,cT,cT,e2,bS,e3,bS,bS]
    simp only
    have e4:(!(Option.isNone (some w)))=true:=rfl
    have e5:lst (some w)=w:=rfl
    rw[g6,bS,RM (by omega) (by omega),bS,aav (by omega),hw1,e4,cT,cT,cT,bS,e3,bS,bS]
    simp only
    rw[g6,bS,RM (by omega) (by omega),bS,aav (by omega),hw1,bS,eL (by omega) (by omega),rS (by omega),vt,bS,e5,eL (by omega) (by omega),wt,WS hp hur.2,bS]
    have O5:=hp.2.1
    have hkr:0≤(-t.2.1*iv p u.2.1) % p∧(-t.2.1*iv p u.2.1) % p<p:=⟨Int.emod_nonneg _ (by omega),Int.emod_lt_of_pos _ hpp⟩
    have e0:((0:Nat):Int)=0:=rfl
    have hw:=ahP (j:=(j:Int)) (ah:=ah) (c:=c) (aH:=[some OL]) (sA:=[some sd]) (uA:=[some em]) ⟨hp.1,O5⟩ hw3 hkr (a:=a) (by omega) v.length 0 v (by omega) (by omega) (by omega) hr
    rw[e0] at hw
    rw[i64_in (p - t.2.1) (by omega),i64_in _ (by omega),j5 (by omega),bT (by omega),hk,hw]
end Go.Proofs.YtofjebmoebhiiaaGreatDoor.Ev
namespace Go.Proofs.YtofjebmoebhiiaaGreatDoor.Ev
open Go.Abs Go.IntWalk
theorem WU {x:List Tm}{n:Nat}(hl:x.length≤1000000000)(hx:∀t∈x,0≤t.1∧t.1<n):∀(m i:Nat) (out:List Int),m+i=x.length→out.length=n→d4 x i out=some (mw out (x.drop i)):=by
 intro m
 induction m with
 |zero=>intro i out hi ho;rw[sq,lB,az (by omega),List.drop_eq_nil_of_le (by omega)];rfl
 |succ m ih=>
  intro i out hi ho
  have hb:∀{β:Type} {f:Tm→Option β},(idx x (i:Int)).bind f=f (x.getD i nY):=iT nY (by omega)
  have hm:x.getD i nY∈x:=by
   have:x.getD i nY=x[i]'(by omega):=by simp[List.getD,show i<x.length by omega]
   rw[this];exact List.getElem_mem _
  have hr:=hx _ hm
  rw[sq,lB,aB (by omega),hb,hb,eL (by omega) (by omega),rS (by omega),cq (by omega),ih (i+1) _ (by omega) (by simpa using ho),qA nY (show i<x.length by omega),mw]
theorem aaw {p:Int}{x:List Tm}{n:Nat}(hn:n≤1000000)(hx:Vc p n x):∃v,lM x n=some v∧Vr n x v∧(0<p→Rs p v):=by
 have hl:=hx.length (by omega)
 have hx':∀t∈x,0≤t.1∧t.1<n:=fun t ht=>⟨by have:=Sr.mem hx.s t ht;omega,(hx.r t ht).1⟩
 have hg:∀j:Nat,(mw (List.replicate n 0) x).getD j 0=cf x j:=fun j=>by
  rw[RK hx.s (by omega) hx.c (fun t ht=>by rw[List.length_replicate];exact(hx' t ht).2),Cm]
  split<;>omega
 refine⟨mw (List.replicate n 0) x, ?_,⟨by rw[J0,List.length_replicate],fun j _=>hg j⟩,fun hp j=>by rw[hg];exact RH hp hx.c j⟩
 rw[Hj,xG,GM (by omega) (by omega) (by omega),Int.toNat_natCast]
 exact WU (by omega) hx' x.length 0 _ (by omega) (by simp)
theorem akt {s:List Tm}(h:s.length≤1000000):mT s=some s:=by
 have e:mT s=(bif aP 16 2 0 s.length then some s else none):=Ju T B (Go.Abs.look fns) 84 s
 rw[e,kg (by omega) (by omega)]
structure Rel (p:Int) (n:Nat) (st:List (Option (List Tm))) (dt:List Int) (sd:List (Option (List Int))) (OL:List Int) (em:List Bool):Prop where
 sto:Sto p n st
 sv:Sv p n st sd
 ldt:dt.length=n
 lby:OL.length=n
 lem:em.length=n
 d:∀i,i<n→dt.getD i 0=match st.getD i none with |some _=>OL.getD i 0 |none=>bif em.getD i false then -1 else -2
 b:∀i,i<n→0≤OL.getD i 0
theorem amf {α:Type}{l:List (Option α)}{k j:Nat}{v:Option α}:(l.set k v).getD j none=if k=j∧k<l.length then v else l.getD j none:=by
 simp only[List.getD,List.getElem?_set]
 by_cases h:k=j
 ·subst h
  by_cases hk:k<l.length
  ·simp[hk]
  ·simp[hk]
 ·simp[h]
theorem arB {l:List Bool}{k j:Nat}{v:Bool}:(l.set k v).getD j false=if k=j∧k<l.length then v else l.getD j false:=by
 simp only[List.getD,List.getElem?_set]
 by_cases h:k=j
 ·subst h
  by_cases hk:k<l.length
  ·simp[hk]
  ·simp[hk]
 ·simp[h]
theorem Rel.put {p:Int}{n:Nat}{st:List (Option (List Tm))}{dt:List Int}{sd:List (Option (List Int))}{OL:List Int}{em:List Bool}(h:Rel p n st dt sd OL em){x:List Tm}{v:List Int}{t:Tm}(hx:Vc p n x)(hv:Vr n x v)(hr:Rs p v)(ht:x.getLast?=some t){j:Nat}:
  Rel p n (st.set t.1.toNat (some x)) (dt.set t.1.toNat j) (sd.set t.1.toNat (some v)) (OL.set t.1.toNat j) em:=by
 have w7:=hx.r t (fm ht)
 have ht0:=Sr.mem hx.s t (fm ht)
 have l1:=h.sto.len
 have l2:=h.sv.len
 have l3:=h.ldt
 have l4:=h.lby
 refine⟨⟨by simpa using l1,fun i y hy=> ?_⟩,⟨by simpa using l2,fun i hi=> ?_,fun i y hy=> ?_⟩,by simpa using l3,by simpa using l4,h.lem,fun i hi=> ?_,fun i hi=> ?_⟩
 ·rw[amf] at hy
  split at hy
  ·rename_i e
   cases hy
   exact⟨hx,t,ht,by omega⟩
  ·exact h.sto.ok i y hy
 ·rw[amf] at hi ⊢
  split at hi
  ·cases hi
  ·rename_i e
   rw[if_neg (by omega)]
   exact h.sv.none_ i hi
 ·rw[amf] at hy ⊢
  split at hy
  ·rename_i e
   cases hy
   rw[if_pos (by omega)]
   exact⟨v,rfl,hv,hr⟩
  ·rename_i e
   rw[if_neg (by omega)]
   exact h.sv.some_ i y hy
 ·rw[zF,amf,zF]
  by_cases e:t.1.toNat=i
  ·rw[if_pos (by omega),if_pos (by omega)]
   simp only
   rw[if_pos (by omega)]
  ·rw[if_neg (by omega),if_neg (by omega)]
   rw[h.d i hi]
   cases st.getD i none with
   |none=>rfl
   |some y=>simp only;rw[if_neg (by omega)]
 ·rw[zF]
  split
  ·omega
  ·exact h.b i hi
theorem Rel.empty {p:Int}{n:Nat}{st:List (Option (List Tm))}{dt:List Int}{sd:List (Option (List Int))}{OL:List Int}{em:List Bool}(h:Rel p n st dt sd OL em){j:Nat}(hj:j<n):
  Rel p n st (if dt.getD j 0= -2 then dt.set j (-1) else dt) sd OL (em.set j true):=by
 have l3:=h.ldt
 have l5:=h.lem
 refine⟨h.sto,h.sv,by split<;>simpa using l3,h.lby,by simpa using l5,fun i hi=> ?_,h.b⟩
 have hd:=h.d i hi
 by_cases e:j=i
 ·subst e
  have e5:(em.set j true).getD j false=true:=by rw[arB,if_pos ⟨rfl,by omega⟩]
  rw[e5]
  cases hs:st.getD j none with
  |some y=>
   rw[hs] at hd
   have hb:=h.b j hi
   simp only at hd ⊢
   rw[if_neg (by omega)]
   exact hd
  |none=>
   rw[hs] at hd
   simp only at hd ⊢
   rw[cT]
   cases he:em.getD j false with
   |true=>rw[he,cT] at hd;rw[if_neg (by omega)];exact hd
   |false=>rw[he,cF] at hd;rw[if_pos hd,zF,if_pos (by omega)]
 ·have e5:(em.set j true).getD i false=em.getD i false:=by rw[arB,if_neg (by omega)]
  rw[e5, ←hd]
  split
  ·rw[zF,if_neg (by omega)]
  ·rfl
theorem Rel.start {p:Int}{n:Nat}:Rel p n (List.replicate n none) (List.replicate n (-2)) (List.replicate n none) (List.replicate n 0) (List.replicate n false):=by
 have hO:∀{α:Type} (m i:Nat),(List.replicate m (none:Option α)).getD i none=none:=fun m i=>by
  simp only[List.getD,List.getElem?_replicate];split<;>rfl
 refine⟨⟨by simp,fun i y hy=> ?_⟩,⟨by simp,fun i hi=>hO n i,fun i y hy=> ?_⟩,by simp,by simp,by simp,fun i hi=> ?_,fun i hi=>by rw[Cm];omega⟩
 ·rw[hO] at hy;cases hy
 ·rw[hO] at hy;cases hy
 ·rw[hO]
  simp only[List.getD,List.getElem?_replicate,if_pos hi]
  rfl
theorem arC {p:Int}(hp:Pr p){n:Nat}(hn:n≤1024){ah:List Cl}(hc:ah.length=n){st:List (Option (List Tm))}{dt:List Int}{sd:List (Option (List Int))}{OL:List Int}{em:List Bool}(h:Rel p n st dt sd OL em){j:Nat}(hj:j<n)(hx:Vc p n (oW ah j)){a c:Int}(ha:0≤a)(hb:a+n≤1000000000):
  ∃sd' by' em',fV 1 j (h5 p ah a c) [some sd] [some OL] [some em]=some ((),(h5 p ah (pf p st n (oW ah j) a).2 c,([some sd'],([some by'],[some em']))))∧0≤(pf p st n (oW ah j) a).2∧(pf p st n (oW ah j) a).2≤a+n∧
   match (pf p st n (oW ah j) a).1.getLast? with
   |some t=>Rel p n (st.set t.1.toNat (some (pf p st n (oW ah j) a).1)) (dt.set t.1.toNat j) sd' by' em'
   |none=>Rel p n st (if dt.getD j 0= -2 then dt.set j (-1) else dt) sd' by' em':=by
 have hpp:0<p:=by have:=hp.1;omega
 obtain⟨v,h1,h2,h3⟩:=aaw (by omega) hx
 obtain⟨v',q1,q2,q3,q4,q5,q6,q7⟩:=ahQ hp hn h.sto h.sv h.lby h.lem hj (ah:=ah) (c:=c) n (oW ah j) v a hx h2 (h3 hpp) (fun t ht=>(hx.r t ht).1) ha hb
 have e1:(!(Nat.beq 1 0))=true:=rfl
 have e2:af (h5 p ah a c) 1=some [((p,(ah,())),((1:Nat),((1:Nat),((1:Nat),(a,(c,()))))))]:=rfl
 have e3:([((p,(ah,())),((1:Nat),((1:Nat),((1:Nat),(a,(c,()))))))]:List aeA)[0]? =some ((p,(ah,())),((1:Nat),((1:Nat),((1:Nat),(a,(c,())))))):=rfl
 have hrun:fV 1 j (h5 p ah a c) [some sd] [some OL] [some em]=aks j (pf p st n (oW ah j) a).1 v' sd OL em p ah (pf p st n (oW ah j) a).2 c:=by
  rw[DS,tj,e1,cT,cT,e2,bS,e3,bS,cT,cT,bS,e3,bS]
  simp only
  rw[iT sB (by omega),cT,cT,bS,e3,bS]
  simp only
  have eb:(ah.getD j sB).2.2.1=oW ah j:=by rw[IY]
  rw[eb,hc,h1,bS,q7]
 rw[hrun]
 unfold aks
 cases hl:(pf p st n (oW ah j) a).1.getLast? with
 |some t=>exact⟨_,_,_,rfl,q5,q6,h.put q3 q1 q2 hl⟩
 |none=>exact⟨_,_,_,rfl,q5,q6,h.empty hj⟩
def prL (dt:List Int):Nat→Nat→List Tm
 |_,0=>[]
 |i,m+1=>if dt.getD i 0> -2 then ((i:Int),(dt.getD i 0,()))::prL dt (i+1) m else prL dt (i+1) m
theorem WV (dt:List Int):∀(m i:Nat),(prL dt i m).length≤m
 |0,i=>by simp[prL]
 |m+1,i=>by rw[prL];have:=WV dt m (i+1);split<;>simp<;>omega
theorem acM {p:Int}{n:Nat}(hn:n≤1024){st:List (Option (List Tm))}{dt:List Int}{sd:List (Option (List Int))}{OL:List Int}{em:List Bool}(h:Rel p n st dt sd OL em){ah:List Cl}{a c:Int}:∀(m i:Nat) (out:List Tm),m+i=n→out.length≤i→
  dn 1 i out [some OL] (h5 p ah a c) [some sd] [some em]=some (out++prL dt i m):=by
 have e1:(!(Nat.beq 1 0))=true:=rfl
 have e2:af (h5 p ah a c) 1=some [((p,(ah,())),((1:Nat),((1:Nat),((1:Nat),(a,(c,()))))))]:=rfl
 have e3:([((p,(ah,())),((1:Nat),((1:Nat),((1:Nat),(a,(c,()))))))]:List aeA)[0]? =some ((p,(ah,())),((1:Nat),((1:Nat),((1:Nat),(a,(c,())))))):=rfl
 have g6:∀{α:Type} (l:List α),af [some l] 1=some l:=fun _=>rfl
 have l2:=h.sv.len
 have l4:=h.lby
 have l5:=h.lem
 intro m
 induction m with
 |zero=>
  intro i out hi hl
  rw[o9,kf,e1,cT,cT,e2,bS,e3,bS]
  simp only
  rw[g6,bS,az (by omega),prL,List.append_nil]
 |succ m ih=>
  intro i out hi hl
  rw[o9,kf,e1,cT,cT,e2,bS,e3,bS]
  simp only
  rw[g6,bS,aB (by omega),cT,cT,bS,e3,bS]
  simp only
  rw[g6,bS,RM (by omega) (by omega),bS,aav (by omega),Int.toNat_natCast,prL]
  have hd:=h.d i (by omega)
  have hb:=h.b i (by omega)
  cases hs:st.getD i none with
  |some y=>
   obtain⟨w,hw,_⟩:=h.sv.some_ i y hs
   have e4:(!(Option.isNone (some w)))=true:=rfl
   rw[hs] at hd
   simp only at hd
   rw[hw,e4,cT,cT,cT,bS,e3,bS]
   simp only
   rw[g6,bS,eL (by omega) (by omega),bS,rS (by omega),kg (by omega) (by omega), ←hd,cq (by omega),ih (i+1) _ (by omega) (by simp;omega),if_pos (by omega),List.append_assoc]
   rfl
  |none=>
   have e4:(!(Option.isNone (none:Option (List Int))))=false:=rfl
   rw[hs] at hd
   simp only at hd
   rw[h.sv.none_ i hs,e4,cF,cT,cT,bS,e3,bS]
   simp only
   have eb:em[i]? =some (em.getD i false):=by simp[List.getD,show i<em.length by omega]
   rw[g6,bS,WN false (by omega) (by omega),bS,eb,bS,cq (by omega)]
   cases he:em.getD i false with
   |true=>
    rw[he,cT] at hd
    rw[cT,kg (by omega) (by omega),ih (i+1) _ (by omega) (by simp;omega),hd,if_pos (by omega),List.append_assoc]
    rfl
   |false=>
    rw[he,cF] at hd
    rw[cF,ih (i+1) _ (by omega) (by omega),hd,if_neg (by omega)]
end Go.Proofs.YtofjebmoebhiiaaGreatDoor.Ev
namespace Go.Abs
abbrev tP:Ty:= .st (.pair (.int .i64) (.pair (.int .i64) (.unit)))
theorem MC {α:Type}{f:α→Option α}(h:∀y,f y=some y):∀ys:List α,mP f ys=some ys
 | []=>rfl
 |a::r=>by rw[mP,h a,MC h r]
theorem aeB {ag:List bK}{hp:List (Option (List Tm))}(h3:ag[3]? =some ⟨58,tP,0,true,hp⟩){n:Nat}{l:List Tm}(hg:af hp n=some l):typed ag (.slice tP) (.rv (.cv ⟨.ref 3,n⟩))=some l:=by
 unfold typed
 simp only
 unfold va snap OR
 simp only
 rw[h3]
 simp only
 cases n with
 |zero=>
  have:l=[]:=by simpa [af] using hg.symm
  subst this
  rfl
 |succ k=>
  have hb:Nat.beq (k+1) 0=false:=rfl
  rw[hb,hg]
  simp only[cond_false,Option.bind_some]
  rw[MC (fun y=>by obtain⟨a,b,u⟩:=y;rfl)]
  rfl
end Go.Abs
namespace Go.Proofs.YtofjebmoebhiiaaGreatDoor.Ev
open Go.Abs Go.IntWalk
def rg:Nat→Nat→List (Int×Unit)
 |_,0=>[]
 |j,m+1=>((j:Int),())::rg (j+1) m
theorem rstart {p:Int}{ah:List Cl}(hn:ah.length≤1024):tH (p,(ah,())) [] [] [] []=some ((1:Nat),(h5 p ah 0 0,([some (List.replicate ah.length none)],([some (List.replicate ah.length 0)],[some (List.replicate ah.length false)])))):=by
 rw[NK,Fg]
 simp only
 rw[GM (by omega) (by omega) (by omega),GM (by omega) (by omega) (by omega),GM (by omega) (by omega) (by omega),Int.toNat_natCast]
 rfl
theorem akw (x:Tm):zP (.pair (.int .i64) (.pair (.int .i64) (.unit))) (x.1,(x.2.1,())) (x.1,(x.2.1,()))=true:=by
 show ((x.1==x.1)&&((x.2.1==x.2.1)&&true))=true
 simp
theorem ahT {l:List Tm}(hl:l.length≤1000000):∀(m i:Nat),m+i=l.length→cA l l i=some true:=by
 intro m
 induction m with
 |zero=>intro i hi;rw[lG,iM,az (by omega)]
 |succ m ih=>
  intro i hi
  rw[lG,iM,aB (by omega),iT nY (by omega),iT nY (by omega),akw,Bool.not_true,cF,cq (by omega)]
  exact ih (i+1) (by omega)
theorem amh {l:List Tm}(hl:l.length≤1000000):dA l l=some true:=by
 rw[xJ,qf,pe rfl]
 exact ahT hl l.length 0 (by omega)
end Go.Proofs.YtofjebmoebhiiaaGreatDoor.Ev
namespace Go.Proofs.YtofjebmoebhiiaaGreatDoor.Ev
open Go.Abs Go.IntWalk
noncomputable def ac9 (j:Nat)(x:List Tm)(out:Nat)(st:List (Option (List Tm)))(dt:List Int)(e:Bool)(p:Int)(ah:List Cl)(a w2:Int)(ak:Hp3)(rest:List (Int×Unit)):Option ((Nat×Int×Int×Unit)×Hp3):=
 match x.getLast? with
 |some t=>bR out out (st.set t.1.toNat (some x)) (dt.set t.1.toNat j) e p ah a w2 ak rest
 |none=>if dt.getD j 0= -2 then bR out out st (dt.set j (-1)) e p ah a w2 ak rest else bR out out st dt e p ah a w2 ak rest
theorem ahR {p:Int}(hp:Pr p){n:Nat}(hn:n≤1024){st:List (Option (List Tm))}(hst:Sto p n st){dt:List Int}(hdt:dt.length=n){j:Nat}(hj:j<n){e:Bool}{ah:List Cl}{w2:Int}{out:Nat}{ak:Hp3}{rest:List (Int×Unit)}:
  ∀(f:Nat) (x:List Tm) (a:Int),Vc p n x→(∀t∈x,t.1<f)→0≤a→a+f≤1000000000→
   dv j x (aez x).1 (aez x).2 out st dt e p ah a w2 ak rest=ac9 j (pf p st f x a).1 out st dt e p ah (pf p st f x a).2 w2 ak rest:=by
 intro f
 have stop:∀(x:List Tm) (a:Int),Vc p n x→(∀t,x.getLast?=some t→st.getD t.1.toNat none=none)→dv j x (aez x).1 (aez x).2 out st dt e p ah a w2 ak rest=ac9 j x out st dt e p ah a w2 ak rest:=by
  intro x a hx hno
  rw[Eu,ud]
  unfold ac9 aez
  cases hl:x.getLast? with
  |none=>
   simp only
   rw[cF,cF,eL (by omega) (by omega),rS (by omega),Int.toNat_natCast]
   by_cases h2:dt.getD j 0= -2
   ·rw[ur h2,eL (by omega) (by omega),rS (by omega),if_pos h2]
   ·rw[ko h2,if_neg h2]
  |some t=>
   have ht:=hx.r t (fm hl)
   have ht0:=Sr.mem hx.s t (fm hl)
   have hne:x≠ []:=fun e=>by rw[e] at hl;cases hl
   have hlen:=hst.len
   simp only
   rw[cT,RM (by omega) (by omega),aav (by omega),hno t hl]
   have e1:(!(Option.isNone (none:Option (List Tm))))=false:=rfl
   rw[e1,cF,cT,RM (by omega) (by omega),aav (by omega),akp hne,bS,eL (by omega) (by omega),rS (by omega)]
 induction f with
 |zero=>
  intro x a hx hf ha hb
  have:x=[]:=by
   cases x with
   |nil=>rfl
   |cons t r=>
    have h1:=hf t (by simp)
    have h2:=Sr.mem hx.s t (by simp)
    omega
  subst this
  rw[pf]
  exact stop [] a hx (fun t ht=>by cases ht)
 |succ f ih=>
  intro x a hx hf ha hb
  rw[pf]
  cases hl:x.getLast? with
  |none=>exact stop x a hx (fun t ht=>by rw[hl] at ht;cases ht)
  |some t=>
   simp only
   cases hy:st.getD t.1.toNat none with
   |none=>exact stop x a hx (fun u hu=>by rw[hl] at hu;cases hu;exact hy)
   |some y=>
    simp only
    have ht:=hx.r t (fm hl)
    have ht0:=Sr.mem hx.s t (fm hl)
    have hne:x≠ []:=fun e=>by rw[e] at hl;cases hl
    have hlen:=hst.len
    have hf':=hf t (fm hl)
    obtain⟨hvy,u,hu,hu1⟩:=hst.ok _ y hy
    have hur:=hvy.r u (fm hu)
    have hxl:=hx.length (by omega)
    have hyl:=hvy.length (by omega)
    have ayT:y.length≠0:=fun e=>by rw[List.length_eq_zero_iff.1 e] at hu;cases hu
    have ayU:x.length≠0:=fun e=>hne (List.length_eq_zero_iff.1 e)
    have gl:∀{z:List Tm} {v:Tm},z.getLast?=some v→z.getD (z.length - 1) nY=v:=fun {z v} h=>by
     obtain⟨r,rfl⟩:=WT h
     simp[List.getD]
    have ey:IntKind.wrap .i64 (((lst (some y)).length:Int) - 1)=((y.length - 1:Nat):Int):=by
     show IntKind.wrap .i64 ((y.length:Int) - 1)=_
     rw[i64_in _ (by omega)];omega
    have ex:IntKind.wrap .i64 ((x.length:Int) - 1)=((x.length - 1:Nat):Int):=by rw[i64_in _ (by omega)];omega
    have hiv:=RJ hp hur.2
    have hm1:0≤t.2.1*iv p u.2.1:=Int.mul_nonneg (by omega) (by omega)
    have hm2:t.2.1*iv p u.2.1≤251*251:=Int.mul_le_mul (by have:=hp.2.1;omega) (by have:=hp.2.1;omega) (by omega) (by omega)
    have e7:IntKind.wrap .i64 (IntKind.wrap .i64 (0 - t.2.1)*iv p u.2.1)= -t.2.1*iv p u.2.1:=by
     have:=hp.2.1
     rw[i64_in (0 - t.2.1) (by omega)]
     have:(0 - t.2.1)*iv p u.2.1= -(t.2.1*iv p u.2.1):=by rw[Int.zero_sub,Int.neg_mul]
     rw[this,i64_in _ (by omega),Int.neg_mul]
    have hpp:0<p:=by have:=hp.1;omega
    have hk:(-t.2.1*iv p u.2.1) % p % p=(-t.2.1*iv p u.2.1) % p:=Int.emod_emod_of_dvd _ (Int.dvd_refl p)
    have hpl:=acK hp hx hvy hl hu (by omega)
    have hv':=(M8 (k:=(-t.2.1*iv p u.2.1) % p) hpp hx hvy).1
    have afe:=hv'.length (by omega)
    have hd:(y.getLast?.getD (0,(0,())))=u:=by rw[hu];rfl
    have ym:=ih (xY p x ((-t.2.1*iv p u.2.1) % p) y) (a+1) hv' (fun s hs=>by have:=hpl s hs;omega) (by omega) (by omega)
    rw[hd, ←ym,Eu,ud]
    have el:aez x=(t.1,true):=by unfold aez;rw[hl]
    rw[el]
    simp only
    rw[cT,RM (by omega) (by omega),aav (by omega),hy]
    have e1:(!(Option.isNone (some y)))=true:=rfl
    rw[e1,cT,RM (by omega) (by omega),aav (by omega),hy,ey]
    have e2:lst (some y)=y:=rfl
    rw[e2,iT nY (by omega),gl hu,acD hp hur.2,bS,ex,iT nY (by omega),gl hl,e7,T4 hp,bS,OJ hp (hx.mono (by omega)) (hvy.mono (by omega)) (by omega) (by omega),bS,hk]
    simp only
    rw[akl (by omega),bS,i64_in (a+1) (by omega)]
    rfl
theorem ahW {dt:List Int}(hn:dt.length≤1024){w w2:Int}:∀(m i out:Nat) (ak:Hp3) (l:List Tm),m+i=dt.length→af ak out=some l→l.length≤i→
  ∃out' hp',du out (dt.length:Int) i dt w w2 ak=some ((out',(w,(w2,()))),hp')∧af hp' out'=some (l++prL dt i m):=by
 intro m
 induction m with
 |zero=>
  intro i out ak l hi hg hl
  rw[Et,uc,az (by omega)]
  exact⟨out,ak,rfl,by rw[prL,List.append_nil];exact hg⟩
 |succ m ih=>
  intro i out ak l hi hg hl
  rw[Et,uc,aB (by omega),eL (by omega) (by omega),rS (by omega),Int.toNat_natCast,prL,cq (by omega)]
  by_cases h:dt.getD i 0> -2
  ·rw[cZ h,hg,bS,kg (by omega) (by omega),if_pos h]
   simp only
   have hg':af (ix ak out++[some (l++[((i:Int),(dt.getD i 0,()))])]) ((ix ak out).length+1)=some (l++[((i:Int),(dt.getD i 0,()))]):=by
    simp[af]
   obtain⟨o',h',g1,g2⟩:=ih (i+1) _ _ _ (by omega) hg' (by simp;omega)
   refine⟨o',h',g1, ?_⟩
   rw[g2,List.append_assoc]
   rfl
  ·rw[c8 h,if_neg h]
   exact ih (i+1) out ak l (by omega) hg (by omega)
def ada (ah:List Cl)(d:Int):Nat→Nat→List (Int×Unit)
 |_,0=>[]
 |j,m+1=>if (ah.getD j sB).1=d then ((j:Int),())::ada ah d (j+1) m else ada ah d (j+1) m
def dtr (ah:List Cl)(n:Nat):Nat→List (Int×Unit)
 |0=>[]
 |k+1=>ada ah k 0 n++dtr ah n k
theorem akn {ah:List Cl}{n:Nat}(hc:ah.length=n)(hn:n≤1000000){d t:Int}{t5:List Cl}:∀(m j:Nat) (tr:List (Int×Unit)),m+j=n→
  eC d ah n j t t5 tr=eB (IntKind.wrap .i64 (d - 1)) t t5 (tr++ada ah d j m):=by
 intro m
 induction m with
 |zero=>intro j tr h;rw[G6,xj,az (by omega),ada,List.append_nil]
 |succ m ih=>
  intro j tr h
  rw[G6,xj,aB (by omega),iT sB (by omega),cq (by omega),ada]
  by_cases e:(ah.getD j sB).1=d
  ·rw[ur e,if_pos e,ih (j+1) _ (by omega),List.append_assoc];rfl
  ·rw[ko e,if_neg e,ih (j+1) _ (by omega)]
theorem alT {ah:List Cl}{n:Nat}(hc:ah.length=n)(hn:n≤1000000){t:Int}:∀(k:Nat) (tr:List (Int×Unit)),k≤5→
  eB ((k:Int) - 1) t ah tr=some (tr++dtr ah n k):=by
 intro k
 induction k with
 |zero=>intro tr h;rw[G5,xi,dtr,List.append_nil];rfl
 |succ k ih=>
  intro tr h
  have e1:((k+1:Nat):Int) - 1=(k:Int):=by omega
  have hg:decide ((k:Int)≥0)=true:=by simp
  have e0:((0:Nat):Int)=0:=rfl
  have hw:=akn hc hn (d:=(k:Int)) (t:=t) (t5:=ah) n 0 tr (by omega)
  rw[e0] at hw
  rw[G5,xi,e1,hg,cT,hc,hw,i64_in ((k:Int) - 1) (by omega),ih _ (by omega),dtr,List.append_assoc]
theorem aog {p:Int}(hp:Pr p){n:Nat}(hn:n≤1024){ah:List Cl}(hc:ah.length=n){st:List (Option (List Tm))}(hst:Sto p n st){dt:List Int}(hdt:dt.length=n){j:Nat}(hj:j<n)(hx:Vc p n (oW ah j)){a w2:Int}(ha:0≤a)(hb:a+n≤1000000000)(h2:0≤w2∧w2≤1000000000){out:Nat}{ak:Hp3}{rest:List (Int×Unit)}:
  bR out out st dt true p ah a w2 ak (((j:Int),())::rest)=match st.getD j none with
   |some _=>bR out out st dt true p ah a (w2+1) ak rest
   |none=>ac9 j (pf p st n (oW ah j) a).1 out st dt true p ah (pf p st n (oW ah j) a).2 w2 ak rest:=by
 have hl:=hx.length (by omega)
 have Xc:=hst.len
 rw[Es,ub]
 simp only
 rw[cT,RM (by omega) (by omega),aav (by omega),Int.toNat_natCast]
 cases hs:st.getD j none with
 |some y=>
  have e1:(!(Option.isNone (some y)))=true:=rfl
  rw[e1,cT,i64_in (w2+1) (by omega)]
 |none=>
  have e1:(!(Option.isNone (none:Option (List Tm))))=false:=rfl
  rw[e1,cF,iT sB (by omega)]
  have eb:(ah.getD j sB).2.2.1=oW ah j:=by rw[IY]
  rw[eb,akt (by omega),bS,akl (by omega),bS]
  exact ahR hp hn hst hdt hj n (oW ah j) a hx (fun t ht=>(hx.r t ht).1) ha hb
theorem alU {p:Int}(hp:Pr p){n:Nat}(hn:n≤1024){ah:List Cl}(hc:ah.length=n)(hx:∀j,j<n→Vc p n (oW ah j)){d:Int}{ak:Hp3}{tail:List (Int×Unit)}:∀(m j:Nat) (it:Nat) (st:List (Option (List Tm))) (dt:List Int) (sd:List (Option (List Int))) (OL:List Int) (em:List Bool) (a c:Int),m+j=n→it+m≤5120→Rel p n st dt sd OL em→0≤a→a≤it*1024→0≤c→c≤it→
  ∃st' dt' sd' by' em' a' c',Rel p n st' dt' sd' by' em'∧0≤a'∧a'≤((it+m:Nat):Int)*1024∧0≤c'∧c'≤((it+m:Nat):Int)∧
   bR 0 0 st dt true p ah a c ak (ada ah d j m++tail)=bR 0 0 st' dt' true p ah a' c' ak tail∧
   aaM 1 d j p ah [some OL] (h5 p ah a c) [some sd] [some em]=aaK 1 (IntKind.wrap .i64 (d - 1)) p ah [some by'] (h5 p ah a' c') [some sd'] [some em']:=by
 intro m
 induction m with
 |zero=>
  intro j it st dt sd OL em a c hj hit h ha hb hc0 hc1
  refine⟨st,dt,sd,OL,em,a,c,h,ha,hb,hc0,hc1,by rw[ada,List.nil_append], ?_⟩
  rw[ac2,ab5,az (by omega)]
 |succ m ih=>
  intro j it st dt sd OL em a c hj hit h ha hb hc0 hc1
  have hj':j<n:=by omega
  have hxj:=hx j hj'
  have hmul:((it+1:Nat):Int)*1024=(it:Int)*1024+1024:=by
   rw[show ((it+1:Nat):Int)=(it:Int)+1 by omega,Int.add_mul,Int.one_mul]
  have hsum:it+1+m=it+(m+1):=by omega
  have nx:∀(st:List (Option (List Tm))) (dt:List Int) (sd:List (Option (List Int))) (OL:List Int) (em:List Bool) (a c:Int),Rel p n st dt sd OL em→0≤a→a≤((it+1:Nat):Int)*1024→0≤c→c≤((it+1:Nat):Int)→_:=fun st dt sd OL em a c h1 h2 h3 h4 h5=>ih (j+1) (it+1) st dt sd OL em a c (by omega) (by omega) h1 h2 h3 h4 h5
  rw[hsum] at nx
  rw[ada,ac2,ab5,aB (by omega),iT sB (by omega),cq (by omega)]
  by_cases e:(ah.getD j sB).1=d
  ·rw[if_pos e,pe e,List.cons_append,aog hp hn hc h.sto h.ldt hj' hxj (out:=0) ha (by omega) (by omega)]
   have e1:(!(Nat.beq 1 0))=true:=rfl
   have e2:af (h5 p ah a c) 1=some [((p,(ah,())),((1:Nat),((1:Nat),((1:Nat),(a,(c,()))))))]:=rfl
   have e3:([((p,(ah,())),((1:Nat),((1:Nat),((1:Nat),(a,(c,()))))))]:List aeA)[0]? =some ((p,(ah,())),((1:Nat),((1:Nat),((1:Nat),(a,(c,())))))):=rfl
   have g6:af [some sd] 1=some sd:=rfl
   have l2:=h.sv.len
   rw[e1,cT,cT,e2,bS,e3,bS]
   simp only
   rw[g6,bS,RM (by omega) (by omega),bS,aav (by omega),Int.toNat_natCast]
   cases hs:st.getD j none with
   |some y=>
    obtain⟨w,hw,_⟩:=h.sv.some_ j y hs
    have e4:(!(Option.isNone (some w)))=true:=rfl
    have e5:b9 (h5 p ah a c) 1 ([((p,(ah,())),((1:Nat),((1:Nat),((1:Nat),(a,(c,()))))))].set 0 ((p,(ah,())),((1:Nat),((1:Nat),((1:Nat),(a,(c+1,())))))))=h5 p ah a (c+1):=rfl
    rw[hw,e4,cT,cT,cT,bS,e3,bS,cT,cT,bS,e3,bS]
    simp only
    rw[i64_in (c+1) (by omega),e5]
    exact nx st dt sd OL em a (c+1) h ha (by omega) (by omega) (by omega)
   |none=>
    have e4:(!(Option.isNone (none:Option (List Int))))=false:=rfl
    obtain⟨sd',by',em',r1,r2,r3,r4⟩:=arC hp hn hc h hj' hxj (c:=c) ha (by omega)
    rw[h.sv.none_ j hs,e4,cF,r1,bS]
    simp only
    unfold ac9
    cases hl:(pf p st n (oW ah j) a).1.getLast? with
    |some t=>
     rw[hl] at r4
     exact nx _ _ _ _ _ _ _ r4 r2 (by omega) hc0 (by omega)
    |none=>
     rw[hl] at r4
     simp only
     by_cases h2:dt.getD j 0= -2
     ·rw[if_pos h2]
      simp only[if_pos h2] at r4
      exact nx _ _ _ _ _ _ _ r4 r2 (by omega) hc0 (by omega)
     ·rw[if_neg h2]
      simp only[if_neg h2] at r4
      exact nx _ _ _ _ _ _ _ r4 r2 (by omega) hc0 (by omega)
  ·rw[if_neg e,Cj e]
   exact nx st dt sd OL em a c h ha (by omega) hc0 (by omega)
theorem aoh {p:Int}(hp:Pr p){n:Nat}(hn:n≤1024){ah:List Cl}(hc:ah.length=n)(hx:∀j,j<n→Vc p n (oW ah j)){ak:Hp3}:∀(k it:Nat) (st:List (Option (List Tm))) (dt:List Int) (sd:List (Option (List Int))) (OL:List Int) (em:List Bool) (a c:Int),it+k*1024≤5120→Rel p n st dt sd OL em→0≤a→a≤it*1024→0≤c→c≤it→
  ∃dt' a' c',dt'.length=n∧bR 0 0 st dt true p ah a c ak (dtr ah n k)=du 0 (dt'.length:Int) 0 dt' a' c' ak∧aaK 1 ((k:Int) - 1) p ah [some OL] (h5 p ah a c) [some sd] [some em]=some (prL dt' 0 n,a',c'):=by
 intro k
 induction k with
 |zero=>
  intro it st dt sd OL em a c hit h ha hb hc0 hc1
  refine⟨dt,a,c,h.ldt, ?_, ?_⟩
  ·rw[dtr,Es,ub]
  ·have e1:(!(Nat.beq 1 0))=true:=rfl
   have e2:af (h5 p ah a c) 1=some [((p,(ah,())),((1:Nat),((1:Nat),((1:Nat),(a,(c,()))))))]:=rfl
   have e3:([((p,(ah,())),((1:Nat),((1:Nat),((1:Nat),(a,(c,()))))))]:List aeA)[0]? =some ((p,(ah,())),((1:Nat),((1:Nat),((1:Nat),(a,(c,())))))):=rfl
   have e0:((0:Nat):Int)=0:=rfl
   have hd:decide (((0:Nat):Int) - 1≥0)=false:=rfl
   have hw:=acM hn h (ah:=ah) (a:=a) (c:=c) n 0 [] (by omega) (by simp)
   rw[e0,List.nil_append] at hw
   rw[ac1,ab3,hd,cF,Fh,uk,hw,bS,e1,cT,cT,e2,bS,e3,bS,cT,cT,bS,e3,bS]
 |succ k ih=>
  intro it st dt sd OL em a c hit h ha hb hc0 hc1
  have e1:((k+1:Nat):Int) - 1=(k:Int):=by omega
  have hg:decide ((k:Int)≥0)=true:=by simp
  have e0:((0:Nat):Int)=0:=rfl
  have avJ:it+n≤5120:=by omega
  obtain⟨st',dt',sd',by',em',a',c',q1,q2,q3,q4,q5,q6,q7⟩:=alU hp hn hc hx (d:=(k:Int)) (ak:=ak) (tail:=dtr ah n k) n 0 it st dt sd OL em a c (by omega) avJ h ha hb hc0 hc1
  rw[e0,i64_in ((k:Int) - 1) (by omega)] at q7
  have hm:((it+n:Nat):Int)*1024≤((it+1024:Nat):Int)*1024:=by omega
  obtain⟨dt2,a2,c2,z1,z2,z3⟩:=ih (it+1024) st' dt' sd' by' em' a' c' (by omega) q1 q2 (by omega) q4 (by omega)
  refine⟨dt2,a2,c2,z1,by rw[dtr,q6,z2], ?_⟩
  rw[ac1,ab3,e1,hg,cT,q7,z3]
theorem aoi {n:Nat}(hn:n≤1024){st:List (Option (List Tm))}{p:Int}{ah:List Cl}(hc:ah.length=n){ak:Hp3}:∀(m i:Nat),m+i=n→
  dr 0 (n:Int) i st (List.replicate i (-2)++List.replicate m 0) true p ah 0 0 ak=bR 0 0 st (List.replicate n (-2)) true p ah 0 0 ak (dtr ah n 5):=by
 intro m
 induction m with
 |zero=>
  intro i hi
  have e0:((0:Nat):Int)=0:=rfl
  have hw:=alT (ah:=ah) hc (by omega) (t:=p) 5 [] (by omega)
  have e4:((5:Nat):Int) - 1=4:=rfl
  rw[e4,List.nil_append] at hw
  have hi':i=n:=by omega
  subst hi'
  rw[Er,ua,az (by omega),Nk,Eo,bS,KF,BJ]
  simp only
  rw[hw,bS,List.replicate_zero,List.append_nil]
 |succ m ih=>
  intro i hi
  have hl:(List.replicate i (-2:Int)++List.replicate (m+1) 0).length=n:=by simp;omega
  rw[Er,ua,aB (by omega),eL (by omega) (by omega),Int.toNat_natCast,rS (by omega),cq (by omega)]
  have e:(List.replicate i (-2:Int)++List.replicate (m+1) 0).set i (-2)=List.replicate (i+1) (-2)++List.replicate m 0:=by
   rw[List.set_append_right _ _ (by simp)]
   simp only[List.length_replicate,Nat.sub_self,List.replicate_succ,List.set_cons_zero]
   rw[←List.replicate_succ,List.replicate_succ',List.append_assoc]
   rfl
  rw[e]
  exact ih (i+1) (by omega)
theorem alV {p:Int}{ah:List Cl}(hs:Sz ah):∃l a c,(iN p ah=0→ac0 (p,(ah,()))=some (l,a,c))∧l.length≤1024∧
  BE (p,(ah,()))=some (if iN p ah=0 then (l,((a,(c,())),(0:Int))) else ([],(((0:Int),((0:Int),())),iN p ah))):=by
 have key:∀{hp:Hp3} {n:Nat} {l:List Tm} {w:Int×Int×Unit} {e:Int},sP (p,(ah,())) []=some ((n,(w,e)),hp)→af hp n=some l→BE (p,(ah,()))=some (l,((w.1,(w.2.1,())),e)):=by
  intro hp n l w e h1 h2
  rw[Wl,Oj]
  simp only
  rw[h1,bS]
  simp only
  rw[aeB (hp:=hp) rfl h2]
  rfl
 by_cases h0:iN p ah=0
 ·obtain⟨hp,hl,hg⟩:=ako h0
  have hx:∀j,j<ah.length→Vc p ah.length (oW ah j):=fun j hj=>(hg j hj).bd.mono (by omega)
  obtain⟨dt',a',c',d1,d2,d3⟩:=aoh hp hl rfl hx (ak:=[]) 5 0 _ _ _ _ _ 0 0 (by omega) Rel.start (by omega) (by omega) (by omega) (by omega)
  have e4:((5:Nat):Int) - 1=4:=rfl
  have e0:((0:Nat):Int)=0:=rfl
  rw[e4] at d3
  refine⟨prL dt' 0 ah.length,a',c',fun _=> ?_,by have:=WV dt' ah.length 0;omega, ?_⟩
  ·rw[ac7,ac6]
   simp only
   rw[rstart hl,bS]
   simp only
   exact d3
  ·obtain⟨out',hp',g1,g2⟩:=ahW (dt:=dt') (by omega) (w:=a') (w2:=c') dt'.length 0 0 [] [] (by omega) rfl (by simp)
   rw[e0] at g1
   rw[List.nil_append,d1] at g2
   have hf:=aoi (st:=List.replicate ah.length none) (p:=p) hl rfl (ak:=[]) ah.length 0 (by omega)
   rw[e0,List.replicate_zero,List.nil_append] at hf
   have hrun:fa (p,(ah,())) []=some ((out',(a',(c',()))),hp'):=by
    rw[HV,yy]
    simp only
    rw[GM (by omega) (by omega) (by omega),GM (by omega) (by omega) (by omega),Int.toNat_natCast,List.length_replicate,hf,d2,g1]
   have hw:sP (p,(ah,())) []=some ((out',((a',(c',())),(0:Int))),hp'):=by
    rw[QV,HU]
    simp only
    rw[MB hs,bS,h0,pe rfl,hrun,bS]
   rw[key hw g2,if_pos h0]
 ·refine⟨[],0,0,fun h=>absurd h h0,by simp, ?_⟩
  have hw:sP (p,(ah,())) []=some (((0:Nat),(((0:Int),((0:Int),())),iN p ah)),[]):=by
   rw[QV,HU]
   simp only
   rw[MB hs,bS,Cj h0]
  rw[key hw rfl,if_neg h0]
end Go.Proofs.YtofjebmoebhiiaaGreatDoor.Ev
namespace Go.Proofs.YtofjebmoebhiiaaGreatDoor.Ev
open Go.Abs Go.IntWalk
abbrev Hz:=List (List Int)
theorem vK {β:Type}{xs:Hz}{k:Nat}{f:List Int→Option β}(h:k<xs.length):(idx xs (k:Int)).bind f=f (xs.getD k []):=iT [] h
theorem b6 {α:Type}{d:α}{l:List α}{k:Nat}(h:k<l.length):l.getD k d∈l:=by
 have:l.getD k d=l[k]:=by simp[List.getD,h]
 rw[this];exact List.getElem_mem _
theorem ami {a:List Int}(hl:a.length≤1000000)(v:Int):∀(m i:Nat),m+i=a.length→∃b,kY a v i=some b:=by
 intro m
 induction m with
 |zero=>intro i hi;rw[C9,wE,az (by omega)];exact⟨_,rfl⟩
 |succ m ih=>
  intro i hi
  rw[C9,wE,aB (by omega),eL (by omega) (by omega),cq (by omega)]
  cases (a.getD (i:Int).toNat 0==v) with
  |true=>exact⟨_,rfl⟩
  |false=>rw[cF];exact ih (i+1) (by omega)
theorem ani {a:List Int}(hl:a.length≤1000000)(v:Int):∃b,qH a v=some b:=by
 rw[SJ,Ki];exact ami hl v a.length 0 (by omega)
theorem akx {a b:List Int}(ha:a.length≤1000000)(hl:b.length≤1000000):∀(m i:Nat),m+i=b.length→∃r,jQ a b i=some r:=by
 intro m
 induction m with
 |zero=>intro i hi;rw[B1,uQ,az (by omega)];exact⟨_,rfl⟩
 |succ m ih=>
  intro i hi
  obtain⟨r,hr⟩:=ani ha (b.getD (i:Int).toNat 0)
  rw[B1,uQ,aB (by omega),eL (by omega) (by omega),hr,bS,cq (by omega)]
  cases r with
  |true=>rw[Bool.not_true,cF];exact ih (i+1) (by omega)
  |false=>exact⟨_,rfl⟩
theorem aoy {a b:List Int}(ha:a.length≤1000000)(hl:b.length≤1000000):∃r,yr a b=some r:=by
 rw[Q9,Ip];exact akx ha hl b.length 0 (by omega)
theorem aky {a b:List Int}(hl:a.length≤1000000)(hab:a.length=b.length):∀(m i:Nat),m+i=a.length→∃r,fI a b i=some r:=by
 intro m
 induction m with
 |zero=>intro i hi;rw[s8,nR,az (by omega)];exact⟨_,rfl⟩
 |succ m ih=>
  intro i hi
  rw[s8,nR,aB (by omega),eL (by omega) (by omega),eL (by omega) (by omega),eL (by omega) (by omega),eL (by omega) (by omega),cq (by omega)]
  cases decide (a.getD (i:Int).toNat 0<b.getD (i:Int).toNat 0) with
  |true=>exact⟨_,rfl⟩
  |false=>
   rw[cF]
   cases decide (a.getD (i:Int).toNat 0>b.getD (i:Int).toNat 0) with
   |true=>exact⟨_,rfl⟩
   |false=>rw[cF];exact ih (i+1) (by omega)
theorem M9 {a b:List Int}(hl:a.length≤1000000):∃r,bu a b=some r:=by
 rw[Gt,AU]
 by_cases h:(a.length:Int)=(b.length:Int)
 ·rw[pe h];exact aky hl (by omega) a.length 0 (by omega)
 ·rw[Cj h]
  cases decide ((a.length:Int)<(b.length:Int)) with
  |true=>exact⟨_,rfl⟩
  |false=>exact⟨_,rfl⟩
theorem aeC {n:Int}{i:Nat}:∀(k:Nat) (n:Int) (out:List Int),k<out.length→out.length≤1000000→i<out.length→∃n' out',gC n i k out=eV n' (IntKind.wrap .i64 ((i:Int)+1)) out'∧out'.length=out.length:=by
 intro k
 induction k with
 |zero=>intro n out hk hl hi;rw[xq,pM,c8 (by omega)];exact⟨_,_,rfl,rfl⟩
 |succ k ih=>
  intro n out hk hl hi
  have e1:IntKind.wrap .i64 (((k+1:Nat):Int) - 1)=(k:Int):=by rw[i64_in _ (by omega)];omega
  rw[xq,pM,cZ (by omega),e1,eL (by omega) (by omega),rS (by omega),eL (by omega) (by omega),rS (by omega)]
  cases decide (out.getD (k:Int).toNat 0>out.getD ((k+1:Nat):Int).toNat 0) with
  |true=>
   rw[cT,eL (by omega) (by omega),rS (by omega),eL (by omega) (by omega),rS (by omega),eL (by omega) (by omega),rS (by omega)]
   simp only
   rw[eL (by omega) (by rw[List.length_set];omega),rS (by rw[List.length_set];omega)]
   obtain⟨n',out',h1,h2⟩:=ih (IntKind.wrap .i64 (1 - n)) ((out.set (k:Int).toNat (out.getD ((k+1:Nat):Int).toNat 0)).set ((k+1:Nat):Int).toNat (out.getD (k:Int).toNat 0)) (by rw[List.length_set,List.length_set];omega) (by rw[List.length_set,List.length_set];exact hl) (by rw[List.length_set,List.length_set];exact hi)
   exact⟨n',out',h1,by rw[h2,List.length_set,List.length_set]⟩
  |false=>rw[cF];exact⟨_,_,rfl,rfl⟩
theorem aeD:∀(m i:Nat) (n:Int) (out:List Int),m+i=out.length→out.length≤1000000→∃n' out',eV n i out=some (out',n')∧out'.length=out.length:=by
 intro m
 induction m with
 |zero=>intro i n out hi hl;rw[xp,pK,az (by omega)];exact⟨_,_,rfl,rfl⟩
 |succ m ih=>
  intro i n out hi hl
  obtain⟨n',out',h1,h2⟩:=aeC (n:=n) (i:=i) i n out (by omega) hl (by omega)
  obtain⟨n2,ax,h3,h4⟩:=ih (i+1) n' out' (by omega) (by omega)
  rw[xp,pK,aB (by omega),h1,cq (by omega)]
  exact⟨n2,ax,h3,by omega⟩
theorem WW {l:List Int}(hl:l.length≤1000000):∃n' out',jS l=some (out',n')∧out'.length=l.length:=by
 rw[LS,Da,kg (by omega) (by omega),List.nil_append]
 exact aeD l.length 0 0 l (by omega) hl
theorem Y0 {out:List Int}(ho:out.length≤4):∃s,(bif ((out.length:Int)==0) then bif (aP 8 1 out.length 1) then (jS (out++([(0:Int)]:List Int))).bind fun r3=>some r3.1 else none else (jS out).bind fun r4=>some r4.1)=some s∧s.length≤4:=by
 by_cases h:(out.length:Int)=0
 ·obtain⟨n',s,h1,h2⟩:=WW (l:=out++[0]) (by simp;omega)
  rw[ur h,kg (by omega) (by omega),h1,bS]
  exact⟨s,rfl,by rw[h2];simp;omega⟩
 ·obtain⟨n',s,h1,h2⟩:=WW (l:=out) (by omega)
  rw[ko h,h1,bS]
  exact⟨s,rfl,by omega⟩
theorem aax {l:List Int}(hl:l.length≤1000000000000000000):∀(m i:Nat) (out:List Int),m+i=l.length→out.length≤4→∃s,ik l 4 6 i out=some s∧s.length≤4:=by
 intro m
 induction m with
 |zero=>
  intro i out hi ho
  rw[y3,q8,az (by omega)]
  exact Y0 ho
 |succ m ih=>
  intro i out hi ho
  rw[y3,q8,aB (by omega)]
  by_cases h:(out.length:Int)<4
  ·have e1:IntKind.wrap .i64 ((i:Int)+1)=((i+1:Nat):Int):=by rw[i64_in _ (by omega)];omega
   rw[aB h,eL (by omega) (by omega),j5 (by omega),j5 (by omega),e1]
   obtain⟨b,hb⟩:=ani (a:=out) (by omega) ((IntKind.wrap .i64 ((l.getD (i:Int).toNat 0).tmod 6+6)).tmod 6)
   rw[hb,bS]
   cases b with
   |true=>rw[Bool.not_true,cF];exact ih (i+1) out (by omega) ho
   |false=>
    rw[Bool.not_false,cT,kg (by omega) (by omega)]
    exact ih (i+1) _ (by omega) (by simp;omega)
  ·rw[az h]
   exact Y0 ho
theorem aeE {l:List Int}(hl:l.length≤1000000000000000000):∃s,tM l 4 6=some s∧s.length≤4:=by
 rw[Nq,EY]
 exact aax hl l.length 0 [] (by omega) (by simp)
def Sx (n:Nat)(l:Hz):Prop:=l.length≤n∧∀s∈l,s.length≤4
theorem Sx.getD {n:Nat}{l:Hz}(h:Sx n l){k:Nat}(hk:k<l.length):(l.getD k []).length≤4:=h.2 _ (b6 hk)
theorem Sx.snoc {n m:Nat}{l:Hz}(h:∀s∈l,s.length≤4){s:List Int}(hs:s.length≤4):∀t∈l++[s],t.length≤4:=fun t ht=>by
 rcases List.mem_append.1 ht with ht |ht
 ·exact h t ht
 ·rw[List.mem_singleton.1 ht];exact hs
theorem akz {l:Hz}{s:List Int}(hl:Sx 1000 l)(hs:s.length≤4):∀(m i:Nat) (d:Bool) (out:Hz),m+i=l.length→out.length=i+(if d=true then 1 else 0)→(∀t∈out,t.length≤4)→
  ∃r,jT l s d i out=some r∧Sx (l.length+1) r:=by
 have hll:=hl.1
 intro m
 induction m with
 |zero=>
  intro i d out hi ho hx
  rw[B2,uS,az (by omega)]
  cases d with
  |true=>rw[Bool.not_true,cF];exact⟨out,rfl,by rw[if_pos rfl] at ho;omega,hx⟩
  |false=>
   rw[if_neg (by decide)] at ho
   rw[Bool.not_false,cT,kg (by omega) (by omega)]
   exact⟨_,rfl,by simp;omega,Sx.snoc (n:=0) (m:=0) hx hs⟩
 |succ m ih=>
  intro i d out hi ho hx
  obtain⟨r,hr⟩:=M9 (a:=s) (b:=l.getD i []) (by omega)
  have hg:=hl.getD (show i<l.length by omega)
  have ho2:out.length≤i+1:=by split at ho<;>omega
  rw[B2,uS,aB (by omega),vK (by omega),hr,bS,cq (by omega)]
  cases (r==0) with
  |true=>rw[cT];exact⟨l,rfl,by omega,hl.2⟩
  |false=>
   rw[cF]
   cases decide (r<0) with
   |true=>
    rw[cT]
    cases d with
    |true=>
     rw[Bool.not_true,cF,vK (by omega),kg (by omega) (by omega)]
     exact ih (i+1) true _ (by omega) (by rw[if_pos rfl] at ho ⊢;simp;omega) (Sx.snoc (n:=0) (m:=0) hx hg)
    |false=>
     rw[if_neg (by decide)] at ho
     rw[Bool.not_false,cT,kg (by omega) (by omega),vK (by omega),kg (by omega) (by simp;omega)]
     exact ih (i+1) true _ (by omega) (by rw[if_pos rfl];simp;omega) (Sx.snoc (n:=0) (m:=0) (Sx.snoc (n:=0) (m:=0) hx hs) hg)
   |false=>
    rw[cF,vK (by omega),kg (by omega) (by omega)]
    exact ih (i+1) d _ (by omega) (by simp;omega) (Sx.snoc (n:=0) (m:=0) hx hg)
theorem aay {l:Hz}{s:List Int}(hl:Sx 1000 l)(hs:s.length≤4):∃r,fW l s=some r∧Sx (l.length+1) r:=by
 rw[Ra,Iq]
 exact akz hl hs l.length 0 false [] (by omega) (by simp) (by simp)
theorem acO {s:List Int}(hs:s.length≤4){m:Int}{out:Hz}(ho:Sx 900 out):∀(q i:Nat) (f:List Int),q+i=s.length→f.length≤i→
  ∃r,gD s out m i f=dE s r (IntKind.wrap .i64 (m+1))∧Sx (out.length+1) r:=by
 intro q
 induction q with
 |zero=>
  intro i f hi hf
  obtain⟨r,h1,h2⟩:=aay (l:=out) (s:=f) ⟨by have:=ho.1;omega,ho.2⟩ (by omega)
  rw[xv,pP,az (by omega),h1,bS]
  exact⟨r,rfl,h2⟩
 |succ q ih=>
  intro i f hi hf
  rw[xv,pP,aB (by omega),OF (by omega),cq (by omega)]
  cases ((shr .i64 m (i:Int)).tmod 2==1) with
  |true=>
   rw[cT,eL (by omega) (by omega),kg (by omega) (by omega)]
   exact ih (i+1) _ (by omega) (by simp;omega)
  |false=>rw[cF];exact ih (i+1) f (by omega) (by omega)
theorem aaz {s:List Int}(hs:s.length≤4){m:Int}{out:Hz}(ho:Sx 900 out):∀(q i:Nat) (f:List Int),q+i=s.length→f.length≤i→
  ∃r,iq s m i out f=dE s r (IntKind.wrap .i64 (m+1))∧Sx (out.length+1) r:=by
 intro q
 induction q with
 |zero=>
  intro i f hi hf
  obtain⟨r,h1,h2⟩:=aay (l:=out) (s:=f) ⟨by have:=ho.1;omega,ho.2⟩ (by omega)
  rw[y4,q9,az (by omega),h1,bS]
  exact⟨r,rfl,h2⟩
 |succ q ih=>
  intro i f hi hf
  rw[y4,q9,aB (by omega),OF (by omega),cq (by omega)]
  cases ((shr .i64 m (i:Int)).tmod 2==1) with
  |true=>
   rw[cT,eL (by omega) (by omega),kg (by omega) (by omega)]
   exact ih (i+1) _ (by omega) (by simp;omega)
  |false=>rw[cF];exact ih (i+1) f (by omega) (by omega)
theorem Y1 {n:Nat}(h:n≤4):shl .i64 1 (n:Int)=((2^n:Nat):Int)∧2^n≤16:=by
 have:n=0∨n=1∨n=2∨n=3∨n=4:=by omega
 rcases this with rfl |rfl |rfl |rfl |rfl<;>exact⟨rfl,by decide⟩
theorem acP {s:List Int}(hs:s.length≤4):∀(q m:Nat) (out:Hz),q+m=2^s.length→Sx (500+m) out→∃r,dE s out m=some r∧Sx (out.length+q) r:=by
 obtain⟨hsh,hp⟩:=Y1 hs
 intro q
 induction q with
 |zero=>
  intro m out hm ho
  rw[xu,pO,OF (by omega),hsh,az (by omega)]
  exact⟨out,rfl,by omega,ho.2⟩
 |succ q ih=>
  intro m out hm ho
  have h0:=ho.1
  obtain⟨r,h1,h2⟩:=acO hs (m:=(m:Int)) (out:=out) ⟨by omega,ho.2⟩ s.length 0 [] (by omega) (by simp)
  have e0:((0:Nat):Int)=0:=rfl
  rw[e0] at h1
  have h20:=h2.1
  obtain⟨r2,h3,h4⟩:=ih (m+1) r (by omega) ⟨by omega,h2.2⟩
  rw[xu,pO,OF (by omega),hsh,aB (by omega),h1,cq (by omega),h3]
  exact⟨r2,rfl,by have:=h4.1;omega,h4.2⟩
theorem acQ {s:List Int}(hs:s.length≤4):∃r,kZ s=some r∧Sx 16 r:=by
 obtain⟨hsh,hp⟩:=Y1 hs
 rw[Nr,EZ,JL,z9,OF (by omega),hsh]
 by_cases h:(1:Int)<((2^s.length:Nat):Int)
 ·rw[aB h]
  obtain⟨r,h1,h2⟩:=aaz hs (m:=1) (out:=[]) ⟨by simp,by simp⟩ s.length 0 [] (by omega) (by simp)
  have e0:((0:Nat):Int)=0:=rfl
  rw[e0] at h1
  have h20:=h2.1
  have e1:IntKind.wrap .i64 ((1:Int)+1)=((2:Nat):Int):=rfl
  obtain⟨r2,h3,h4⟩:=acP hs (2^s.length - 2) 2 r (by omega) ⟨by simp at h20;omega,h2.2⟩
  rw[h1,e1,h3]
  exact⟨r2,rfl,by have:=h4.1;simp at h20;omega,h4.2⟩
 ·rw[az h];exact⟨[],rfl,by simp,by simp⟩
theorem RN {l f:Hz}(hf:Sx 16 f){i:Int}:∀(q k:Nat) (out:Hz),q+k=f.length→Sx (900 - q) out→∃r,db l out i f k=iP l r (IntKind.wrap .i64 (i+1))∧Sx (out.length+q) r:=by
 have Td:=hf.1
 intro q
 induction q with
 |zero=>intro k out hk ho;rw[vz,oL,az (by omega)];exact⟨out,rfl,by omega,ho.2⟩
 |succ q ih=>
  intro k out hk ho
  have h0:=ho.1
  obtain⟨r,h1,h2⟩:=aay (l:=out) (s:=f.getD k []) ⟨by omega,ho.2⟩ (hf.getD (by omega))
  have h20:=h2.1
  rw[vz,oL,aB (by omega),vK (by omega),h1,bS,cq (by omega)]
  obtain⟨r2,h3,h4⟩:=ih (k+1) r (by omega) ⟨by omega,h2.2⟩
  exact⟨r2,h3,by have:=h4.1;omega,h4.2⟩
theorem aaA {l:Hz}(hl:Sx 5 l):∀(q i:Nat) (out:Hz),q+i=l.length→Sx (800 - 16*q) out→∃r,iP l out i=some r∧Sx 800 r:=by
 have hll:=hl.1
 intro q
 induction q with
 |zero=>intro i out hi ho;rw[vA,oM,az (by omega)];exact⟨out,rfl,by have:=ho.1;omega,ho.2⟩
 |succ q ih=>
  intro i out hi ho
  have h0:=ho.1
  obtain⟨f,h1,h2⟩:=acQ (hl.getD (show i<l.length by omega))
  have h20:=h2.1
  obtain⟨r,h3,h4⟩:=RN (l:=l) h2 (i:=(i:Int)) f.length 0 out (by omega) ⟨by omega,ho.2⟩
  have h40:=h4.1
  have e0:((0:Nat):Int)=0:=rfl
  rw[e0] at h3
  rw[vA,oM,aB (by omega),vK (by omega),h1,bS,h3,cq (by omega)]
  exact ih (i+1) r (by omega) ⟨by omega,h4.2⟩
theorem aaB {l:Hz}(hl:Sx 5 l):∀(q i:Nat) (out:Hz),q+i=l.length→Sx (800 - 16*q) out→∃r,gv l i out=some r∧Sx 800 r:=by
 have hll:=hl.1
 intro q
 induction q with
 |zero=>intro i out hi ho;rw[xw,pS,az (by omega)];exact⟨out,rfl,by have:=ho.1;omega,ho.2⟩
 |succ q ih=>
  intro i out hi ho
  have h0:=ho.1
  obtain⟨f,h1,h2⟩:=acQ (hl.getD (show i<l.length by omega))
  have h20:=h2.1
  rw[xw,pS,aB (by omega),vK (by omega),h1,bS,Ir,y8]
  by_cases hf:f.length=0
  ·rw[az (by omega),cq (by omega)]
   exact ih (i+1) out (by omega) ⟨by omega,ho.2⟩
  ·obtain⟨r,h3,h4⟩:=aay (l:=out) (s:=f.getD 0 []) ⟨by omega,ho.2⟩ (h2.getD (by omega))
   have h40:=h4.1
   obtain⟨r2,h5,h6⟩:=RN (l:=l) h2 (i:=(i:Int)) (f.length - 1) 1 r (by omega) ⟨by omega,h4.2⟩
   have h60:=h6.1
   have e0:((0:Nat):Int)=0:=rfl
   have e1:IntKind.wrap .i64 ((0:Int)+1)=((1:Nat):Int):=rfl
   have hb:∀{β:Type} {g:List Int→Option β},(idx f (0:Int)).bind g=g (f.getD 0 []):=fun {β g}=>by
    have:=vK (xs:=f) (k:=0) (f:=g) (by omega)
    rw[e0] at this;exact this
   rw[aB (by omega),hb,h3,bS,e1,h5,cq (by omega)]
   exact aaA hl q (i+1) r2 (by omega) ⟨by omega,h6.2⟩
theorem ahU {l:Hz}(hl:Sx 5 l):∃r,mU l=some r∧Sx 800 r:=by
 have:=hl.1
 rw[LU,Dd]
 exact aaB hl l.length 0 [] (by omega) ⟨by simp,by simp⟩
theorem akA {t:Hz}(ht:Sx 800 t):∀(q i:Nat) (out:Hz),q+i=t.length→Sx i out→∃r,fC t (t.length:Int) i out=some r∧Sx 800 r:=by
 have htl:=ht.1
 intro q
 induction q with
 |zero=>intro i out hi ho;rw[y7,rk,az (by omega)];exact⟨out,rfl,by have:=ho.1;omega,ho.2⟩
 |succ q ih=>
  intro i out hi ho
  have h0:=ho.1
  rw[y7,rk,aB (by omega),vK (by omega),kg (by omega) (by omega),cq (by omega)]
  exact ih (i+1) _ (by omega) ⟨by simp;omega,Sx.snoc (n:=0) (m:=0) ho.2 (ht.getD (by omega))⟩
theorem af4 {few:Hz}(hf:Sx 5 few):∃r,((mU few).bind fun r3=>fC r3 (r3.length:Int) (0:Int) ([]:List (List Int)))=some r∧Sx 800 r:=by
 obtain⟨t,h1,h2⟩:=ahU hf
 rw[h1,bS]
 exact akA h2 t.length 0 [] (by omega) ⟨by simp,by simp⟩
theorem akB {l:Hz}(hl:l.length≤1000000)(hs:∀s∈l,s.length≤1000000000000000000):∀(q i:Nat) (few:Hz),q+i=l.length→Sx i few→i≤5→∃r,ig l 5 3 6 i few=some r∧Sx 800 r:=by
 intro q
 induction q with
 |zero=>
  intro i few hi hf h5
  rw[y6,ri,az (by omega)]
  exact af4 ⟨by have:=hf.1;omega,hf.2⟩
 |succ q ih=>
  intro i few hi hf h5
  have h0:=hf.1
  rw[y6,ri,aB (by omega)]
  by_cases h:i<5
  ·obtain⟨s,h1,h2⟩:=aeE (hs _ (b6 (d:=[]) (show i<l.length by omega)))
   have e4:IntKind.wrap .i64 ((3:Int)+1)=4:=rfl
   rw[aB (by omega),vK (by omega),e4,h1,bS,kg (by omega) (by omega),cq (by omega)]
   exact ih (i+1) _ (by omega) ⟨by simp;omega,Sx.snoc (n:=0) (m:=0) hf.2 h2⟩ (by omega)
  ·rw[az (by omega)]
   exact af4 ⟨by omega,hf.2⟩
theorem aeF {l:Hz}(hl:l.length≤1000000)(hs:∀s∈l,s.length≤1000000000000000000):∃r,tJ l 5 3 6=some r∧Sx 800 r:=by
 rw[Nt,E1]
 exact akB hl hs l.length 0 [] (by omega) ⟨by simp,by simp⟩ (by omega)
theorem aeG {l:Hz}(hl:Sx 800 l):∀(q i:Nat) (out:Hz),q+i=l.length→Sx i out→∃r,ie l i out=some r∧Sx 800 r:=by
 have hll:=hl.1
 intro q
 induction q with
 |zero=>intro i out hi ho;rw[y5,rf,az (by omega)];exact⟨out,rfl,by have:=ho.1;omega,ho.2⟩
 |succ q ih=>
  intro i out hi ho
  have h0:=ho.1
  have hg:=hl.getD (show i<l.length by omega)
  rw[y5,rf,aB (by omega),vK (by omega),kg (by omega) (by omega),kg (by omega) (by omega),cq (by omega),List.nil_append]
  exact ih (i+1) _ (by omega) ⟨by simp;omega,Sx.snoc (n:=0) (m:=0) ho.2 hg⟩
theorem akC {l:Hz}(hl:Sx 800 l):∃r,tI l=some r∧Sx 800 r:=by
 rw[Ns,E0]
 exact aeG hl l.length 0 [] (by omega) ⟨by simp,by simp⟩
theorem aaC {s:List Int}(hs:s.length≤4)(k:Int):∀(q i:Nat) (out:List Int),q+i=s.length→out.length≤i→∃r,dc s k i out=some r∧r.length≤4:=by
 intro q
 induction q with
 |zero=>intro i out hi ho;rw[nB,jX,az (by omega)];exact⟨out,rfl,by omega⟩
 |succ q ih=>
  intro i out hi ho
  rw[nB,jX,aB (by omega),cq (by omega)]
  cases ((i:Int) != k) with
  |true=>
   rw[cT,eL (by omega) (by omega),kg (by omega) (by omega)]
   exact ih (i+1) _ (by omega) (by simp;omega)
  |false=>rw[cF];exact ih (i+1) out (by omega) (by omega)
theorem aeH {s:List Int}(hs:s.length≤4)(k:Int):∃r,i7 s k=some r∧r.length≤4:=by
 rw[z8,s9]
 exact aaC hs k s.length 0 [] (by omega) (by simp)
theorem acR {s:List Int}(hs:s.length≤4):∀(q i:Nat) (out:Hz),q+i=s.length→Sx i out→∃r,dB s i out=some r∧Sx 4 r:=by
 intro q
 induction q with
 |zero=>
  intro i out hi ho
  rw[oK,kC]
  by_cases hg:(s.length:Int)>1
  ·rw[cZ hg,az (by omega)];exact⟨out,rfl,by have:=ho.1;omega,ho.2⟩
  ·rw[c8 hg];exact⟨out,rfl,by have:=ho.1;omega,ho.2⟩
 |succ q ih=>
  intro i out hi ho
  have h0:=ho.1
  obtain⟨w,h1,h2⟩:=aeH hs (i:Int)
  rw[oK,kC]
  by_cases hg:(s.length:Int)>1
  ·rw[cZ hg,aB (by omega),h1,bS,kg (by omega) (by omega),cq (by omega)]
   exact ih (i+1) _ (by omega) ⟨by simp;omega,Sx.snoc (n:=0) (m:=0) ho.2 h2⟩
  ·rw[c8 hg];exact⟨out,rfl,by omega,ho.2⟩
theorem Na {s:List Int}(hs:s.length≤4):∃r,b7 s=some r∧Sx 4 r:=by
 rw[B0,uO]
 exact acR hs s.length 0 [] (by omega) ⟨by simp,by simp⟩
theorem aeI {s:List Int}(hs:s.length≤4):∀(q i:Nat),q+i=s.length→1≤i→∃r,eg s i=some r:=by
 intro q
 induction q with
 |zero=>intro i hi h1;rw[pR,ma,az (by omega)];exact⟨_,rfl⟩
 |succ q ih=>
  intro i hi h1
  have e1:IntKind.wrap .i64 ((i:Int) - 1)=((i - 1:Nat):Int):=by rw[i64_in _ (by omega)];omega
  rw[pR,ma,aB (by omega),eL (by omega) (by omega),e1,eL (by omega) (by omega),cq (by omega)]
  cases decide (s.getD (i:Int).toNat 0≤s.getD ((i - 1:Nat):Int).toNat 0) with
  |true=>exact⟨_,rfl⟩
  |false=>rw[cF];exact ih (i+1) (by omega) (by omega)
theorem aeJ {s:List Int}(hs:s.length≤4)(h0:s.length≠0):∀(q i:Nat),q+i=s.length→∃r,ef s i=some r:=by
 intro q
 induction q with
 |zero=>
  intro i hi
  have e1:((1:Nat):Int)=1:=rfl
  have:=aeI hs (s.length - 1) 1 (by omega) (by omega)
  rw[e1] at this
  rw[pQ,l9,az (by omega)]
  exact this
 |succ q ih=>
  intro i hi
  rw[pQ,l9,aB (by omega),eL (by omega) (by omega),eL (by omega) (by omega),cq (by omega)]
  cases decide (s.getD (i:Int).toNat 0<0) with
  |true=>exact⟨_,rfl⟩
  |false=>
   rw[cF]
   cases decide (s.getD (i:Int).toNat 0≥64) with
   |true=>exact⟨_,rfl⟩
   |false=>rw[cF];exact ih (i+1) (by omega)
theorem WX {s:List Int}(hs:s.length≤4):∃r,gE s=some r:=by
 rw[Db,wG]
 by_cases h:(s.length:Int)=0
 ·rw[ur h];exact⟨_,rfl⟩
 ·rw[ko h,c8 (by omega)]
  exact aeJ hs (by omega) s.length 0 (by omega)
theorem aaD {l:Hz}(hl:Sx 800 l){s:List Int}:∀(q i:Nat),q+i=l.length→∃r,ir l s i=some r:=by
 have hll:=hl.1
 intro q
 induction q with
 |zero=>intro i hi;rw[zb,ry,az (by omega)];exact⟨_,rfl⟩
 |succ q ih=>
  intro i hi
  obtain⟨r,hr⟩:=M9 (a:=l.getD i []) (b:=s) (by have:=hl.getD (show i<l.length by omega);omega)
  rw[zb,ry,aB (by omega),vK (by omega),hr,bS,cq (by omega)]
  cases (r==0) with
  |true=>exact⟨_,rfl⟩
  |false=>rw[cF];exact ih (i+1) (by omega)
theorem aeK {l f:Hz}(hl:Sx 800 l)(hf:Sx 4 f){i:Nat}(hi:i<l.length)(nxt:∃r,fE l ((i+1:Nat):Int)=some r):∀(q k:Nat),q+k=f.length→∃r,im l i f k=some r:=by
 have hll:=hl.1
 have Td:=hf.1
 intro q
 induction q with
 |zero=>intro k hk;rw[za,rm,az (by omega),cq (by omega)];exact nxt
 |succ q ih=>
  intro k hk
  have e0:((0:Nat):Int)=0:=rfl
  obtain⟨r,hr⟩:=aaD hl (s:=f.getD k []) l.length 0 (by omega)
  rw[e0] at hr
  rw[za,rm,aB (by omega),vK (by omega),Nv,E3,hr,bS,cq (by omega)]
  cases decide (r<0) with
  |true=>exact⟨_,rfl⟩
  |false=>rw[cF];exact ih (k+1) (by omega)
theorem aeM {l:Hz}(hl:Sx 800 l):∀(q i:Nat),q+i=l.length→∃r,fE l i=some r:=by
 have hll:=hl.1
 intro q
 induction q with
 |zero=>intro i hi;rw[y9,rl,az (by omega)];exact⟨_,rfl⟩
 |succ q ih=>
  intro i hi
  have hg:=hl.getD (show i<l.length by omega)
  have nxt:=ih (i+1) (by omega)
  obtain⟨r1,h1⟩:=WX hg
  obtain⟨f,h2,h3⟩:=Na hg
  have hL:=aeK hl h3 (show i<l.length by omega) nxt f.length 0 (by omega)
  have e0:((0:Nat):Int)=0:=rfl
  rw[e0] at hL
  have hb:∀{β:Type} {g:List Int→Option β},(idx l (i:Int)).bind g=g (l.getD i []):=vK (by omega)
  rw[y9,rl,aB (by omega),hb,h1,bS]
  cases (r1 != 0) with
  |true=>exact⟨_,rfl⟩
  |false=>
   rw[cF]
   by_cases hi0:(i:Int)>0
   ·have e1:IntKind.wrap .i64 ((i:Int) - 1)=((i - 1:Nat):Int):=by rw[i64_in _ (by omega)];omega
    obtain⟨r4,h4⟩:=M9 (a:=l.getD i []) (b:=l.getD (i - 1) []) (by omega)
    rw[cZ hi0,hb,e1,vK (by omega),h4,bS]
    cases (r4==0) with
    |true=>exact⟨_,rfl⟩
    |false=>
     rw[cF,cZ hi0,hb,vK (by omega),h4,bS]
     cases decide (r4<0) with
     |true=>exact⟨_,rfl⟩
     |false=>rw[cF,hb,h2,bS];exact hL
   ·rw[c8 hi0,c8 hi0,hb,h2,bS]
    exact hL
theorem aeN {l:Hz}(hl:Sx 800 l):∃r,tN l=some r:=by
 rw[Nu,E2]
 by_cases h:(l.length:Int)>1024
 ·rw[cZ h];exact⟨_,rfl⟩
 ·rw[c8 h];exact aeM hl l.length 0 (by omega)
end Go.Proofs.YtofjebmoebhiiaaGreatDoor.Ev
namespace Go.Abs
abbrev Ce:=List Int×ByteArray×Unit
abbrev XK:Ce:=([],(ByteArray.empty,()))
abbrev W7:=Nat×ByteArray×Unit
abbrev IZ:W7:=(0,(ByteArray.empty,()))
abbrev tCe:Ty:= .st (.pair (.slice (.int .i64)) (.pair (.str) (.unit)))
abbrev aoz:Ty:= .st (.pair (.ref 4) (.pair (.str) (.unit)))
theorem MD {α:Type}{xs ys:List (Option (List α))}{n:Nat}{l:List α}(h:af xs n=some l):af (xs++ys) n=some l:=by
 cases n with
 |zero=>exact h
 |succ m=>
  simp only[af] at h ⊢
  cases hx:xs[m]? with
  |none=>rw[hx] at h;cases h
  |some o=>
   rw[hx] at h
   rw[List.getElem?_append_left (List.getElem?_eq_some_iff.1 hx).1,hx]
   exact h
theorem kq {α:Type}{xs:List (Option (List α))}{l:List α}:af (xs++[some l]) (xs.length+1)=some l:=by simp[af]
theorem aeO {α:Type}{xs:List (Option (List α))}{y:Option (List α)}:ix (xs++[y]) (xs.length+1)=xs++[none]:=by simp[ix]
theorem amj {α:Type}{xs:List (Option (List α))}{n:Nat}{l:List α}(h:af xs n=some l)(hn:n≠0):∃m,n=m+1∧m<xs.length:=by
 cases n with
 |zero=>exact absurd rfl hn
 |succ m=>
  simp only[af] at h
  cases hx:xs[m]? with
  |none=>rw[hx] at h;cases h
  |some o=>exact⟨m,rfl,(List.getElem?_eq_some_iff.1 hx).1⟩
theorem tY {α:Type}{xs:List (Option (List α))}{n:Nat}{l l':List α}(h:af xs n=some l)(hn:n≠0):af (b9 xs n l') n=some l':=by
 obtain⟨m,rfl,hm⟩:=amj h hn
 simp[af,b9,hm]
theorem aaE {α:Type}{xs:List (Option (List α))}{n:Nat}{l:List α}(h:af xs n=some l)(hl:l≠ []):n≠0:=fun e=>by
 subst e
 simp only[af,Option.some.injEq] at h
 exact hl h.symm
theorem ME {α β:Type}{f:α→Option β}{g:α→β}:∀ys:List α,(∀y∈ys,f y=some (g y))→mP f ys=some (ys.map g)
 | [],_=>rfl
 |a::r,h=>by rw[mP,h a (by simp),ME r fun y hy=>h y (by simp[hy])];rfl
theorem Y2 {ag:List bK}{hp:List (Option (List Int))}(h4:ag[4]? =some ⟨3, .int .i64,0,true,hp⟩){n:Nat}{l:List Int}(hg:af hp n=some l)(r:List CV):snap ag (.slice (.int .i64)) (⟨.ref 4,n⟩::r)=some (l,r):=by
 unfold snap OR
 simp only
 rw[h4]
 simp only
 cases n with
 |zero=>
  have:l=[]:=by simpa [af] using hg.symm
  subst this
  rfl
 |succ k=>
  have hb:Nat.beq (k+1) 0=false:=rfl
  rw[hb,hg]
  simp only[cond_false,Option.bind_some]
  rw[MC (fun y=>by rfl)]
  rfl
theorem WY {ag:List bK}{hp:List (Option (List Int))}(h4:ag[4]? =some ⟨3, .int .i64,0,true,hp⟩){n:Nat}{l:List Int}(hg:af hp n=some l):typed ag (.slice (.int .i64)) (.rv (.cv ⟨.ref 4,n⟩))=some l:=by
 unfold typed
 simp only
 unfold va
 rw[Y2 h4 hg]
theorem aeP {ag:List bK}{aH:List (Option (List Int))}{lL:List (Option (List W7))}(h4:ag[4]? =some ⟨3, .int .i64,0,true,aH⟩)(h8:ag[8]? =some ⟨101,aoz,0,true,lL⟩){n:Nat}{rows:List W7}(hg:af lL n=some rows)
  (hr:∀x∈rows,∃s,af aH x.1=some s):typed ag (.slice tCe) (.rv (.cv ⟨.ref 8,n⟩))=some (rows.map fun x=>((af aH x.1).getD [],(x.2.1,()))):=by
 unfold typed
 simp only
 unfold va snap OR
 simp only
 rw[h8]
 simp only
 cases n with
 |zero=>
  have:rows=[]:=by simpa [af] using hg.symm
  subst this
  rfl
 |succ k=>
  have hb:Nat.beq (k+1) 0=false:=rfl
  rw[hb,hg]
  simp only[cond_false,Option.bind_some]
  rw[ME (g:=fun x:W7=>((af aH x.1).getD [],(x.2.1,()))) rows (fun y hy=>by
   obtain⟨s,hs⟩:=hr y hy
   obtain⟨a,b,u⟩:=y
   have e:snap ag tCe (flat aoz ((a,(b,u)):W7))=some ((s,(b,())),[]):=by
    have e0:flat aoz ((a,(b,u)):W7)=[⟨.ref 4,a⟩,⟨.str,b⟩]:=rfl
    rw[e0,snap,snap,Y2 h4 hs]
    rfl
   rw[e,hs]
   rfl)]
  rfl
end Go.Abs
namespace Go.Proofs.YtofjebmoebhiiaaGreatDoor.Ev
open Go.Abs Go.IntWalk
theorem acS:((List.range 24).all fun i=>match Aj 400 ((i:Int) - 8) 4 with
  |some s=>zE s&&Nat.ble s.size 20
  |none=>false)=true:=by kernel_rfl
def At (s:ByteArray):Prop:=zE s=true∧s.size≤20
theorem acT (n:Int):∃s,tK n=some s∧At s:=by
 have h1:=Int.tmod_lt_of_pos n (show (0:Int)<24 by omega)
 have h2:=Int.lt_tmod_of_pos n (show (0:Int)<24 by omega)
 rw[Nx,E6]
 rw[i64_in (n.tmod 24+24) (by omega),bT (by omega)]
 have h3:=Int.emod_nonneg (n.tmod 24+24) (show (24:Int)≠0 by omega)
 have h4:=Int.emod_lt_of_pos (n.tmod 24+24) (show (0:Int)<24 by omega)
 rw[i64_in _ (by omega)]
 obtain⟨i,hi⟩:=Int.eq_ofNat_of_zero_le h3
 rw[hi]
 have ht:=List.all_eq_true.1 acS i (List.mem_range.2 (by omega))
 rw[JU] at ht
 cases hf:il ((i:Int) - 8) 4 with
 |none=>rw[hf] at ht;cases ht
 |some s=>
  rw[hf] at ht
  simp only[Bool.and_eq_true] at ht
  exact⟨s,by rw[bS],ht.1,Nat.le_of_ble_eq_true ht.2⟩
def Cs (l:List Ce):Prop:=l.length≤800∧∀x∈l,x.1.length≤4∧At x.2.1
def Cr (aH:List (Option (List Int)))(rows:List W7):Prop:=∀x∈rows,(∃s,af aH x.1=some s∧s.length≤4)∧At x.2.1
theorem Cr.append {aH ys:List (Option (List Int))}{rows:List W7}(h:Cr aH rows):Cr (aH++ys) rows:=fun x hx=>by
 obtain⟨⟨s,h1,h2⟩,h3⟩:=h x hx
 exact⟨⟨s,MD h1,h2⟩,h3⟩
theorem acU {l:List Ce}(hl:Cs l):∀(q i out:Nat) (aH:List (Option (List Int))) (lL:List (Option (List W7))) (rows:List W7),q+i=l.length→af lL out=some rows→rows.length=i→Cr aH rows→
  ∃out' DY P8 zG,gF l out i aH lL=some (out',(P8,DY))∧af P8 out'=some zG∧zG.length=l.length∧Cr DY zG:=by
 have hll:=hl.1
 intro q
 induction q with
 |zero=>
  intro i out aH lL rows hi hg hr hc
  rw[xz,pZ,az (by omega)]
  exact⟨_,_,_,rows,rfl,hg,by omega,hc⟩
 |succ q ih=>
  intro i out aH lL rows hi hg hr hc
  obtain⟨hx1,hx2⟩:=hl.2 _ (b6 (d:=XK) (show i<l.length by omega))
  have hb:∀{β:Type} {f:Ce→Option β},(idx l (i:Int)).bind f=f (l.getD i XK):=iT XK (by omega)
  rw[xz,pZ,aB (by omega),hb,kq,bS,List.length_nil,kg (by omega) (by omega),cq (by omega)]
  generalize l.getD i XK=x at hx1 hx2 hb ⊢
  cases he:x.1.isEmpty with
  |true=>
   rw[cT,hb]
   simp only
   have h1:af (lL++[some [((aH.length+1:Nat),(x.2.1,()))]]) out=some rows:=MD hg
   rw[h1,bS,kq,bS,List.length_singleton,kg (by omega) (by omega)]
   have e1:([((aH.length+1:Nat),(x.2.1,()))]:List W7).isEmpty=false:=rfl
   rw[e1,cF]
   exact ih (i+1) _ _ _ (rows++[((aH.length+1:Nat),(x.2.1,()))]) (by omega) kq (by simp;omega) (fun y hy=>by
    rcases List.mem_append.1 hy with hy |hy
    ·exact hc.append y hy
    ·rw[List.mem_singleton.1 hy]
     exact⟨⟨[],kq,by simp⟩,hx2⟩)
  |false=>
   rw[cF,hb]
   simp only
   rw[aeO,List.length_append,List.length_singleton]
   have h1:af (lL++[some [((aH.length+1+1:Nat),(x.2.1,()))]]) out=some rows:=MD hg
   rw[h1,bS,kq,bS,List.length_singleton,kg (by omega) (by omega)]
   have e1:([((aH.length+1+1:Nat),(x.2.1,()))]:List W7).isEmpty=false:=rfl
   rw[e1,cF]
   have h2:af (aH++[none]++[some ([]++x.1)]) (aH.length+1+1)=some ([]++x.1):=by
    have:=kq (xs:=aH++[none]) (l:=[]++x.1)
    rw[List.length_append,List.length_singleton] at this
    exact this
   exact ih (i+1) _ _ _ (rows++[((aH.length+1+1:Nat),(x.2.1,()))]) (by omega) kq (by simp;omega) (fun y hy=>by
    rcases List.mem_append.1 hy with hy |hy
    ·rw[List.append_assoc];exact hc.append y hy
    ·rw[List.mem_singleton.1 hy]
     exact⟨⟨_,h2,by simpa using hx1⟩,hx2⟩)
theorem acV {l:List Ce}(hl:Cs l):∃out' DY P8 zG,sg l [] []=some (out',(P8,DY))∧af P8 out'=some zG∧zG.length=l.length∧Cr DY zG:=by
 rw[LW,Dk]
 exact acU hl l.length 0 0 [] [] [] (by omega) rfl rfl (fun x hx=>by cases hx)
end Go.Proofs.YtofjebmoebhiiaaGreatDoor.Ev
namespace Go.Proofs.YtofjebmoebhiiaaGreatDoor.Ev
open Go.Abs Go.IntWalk
theorem akD {a b:ByteArray}(ha:At a)(hb:At b):∃r,bD a b=some r:=by
 obtain⟨n,d,h⟩:=IW.1 ha.1
 obtain⟨m,k,g⟩:=IW.1 hb.1
 exact⟨_,RG h g (by have:=ha.2;omega) (by have:=hb.2;omega)⟩
theorem Cr.set {aH:List (Option (List Int))}{rows:List W7}(h:Cr aH rows){x:W7}(hx:(∃s,af aH x.1=some s∧s.length≤4)∧At x.2.1)(k:Nat):Cr aH (rows.set k x):=fun y hy=>by
 rcases List.mem_or_eq_of_mem_set hy with hy |rfl
 ·exact h y hy
 ·exact hx
theorem aaF {out:Nat}{i:Int}{aH:List (Option (List Int))}{n:Nat}(hn:n≤800):∀(k:Nat) (lL:List (Option (List W7))) (rows:List W7),af lL out=some rows→rows.length=n→k<n→Cr aH rows→
  ∃P8 zG,eS out i k aH lL=dC out (IntKind.wrap .i64 (i+1)) aH P8∧af P8 out=some zG∧zG.length=n∧Cr aH zG:=by
 intro k
 induction k with
 |zero=>
  intro lL rows hg hr hk hc
  rw[xy,pX,c8 (by omega)]
  exact⟨lL,rows,rfl,hg,hr,hc⟩
 |succ k ih=>
  intro lL rows hg hr hk hc
  have e1:IntKind.wrap .i64 (((k+1:Nat):Int) - 1)=(k:Int):=by rw[i64_in _ (by omega)];omega
  have hne:rows≠ []:=fun e=>by rw[e] at hr;simp at hr;omega
  have hout:=aaE hg hne
  have b1:∀{β:Type} {f:W7→Option β},(idx rows ((k+1:Nat):Int)).bind f=f (rows.getD (k+1) IZ):=iT IZ (by omega)
  have b2:∀{β:Type} {f:W7→Option β},(idx rows (k:Int)).bind f=f (rows.getD k IZ):=iT IZ (by omega)
  have g1:rows[((k+1:Nat):Int).toNat]? =some (rows.getD (k+1) IZ):=by rw[Int.toNat_natCast];simp[List.getD,show k+1<rows.length by omega]
  have g2:rows[((k:Nat):Int).toNat]? =some (rows.getD k IZ):=by rw[Int.toNat_natCast];simp[List.getD,show k<rows.length by omega]
  obtain⟨⟨s1,p1,q1⟩,a1⟩:=hc _ (b6 (d:=IZ) (show k+1<rows.length by omega))
  obtain⟨⟨s2,p2,q2⟩,a2⟩:=hc _ (b6 (d:=IZ) (show k<rows.length by omega))
  obtain⟨r,au3⟩:=akD a1 a2
  -- Oa exchange
  have swap:∃P8 zG,((af lL out).bind fun v30=>(idx v30 (k:Int)).bind fun _=>(af lL out).bind fun v31=>(v31[(k:Int).toNat]?).bind fun Xu=>(af lL out).bind fun v33=>(idx v33 ((k+1:Nat):Int)).bind fun _=>(af lL out).bind fun v34=>(v34[((k+1:Nat):Int).toNat]?).bind fun v35=>(af lL out).bind fun v36=>(idx v36 ((k+1:Nat):Int)).bind fun _=>(af lL out).bind fun v37=>(v37[((k+1:Nat):Int).toNat]?).bind fun v38=>
    let e39:List (Option (List (Nat×ByteArray×Unit))):=(b9 lL out (v37.set ((k+1:Nat):Int).toNat (Xu.1,(Xu.2.1,()))))
    (af e39 out).bind fun ZO=>(idx ZO (k:Int)).bind fun _=>(af e39 out).bind fun v41=>(v41[(k:Int).toNat]?).bind fun v42=>
    let e43:List (Option (List (Nat×ByteArray×Unit))):=(b9 e39 out (v41.set (k:Int).toNat (v35.1,(v35.2.1,()))))
    eS out i (k:Int) aH e43)=dC out (IntKind.wrap .i64 (i+1)) aH P8∧af P8 out=some zG∧zG.length=n∧Cr aH zG:=by
   rw[hg,bS,b2,bS,g2,bS,bS,b1,bS,g1,bS,bS,b1,bS,g1,bS]
   simp only
   have hs:=tY (l':=rows.set ((k+1:Nat):Int).toNat ((rows.getD k IZ).1,((rows.getD k IZ).2.1,()))) hg hout
   have hl:(rows.set ((k+1:Nat):Int).toNat ((rows.getD k IZ).1,((rows.getD k IZ).2.1,()))).length=n:=by rw[List.length_set];exact hr
   have hc1:Cr aH (rows.set ((k+1:Nat):Int).toNat ((rows.getD k IZ).1,((rows.getD k IZ).2.1,()))):=hc.set ⟨⟨s2,p2,q2⟩,a2⟩ _
   generalize rows.set ((k+1:Nat):Int).toNat ((rows.getD k IZ).1,((rows.getD k IZ).2.1,()))=R at hs hl hc1 ⊢
   have g3:R[((k:Nat):Int).toNat]? =some (R.getD k IZ):=by rw[Int.toNat_natCast];simp[List.getD,show k<R.length by omega]
   rw[hs,bS,iT IZ (by omega),bS,g3,bS]
   exact ih _ _ (tY hs hout) (by rw[List.length_set];exact hl) (by omega) (hc1.set ⟨⟨s1,p1,q1⟩,a1⟩ _)
  rw[xy,pX,cZ (by omega),e1]
  have pre:∀{β:Type} {f:W7→W7→Option β},((af lL out).bind fun v0=>(idx v0 ((k+1:Nat):Int)).bind fun _=>(af lL out).bind fun v1=>(v1[((k+1:Nat):Int).toNat]?).bind fun v2=>(af lL out).bind fun v3=>(idx v3 (k:Int)).bind fun _=>(af lL out).bind fun v4=>(v4[(k:Int).toNat]?).bind fun v5=>f v2 v5)=f (rows.getD (k+1) IZ) (rows.getD k IZ):=fun {β f}=>by
   rw[hg,bS,b1,bS,g1,bS,bS,b2,bS,g2,bS]
  rw[pre,au3,bS]
  cases decide (r>0) with
  |true=>rw[cT];exact⟨lL,rows,rfl,hg,hr,hc⟩
  |false=>
   rw[cF]
   cases (r==0) with
   |true=>
    rw[cT,pre,WY rfl p1,bS,WY rfl p2,bS]
    obtain⟨r2,hc2⟩:=M9 (a:=s1) (b:=s2) (by omega)
    rw[hc2,bS]
    cases decide (r2>0) with
    |true=>rw[cT];exact⟨lL,rows,rfl,hg,hr,hc⟩
    |false=>rw[cF];exact swap
   |false=>rw[cF];exact swap
theorem aaG {out:Nat}{aH:List (Option (List Int))}{n:Nat}(hn:n≤800):∀(q i:Nat) (lL:List (Option (List W7))) (rows:List W7),af lL out=some rows→rows.length=n→q+i=n→Cr aH rows→
  ∃r,dC out i aH lL=some r∧r.length=n∧∀x∈r,x.1.length≤4∧At x.2.1:=by
 intro q
 induction q with
 |zero=>
  intro i lL rows hg hr hi hc
  rw[xx,pW,hg,bS,az (by omega),aeP rfl rfl hg (fun x hx=>by obtain⟨⟨s,h1,_⟩,_⟩:=hc x hx;exact⟨s,h1⟩),bS]
  refine⟨_,rfl,by simpa using hr,fun x hx=> ?_⟩
  obtain⟨y,hy,rfl⟩:=List.mem_map.1 hx
  obtain⟨⟨s,h1,h2⟩,h3⟩:=hc y hy
  simp only[h1,Option.getD_some]
  exact⟨h2,h3⟩
 |succ q ih=>
  intro i lL rows hg hr hi hc
  obtain⟨P8,zG,h1,h2,h3,h4⟩:=aaF (i:=(i:Int)) hn i lL rows hg hr (by omega) hc
  rw[xx,pW,hg,bS,aB (by omega),h1,cq (by omega)]
  exact ih (i+1) P8 zG h2 h3 (by omega) h4
theorem acW {l:List Ce}(hl:Cs l):∃r,sf l=some r∧Cs r:=by
 obtain⟨out',DY,P8,zG,h1,h2,h3,h4⟩:=acV hl
 have hll:=hl.1
 obtain⟨r,g1,g2,g3⟩:=aaG (n:=l.length) hll l.length 0 P8 zG h2 h3 (by omega) h4
 rw[LV,Di,h1,bS]
 exact⟨r,g1,by omega,g3⟩
def Ats (n:Nat)(l:List ByteArray):Prop:=l.length=n∧∀s∈l,At s
theorem af5 {β:Type}{xs:List ByteArray}{k:Nat}{f:ByteArray→Option β}(h:k<xs.length):(idx xs (k:Int)).bind f=f (xs.getD k ByteArray.empty):=iT _ h
theorem amk {l:Hz}(hl:Sx 800 l){values:List ByteArray}(hv:Ats l.length values){i:Nat}(hi:i<l.length)(nxt:∀out:List Ce,out.length=i+1→(∀x∈out,x.1.length≤4∧At x.2.1)→∃r e,iZ l values ((i+1:Nat):Int) out=some (r,e)∧Cs r):
  ∀(q k:Nat) (a:ByteArray) (out:List Ce),q+k=l.length→At a→out.length=i→(∀x∈out,x.1.length≤4∧At x.2.1)→∃r e,kW l values i a k out=some (r,e)∧Cs r:=by
 have hll:=hl.1
 have hvl:=hv.1
 intro q
 induction q with
 |zero=>
  intro k a out hk ha ho hx
  rw[Dg,wN,az (by omega),vK hi]
  simp only
  rw[kg (by omega) (by omega),cq (by omega)]
  refine nxt _ (by simp;omega) fun x hx'=> ?_
  rcases List.mem_append.1 hx' with h |h
  ·exact hx x h
  ·rw[List.mem_singleton.1 h];exact⟨hl.getD hi,ha⟩
 |succ q ih=>
  intro k a out hk ha ho hx
  have hk':k<l.length:=by omega
  have hg1:=hl.getD hi
  have hg2:=hl.getD hk'
  obtain⟨b,hb⟩:=aoy (a:=l.getD i []) (b:=l.getD k []) (by omega) (by omega)
  have hat:At (values.getD k ByteArray.empty):=hv.2 _ (b6 (by omega))
  obtain⟨r,hr⟩:=akD hat ha
  rw[Dg,wN,aB (by omega),vK hi,vK hk',hb,bS,cq (by omega)]
  cases b with
  |true=>
   rw[cT,af5 (by omega),hr,bS]
   cases decide (r>0) with
   |true=>rw[cT,af5 (by omega)];exact ih (k+1) _ out (by omega) hat ho hx
   |false=>rw[cF];exact ih (k+1) a out (by omega) ha ho hx
  |false=>rw[cF];exact ih (k+1) a out (by omega) ha ho hx
theorem aml {l:Hz}(hl:Sx 800 l){values:List ByteArray}(hv:Ats l.length values):∀(q i:Nat) (out:List Ce),q+i=l.length→out.length=i→(∀x∈out,x.1.length≤4∧At x.2.1)→∃r e,iZ l values i out=some (r,e)∧Cs r:=by
 have hll:=hl.1
 have hvl:=hv.1
 intro q
 induction q with
 |zero=>
  intro i out hi ho hx
  obtain⟨r,h1,h2⟩:=acW (l:=out) ⟨by omega,hx⟩
  rw[Df,wM,az (by omega),h1,bS]
  exact⟨r,0,rfl,h2⟩
 |succ q ih=>
  intro i out hi ho hx
  have e0:((0:Nat):Int)=0:=rfl
  have:=amk hl hv (show i<l.length by omega) (fun o h1 h2=>ih (i+1) o (by omega) h1 h2) l.length 0 (values.getD i ByteArray.empty) out (by omega) (hv.2 _ (b6 (by omega))) ho hx
  rw[e0] at this
  rw[Df,wM,aB (by omega),af5 (by omega)]
  exact this
theorem amm {l:Hz}(hl:Sx 800 l){values:List ByteArray}(hv:Ats l.length values):∀(q i:Nat),q+i=l.length→∃r e,kV l values i=some (r,e)∧Cs r:=by
 have hll:=hl.1
 have hvl:=hv.1
 intro q
 induction q with
 |zero=>
  intro i hi
  have e0:((0:Nat):Int)=0:=rfl
  have:=aml hl hv l.length 0 [] (by omega) rfl (fun x hx=>by cases hx)
  rw[e0] at this
  rw[De,wJ,az (by omega)]
  exact this
 |succ q ih=>
  intro i hi
  have hat:At (values.getD i ByteArray.empty):=hv.2 _ (b6 (by omega))
  rw[De,wJ,aB (by omega),af5 (by omega),P6 (by have:=hat.2;omega),bS,hat.1,Bool.not_true,cF,cq (by omega)]
  exact ih (i+1) (by omega)
theorem Cs.nil:Cs []:=⟨by simp,fun x hx=>by cases hx⟩
theorem amn {l:Hz}(hl:Sx 800 l){values:List ByteArray}(hv:Ats l.length values):∃r e,Ba l values=some (r,e)∧Cs r:=by
 obtain⟨e,he⟩:=aeN hl
 have hvl:=hv.1
 rw[SL,Kj,he,bS]
 by_cases h:e=0
 ·rw[pe h,pe (by omega)]
  exact amm hl hv l.length 0 (by omega)
 ·rw[Cj h];exact⟨[],e,rfl,Cs.nil⟩
theorem aaH {values:List Int}(hvl:values.length≤1000000000000000000){c:Hz}(hc:Sx 800 c):∀(q i:Nat) (a:List ByteArray),q+i=c.length→Ats i a→∃r,ib values c i a=some r∧Cs r:=by
 have hcl:=hc.1
 intro q
 induction q with
 |zero=>
  intro i a hi ha
  obtain⟨r,e,h1,h2⟩:=amn hc (values:=a) ⟨by have:=ha.1;omega,ha.2⟩
  rw[zc,rA,az (by omega),h1,bS]
  exact⟨r,rfl,h2⟩
 |succ q ih=>
  intro i a hi ha
  have hal:=ha.1
  have push:∀s,At s→Ats (i+1) (a++[s]):=fun s hs=>⟨by simp;omega,fun x hx=>by
   rcases List.mem_append.1 hx with h |h
   ·exact ha.2 x h
   ·rw[List.mem_singleton.1 h];exact hs⟩
  rw[zc,rA,aB (by omega),cq (by omega)]
  by_cases hv:(values.length:Int)>0
  ·have h1:=Int.emod_nonneg (i:Int) (show (values.length:Int)≠0 by omega)
   have h2:=Int.emod_lt_of_pos (i:Int) hv
   have e:(i:Int).tmod (values.length:Int)=(i:Int) % (values.length:Int):=bT (by omega)
   rw[cZ hv,j5 (by omega),e,eL h1 h2,j5 (by omega)]
   obtain⟨s,h3,h4⟩:=acT (IntKind.wrap .i64 (values.getD ((i:Int) % (values.length:Int)).toNat 0+IntKind.wrap .i64 ((i:Int).tdiv (values.length:Int))))
   simp only
   rw[h3,bS,kg (by omega) (by omega)]
   exact ih (i+1) _ (by omega) (push s h4)
  ·obtain⟨s,h3,h4⟩:=acT (i:Int)
   rw[c8 hv,h3,bS,kg (by omega) (by omega)]
   exact ih (i+1) _ (by omega) (push s h4)
theorem aeQ {l:Hz}(hl:l.length≤1000000)(hs:∀s∈l,s.length≤1000000000000000000){values:List Int}(hv:values.length≤1000000000000000000):∃r,tE l values 5 3 6=some r∧Cs r:=by
 obtain⟨c,h1,h2⟩:=aeF hl hs
 obtain⟨c2,h3,h4⟩:=akC h2
 rw[Nw,E5,h1,bS,h3,bS]
 exact aaH hv h4 c2.length 0 [] (by omega) ⟨rfl,fun s hs=>by cases hs⟩
theorem I0 {β:Type}{xs:List Ce}{k:Nat}{f:Ce→Option β}(h:k<xs.length):(idx xs (k:Int)).bind f=f (xs.getD k XK):=iT XK h
theorem aaI {f:List Ce}(hf:Cs f){n:Nat}(hn:n≤f.length){s:List Int}:∀(q i:Nat),q+i=n→∃r,ed f n s i=some r:=by
 have Td:=hf.1
 intro q
 induction q with
 |zero=>intro i hi;rw[pY,mj,az (by omega)];exact⟨_,rfl⟩
 |succ q ih=>
  intro i hi
  have hg:=(hf.2 _ (b6 (d:=XK) (show i<f.length by omega))).1
  obtain⟨r,hr⟩:=M9 (a:=(f.getD i XK).1) (b:=s) (by omega)
  rw[pY,mj,aB (by omega),I0 (by omega),hr,bS,cq (by omega)]
  cases (r==0) with
  |true=>exact⟨_,rfl⟩
  |false=>rw[cF];exact ih (i+1) (by omega)
theorem WZ {f:List Ce}(hf:Cs f){n:Nat}(hn:n≤f.length)(s:List Int):∃r,gw f n s=some r:=by
 rw[Dj,wQ]
 exact aaI hf hn n 0 (by omega)
theorem ahV {f:List Ce}(hf:Cs f){i:Nat}(hi:i<f.length):∃r,mM f i=some r:=by
 obtain⟨h1,h2⟩:=hf.2 _ (b6 (d:=XK) hi)
 obtain⟨r1,e1⟩:=WX h1
 obtain⟨r2,e2⟩:=WZ hf (show i≤f.length by omega) (f.getD i XK).1
 rw[E7,zd,I0 hi,e1,bS]
 cases (r1 != 0) with
 |true=>exact⟨_,rfl⟩
 |false=>
  rw[cF,I0 hi,P6 (by have:=h2.2;omega),bS,h2.1,Bool.not_true,cF,I0 hi,e2,bS]
  cases decide (r2≥0)<;>exact⟨_,rfl⟩
theorem aeR {f:List Ce}(hf:Cs f){i:Nat}(hi:i<f.length){fc:Hz}(hfc:Sx 4 fc)(nxt:∃r,dg f ((i+1:Nat):Int)=some r):∀(q k:Nat),q+k=fc.length→∃r,d7 f i fc k=some r:=by
 have Td:=hf.1
 have hcl:=hfc.1
 intro q
 induction q with
 |zero=>
  intro k hk
  rw[pV,mh,az (by omega),cq (by omega)]
  by_cases h:(i:Int)>0
  ·have e1:IntKind.wrap .i64 ((i:Int) - 1)=((i - 1:Nat):Int):=by rw[i64_in _ (by omega)];omega
   obtain⟨r,hr⟩:=akD (hf.2 _ (b6 (d:=XK) hi)).2 (hf.2 _ (b6 (d:=XK) (show i - 1<f.length by omega))).2
   rw[cZ h,I0 hi,e1,I0 (by omega),hr,bS]
   cases decide (r<0) with
   |true=>exact⟨_,rfl⟩
   |false=>rw[cF];exact nxt
  ·rw[c8 h];exact nxt
 |succ q ih=>
  intro k hk
  obtain⟨r,hr⟩:=WZ hf (show i≤f.length by omega) (fc.getD k [])
  rw[pV,mh,aB (by omega),vK (by omega),hr,bS,cq (by omega)]
  cases decide (r<0) with
  |true=>exact⟨_,rfl⟩
  |false=>rw[cF];exact ih (k+1) (by omega)
theorem aeS {f:List Ce}(hf:Cs f):∀(q i:Nat),q+i=f.length→∃r,dg f i=some r:=by
 have Td:=hf.1
 intro q
 induction q with
 |zero=>intro i hi;rw[pU,mf,az (by omega)];exact⟨_,rfl⟩
 |succ q ih=>
  intro i hi
  have hi':i<f.length:=by omega
  obtain⟨r1,e1⟩:=ahV hf hi'
  obtain⟨fc,e2,h2⟩:=Na (hf.2 _ (b6 (d:=XK) hi')).1
  have e0:((0:Nat):Int)=0:=rfl
  have:=aeR hf hi' h2 (ih (i+1) (by omega)) fc.length 0 (by omega)
  rw[e0] at this
  rw[pU,mf,aB (by omega),e1,bS]
  cases (r1 != 0) with
  |true=>exact⟨_,rfl⟩
  |false=>rw[cF,I0 hi',e2,bS];exact this
theorem aeT {f:List Ce}(hf:Cs f):∃r,kX f=some r:=by
 have Td:=hf.1
 rw[Dh,wP,c8 (by omega)]
 exact aeS hf f.length 0 (by omega)
end Go.Proofs.YtofjebmoebhiiaaGreatDoor.Ev
namespace Go.Abs
abbrev tTm:Ty:= .st (.pair (.int .i64) (.pair (.int .i64) .unit))
abbrev tCl:Ty:= .st (.pair (.int .i64) (.pair (.str) (.pair (.slice tTm) (.unit))))
abbrev tCh:Ty:= .st (.pair (.int .i64) (.pair (.slice tCl) (.unit)))
theorem amo (ag:List bK)(y:Cl):snap ag tCl (flat tCl y)=some (y,[]):=by
 obtain⟨a,b,c,u⟩:=y
 rfl
theorem J1 {ag:List bK}{hp:List (Option (List Cl))}(h0:ag[0]? =some ⟨42,tCl,0,true,hp⟩){p:Int}{n:Nat}{l:List Cl}(hg:af hp n=some l):
  typed ag tCh (.rv (.agg [⟨.int .i64,p⟩,⟨.ref 0,n⟩]))=some (p,(l,())):=by
 unfold typed
 simp only
 have e:snap ag (.slice tCl) [⟨.ref 0,n⟩]=some (l,[]):=by
  unfold snap OR
  simp only
  rw[h0]
  simp only
  cases n with
  |zero=>
   have:l=[]:=by simpa [af] using hg.symm
   subst this
   rfl
  |succ k=>
   have hb:Nat.beq (k+1) 0=false:=rfl
   rw[hb,hg]
   simp only[cond_false,Option.bind_some]
   rw[ME (g:=fun x:Cl=>x) l (fun y _=>by rw[amo])]
   simp
 unfold va
 rw[show snap ag (.pair (.int .i64) (.pair (.slice tCl) (.unit))) [⟨.int .i64,p⟩,⟨.ref 0,n⟩]=some ((p,(l,())),[]) from by
  unfold snap
  rw[show snap ag (.int .i64) [⟨.int .i64,p⟩,⟨.ref 0,n⟩]=some (p,[⟨.ref 0,n⟩]) from rfl]
  simp only
  unfold snap
  rw[e]
  rfl]
theorem aeU {p:Int}{n:Nat}{v:List Int}(hv:v.length≤n)(hr:Rs p v):Vc p n (XG 0 v):=⟨aes v 0 (-1) (by omega),fun t ht=>by
 obtain⟨h1,h2,h3,h4⟩:=aaq ht
 obtain⟨k,hk,he⟩:=List.getElem_of_mem h3
 have:=hr k
 simp only[List.getD,List.getElem?_eq_getElem hk,Option.getD_some] at this
 omega⟩
theorem Rs.rep {p:Int}(hp:0<p)(n:Nat):Rs p (List.replicate n 0):=fun j=>by rw[Cm];omega
end Go.Abs
namespace Go.Proofs.YtofjebmoebhiiaaGreatDoor.Ev
open Go.Abs Go.IntWalk
def Gd (p:Int)(ah:List Cl)(n:Nat):Prop:=∀x∈ah,At x.2.1∧Vc p n x.2.2.1
theorem Gd.snoc {p:Int}{ah:List Cl}{n:Nat}(h:Gd p ah n){x:Cl}(hx:At x.2.1∧Vc p n x.2.2.1):Gd p (ah++[x]) n:=fun y hy=>by
 rcases List.mem_append.1 hy with hy |hy
 ·exact h y hy
 ·rw[List.mem_singleton.1 hy];exact hx
theorem Gd.set {p:Int}{ah:List Cl}{n:Nat}(h:Gd p ah n){x:Cl}(hx:At x.2.1∧Vc p n x.2.2.1)(k:Nat):Gd p (ah.set k x) n:=fun y hy=>by
 rcases List.mem_or_eq_of_mem_set hy with hy |rfl
 ·exact h y hy
 ·exact hx
def Go1 (p:Int)(ah:List Cl):Prop:=ah.length≤30∧(ah=[]∨Pr p)∧Gd p ah ah.length
theorem XL {v:Nat}{aH:List (Option (List Int))}{l:List Int}(hg:af aH v=some l)(hl:l.length≤1000000):∀(m i:Nat) (out:List Tm),m+i=l.length→out.length≤i→cB v i out aH=some (out++XG i (l.drop i)):=by
 intro m
 induction m with
 |zero=>intro i out hi ho;rw[lF,iK,hg,bS,az (by omega),List.drop_eq_nil_of_le (by omega),XG,List.append_nil]
 |succ m ih=>
  intro i out hi ho
  have g:l[(i:Int).toNat]? =some (l.getD i 0):=by rw[Int.toNat_natCast];simp[List.getD,show i<l.length by omega]
  have hb:∀{β:Type} {f:Int→Option β},(idx l (i:Int)).bind f=f (l.getD i 0):=iT 0 (by omega)
  rw[lF,iK,hg,bS,aB (by omega),bS,hb,bS,g,bS,drop_eq (by omega),XG,cq (by omega)]
  by_cases h:l.getD i 0=0
  ·rw[pe h,ih (i+1) out (by omega) (by omega),if_neg (by omega)]
  ·rw[Cj h,bS,hb,bS,g,bS,kg (by omega) (by omega),if_pos h]
   simp only
   rw[ih (i+1) _ (by omega) (by simp;omega),List.append_assoc]
   rfl
theorem GV {v:Nat}{aH:List (Option (List Int))}{l:List Int}(hg:af aH v=some l)(hl:l.length≤1000000):bo v aH=some (XG 0 l):=by
 rw[xI,qe]
 have:=XL hg hl l.length 0 [] (by omega) (by simp)
 simpa using this
theorem akE (n:Int):∃p,tF n=some p∧Pr p:=by
 have h1:=Int.tmod_lt_of_pos n (show (0:Int)<6 by omega)
 have h2:=Int.lt_tmod_of_pos n (show (0:Int)<6 by omega)
 rw[ND,Fa]
 rw[i64_in (n.tmod 6+6) (by omega),bT (by omega)]
 have h3:=Int.emod_nonneg (n.tmod 6+6) (show (6:Int)≠0 by omega)
 have h4:=Int.emod_lt_of_pos (n.tmod 6+6) (show (0:Int)<6 by omega)
 obtain⟨i,hi⟩:=Int.eq_ofNat_of_zero_le h3
 rw[hi] at h4 ⊢
 have h5:i<6:=by omega
 match i,h5 with
 |0,_=>exact⟨2,rfl,by decide⟩
 |1,_=>exact⟨3,rfl,by decide⟩
 |2,_=>exact⟨5,rfl,by decide⟩
 |3,_=>exact⟨2,rfl,by decide⟩
 |4,_=>exact⟨251,rfl,by decide+kernel⟩
 |5,_=>exact⟨7,rfl,by decide⟩
theorem arE {k p:Int}(hk:0≤k)(hp:2≤p∧p≤251):IntKind.wrap .i64 (k.tmod 2*IntKind.wrap .i64 (p - 2))=(k % 2)*(p - 2)∧0≤(k % 2)*(p - 2)∧(k % 2)*(p - 2)≤251:=by
 have h1:=Int.emod_nonneg k (show (2:Int)≠0 by omega)
 have h2:=Int.emod_lt_of_pos k (show (0:Int)<2 by omega)
 have e:k.tmod 2=k % 2:=bT (by omega)
 rw[e,i64_in (p - 2) (by omega)]
 rcases (show k % 2=0∨k % 2=1 by omega) with h |h
 ·rw[h,Int.zero_mul];exact⟨by rw[i64_in _ (by omega)],by omega,by omega⟩
 ·rw[h,Int.one_mul];exact⟨by rw[i64_in _ (by omega)],by omega,by omega⟩
theorem akF {f:List Ce}(hf:Cs f){p:Int}(hp:Pr p){j:Nat}(hj:j≤f.length){bl:Hz}{k:Nat}(hk:k<bl.length)(hs:Sx 4 bl){v t2 ax:Nat}{t out:Int}{mL:List (Option (List Cl))}(hv:v≠0):
  ∀(q i:Nat) (aH:List (Option (List Int))) (l:List Int),q+i=j→af aH v=some l→l.length=j→Rs p l→
   ∃DY l',fH f p j v bl k i t t2 out ax mL aH=eG f p j v bl ((k+1:Nat):Int) t t2 out ax mL DY∧af DY v=some l'∧l'.length=j∧Rs p l':=by
 have Td:=hf.1
 have Xc:=hs.1
 intro q
 induction q with
 |zero=>
  intro i aH l hi hg hl hr
  rw[td,nW,az (by omega),cq (by omega)]
  exact⟨aH,l,rfl,hg,hl,hr⟩
 |succ q ih=>
  intro i aH l hi hg hl hr
  have hc:=(hf.2 _ (b6 (d:=XK) (show i<f.length by omega))).1
  obtain⟨r,he⟩:=M9 (a:=(f.getD i XK).1) (b:=bl.getD k []) (by omega)
  rw[td,nW,aB (by omega),I0 (by omega),vK hk,he,bS,cq (by omega)]
  have w9:=hp.1
  have O5:=hp.2.1
  obtain⟨m1,m2,m3⟩:=arE (k:=(k:Int)) (by omega) ⟨w9,O5⟩
  cases (r==0) with
  |false=>rw[cF];exact ih (i+1) aH l (by omega) hg hl hr
  |true=>
   have g:l[(i:Int).toNat]? =some (l.getD i 0):=by rw[Int.toNat_natCast];simp[List.getD,show i<l.length by omega]
   have hb:∀{β:Type} {f:Int→Option β},(idx l (i:Int)).bind f=f (l.getD i 0):=iT 0 (by omega)
   rw[cT]
   simp only
   rw[m1,j5 (by omega),hg,bS,hb,bS,g,bS,i64_in _ (by omega),bT (by omega)]
   exact ih (i+1) _ _ (by omega) (tY hg hv) (by rw[List.length_set];exact hl) (hr.set ⟨Int.emod_nonneg _ (by omega),Int.emod_lt_of_pos _ (by omega)⟩ _)
theorem akG {f:List Ce}(hf:Cs f){p:Int}(hp:Pr p){j:Nat}(hj:j<f.length){bl:Hz}(hs:Sx 4 bl){v t2 ax:Nat}{t out:Int}{mL:List (Option (List Cl))}(hv:v≠0){ah:List Cl}(hc:af mL ax=some ah)(hcl:ah.length=j)(hG:Gd p ah f.length)
  {G:(Int×List Cl×Unit)×Int→Prop}
  (nxt:∀MF W0 DY I1,af W0 MF=some I1→I1.length=j+1→Gd p I1 f.length→∃r,dy f p ((j+1:Nat):Int) t t2 out MF W0 DY=some r∧G r):
  ∀(q k:Nat) (aH:List (Option (List Int))) (l:List Int),q+k=bl.length→af aH v=some l→l.length=j→Rs p l→
   ∃r,eG f p j v bl k t t2 out ax mL aH=some r∧G r:=by
 have Td:=hf.1
 have Xc:=hs.1
 intro q
 induction q with
 |zero=>
  intro k aH l hk hg hl hr
  obtain⟨x1,x2⟩:=hf.2 _ (b6 (d:=XK) hj)
  rw[tc,nU,az (by omega),I0 hj]
  simp only
  rw[I0 hj,GV hg (by omega),bS]
  rw[hc,bS,kg (by omega) (by omega),cq (by omega)]
  exact nxt _ _ _ _ kq (by simp;omega) (hG.snoc ⟨x2,aeU (by omega) hr⟩)
 |succ q ih=>
  intro k aH l hk hg hl hr
  have e0:((0:Nat):Int)=0:=rfl
  obtain⟨DY,l',h1,h2,h3,h4⟩:=akF (t:=t) (t2:=t2) (out:=out) (ax:=ax) (mL:=mL) hf hp (show j≤f.length by omega) (show k<bl.length by omega) hs hv j 0 aH l (by omega) hg hl hr
  rw[e0] at h1
  rw[tc,nU,aB (by omega),h1]
  exact ih (k+1) DY l' (by omega) h2 h3 h4
theorem akH {f:List Ce}(hf:Cs f)(hf3:f.length≤30){p:Int}(hp:Pr p){t:Int}{t2:Nat}:∀(q j ax:Nat) (mL:List (Option (List Cl))) (aH:List (Option (List Int))) (ah:List Cl),q+j=f.length→af mL ax=some ah→ah.length=j→Gd p ah f.length→
  ∃r,dy f p j t t2 p ax mL aH=some r∧Go1 r.1.1 r.1.2.1:=by
 intro q
 induction q with
 |zero=>
  intro j ax mL aH ah hj hc hl hG
  rw[tb,nT,az (by omega),J1 rfl hc]
  refine⟨_,rfl, ?_,Or.inr hp, ?_⟩
  ·simp only;omega
  ·have:ah.length=f.length:=by omega
   simp only
   rw[this];exact hG
 |succ q ih=>
  intro j ax mL aH ah hj hc hl hG
  have w9:=hp.1
  obtain⟨fc,h1,h2⟩:=Na (hf.2 _ (b6 (d:=XK) (show j<f.length by omega))).1
  have e0:((0:Nat):Int)=0:=rfl
  have:=akG (t:=t) (t2:=t2) (out:=p) (v:=aH.length+1) hf hp (show j<f.length by omega) h2 (by omega) hc hl hG (G:=fun r=>Go1 r.1.1 r.1.2.1) (fun o h0 h4 c g1 g2 g3=>ih (j+1) o h0 h4 c (by omega) g1 g2 g3) fc.length 0 (aH++[some (List.replicate j 0)]) (List.replicate j 0) (by omega) kq (by simp) (Rs.rep (by omega) _)
  rw[e0] at this
  rw[tb,nT,aB (by omega),GM (by omega) (by omega) (by omega),I0 (by omega),h1,bS]
  rw[Int.toNat_natCast]
  exact this
theorem akI {f:List Ce}(hf:Cs f){p:Int}(hj:0<f.length){bl:Hz}(hs:Sx 4 bl){v t2:Nat}{t out:Int}{aH:List (Option (List Int))}(hg:af aH v=some [])
  {G:(Int×List Cl×Unit)×Int→Prop}
  (nxt:∀MF W0 DY I1,af W0 MF=some I1→I1.length=1→Gd p I1 f.length→∃r,dy f p ((1:Nat):Int) t t2 out MF W0 DY=some r∧G r):
  ∀(q k:Nat),q+k=bl.length→∃r,gp f p 0 v bl k t t2 out 0 aH=some r∧G r:=by
 have Td:=hf.1
 have Xc:=hs.1
 have b1:∀{β:Type} {g:Ce→Option β},(idx f 0).bind g=g (f.getD 0 XK):=I0 (k:=0) hj
 intro q
 induction q with
 |zero=>
  intro k hk
  obtain⟨x1,x2⟩:=hf.2 _ (b6 (d:=XK) hj)
  rw[uU,p6,az (by omega),b1]
  simp only
  rw[b1,GV hg (by simp),bS]
  have hh:af ([]:List (Option (List Cl))) 0=some []:=rfl
  rw[hh,bS,kg (by omega) (by simp)]
  have hw:IntKind.wrap .i64 ((0:Int)+1)=((1:Nat):Int):=by rw[i64_in _ (by omega)];rfl
  rw[hw]
  refine nxt _ _ _ _ kq rfl (fun y hy=> ?_)
  rw[List.nil_append,List.mem_singleton] at hy
  rw[hy]
  exact⟨x2,Vc.nil⟩
 |succ q ih=>
  intro k hk
  rw[uU,p6,aB (by omega),Dn,wU,az (by omega),cq (by omega)]
  exact ih (k+1) (by omega)
theorem amp {f:List Ce}(hf:Cs f)(hf3:f.length≤30){p:Int}(hp:Pr p):∃r,kK f p=some r∧Go1 r.1.1 r.1.2.1:=by
 have w9:=hp.1
 obtain⟨e,he⟩:=aeT hf
 have hpr:fu p=some true:=by rw[YZ,decide_eq_true hp]
 rw[It,CM,hpr,bS,Bool.not_true,cF,he,bS]
 by_cases h:e=0
 ·rw[pe h,Dm,wS]
  by_cases hl:(0:Int)<f.length
  ·obtain⟨fc,h1,h2⟩:=Na (hf.2 _ (b6 (d:=XK) (show 0<f.length by omega))).1
   have b1:∀{β:Type} {g:Ce→Option β},(idx f 0).bind g=g (f.getD 0 XK):=I0 (k:=0) (by omega)
   have e0:((0:Nat):Int)=0:=rfl
   have:=akI (p:=p) (t:=0) (t2:=0) (out:=p) (v:=([]:List (Option (List Int))).length+1) (aH:=([]:List (Option (List Int)))++[some (List.replicate (0:Int).toNat 0)]) hf (show 0<f.length by omega) h2 kq (G:=fun r=>Go1 r.1.1 r.1.2.1) (fun o h0 h4 c g1 g2 g3=>akH hf hf3 hp (f.length - 1) 1 o h0 h4 c (by omega) g1 g2 g3) fc.length 0 (by omega)
   rw[e0] at this
   rw[aB hl,GM (by omega) (by omega) (by omega),b1,h1,bS]
   exact this
  ·rw[az hl,J1 (l:=[]) rfl rfl]
   exact⟨_,rfl,by simp,Or.inl rfl,fun x hx=>by cases hx⟩
 ·rw[Cj h,J1 (l:=[]) rfl rfl]
  exact⟨_,rfl,by simp,Or.inl rfl,fun x hx=>by cases hx⟩
end Go.Proofs.YtofjebmoebhiiaaGreatDoor.Ev
namespace Go.Proofs.YtofjebmoebhiiaaGreatDoor.Ev
open Go.Abs Go.IntWalk
theorem RO {β:Type}{xs:List Cl}{k:Nat}{f:Cl→Option β}(h:k<xs.length):(idx xs (k:Int)).bind f=f (xs.getD k sB):=iT sB h
theorem anj {xs:List Cl}{k:Nat}(h:k<xs.length):xs[(k:Int).toNat]? =some (xs.getD k sB):=by rw[Int.toNat_natCast];simp[List.getD,h]
theorem MG {β:Type}{xs:List Int}{k:Nat}{f:Int→Option β}(h:k<xs.length):(idx xs (k:Int)).bind f=f (xs.getD k 0):=iT 0 h
theorem Y3 {xs:List Int}{k:Nat}(h:k<xs.length):xs[(k:Int).toNat]? =some (xs.getD k 0):=by rw[Int.toNat_natCast];simp[List.getD,h]
theorem XM {p:Int}{ah:List Cl}(hl:ah.length≤30)(hb:∀x∈ah,x.2.2.1.length≤1000){t:Int}{t2:Nat}:∀(q i ax:Nat) (mL:List (Option (List Cl))) (r:List Cl),q+i=ah.length→af mL ax=some r→r=ah.take i→
  ∃MF W0,gm i p ah t t2 p ax mL=some ((p,(MF,())),W0)∧af W0 MF=some ah:=by
 intro q
 induction q with
 |zero=>
  intro i ax mL r hi hg hr
  rw[xA,p4,az (by omega)]
  refine⟨ax,mL,rfl, ?_⟩
  rw[hg,hr,List.take_of_length_le (by omega)]
 |succ q ih=>
  intro i ax mL r hi hg hr
  have hm:=hb _ (b6 (d:=sB) (show i<ah.length by omega))
  rw[xA,p4,aB (by omega),RO (by omega),kg (by omega) (by omega)]
  simp only
  rw[hg,bS,kg (by omega) (by rw[hr];simp;omega),cq (by omega)]
  refine ih (i+1) _ _ _ (by omega) kq ?_
  rw[hr,List.take_add_one]
  congr 1
  simp[List.getD,show i<ah.length by omega]
theorem acX {p:Int}{ah:List Cl}(hl:ah.length≤30)(hb:∀x∈ah,x.2.2.1.length≤1000):∃MF W0,rY (p,(ah,())) []=some ((p,(MF,())),W0)∧af W0 MF=some ah:=by
 rw[LZ,Dl]
 exact XM hl hb ah.length 0 0 [] [] (by omega) rfl (by simp)
theorem acY {x:List Tm}{n:Nat}(hl:x.length≤1000000000)(hx:∀t∈x,0≤t.1∧t.1<n){out:Nat}(ho0:out≠0):∀(m i:Nat) (aH:List (Option (List Int))) (l:List Int),m+i=x.length→af aH out=some l→l.length=n→
  ∃DY,d5 x out i aH=some (out,DY)∧af DY out=some (mw l (x.drop i)):=by
 intro m
 induction m with
 |zero=>intro i aH l hi hg ho;rw[sr,lD,az (by omega),List.drop_eq_nil_of_le (by omega)];exact⟨aH,rfl,hg⟩
 |succ m ih=>
  intro i aH l hi hg ho
  have hb:∀{β:Type} {f:Tm→Option β},(idx x (i:Int)).bind f=f (x.getD i nY):=iT nY (by omega)
  have hr:=hx _ (b6 (d:=nY) (show i<x.length by omega))
  rw[sr,lD,aB (by omega),hb,hb,hg,bS,eL (by omega) (by omega),bS,rS (by omega),cq (by omega),qA nY (show i<x.length by omega),mw]
  exact ih (i+1) _ _ (by omega) (tY hg ho0) (by rw[List.length_set];exact ho)
theorem ahX {p:Int}{x:List Tm}{n:Nat}(hn:n≤1000000)(hx:Vc p n x)(aH:List (Option (List Int))):∃o DY v,lN x n aH=some (o,DY)∧o≠0∧af DY o=some v∧v.length=n∧(0<p→Rs p v):=by
 have hl:=hx.length (by omega)
 have hx':∀t∈x,0≤t.1∧t.1<n:=fun t ht=>⟨by have:=Sr.mem hx.s t ht;omega,(hx.r t ht).1⟩
 obtain⟨DY,h1,h2⟩:=acY (out:=aH.length+1) (by omega) hx' (by omega) x.length 0 (aH++[some (List.replicate n 0)]) (List.replicate n 0) (by omega) kq (by simp)
 have e0:((0:Nat):Int)=0:=rfl
 rw[e0] at h1
 rw[Hk,xH,GM (by omega) (by omega) (by omega),Int.toNat_natCast]
 simp only
 refine⟨_,DY,_,h1,by omega,h2,by rw[J0,List.length_replicate],fun hp j=> ?_⟩
 have hg:(mw (List.replicate n 0) x).getD j 0=cf x j:=by
  rw[RK hx.s (by omega) hx.c (fun t ht=>by rw[List.length_replicate];exact(hx' t ht).2),Cm]
  split<;>omega
 rw[List.drop_zero,hg]
 exact RH hp hx.c j
theorem ahY {a b:Int}{A B:Int}(ha:0≤a∧a≤A)(hb:0≤b∧b≤B):0≤a*b∧a*b≤A*B:=⟨Int.mul_nonneg ha.1 hb.1,Int.mul_le_mul ha.2 hb.2 hb.1 (by omega)⟩
theorem amq {p:Int}(hp:Pr p){ah:List Cl}(hl:ah.length≤30)(hG:Gd p ah ah.length){i j:Nat}(hi:i<ah.length)(hj:j<ah.length){m inv:Int}(hm:0≤m∧m<p)(hv:0≤inv∧inv<p){t:Int}{t2 ax:Nat}:
  ∀(q s:Nat) (mL:List (Option (List Cl))) (aH:List (Option (List Int))) (r:List Cl),q+s=ah.length→af mL ax=some r→r.length=ah.length→Gd p r ah.length→
   ∃r',iY i j m inv s p ah t t2 p ax mL aH=some (p,(r',()))∧r'.length=ah.length∧Gd p r' ah.length:=by
 have w9:=hp.1
 have O5:=hp.2.1
 intro q
 induction q with
 |zero=>
  intro s mL aH r hs hg hr hR
  rw[Ab,th,az (by omega),J1 rfl hg]
  exact⟨r,rfl,hr,hR⟩
 |succ q ih=>
  intro s mL aH r hs hg hr hR
  have hne:ax≠0:=aaE hg (fun e=>by rw[e] at hr;simp at hr;omega)
  have hcs:=hG _ (b6 (d:=sB) (show s<ah.length by omega))
  obtain⟨o,DY,w,h1,h2,h3,h4,h5⟩:=ahX (by omega) hcs.2 aH
  have h5:=h5 (by omega)
  have wi:=h5 i
  have wj:=h5 j
  have n1:=ahY (a:=p - 1) (b:=w.getD j 0) (A:=250) (B:=250) (by omega) (by omega)
  have n2:=Int.emod_nonneg ((p - 1)*w.getD j 0) (show p≠0 by omega)
  have n3:=Int.emod_lt_of_pos ((p - 1)*w.getD j 0) (show 0<p by omega)
  have n4:=ahY (a:=(p - 1)*w.getD j 0 % p) (b:=inv) (A:=250) (B:=250) (by omega) (by omega)
  have n5:=Int.emod_nonneg ((p - 1)*w.getD j 0 % p*inv) (show p≠0 by omega)
  have n6:=Int.emod_lt_of_pos ((p - 1)*w.getD j 0 % p*inv) (show 0<p by omega)
  have n7:=ahY (a:=(p - 1)*w.getD j 0 % p*inv % p) (b:=m) (A:=250) (B:=250) (by omega) (by omega)
  have n8:=Int.emod_nonneg (w.getD i 0+(p - 1)*w.getD j 0 % p*inv % p*m) (show p≠0 by omega)
  have n9:=Int.emod_lt_of_pos (w.getD i 0+(p - 1)*w.getD j 0 % p*inv % p*m) (show 0<p by omega)
  have e1:IntKind.wrap .i64 (IntKind.wrap .i64 (p - 1)*w.getD j 0)=(p - 1)*w.getD j 0:=by rw[i64_in (p - 1) (by omega),i64_in _ (by omega)]
  have e2:IntKind.wrap .i64 ((IntKind.wrap .i64 (((p - 1)*w.getD j 0).tmod p*inv)).tmod p*m)=(p - 1)*w.getD j 0 % p*inv % p*m:=by
   rw[bT (a:=(p - 1)*w.getD j 0) (by omega),i64_in ((p - 1)*w.getD j 0 % p*inv) (by omega),bT (a:=(p - 1)*w.getD j 0 % p*inv) (by omega),i64_in _ (by omega)]
  rw[Ab,th,aB (by omega),RO (by omega),h1,bS]
  simp only
  rw[h3,bS,MG (by omega),bS,Y3 (by omega),bS,bS,MG (by omega),bS,Y3 (by omega),bS,e1,j5 (by omega),j5 (by omega),e2,j5 (by omega),bS,MG (by omega),bS,Y3 (by omega),bS,i64_in _ (by omega),bT (a:=w.getD i 0+_) (by omega),Int.toNat_natCast]
  have g1:=tY (l':=w.set i ((w.getD i 0+(p - 1)*w.getD j 0 % p*inv % p*m) % p)) h3 h2
  have r1:Rs p (w.set i ((w.getD i 0+(p - 1)*w.getD j 0 % p*inv % p*m) % p)):=h5.set ⟨n8,n9⟩ i
  have l1:(w.set i ((w.getD i 0+(p - 1)*w.getD j 0 % p*inv % p*m) % p)).length=ah.length:=by rw[List.length_set];exact h4
  generalize w.set i ((w.getD i 0+(p - 1)*w.getD j 0 % p*inv % p*m) % p)=W at g1 r1 l1 ⊢
  have wj2:=r1 j
  have k1:=ahY (a:=W.getD j 0) (b:=inv) (A:=250) (B:=250) (by omega) (by omega)
  rw[g1,bS,MG (by omega),bS,Y3 (by omega),bS,j5 (by omega),bS,MG (by omega),bS,Y3 (by omega),bS,i64_in (W.getD j 0*inv) (by omega),bT (a:=W.getD j 0*inv) (by omega),Int.toNat_natCast]
  have g2:=tY (l':=W.set j (W.getD j 0*inv % p)) g1 h2
  have r2:Rs p (W.set j (W.getD j 0*inv % p)):=r1.set ⟨Int.emod_nonneg _ (by omega),Int.emod_lt_of_pos _ (by omega)⟩ j
  have l2:(W.set j (W.getD j 0*inv % p)).length=ah.length:=by rw[List.length_set];exact l1
  rw[GV g2 (by omega),bS,hg,bS,RO (by omega),bS,anj (by omega),bS,cq (by omega)]
  have hrs:=hR _ (b6 (d:=sB) (show s<r.length by omega))
  refine ih (s+1) _ _ _ (by omega) (tY hg hne) (by rw[List.length_set];exact hr) (hR.set ?_ _)
  exact⟨hrs.1,aeU (Nat.le_of_eq l2) r2⟩
theorem amr {p:Int}(hp:Pr p){ah:List Cl}(hl:ah.length≤30)(hG:Gd p ah ah.length){i j:Nat}(hi:i<ah.length)(hj:j<ah.length){k m inv:Int}(hk:0≤k∧k<p)(hm:0≤m∧m<p)(hv:0≤inv∧inv<p){t:Int}{t2 ax v:Nat}(hv0:v≠0)
  {a b:List Int} (ha:a.length=ah.length) (hb:b.length=ah.length) (hra:Rs p a) (hrb:Rs p b) {mL:List (Option (List Cl))} {r:List Cl} (hg:af mL ax=some r) (hr:r.length=ah.length) (hR:Gd p r ah.length):
  ∀(q s:Nat) (aH:List (Option (List Int))) (w:List Int),q+s=ah.length→af aH v=some w→w.length=ah.length→Rs p w→
   ∃r',iX i j k m inv v a b s p ah t t2 p ax mL aH=some (p,(r',()))∧r'.length=ah.length∧Gd p r' ah.length:=by
 have w9:=hp.1
 have O5:=hp.2.1
 intro q
 induction q with
 |zero=>
  intro s aH w hs hw hwl hwr
  have hne:ax≠0:=aaE hg (fun e=>by rw[e] at hr;simp at hr;omega)
  have hrs:=hR _ (b6 (d:=sB) (show j<r.length by omega))
  rw[Aa,te,hw,bS,az (by omega),GV hw (by omega),bS,hg,bS,RO (by omega),bS,anj (by omega),bS,cq (by omega)]
  refine amq hp hl hG hi hj hm hv (ah.length - (j+1)) (j+1) _ aH _ (by omega) (tY hg hne) (by rw[List.length_set];exact hr) (hR.set ?_ _)
  exact⟨hrs.1,aeU (by omega) hwr⟩
 |succ q ih=>
  intro s aH w hs hw hwl hwr
  have as1:=hra s
  have bs1:=hrb s
  have n1:=ahY (a:=k) (b:=a.getD s 0) (A:=250) (B:=250) (by omega) (by omega)
  have n2:=ahY (a:=m) (b:=b.getD s 0) (A:=250) (B:=250) (by omega) (by omega)
  rw[Aa,te,hw,bS,aB (by omega),MG (by omega),MG (by omega)]
  simp only
  rw[i64_in (k*a.getD s 0) (by omega),i64_in (m*b.getD s 0) (by omega),i64_in (k*a.getD s 0+m*b.getD s 0) (by omega),j5 (by omega),bS,MG (by omega),bS,Y3 (by omega),bS,bT (by omega),cq (by omega)]
  exact ih (s+1) _ _ (by omega) (tY hw hv0) (by rw[List.length_set];exact hwl) (hwr.set ⟨Int.emod_nonneg _ (by omega),Int.emod_lt_of_pos _ (by omega)⟩ _)
theorem ams {p:Int}(hp:Pr p){ah:List Cl}(hl:ah.length≤30)(hG:Gd p ah ah.length){i j:Nat}(hi:i<ah.length)(hj:j<ah.length){k m:Int}(hk:1≤k∧k<p)(hm:0≤m∧m<p):
  ∃r',vP (p,(ah,())) i j k m=some (p,(r',()))∧r'.length=ah.length∧Gd p r' ah.length:=by
 have w9:=hp.1
 obtain⟨o,h0,g1,g2⟩:=acX (p:=p) hl (fun x hx=>by have:=(hG x hx).2.length (by omega);omega)
 obtain⟨a,e1,e2,e3⟩:=acF (by omega) (hG _ (b6 (d:=sB) hj)).2
 obtain⟨b,f1,f2,f3⟩:=acF (by omega) (hG _ (b6 (d:=sB) hi)).2
 have hiv:=RJ hp hk
 rw[PI,Gv]
 simp only
 rw[g1,bS,WS hp hk,bS,GM (by omega) (by omega) (by omega),RO hj,e1,bS,RO hi,f1,bS]
 have e0:((0:Nat):Int)=0:=rfl
 have:=amr hp hl hG hi hj (k:=k) (m:=m) (inv:=iv p k) (t:=0) (t2:=0) (v:=([]:List (Option (List Int))).length+1) (by omega) hm (by omega) (by omega) e2.len f2.len (e3 (by omega)) (f3 (by omega)) g2 rfl hG ah.length 0 ([]++[some (List.replicate ah.length 0)]) (List.replicate ah.length 0) (by omega) kq (by simp) (Rs.rep (by omega) _)
 rw[e0] at this
 simp only[Int.toNat_natCast]
 exact this
theorem vt1 {x c:Int}(hc:1≤c∧c≤1000):0≤(IntKind.wrap .i64 (x.tmod c+c)).tmod c∧(IntKind.wrap .i64 (x.tmod c+c)).tmod c<c:=by
 have h1:=Int.tmod_lt_of_pos x (show 0<c by omega)
 have h2:=Int.lt_tmod_of_pos x (show 0<c by omega)
 rw[i64_in _ (by omega),bT (by omega)]
 exact⟨Int.emod_nonneg _ (by omega),Int.emod_lt_of_pos _ (by omega)⟩
theorem aeV {p:Int}(hp:Pr p){ah:List Cl}(hl:ah.length≤30)(hG:Gd p ah ah.length){n:Nat}{x:List (List Int)}{x2 x4:List Int}{x3 t:Int}{t2:Nat}(hn:n+2<x4.length)(hn2:n<24){j:Nat}(hj:j<ah.length){k:Int}(hk:1≤k∧k<p)
  (nxt:∀I1:List Cl,I1.length=ah.length→Gd p I1 ah.length→∃r,d6 ((n+3:Nat):Int) x x2 x3 x4 t t2 p I1=some r∧Go1 r.1 r.2.1):
  ∀(q:Nat),q≤j→∃r,hZ n j k ((q:Int) - 1) x x2 x3 x4 t t2 p ah=some r∧Go1 r.1 r.2.1:=by
 have w9:=hp.1
 have O5:=hp.2.1
 have e2:IntKind.wrap .i64 ((n:Int)+2)=((n+2:Nat):Int):=by rw[i64_in _ (by omega)];omega
 have e3:IntKind.wrap .i64 ((n:Int)+3)=((n+3:Nat):Int):=by rw[i64_in _ (by omega)];omega
 intro q
 induction q with
 |zero=>
  intro hq
  have c1:(((0:Nat):Int) - 1≥0)=False:=by simp
  rw[ze,rE,e3]
  simp only[c1,decide_false]
  rw[cF,cF]
  exact nxt ah rfl hG
 |succ q ih=>
  intro hq
  have e1:(((q+1:Nat):Int) - 1)=(q:Int):=by omega
  have c1:((q:Int)≥0)=True:=by simp
  rw[ze,rE,e1,e2,e3]
  simp only[c1,decide_true]
  rw[cT,RO (by omega),RO (by omega),i64_in ((q:Int) - 1) (by omega)]
  cases ((ah.getD q sB).1 != (ah.getD j sB).1) with
  |true=>rw[cT];exact ih (by omega)
  |false=>
   rw[cF,cT,MG (by omega),j5 (by omega),j5 (by omega)]
   obtain⟨r,h1,h2,h3⟩:=ams hp hl hG (i:=q) (by omega) hj hk (vt1 (x:=x4.getD (n+2) 0) (c:=p) (by omega))
   rw[h1,bS]
   exact nxt r h2 h3
theorem aeW {p:Int}(hp:Pr p){x:List (List Int)}{x2 x4:List Int}{x3 t:Int}{t2:Nat}(hx4:x4.length≤1000000000000000000):∀(q n:Nat) (ah:List Cl),24≤q+n→ah.length≤30→Gd p ah ah.length→∃r,d6 n x x2 x3 x4 t t2 p ah=some r∧Go1 r.1 r.2.1:=by
 have w9:=hp.1
 have O5:=hp.2.1
 intro q
 induction q with
 |zero=>
  intro n ah hq hl hG
  have hgo:Go1 p ah:=⟨hl,Or.inr hp,hG⟩
  rw[p0,ml]
  rw[az (a:=(n:Int)) (b:=24) (by omega)]
  cases decide (IntKind.wrap .i64 ((n:Int)+2)<(x4.length:Int)) with
  |true=>exact⟨_,rfl,hgo⟩
  |false=>exact⟨_,rfl,hgo⟩
 |succ q ih=>
  intro n ah hq hl hG
  have hgo:Go1 p ah:=⟨hl,Or.inr hp,hG⟩
  rw[p0,ml]
  by_cases h24:(n:Int)<24
  ·have e1:IntKind.wrap .i64 ((n:Int)+1)=((n+1:Nat):Int):=by rw[i64_in _ (by omega)];omega
   have e2:IntKind.wrap .i64 ((n:Int)+2)=((n+2:Nat):Int):=by rw[i64_in _ (by omega)];omega
   rw[e1,e2,aB h24]
   by_cases hn:((n+2:Nat):Int)<x4.length
   ·rw[aB hn]
    by_cases hc:(ah.length:Int)>0
    ·have ep:IntKind.wrap .i64 (p - 1)=p - 1:=i64_in _ (by omega)
     obtain⟨j1,j2⟩:=vt1 (x:=x4.getD n 0) (c:=(ah.length:Int)) (by omega)
     obtain⟨j,hj⟩:=Int.eq_ofNat_of_zero_le j1
     have k0:=Int.tmod_lt_of_pos (x4.getD (n+1) 0) (show 0<p - 1 by omega)
     have k1:=Int.lt_tmod_of_pos (x4.getD (n+1) 0) (show 0<p - 1 by omega)
     have k2:IntKind.wrap .i64 (IntKind.wrap .i64 ((x4.getD (n+1) 0).tmod (p - 1)+p) - 1)=(x4.getD (n+1) 0).tmod (p - 1)+p - 1:=by rw[i64_in ((x4.getD (n+1) 0).tmod (p - 1)+p) (by omega),i64_in _ (by omega)]
     have k3:((x4.getD (n+1) 0).tmod (p - 1)+p - 1).tmod (p - 1)=((x4.getD (n+1) 0).tmod (p - 1)+p - 1) % (p - 1):=bT (by omega)
     have k4:=Int.emod_nonneg ((x4.getD (n+1) 0).tmod (p - 1)+p - 1) (show p - 1≠0 by omega)
     have k5:=Int.emod_lt_of_pos ((x4.getD (n+1) 0).tmod (p - 1)+p - 1) (show 0<p - 1 by omega)
     rw[cZ hc,MG (by omega),j5 (by omega),j5 (by omega),MG (by omega),ep,j5 (by omega),j5 (by omega)]
     simp only
     rw[k2,k3,hj,i64_in (1+_) (by omega),i64_in ((j:Int) - 1) (by omega)]
     exact aeV hp hl hG (by omega) (by omega) (show j<ah.length by omega) (by omega) (fun I1 g1 g2=>ih (n+3) I1 (by omega) (by omega) (by rw[g1];exact g2)) j (by omega)
    ·rw[c8 hc];exact⟨_,rfl,hgo⟩
   ·rw[az hn];exact⟨_,rfl,hgo⟩
  ·rw[az h24]
   cases decide (IntKind.wrap .i64 ((n:Int)+2)<(x4.length:Int)) with
   |true=>exact⟨_,rfl,hgo⟩
   |false=>exact⟨_,rfl,hgo⟩
theorem XN {p:Int}{x:List (List Int)}{x2 x4:List Int}{x3 t:Int}{t2:Nat}:d6 0 x x2 x3 x4 t t2 p []=some (p,([],())):=by
 rw[p0,ml]
 cases decide (IntKind.wrap .i64 ((0:Int)+2)<(x4.length:Int)) with
 |true=>rfl
 |false=>rfl
theorem aeX {l:Hz}(hl:l.length≤1000000000000000000)(hs:∀s∈l,s.length≤1000000000000000000){values turns:List Int}(hv:values.length≤1000000000000000000)(ht:turns.length≤1000000000000000000)(field:Int):
  ∃r,tC (l,(values,(field,(turns,())))) 30=some r∧Go1 r.1 r.2.1:=by
 rw[NA,E8]
 simp only
 have aka:∃n:Nat,(bif decide ((40:Int)<(l.length:Int)) then (40:Int) else (l.length:Int))=n∧n≤40∧n≤l.length:=by
  by_cases h:(40:Int)<l.length
  ·rw[aB h];exact⟨40,rfl,by omega,by omega⟩
  ·rw[az h];exact⟨l.length,rfl,by omega,by omega⟩
 obtain⟨n,e1,e2,e3⟩:=aka
 rw[e1,JX (by omega) (by omega) (by omega)]
 have hcl:(cut l 0 (n:Int)).length≤40:=by simp[cut];omega
 have hcm:∀s∈cut l 0 (n:Int),s∈l:=fun s h=>by
  simp only[cut] at h
  exact List.mem_of_mem_take (List.mem_of_mem_drop h)
 obtain⟨f,h1,h2⟩:=aeQ (l:=cut l 0 (n:Int)) (by omega) (fun s h=>hs s (hcm s h)) hv
 have hf:=h2.1
 rw[h1,bS]
 have aka:∃n:Nat,(bif decide ((30:Int)<(f.length:Int)) then (30:Int) else (f.length:Int))=n∧n≤30∧n≤f.length:=by
  by_cases h:(30:Int)<f.length
  ·rw[aB h];exact⟨30,rfl,by omega,by omega⟩
  ·rw[az h];exact⟨f.length,rfl,by omega,by omega⟩
 obtain⟨k,g1,g2,g3⟩:=aka
 obtain⟨p,p1,p2⟩:=akE field
 rw[g1,JX (by omega) (by omega) (by omega),p1,bS]
 have Td:(cut f 0 (k:Int)).length≤30:=by simp[cut];omega
 have hfm:∀s∈cut f 0 (k:Int),s∈f:=fun s h=>by
  simp only[cut] at h
  exact List.mem_of_mem_take (List.mem_of_mem_drop h)
 obtain⟨r,r1,r2⟩:=amp (f:=cut f 0 (k:Int)) ⟨by omega,fun x hx=>h2.2 x (hfm x hx)⟩ Td p2
 rw[r1,bS]
 obtain⟨⟨p',ah,u⟩,e⟩:=r
 obtain⟨q1,q2,q3⟩:=r2
 simp only at q1 q2 q3 ⊢
 rcases q2 with rfl |q2
 ·rw[XN]
  exact⟨_,rfl,by simp,Or.inl rfl,q3⟩
 ·have e0:((0:Nat):Int)=0:=rfl
  have:=aeW (x:=l) (x2:=values) (x3:=field) (x4:=turns) (t:=0) (t2:=0) q2 ht 24 0 ah (by omega) q1 q3
  rw[e0] at this
  exact this
theorem Go1.sz {p:Int}{ah:List Cl}(h:Go1 p ah):Sz ah:=⟨fun j=>by
 by_cases hj:j<ah.length
 ·have:=(h.2.2 _ (b6 (d:=sB) hj)).1.2
  unfold nM;omega
 ·have:ah.getD j sB=sB:=by simp[List.getD,List.getElem?_eq_none (show ah.length≤j by omega)]
  unfold nM;rw[this];decide,fun j=>by
 by_cases hj:j<ah.length
 ·have h1:=(h.2.2 _ (b6 (d:=sB) hj)).2.length (by omega)
  have:=h.1
  omega
 ·have:ah.getD j sB=sB:=by simp[List.getD,List.getElem?_eq_none (show ah.length≤j by omega)]
  rw[this];simp⟩
end Go.Proofs.YtofjebmoebhiiaaGreatDoor.Ev
namespace Go.Proofs.YtofjebmoebhiiaaGreatDoor.Ev
open Go.Abs Go.IntWalk
theorem acZ:gj=some true:=(N0 300).symm.trans (by kernel_rfl)
theorem ahZ {ah:List Cl}(hl:ah.length≤40):∀(q i:Nat),q+i=ah.length→(∀k,k<i→(ah.getD k sB).2.2.1.length≤40∧(ah.getD k sB).2.1.size≤200)→
  ∃b,iV ah ah.length i=some b∧(b=false→∀k,k<ah.length→(ah.getD k sB).2.2.1.length≤40∧(ah.getD k sB).2.1.size≤200):=by
 intro q
 induction q with
 |zero=>
  intro i hi h
  rw[ac4,sV,az (by omega)]
  exact⟨false,rfl,fun _ k hk=>h k (by omega)⟩
 |succ q ih=>
  intro i hi h
  rw[ac4,sV,aB (by omega),RO (by omega)]
  by_cases h1:(((ah.getD i sB).2.2.1.length:Nat):Int)>40
  ·rw[cZ h1];exact⟨true,rfl,fun e=>by cases e⟩
  ·rw[c8 h1]
   by_cases h2:(((ah.getD i sB).2.1.size:Nat):Int)>200
   ·rw[cZ h2];exact⟨true,rfl,fun e=>by cases e⟩
   ·rw[c8 h2,cq (by omega)]
    refine ih (i+1) (by omega) fun k hk=> ?_
    by_cases e:k=i
    ·subst e;omega
    ·exact h k (by omega)
theorem ah0 {p:Int}{ah:List Cl}:∃b,vN (p,(ah,())) 40=some b∧(b=false→ah.length≤40∧Sz ah):=by
 rw[Ps,Gn]
 by_cases h:((ah.length:Nat):Int)>40
 ·rw[cZ h];exact⟨true,rfl,fun e=>by cases e⟩
 ·rw[c8 h]
  have e0:((0:Nat):Int)=0:=rfl
  obtain⟨b,h1,h2⟩:=ahZ (ah:=ah) (by omega) ah.length 0 (by omega) (fun k hk=>by omega)
  rw[e0] at h1
  refine⟨b,h1,fun hb=>⟨by omega,⟨fun j=> ?_,fun j=> ?_⟩⟩⟩
  ·by_cases hj:j<ah.length
   ·have:=(h2 hb j hj).2
    unfold nM;omega
   ·have:ah.getD j sB=sB:=by simp[List.getD,List.getElem?_eq_none (show ah.length≤j by omega)]
    unfold nM;rw[this];decide
  ·by_cases hj:j<ah.length
   ·have:=(h2 hb j hj).1
    omega
   ·have:ah.getD j sB=sB:=by simp[List.getD,List.getElem?_eq_none (show ah.length≤j by omega)]
    rw[this];simp
theorem amt:vO [] ((0:Int),((0:Int),()))=some true:=by
 rw[Pw,Gp]
 rfl
abbrev Chn:=Int×List Cl×Unit
theorem aoC (a b:Int):zP (.pair (.int .i64) (.pair (.int .i64) (.unit))) (a,(b,())) (a,(b,()))=true:=by
 show (a==a&&(b==b&&true))=true
 simp
end Go.Proofs.YtofjebmoebhiiaaGreatDoor.Ev
namespace Go.Abs
abbrev aeY:Ty:= .st (.pair (.slice (.slice (.int .i64))) (.pair (.slice (.int .i64)) (.pair (.int .i64) (.pair (.slice (.int .i64)) .unit))))
end Go.Abs
namespace Go.Proofs.YtofjebmoebhiiaaGreatDoor.Ev
open Go.Abs
theorem ah1 {l:List (List Int)}{v t:List Int}{f:Int}(h:Bnd aeY (l,(v,(f,(t,()))))):l.length≤1000000000000000000∧(∀s∈l,s.length≤1000000000000000000)∧v.length≤1000000000000000000∧t.length≤1000000000000000000:=by
 obtain⟨⟨h1,h2⟩,⟨h3,_⟩,_,⟨h4,_⟩,_⟩:=h
 refine⟨Nat.le_trans h1 (by decide),fun s hs=>Nat.le_trans (h2 s hs).1 (by decide),Nat.le_trans h3 (by decide),Nat.le_trans h4 (by decide)⟩
end Go.Proofs.YtofjebmoebhiiaaGreatDoor.Ev
namespace Go.Proofs.YtofjebmoebhiiaaGreatDoor.Ev
open Go.Abs Go.IntWalk
theorem afn {t:Nat}{hp9:List (Option (List Chn))}{l:List Chn}(hg:af hp9 t=some l){i:Nat}(hi:i<l.length)(h2:l.length≤2)(hs:Sz (l.getD i (0,([],()))).2.1):
  D1 t l.length i hp9=D1 t l.length ((i+1:Nat):Int) hp9:=by
 have b1:∀{β:Type} {f:Chn→Option β},(idx l (i:Int)).bind f=f (l.getD i (0,([],()))):=iT _ hi
 have g1:l[(i:Int).toNat]? =some (l.getD i (0,([],()))):=by rw[Int.toNat_natCast];simp[List.getD,hi]
 rw[aa0,aaL,aB (by omega),hg,bS,b1,bS,g1,bS,cq (by omega)]
 generalize l.getD i (0,([],()))=x at hs ⊢
 obtain⟨p,ah,u⟩:=x
 simp only at hs ⊢
 obtain⟨m,a,c,e1,e2,e3⟩:=alV (p:=p) hs
 rw[ahM hs,e3,bS,bS]
 by_cases h:iN p ah=0
 ·rw[if_pos h,pe h,e1 h,bS]
  simp only
  rw[pe rfl,amh (by omega),bS,Bool.not_true,cF,aoC,Bool.not_true,cF]
 ·rw[if_neg h,Cj h]
  simp only
  rw[pe rfl,amt,bS,Bool.not_true,cF]
theorem apz {p:Int}{ah:List Cl}{l:Hz}(hl:l.length≤1000000000000000000)(hs:∀s∈l,s.length≤1000000000000000000){values turns:List Int}(hv:values.length≤1000000000000000000)(ht:turns.length≤1000000000000000000)(field:Int):
  aaO (p,(ah,())) (l,(values,(field,(turns,()))))=some true:=by
 obtain⟨b,h1,h2⟩:=ah0 (p:=p) (ah:=ah)
 rw[ac3,ab2]
 simp only
 rw[h1,bS]
 cases b with
 |true=>rw[cT,acZ,bS]
 |false=>
  obtain⟨h3,h4⟩:=h2 rfl
  obtain⟨r,r1,r2⟩:=aeX hl hs hv ht field
  rw[cF,r1,bS,kq,bS]
  have hg:af (([]:List (Option (List Chn)))++[some [(p,(ah,())),(r.1,(r.2.1,()))]]) (([]:List (Option (List Chn))).length+1)=some [(p,(ah,())),(r.1,(r.2.1,()))]:=kq
  have e0:((0:Nat):Int)=0:=rfl
  have s1:=afn (i:=0) hg (by simp) (by simp) h4
  have s2:=afn (i:=1) hg (by simp) (by simp) r2.sz
  rw[e0] at s1
  rw[s1,s2,aa0,aaL,az (by simp),acZ,bS]
theorem aoj (x:tCh.den)(r:aeY.den)(hx:Bnd tCh x)(hr:Bnd aeY r):aaO x r=some true:=by
 obtain⟨p,ah,u⟩:=x
 obtain⟨l,v,f,t,u'⟩:=r
 obtain⟨h1,h2,h3,h4⟩:=ah1 hr
 exact apz h1 h2 h3 h4 f
end Go.Proofs.YtofjebmoebhiiaaGreatDoor.Ev
namespace Go.Proofs.YtofjebmoebhiiaaGreatDoor.Ev
open Go.Abs Go.RowKit Go.Lib
theorem aoD (s:ByteArray)(c:Int)(w:World):(callFunc 177 #[.string s, .int .u8 c]).run Tryz.prog w= .ok (.value (.int .i64 (indexByte s.data.toList c.toNat.toUInt8))) w:=by
 rw[run_callFunc_indexByte Tryz.func177 (by kernel_rfl) (by kernel_rfl) (by kernel_rfl) (by kernel_rfl),run_indexByteString]
 rfl
theorem amv (s:ByteArray)(c:Int)(W:World):Calls Tryz.prog 165 #[.string s, .int .u8 c] W fun e w'=>e= .returned (.int .i64 (indexByte s.data.toList c.toNat.toUInt8))∧w'=W:=by
 have hd:=aoD s c W
 go_enter Tryz.func165,Tryz.ntmps165
 go_wp2
 go_ret
 exact⟨rfl,rfl⟩
theorem MH (c:Int)(hc:0≤c)(hc2:c<256):∀(l:List UInt8) (i:Nat),Xo c i l=bif Go.Lib.indexByte l c.toNat.toUInt8== -1 then -1 else i+Go.Lib.indexByte l c.toNat.toUInt8
 | [],i=>rfl
 |x::r,i=>by
  have ih:=MH c hc hc2 r (i+1)
  have hge:=indexByte_ge r c.toNat.toUInt8
  have e:((x.toNat:Int)==c)=(x==c.toNat.toUInt8):=by
   rw[Bool.eq_iff_iff,beq_iff_eq,beq_iff_eq]
   constructor
   ·intro h;subst h;simp
   ·intro h;subst h;simp;omega
  simp only[Xo,indexByte,e,ih]
  generalize c.toNat.toUInt8=u at hge ⊢
  cases hx:(x==u) with
  |true=>simp
  |false=>
   cases hi:(indexByte r u== -1) with
   |true=>simp
   |false=>
    have h1:(indexByte r u+1== -1)=false:=by rw[beq_eq_false_iff_ne];omega
    simp[h1]
    omega
theorem P9 {T:c9}{v d:Nat}{xh:D2 T v}{yh:Ak T v}(hh:(T.sig v).ag=[])(hu:Ni d (T.sig v) (xZ _ yh)=[]):zU T v d xh yh=bg (aW T v xh):=by
 unfold zU
 rw[hu]
 have:∀{hs:List Nat} (h:hs=[]) (x:GW T hs) (l:List bK),sx T hs hs x l=l:=fun h x l=>by subst h;rfl
 unfold sI
 rw[this (by simp[KX.hout,hh])]
 rfl
theorem amw (x:ByteArray×Int)(y:Int)(h:(bif decide (0≤x.2)&&decide (x.2<256) then some (Xo x.2 0 x.1.data.toList) else none)=some y):Sp Tryz.prog T 165 x y:=by
 refine⟨⟨_,Tryz.func165,by kernel_rfl,by kernel_rfl⟩,fun E ν args d hE hG hC hst hargs=> ?_⟩
 have hs:zU T 165 d x y=bg (aW T 165 x):=P9 rfl rfl
 obtain⟨s,c⟩:=x
 obtain⟨v1,r1,e1,h1,v2,e2,h2⟩:nO _ [.v .str, .v (.int .u8)] (s,c) args.toList:=hargs
 have h1': [v1]=[.string s]:=h1
 have h2': [v2]=[.int .u8 c]:=h2
 simp only[List.cons.injEq,and_true] at h1' h2'
 subst h1' h2' e2
 obtain rfl:args= #[.string s, .int .u8 c]:=by cases args;simp_all
 cases hc:decide (0≤c)&&decide (c<256) with
 |false=>simp only[hc,cond_false] at h;cases h
 |true=>
  simp only[Bool.and_eq_true,decide_eq_true_eq] at hc
  refine(amv s c E.w0).mono fun e w' ⟨he,hw⟩=> ?_
  subst he hw
  refine⟨_,ν,rfl,by rw[hs];exact hst, ?_⟩
  rw[hs]
  have e3:y=indexByte s.data.toList c.toNat.toUInt8:=by
   have h':Xo c 0 s.data.toList=y:=by simpa [hc.1,hc.2] using h
   rw[←h',MH c hc.1 hc.2]
   cases hi:(indexByte s.data.toList c.toNat.toUInt8== -1) with
   |true=>simpa using (beq_iff_eq.1 hi).symm
   |false=>simp
  rw[e3]
  show [Value.int .i64 _]=[Value.int .i64 _]
  rfl
abbrev tTm:Ty:= .st (.pair (.int .i64) (.pair (.int .i64) .unit))
abbrev ah2:cd T:=fun _ _=>none
theorem au5:abk Tryz.prog T ah2:=fun v xh yh h=>by cases h
theorem arG:abM Tryz.prog T ah2:=fun v xh yh h=>by cases h
theorem aoE:Tryz.f84.body.isSome=true:=by kernel_rfl
noncomputable def W1:Code:=Tryz.f84.body.get aoE
theorem arH:Tryz.f84.body=some W1:=by kernel_rfl
theorem aeZ:K9 T Tryz.f84 W1 ah2 0 100084 (none:Option (List tTm.den))=some ([]:List tTm.den):=by kernel_rfl
theorem ae0 (x:List tTm.den):K9 T Tryz.f84 W1 ah2 0 100084 (some x:Option (List tTm.den))=bif aP 16 2 0 x.length then some x else none:=by kernel_rfl
theorem akK {E:Env}{x:D2 T 84}{z:D2 T 100084}(h:Go.Abs.Callee T E 84 x):Go.Abs.Callee T E 100084 z:=
 ⟨h.j,h.m,h.om,h.acc,fun i k hi=>h.hx i k (fun hm:i∈([]:List Nat)=>by cases hm),fun i=>by
   have:=h.ro i
   exact this⟩
theorem akL (o:Option (List tTm.den))(y:List tTm.den)(h:K9 T Tryz.f84 W1 ah2 0 100084 o=some y):Sp Tryz.prog T 100084 o y:=
 Wc (v:=100084) afH au5 arG Tryz.func84 arH (by kernel_rfl) rfl h
theorem aoF (x y:List tTm.den)(h:(bif aP 16 2 0 x.length then some x else none)=some y):Sp Tryz.prog T 84 x y:=by
 refine⟨⟨_,Tryz.func84,by kernel_rfl,by kernel_rfl⟩,fun E ν args d hE hG hC hst hargs=> ?_⟩
 have hs0:∀z:D2 T 84,aW T 84 z=eM T:=fun z=>Gc rfl
 have Qa:∀z:D2 T 100084,aW T 100084 z=eM T:=fun z=>Gc rfl
 have go:∀o:Option (List tTm.den),K9 T Tryz.f84 W1 ah2 0 100084 o=some y→nO (view E (bg (eM T)) ν (fun _=>False) E.w0) [.v (.pg tTm)] o args.toList→Calls Tryz.prog 84 args E.w0 (Go.Abs.Left T E 84 x y d):=fun o ho ha=>by
  refine((akL o y ho).2 E ν args d hE hG (akK hC) (by rw[Qa o];rw[hs0 x] at hst;exact hst) (by rw[Qa o];exact ha)).mono ?_
  rintro e w' ⟨r,ν',rfl,h1,h2⟩
  have e1:zU T 100084 d o y=bg (eM T):=(P9 (T:=T) (v:=100084) rfl rfl).trans (congrArg bg (Qa o))
  have e2:zU T 84 d x y=bg (eM T):=(P9 (T:=T) (v:=84) rfl rfl).trans (congrArg bg (hs0 x))
  rw[e1] at h1 h2
  refine⟨r,ν',rfl,by rw[e2];exact h1, ?_⟩
  rw[e2]
  exact h2
 rw[hs0 x] at hst hargs
 obtain⟨v,e1,A,c,bQ,h1,h2,h3,h4,h5⟩:nO _ [.v (.slice tTm)] x args.toList:=hargs
 simp only[List.cons.injEq,and_true] at h1
 subst h1
 cases A with
 |none=>
  have hx:x=[]:=List.eq_nil_of_length_eq_zero (Nat.le_zero.1 (by have h6:=h4 rfl;subst h6;exact h2))
  have hc:=h4 rfl
  subst hx hc
  have hy:y=[]:=by
   have h':(some []:Option (List tTm.den))=some y:=h
   simpa using h'.symm
  subst hy
  exact go none aeZ ⟨_,e1,rfl⟩
 |some ad=>
  refine go (some x) ((ae0 x).trans h) ⟨_,e1,ad,c,bQ,rfl,h2,h3,fun j u hj=> ?_⟩
  obtain⟨XY,e2,hv⟩:=h5 j u hj
  cases e2
  exact hv
theorem amx:adR Tryz.prog T B:=fun v g hg=>by
 unfold B at hg
 split at hg
 ·cases hg
  exact⟨rfl,aoF⟩
 ·cases hg
  exact⟨rfl,amw⟩
 ·cases hg
end Go.Proofs.YtofjebmoebhiiaaGreatDoor.Ev
namespace Go.Proofs.YtofjebmoebhiiaaGreatDoor.clearLaid
open Go.ChangeShapes Go.WideShapes Go.ChangeAt Go.RowKit
abbrev laid:List (String×DataW Unit):=[("torus/clear.standard",Rows.laid_torus_clear_standard),("torus/clear.twist",Rows.laid_torus_clear_twist)]
theorem own:ownKnob Tryz.prog.godebug=none:=by kernel_rfl
theorem g0:Tryz.prog.globalNamed "torus/clear.standard" =some 0:=by kernel_rfl
theorem g1:Tryz.prog.globalNamed "torus/clear.twist" =some 1:=by kernel_rfl
theorem t0:(Tryz.prog.globals[0]?).map (·.type)=some 86:=by kernel_rfl
theorem t1:(Tryz.prog.globals[1]?).map (·.type)=some 86:=by kernel_rfl
theorem akM (os:Os)(args:Array Value):laidMetH Tryz.prog laid ((World.doorLaid Tryz.prog 19 os).forCall (fun _ _=>0) ⟨#[],args,[]⟩).memory:=
 laidMetH_of_parts3 (fuel:=8) (laidMet_of_run' 8 (by kernel_rfl) (by kernel_rfl)) (by kernel_rfl) (by kernel_rfl)
theorem amy {W:World}(h:laidMetH Tryz.prog laid W):W.cell? ⟨0,0,none⟩=some (.func (.func 196) #[] #[])∧W.cell? ⟨0,1,none⟩=some (.bool false)∧
  W.cell? ⟨1,0,none⟩=some (.func (.func 198) #[] #[])∧W.cell? ⟨1,1,none⟩=some (.bool true):=by
 have one:∀(name:String) (gn:Nat) (b0:UInt8) (r:List UInt8) (b:Bool) (f0:FuncId),(name,DataW.iface "func table" (.agg [.iface "func" (.lit (.string (b0::r))), .lit (.bool b)]))∈laid→Tryz.prog.globalNamed name=some gn→(Tryz.prog.globals[gn]?).map (·.type)=some 86→
   (((List.range Tryz.prog.funcs.size).filter fun f=>(Tryz.prog.funcs[f]?).any (·.name.toUTF8.data.toList==b0::r))=[f0])→W.cell? ⟨gn,0,none⟩=some (.func (.func f0) #[] #[])∧W.cell? ⟨gn,1,none⟩=some (.bool b):=by
  intro name gn b0 r b f0 hm hgn htn hone
  obtain⟨g,t,cs,fuel,p,hg,ht,hv,hd⟩:=h.funcs hm
  obtain rfl:=Option.some.inj (hgn.symm.trans hg)
  obtain rfl:=Option.some.inj (htn.symm.trans ht)
  have hd':DataW.trod (funcToken Tryz.prog) Tryz.prog W 0 (fun _=>true) true fuel 86 cs.toList=some (.agg [.held (b0::r), .lit (.bool b)],p):=hd
  obtain⟨y0,y1,n,hx,hl,h0,h1⟩:=trod_struct2 Tryz.underlying86 hd'
  have hl':cs.toList.length=2:=hl.trans (by kernel_rfl)
  obtain⟨l⟩:=cs
  simp only at hl' h0 h1
  match l,hl' with
  | [c0,c1],_=>
    have e84:Tryz.prog.cellsOf 84=1:=by kernel_rfl
    have e4:Tryz.prog.cellsOf 4=1:=by kernel_rfl
    rw[e84] at h0
    rw[e4] at h1
    simp only[Prod.mk.injEq,DataW.agg.injEq,List.cons.injEq,and_true] at hx
    have k0:DataW.trod (funcToken Tryz.prog) Tryz.prog W 0 (fun _=>true) true n 84 [c0]=some (.held (b0::r),y0.2):=by
     have h0':DataW.trod (funcToken Tryz.prog) Tryz.prog W 0 (fun _=>true) true n 84 [c0]=some y0:=h0
     rw[h0',hx.1.1]
    obtain rfl:=func_of_trod (f0:=f0) Tryz.underlying84 hone k0
    have v0:=World.var?_cell hgn hv 0
    have v1:=World.var?_cell hgn hv 1
    obtain⟨b',e1,e2⟩:=DataW.trod_bool Tryz.underlying4 (show DataW.trod (funcToken Tryz.prog) Tryz.prog W 0 (fun _=>true) true n 4 [c1]=some y1 from h1)
    simp only[List.cons.injEq,and_true] at e1
    subst e1
    have e3:=hx.1.2
    rw[e2] at e3
    simp only[DataW.lit.injEq,Lit.bool.injEq] at e3
    subst e3
    exact⟨v0,v1⟩
 obtain⟨a1,a2⟩:=one "torus/clear.standard" 0 _ _ false 196 (List.mem_cons_self ..) g0 t0 (by kernel_rfl)
 obtain⟨a3,a4⟩:=one "torus/clear.twist" 1 _ _ true 198 (List.mem_cons_of_mem _ (List.mem_cons_self ..)) g1 t1 (by kernel_rfl)
 exact⟨a1,a2,a3,a4⟩
theorem amz {W:World}(h:laidMetH Tryz.prog laid W):Go.Abs.Zs Ev.T (fun key u=>∃ad:Addr,key= .cell ad∧∃XY:Addr,Go.Abs.Key.cell ad= .cell XY∧W.cell? XY=some u):=by
 obtain⟨a1,a2,a3,a4⟩:=amy h
 have one:∀(gn f0:Nat) (b:Bool),W.cell? ⟨gn,0,none⟩=some (.func (.func f0) #[] #[])→W.cell? ⟨gn,1,none⟩=some (.bool b)→
   Go.Abs.sF (fun key u=>∃ad:Addr,key= .cell ad∧∃XY:Addr,Go.Abs.Key.cell ad= .cell XY∧W.cell? XY=some u) [⟨.fn,f0+1⟩,⟨.bool,b⟩] (.pointer (some ⟨gn,0,none⟩)):=fun gn f0 b h1 h2=>
  ⟨⟨gn,0,none⟩,[.func (.func f0) #[] #[], .bool b],rfl,⟨rfl,rfl,trivial⟩,fun j u hj=>by
    match j,hj with
    |0,hj=>cases hj;exact⟨_,rfl,_,rfl,h1⟩
    |1,hj=>cases hj;exact⟨_,rfl,_,rfl,h2⟩
    |j+2,hj=>simp at hj⟩
 intro i x hx
 have hx':Go.Abs.look [(1000000000,Go.Abs.AV.qB [⟨.fn,(197:Nat)⟩,⟨.bool,false⟩]),(1000000001,Go.Abs.AV.qB [⟨.fn,(199:Nat)⟩,⟨.bool,true⟩])] i=some x:=hx
 have hm:=Go.Abs.Bv hx'
 simp only[List.mem_cons,List.not_mem_nil,or_false,Prod.mk.injEq] at hm
 rcases hm with ⟨rfl,rfl⟩ | ⟨rfl,rfl⟩
 ·exact⟨0,_,rfl,rfl,one 0 196 false a1 a2⟩
 ·exact⟨1,_,rfl,rfl,one 1 198 true a3 a4⟩
end Go.Proofs.YtofjebmoebhiiaaGreatDoor.clearLaid
namespace Go.Proofs.YtofjebmoebhiiaaGreatDoor.clearTwistMatches
open Go.ChangeShapes Go.WideShapes Go.ChangeAt Go.RowKit
theorem laidOut:laidOutB Tryz.prog=true:=by kernel_rfl
theorem arI:Go.Abs.KD Tryz.prog Go.Abs.tCh 24=true:=by kernel_rfl
theorem arJ:Go.Abs.KD Tryz.prog Go.Abs.aeY 28=true:=by kernel_rfl
theorem walk (W:World)(h:laidMetH Tryz.prog clearLaid.laid W)(l0:Array Value)(x0:Go.Abs.tCh.den)(w0:Go.Abs.Rel (Go.Abs.wv W) Go.Abs.tCh x0 l0.toList)(b0:Go.Abs.Bnd Go.Abs.tCh x0)(l1:Array Value)(x1:Go.Abs.aeY.den)(w1:Go.Abs.Rel (Go.Abs.wv W) Go.Abs.aeY x1 l1.toList)(b1:Go.Abs.Bnd Go.Abs.aeY x1):Calls Tryz.prog 5 #[.agg l0, .agg l1] W fun e w'=>e= .returned (.bool true)∧Below W.heap.size W w':=
 Go.Abs.ap2 (T:=Ev.T) (V0:=fun key u=>∃ad:Addr,key= .cell ad∧W.cell? ad=some u) (w:=W) (v:=5) (xh:=(x0,x1)) (yh:=true) ((Go.Abs.ag5 Ev.afH Ev.amx Ev.aod) 5 (x0,x1) true (Ev.aoj x0 x1 b0 b1) rfl) rfl HEq.rfl
   (fun ad u ⟨XY,e,hc⟩=>by cases e;exact hc) (clearLaid.amz h) ⟨_,_,rfl,Go.Abs.yk.mono (fun key u ⟨ad,e,h⟩=>⟨ad,e,by rw[←e];exact⟨ad,e,h⟩⟩) (Go.Abs.ajH w0),⟨_,rfl,Go.Abs.yk.mono (fun key u ⟨ad,e,h⟩=>⟨ad,e,by rw[←e];exact⟨ad,e,h⟩⟩) (Go.Abs.ajH w1)⟩⟩
theorem lifted (os:Os)(started:os.Started)(H:Type)(enc:TypeId×Value→H):
  ReturnsInHanded {} Tryz.checked os 5 .any (fun w args=>(Rows.clearTwistMatchesSpec.pre enc Tryz.prog Tryz.f5 [] false w args∧laidMetH Tryz.prog clearLaid.laid w)∧sizedMet enc Tryz.prog Tryz.f5 (OpenSpec.ofChange Rows.clearTwistMatchesSpec) false w args)
   (Rows.clearTwistMatchesSpec.post enc Tryz.prog Tryz.f5 false true false false):=by
 refine returnsInHanded_of_change_and (C:=Tryz.checked) (X:=fun w _=>laidMetH Tryz.prog clearLaid.laid w) (fun _ _ _ hh h=>h.of_heap hh) clearLaid.own started (by kernel_rfl) Tryz.func5
  (ChangeSpec.witness_shaped (enc:=enc) (C:=Tryz.checked) (os:=os) (X:=fun w _=>laidMetH Tryz.prog clearLaid.laid w) false (World.doorLaid Tryz.prog 19 os) #[.agg #[.int .i64 0, .slice none 0 0], .agg #[.slice none 0 0, .slice none 0 0, .int .i64 0, .slice none 0 0]] 8 rfl (World.shaped_of_RefB (by kernel_rfl) (by kernel_rfl)) (by kernel_rfl) (by kernel_rfl) (by kernel_rfl) (clearLaid.akM os _)) ?_
 intro W base args ds gs before ank hW _ arK hL _
 have hsz:(DataW.weightsEach Tryz.prog (Tryz.f5.params.toList++Rows.clearTwistMatchesSpec.plain.varTypes Tryz.prog) (ds++gs)).all (· ≤reachBytes)=true:=arK
 have hval:∀(j:Nat) t v,Tryz.f5.params[j]? =some t→args[j]? =some v→Value.okWide Tryz.prog W .any base t v:=ank
 have hW':=hW
 obtain⟨p,q,hA0,hV,rfl,hfz,hnd⟩:=hW
 have hA:DataW.TrodAll enc Tryz.prog W 0 (fun _=>true) true Tryz.f5.params.toList args.toList ds p:=hA0
 rw[Tryz.params5] at hA hval hsz
 obtain⟨v0,vs0,d0,ds0,q0_,q0,hargs,rfl,rfl,h0,r0⟩:=trodAll_cons hA
 obtain⟨v1,vs1,d1,ds1,q1_,q1,rfl,rfl,rfl,h1,r1⟩:=trodAll_cons r0
 obtain⟨rfl,rfl,rfl⟩:=trodAll_nil r1
 obtain rfl:args= #[v0,v1]:=by cases args;simp_all
 obtain⟨rfl,rfl⟩:=trodVars_none hV
 obtain⟨l0,rfl,z0⟩:=okWide_struct Tryz.underlying24 (hval 0 24 v0 rfl rfl)
 have lt0:∀x∈q0_,x.block<W.heap.size:=by obtain⟨m,hm⟩:=h0;exact DataW.trod_lt m _ _ _ hm
 obtain⟨x0,w0,b0⟩:=Go.Abs.ajG arI h0 hsz (j:=0) rfl rfl
 obtain⟨l1,rfl,z1⟩:=okWide_struct Tryz.underlying28 (hval 1 28 v1 rfl rfl)
 have lt1:∀x∈q1_,x.block<W.heap.size:=by obtain⟨m,hm⟩:=h1;exact DataW.trod_lt m _ _ _ hm
 obtain⟨x1,w1,b1⟩:=Go.Abs.ajG arJ h1 hsz (j:=1) rfl rfl
 clear hA0 ank arK hsz
 refine(walk W hL l0 x0 w0 b0 l1 x1 w1 b1).mono fun e W' ⟨he,bel⟩=> ?_
 subst he
 exact⟨_,rfl,_,_,_,[],_,[],hW',trodAll_mk1 (shut_bool Tryz.underlying4 _),(trodAll_cons_mk (Below.trod laidOut (by kernel_rfl) (of_decide_eq_true (by kernel_rfl)) h0 bel lt0) (trodAll_cons_mk (Below.trod laidOut (by kernel_rfl) (of_decide_eq_true (by kernel_rfl)) h1 bel lt1) trodAll_mk0)),rfl,bel.frame _,fun h=>by cases h⟩
theorem over:Rows.clearTwistMatchesRow.holds Tryz.pinned (OpenSpec.ofChange Rows.clearTwistMatchesSpec):=
 OpenClaim.holds_of_wide 5 Tryz.f5 rfl rfl rfl rfl rfl rfl rfl ⟨rfl,rfl,rfl,rfl,rfl⟩ rfl rfl rfl rfl rfl (by kernel_rfl) Tryz.func5 (by kernel_rfl)
  (of_decide_eq_true (by kernel_rfl)) (by unfold Func.isWrapper;first | (rw[if_pos (by decide+kernel)];kernel_rfl) | (rw[if_neg (by decide+kernel)];exact⟨rfl,rfl⟩))
  (fun os started H enc _=>lifted os started H enc)
theorem au8:Rows.ClearTwistMatchesCardSaid:=
 Claim7.holds_tied_plain_at .later [] [.funcs, .funcs] true (true, "646fabaf2cebbacc9a084797f15646a8f53b2861734cfa52447632ca260b63f2") false
  over (fun _ h=>by cases h) (by kernel_rfl) (fun _ h=>by cases h) clearTwistMatches_row_tie rfl ⟨rfl,rfl⟩ (by kernel_rfl) rfl
  (fun f fn hf hfn=>by
   obtain rfl:f=5:=Option.some.inj ((show Tryz.prog.funcNamed "torus/toruslaw22.ClearTwistMatches" =some 5 by kernel_rfl).symm.trans hf) |>.symm
   obtain rfl:fn=Tryz.f5:=(Option.some.inj (Tryz.func5.symm.trans hfn)).symm
   exact⟨by kernel_rfl,fun j t ht=>by
    rw[Tryz.params5] at ht
    have hj:j<2:=by
     rcases Nat.lt_or_ge j 2 with h |h
     ·exact h
     ·rw[Array.getElem?_eq_none (by simpa using h)] at ht;cases ht
    match j,hj with
    |0,_=>(obtain rfl:t=24:=by simpa using ht.symm);exact(show Tryz.prog.wantsStandIn 24=false by kernel_rfl)
    |1,_=>(obtain rfl:t=28:=by simpa using ht.symm);exact(show Tryz.prog.wantsStandIn 28=false by kernel_rfl)⟩)
  (by kernel_rfl)
end Go.Proofs.YtofjebmoebhiiaaGreatDoor.clearTwistMatches
namespace Go.Proofs.YtofjebmoebhiiaaGreatDoor
theorem clearTwistMatches_holds:Rows.ClearTwistMatchesCardSaid:=clearTwistMatches.au8
#print axioms clearTwistMatches_holds
end Go.Proofs.YtofjebmoebhiiaaGreatDoor
