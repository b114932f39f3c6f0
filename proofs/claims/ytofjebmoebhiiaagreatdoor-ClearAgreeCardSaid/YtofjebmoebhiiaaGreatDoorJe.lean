/- YtofjebmoebhiiaaGreatDoorJe: a part of the proof (N3, N4, N5 ..). No condition. -/
import Derived.Test.YtofjebmoebhiiaaGreatDoorJd
set_option linter.unusedVariables false
set_option linter.unusedSimpArgs false
set_option maxRecDepth 100000
set_option exponentiation.threshold 2000
namespace Go.Abs
theorem Ew {l:List Int}{n:Nat}{v:Int}(h:n<l.length):(l.set n v).take (n+1)=l.take n++[v]:=by rw[eJ (by simpa using h),List.take_set_of_le (Nat.le_refl n)];simp[List.getD,h]
theorem set_drop {l:List Int}{n:Nat}{v:Int}:(l.set n v).drop (n+1)=l.drop (n+1):=by rw[List.drop_set_of_lt (by omega)]
theorem VJ (l:List Int)(k:Nat):l=l.take k++l.drop k:=(List.take_append_drop k l).symm
theorem Lp (n j:Nat):(List.replicate n (0:Int)).getD j 0=0:=by
 by_cases h:j<n
 ·simp only[List.getD,List.getElem?_replicate,if_pos h];rfl
 ·exact getD_none (by simp;omega)
theorem ag2 {x y:Int}(hx:0≤x∧x<1000000000)(hy:0≤y∧y<1000000000):0≤x*y∧x*y≤999999998000000001:=by have h1:=Int.mul_nonneg hx.1 hy.1;have h2:x*y≤999999999*y:=Int.mul_le_mul_of_nonneg_right (by omega) hy.1;exact⟨h1,by omega⟩
end Go.Abs
namespace Go.Proofs.YtofjebmoebhiiaaGreatDoor.Ev
open Go.Abs Go.IntWalk
def amL:List Int→Int→List Int→Int→List Int
 | [],x,o::os,c=>c::os
 | [],x,[],c=>[]
 |y::ys,x,o::os,c=>(x*y+o+c) % 1000000000::amL ys x os ((x*y+o+c) / 1000000000)
 |y::ys,x,[],c=>[]
def mlL:List Int→List Int→List Int→List Int
 | [],b,o=>o
 |x::xs,b,o=>match amL b x o 0 with
  | []=>[]
  |h::t=>h::mlL xs b t
theorem OV:∀(b:List Int) (x:Int) (o:List Int) (c:Int),b.length<o.length→(amL b x o c).length=o.length
 | [],x,[],c,h=>by simp at h
 | [],x,o::os,c,h=>by simp[amL]
 |y::ys,x,[],c,h=>by simp at h
 |y::ys,x,o::os,c,h=>by simp only[amL,List.length_cons];rw[OV ys x os _ (by simpa using h)]
theorem Zs:∀(b:List Int) (x:Int) (o:List Int) (c:Int),b.length<o.length→DU b→DU o→0≤x∧x<1000000000→0≤c∧c<1000000000→o.getD b.length 0=0→
  VU (amL b x o c)=VU o+x*VU b+c∧DU (amL b x o c)∧(amL b x o c).drop (b.length+1)=o.drop (b.length+1)
 | [],x,[],c,h,hb,ho,hx,hc,hz=>by simp at h
 | [],x,o::os,c,h,hb,ho,hx,hc,hz=>by
   have:o=0:=by simpa using hz
   subst this;simp only[amL];exact⟨by simp[VU,val];omega,i6.cons hc.1 hc.2 ho.tail,by simp⟩
 |y::ys,x,[],c,h,hb,ho,hx,hc,hz=>by simp at h
 |y::ys,x,o::os,c,h,hb,ho,hx,hc,hz=>by
  have hy:=hb.head;have hoo:=ho.head;have hm:=ag2 hx hy;obtain⟨e1,e2,e3⟩:=Zs ys x os ((x*y+o+c) / 1000000000) (by simpa using h) hb.tail ho.tail hx (by omega) (by simpa using hz);simp only[amL];refine⟨?_,i6.cons (by omega) (by omega) e2,by simpa using e3⟩;simp only[VU,val] at e1 ⊢;have e4:x*(y+1000000000*val 1000000000 ys)=x*y+1000000000*(x*val 1000000000 ys):=by rw[Int.mul_add,Int.mul_left_comm]
  rw[e1,e4];omega
theorem afo:∀(a b o:List Int),o.length=a.length+b.length→DU a→DU b→DU o→(∀j,b.length≤j→o.getD j 0=0)→
  VU (mlL a b o)=VU o+VU a*VU b∧DU (mlL a b o)∧(mlL a b o).length=o.length
 | [],b,o,hl,ha,hb,ho,hz=>by simp[mlL,VU,val];exact ho
 |x::xs,b,o,hl,ha,hb,ho,hz=>by
  have hlt:b.length<o.length:=by simp at hl;omega
  obtain⟨e1,e2,e3⟩:=Zs b x o 0 hlt hb ho ha.head ⟨by omega,by omega⟩ (hz _ (Nat.le_refl _));have e4:=OV b x o 0 hlt;simp only[mlL];split
  ·rename_i e;rw[e] at e4;simp at e4;omega
  ·rename_i h t e;rw[e] at e1 e2 e3 e4;obtain⟨f1,f2,f3⟩:=afo xs b t (by simp at hl e4;omega) ha.tail hb e2.tail (fun j hj=>by
    have h5:(h::t).drop (b.length+1)=t.drop b.length:=rfl;have h6:t.getD j 0=(t.drop b.length).getD (j - b.length) 0:=by rw[tj];congr 1;omega
    rw[h6, ←h5,e3,tj];exact hz _ (by omega))
   refine⟨?_,i6.cons e2.head.1 e2.head.2 f2,by simp[f3] at e4 ⊢;omega⟩;simp only[VU,val] at e1 f1 ⊢;rw[f1,Int.add_mul,Int.mul_assoc];omega
theorem ag3 {a b:List Int}{sa sb:Bool}{t8:List Int}{t7:Bool}{x:Int}{i:Nat}(hb:DU b)(hx:0≤x∧x<1000000000)(hi:i<a.length)(hl:a.length≤1000000000000)(hl':b.length≤1000000000000):
  ∀(m k:Nat) (c:Int) (out:List Int),m+k=b.length→out.length=a.length+b.length→DU out→0≤c∧c<1000000000→
  fA i x c a a.length i b b.length k out sa a sb b t7 t8=dx a a.length (i+1) (out.take (i+k)++amL (b.drop k) x (out.drop (i+k)) c) sa a sb b t7 t8:=by
 intro m;induction m with
 |zero=>
  intro k c out hk ho hd hc;have hk':k=b.length:=by omega
  subst hk';rw[tL,pF];simp (disch:=omega) only[y6,cond_false,i64_in,u32_in];rw[sS (by omega) (by omega),VI (show ((i:Int)+b.length).toNat<out.length by omega)];have e:((i:Int)+b.length).toNat=i+b.length:=by omega
  simp only[Option.bind_some,e];rw[drop_nil (Nat.le_refl _),drop_eq (show i+b.length<out.length by omega)];simp only[amL]
  congr 1
  conv=>lhs;rw[VJ (out.set (i+b.length) c) (i+b.length+1)]
  rw[Ew (by omega),set_drop];simp
 |succ m ih=>
  intro k c out hk ho hd hc;have hy:=hb.getD (by omega) k;have hoo:=hd.getD (by omega) (i+k);have hm:=ag2 hx hy;rw[tL,pF];have e:((i:Int)+k).toNat=i+k:=by omega
  simp (disch:=omega) only[Ba,cond_true,i64_in,sS,VI,Option.bind_some,u64_in,Int.toNat_natCast,e];simp (disch:=omega) only[u64_in,u64_quo,bD,u32_in];have wL:=fun c out=>ih (k+1) c out (by omega);simp only[Int.natCast_add,Int.natCast_one] at wL;rw[wL _ _ (by simp[ho]) (hd.set (by omega) (by omega) _) (by omega)]
  congr 1
  rw[drop_eq (show k<b.length by omega),drop_eq (show i+k<out.length by omega)];simp only[amL];rw[show i+(k+1)=i+k+1 by omega,Ew (by omega),set_drop];have e2:c+(x*b.getD k 0+out.getD (i+k) 0)=x*b.getD k 0+out.getD (i+k) 0+c:=by omega
  rw[e2];simp
theorem ag4 {a b:List Int}{sa sb:Bool}{t8:List Int}{t7:Bool}(ha:DU a)(hb:DU b)(hl:a.length≤1000000000000)(hl':b.length≤1000000000000):
  ∀(m i:Nat) (out:List Int),m+i=a.length→out.length=a.length+b.length→DU out→(∀j,b.length≤j→(out.drop i).getD j 0=0)→
  dx a a.length i out sa a sb b t7 t8=jh (!(sa==sb)) (out.take i++mlL (a.drop i) b (out.drop i)):=by
 intro m;induction m with
 |zero=>
  intro i out hi ho hd hz;have hi':i=a.length:=by omega
  rw[tK,pE];simp (disch:=omega) only[y6,cond_false,drop_nil,mlL,List.take_append_drop];cases jh (!(sa==sb)) out<;>rfl
 |succ m ih=>
  intro i out hi ho hd hz;have hx:=ha.getD (by omega) i;rw[tK,pE];simp (disch:=omega) only[Ba,cond_true,sS,Option.bind_some,Int.toNat_natCast];have hI:=ag3 (a:=a) (sa:=sa) (sb:=sb) (t7:=t7) (t8:=t8) (i:=i) hb hx (by omega) hl hl' b.length 0 0 out (by omega) ho hd ⟨by omega,by omega⟩;simp only[Int.natCast_zero] at hI;rw[hI];have hlen:(out.drop (i+0)).length=a.length - i+b.length:=by simp;omega
  have hlt:b.length<(out.drop (i+0)).length:=by omega
  obtain⟨e1,e2,e3⟩:=Zs b (a.getD i 0) (out.drop (i+0)) 0 hlt hb (hd.drop _) hx ⟨by omega,by omega⟩ (hz _ (Nat.le_refl _));have e4:=OV b (a.getD i 0) (out.drop (i+0)) 0 hlt;have wL:=fun out=>ih (i+1) out (by omega);simp only[Int.natCast_add,Int.natCast_one] at wL;rw[drop_eq (show i<a.length by omega)];simp only[mlL,List.drop_zero,Nat.add_zero,Int.natCast_zero] at*
  cases hA:amL b (a.getD i 0) (out.drop i) 0 with
  |nil=>rw[hA] at e4;simp at e4;omega
  |cons h t=>
   rw[hA] at e2 e3 e4;have htl:(out.take i).length=i:=by simp;omega
   have h7:(out.take i++h::t).drop (i+1)=t:=by rw[List.drop_append,htl];have:(out.take i).drop (i+1)=[]:=drop_nil (by omega);rw[this];simp
   have h8:(out.take i++h::t).take (i+1)=out.take i++[h]:=by rw[List.take_append,htl];have:(out.take i).take (i+1)=out.take i:=List.take_of_length_le (by omega);rw[this];simp
   rw[wL _ (by simp[ho] at e4 ⊢;omega) ((hd.take _).append e2) (fun j hj=>by
    rw[h7];have h5:(h::t).drop (b.length+1)=t.drop b.length:=rfl;have h6:t.getD j 0=(t.drop b.length).getD (j - b.length) 0:=by rw[tj];congr 1;omega
    rw[h6, ←h5,e3,tj];exact hz _ (by omega)),h7,h8]
   simp
theorem Hy {x y:Int}(hx:Ln x≤100000000000)(hy:Ln y≤100000000000):nE (W x) (W y)=some (W (x*y)):=by
 rw[G1,By];simp only[W_1,W_2,qt];simp (disch:=omega) only[i64_in,Qn,cond_true];have atS:(((Ln x:Nat):Int)+(Ln y:Nat)).toNat=Ln x+Ln y:=by omega
 rw[atS];have ha:=JX x.natAbs;have hb:=JX y.natAbs;have h1:=ag4 (sa:=decide (x<0)) (sb:=decide (y<0)) (t7:=false) (t8:=[]) ha hb (by rw[qt];omega) (by rw[qt];omega) (Ln x) 0 (List.replicate (Ln x+Ln y) 0) (by rw[qt];omega)
  (by rw[List.length_replicate,qt,qt]) (i6.replicate (by omega) _) (fun j hj=>by
   rw[tj];exact Lp _ _)
 rw[qt] at h1;have h2:dx (dU x.natAbs) (Ln x) 0 (List.replicate (Ln x+Ln y) 0) (decide (x<0)) (dU x.natAbs) (decide (y<0)) (dU y.natAbs) false []=_:=h1;rw[h2];obtain⟨e1,e2,e3⟩:=afo (dU x.natAbs) (dU y.natAbs) (List.replicate (Ln x+Ln y) 0) (by rw[List.length_replicate,qt,qt]) ha hb (i6.replicate (by omega) _) (fun j hj=>by
   exact Lp _ _)
 simp only[List.take_zero,List.nil_append,List.drop_zero];rw[Am e2 (by rw[e3,List.length_replicate];omega),e1,Lm,Lm];simp only[VU,NH,Int.zero_add];have key:(bif !(decide (x<0)==decide (y<0)) then -((x.natAbs:Int)*(y.natAbs:Int)) else ((x.natAbs:Int)*(y.natAbs:Int)))=x*y:=by
  by_cases h1:x<0<;>by_cases h2:y<0
  ·rw[Ba h1,Ba h2];have e1:(x.natAbs:Int)= -x:=by omega
   have e2:(y.natAbs:Int)= -y:=by omega
   rw[e1,e2];simp[Int.neg_mul,Int.mul_neg]
  ·rw[Ba h1,y6 h2];have e1:(x.natAbs:Int)= -x:=by omega
   have e2:(y.natAbs:Int)=y:=by omega
   rw[e1,e2];simp[Int.neg_mul,Int.mul_neg]
  ·rw[y6 h1,Ba h2];have e1:(x.natAbs:Int)=x:=by omega
   have e2:(y.natAbs:Int)= -y:=by omega
   rw[e1,e2];simp[Int.neg_mul,Int.mul_neg]
  ·rw[y6 h1,y6 h2];have e1:(x.natAbs:Int)=x:=by omega
   have e2:(y.natAbs:Int)=y:=by omega
   rw[e1,e2];simp[Int.neg_mul,Int.mul_neg]
 rw[key]
def TN:List Int→Int→Int→List Int
 | [],k,c=>[c]
 |x::xs,k,c=>(c+x*k) % 1000000000::TN xs k ((c+x*k) / 1000000000)
theorem Zt:∀(a:List Int) (k c:Int),DU a→0≤k∧k<1000000000→0≤c∧c<1000000000→VU (TN a k c)=VU a*k+c∧DU (TN a k c)∧(TN a k c).length=a.length+1
 | [],k,c,ha,hk,hc=>by simp only[TN];exact⟨by simp[VU,val],i6.cons hc.1 hc.2 i6.nil,rfl⟩
 |x::xs,k,c,ha,hk,hc=>by have hm:=ag2 ha.head hk;obtain⟨e1,e2,e3⟩:=Zt xs k ((c+x*k) / 1000000000) ha.tail hk (by omega);simp only[TN];refine⟨?_,i6.cons (by omega) (by omega) e2,by simp[e3]⟩;simp only[VU,val] at e1 ⊢;rw[e1,Int.add_mul,Int.mul_assoc];omega
theorem abM {a:List Int}{k:Int}(ha:DU a)(hk:0≤k∧k<1000000000)(hl:a.length≤1000000000000):∀(m i:Nat) (c:Int) (out:List Int),m+i=a.length→out.length=i→0≤c∧c<1000000000→
  jA k c a a.length i out=some (out++TN (a.drop i) k c):=by
 intro m;induction m with
 |zero=>intro i c out hi ho hc;rw[zD,uS];simp (disch:=omega) only[y6,cond_false,T0,cond_true,drop_nil,TN,u32_in]
 |succ m ih=>intro i c out hi ho hc;have hx:=ha.getD (by omega) i;have hm:=ag2 hx hk;rw[zD,uS];simp (disch:=omega) only[Ba,cond_true,sS,Option.bind_some,Int.toNat_natCast,u64_in];simp (disch:=omega) only[u64_in,bD,u64_quo,T0,cond_true,i64_in,u32_in];have wL:=fun c out=>ih (i+1) c out (by omega);simp only[Int.natCast_add,Int.natCast_one] at wL;rw[wL _ _ (by simp;omega) (by omega),drop_eq (show i<a.length by omega)];simp[TN]
theorem NI {a:List Int}{k:Int}(ha:DU a)(hk:0≤k∧k<1000000000)(hl:a.length≤1000000000000):u5 a k=some (TN a k 0):=by rw[Nu,IB];simp (disch:=omega) only[i64_in,Qn,cond_true];have:=abM ha hk hl a.length 0 0 [] (by omega) rfl ⟨by omega,by omega⟩;simpa using this
def EK (b:Int):List Int→List Int×Int
 | []=>([],0)
 |x::xs=>((((EK b xs).2*1000000000+x) / b)::(EK b xs).1,((EK b xs).2*1000000000+x) % b)
theorem Qq {b:Int}(hb:0<b∧b<1000000000):∀(a:List Int),DU a→VU a=VU (EK b a).1*b+(EK b a).2∧0≤(EK b a).2∧(EK b a).2<b∧DU (EK b a).1∧(EK b a).1.length=a.length
 | [],ha=>⟨by simp[EK,VU,val],by simp[EK],by simp[EK];omega,i6.nil,rfl⟩
 |x::xs,ha=>by
  have hx:=ha.head;obtain⟨e1,e2,e3,e4,e5⟩:=Qq hb xs ha.tail;have hd:=Int.mul_ediv_add_emod ((EK b xs).2*1000000000+x) b;have hlt:=Int.emod_lt_of_pos ((EK b xs).2*1000000000+x) hb.1;have hnn:=Int.emod_nonneg ((EK b xs).2*1000000000+x) (show b≠0 by omega);have hq0:0≤((EK b xs).2*1000000000+x) / b:=Int.ediv_nonneg (by omega) (by omega);have hq1:((EK b xs).2*1000000000+x) / b<1000000000:=Int.ediv_lt_of_lt_mul hb.1 (by omega);simp only[EK];refine⟨?_,hnn,hlt,i6.cons hq0 hq1 e4,by simp[e5]⟩;simp only[VU,val] at e1 ⊢;have e7:(((EK b xs).2*1000000000+x) / b+1000000000*val 1000000000 (EK b xs).1)*b=b*(((EK b xs).2*1000000000+x) / b)+1000000000*(val 1000000000 (EK b xs).1*b):=by rw[Int.add_mul,Int.mul_assoc,Int.mul_comm (_ / b) b]
  rw[e1,e7];omega
theorem adJ {a:List Int}{b:Int}(ha:DU a)(hb:0<b∧b<1000000000)(hl:a.length≤1000000000000):∀(k:Nat) (out:List Int),k≤a.length→out.length=a.length→out.drop k=(EK b (a.drop k)).1→
  ky a b (EK b (a.drop k)).2 ((k:Int) - 1) out=some (EK b a):=by
 intro k;induction k with
 |zero=>intro out hk ho hd;rw[Bz,xo];obtain⟨e1,e2,e3,e4,e5⟩:=Qq hb a ha;simp only[List.drop_zero] at hd ⊢;simp (disch:=omega) only[abL,cond_false,u32_in];rw[hd]
 |succ k ih=>
  intro out hk ho hd;obtain⟨e1,e2,e3,e4,e5⟩:=Qq hb (a.drop (k+1)) (ha.drop _);have hx:=ha.getD (by omega) k;have hq0:0≤((EK b (a.drop (k+1))).2*1000000000+a.getD k 0) / b:=Int.ediv_nonneg (by omega) (by omega);have hq1:((EK b (a.drop (k+1))).2*1000000000+a.getD k 0) / b<1000000000:=Int.ediv_lt_of_lt_mul hb.1 (by omega);rw[Bz,xo];have e:((k+1:Nat):Int) - 1=k:=by omega
  rw[e];simp (disch:=omega) only[aff,cond_true,sS,VI,Option.bind_some,Int.toNat_natCast,u64_in];simp (disch:=omega) only[u64_in,u64_quo,bD,Lk,cond_false,u32_in,i64_in];have h1:EK b (a.drop k)=((((EK b (a.drop (k+1))).2*1000000000+a.getD k 0) / b)::(EK b (a.drop (k+1))).1,((EK b (a.drop (k+1))).2*1000000000+a.getD k 0) % b):=by rw[drop_eq (show k<a.length by omega)];rfl
  have h2:=ih (out.set k (((EK b (a.drop (k+1))).2*1000000000+a.getD k 0) / b)) (by omega) (by simpa using ho) (by
   rw[h1,drop_eq (by simp;omega),set_drop,hd];simp[List.getD,show k<out.length by omega])
  rw[h1] at h2;exact h2
theorem Qr {a:List Int}{b:Int}(ha:DU a)(hb:0<b∧b<1000000000)(hl:a.length≤1000000000000):tb a b=some (EK b a):=by rw[P0,KJ];simp (disch:=omega) only[i64_in,Qn,cond_true,Int.toNat_natCast];have:=adJ ha hb hl a.length (List.replicate a.length 0) (Nat.le_refl _) (by simp) (by rw[drop_nil (Nat.le_refl _),drop_nil (by simp)];rfl);rw[drop_nil (Nat.le_refl _)] at this;exact this
end Go.Proofs.YtofjebmoebhiiaaGreatDoor.Ev
namespace Go.Abs
section
variable {P V R vl wl v1 v2 u1 u2 u3 g rest:Int}
theorem aj6 (hP:0<P)(hvl:vl<P)(hwl:0≤wl)(hV:V=vl+P*(v2+1000000000*v1))(hR:R=wl+P*(u3+1000000000*(u2+1000000000*u1)))
  (h2:v2<1000000000) (h3:0≤u3) (h4:0≤u2) (hlt:R<V*1000000000):u1≤v1:=by
 by_cases h:u1≤v1
 ·exact h
 ·exfalso;have e1:P*(v1+1)≤P*u1:=Int.mul_le_mul_of_nonneg_left (by omega) (by omega);have e2:P*(v2+1)≤P*1000000000:=Int.mul_le_mul_of_nonneg_left (by omega) (by omega);have e3:0≤P*u3:=Int.mul_nonneg (by omega) h3;have e4:0≤P*u2:=Int.mul_nonneg (by omega) h4;simp only[Int.mul_add,Int.mul_one,Int.mul_left_comm P 1000000000] at hV hR e1 e2;omega
theorem apc (hP:0<P)(hV0:0<V)(hvl:0≤vl)(hwl:wl<P)(hV:V=vl+P*(v2+1000000000*v1))(hR:R=wl+P*(u3+1000000000*(u2+1000000000*u1)))
  (hg:0≤g) (ht:u1*1000000000+u2=g*v1+rest) (hlt:R<V*1000000000) (h:g≥1000000000∨g*v2>rest*1000000000+u3):R<g*V:=by
 rcases h with h |h
 ·have e1:V*1000000000≤V*g:=Int.mul_le_mul_of_nonneg_left h (by omega);rw[Int.mul_comm V g] at e1;omega
 ·have e1:0≤g*vl:=Int.mul_nonneg hg hvl;have e2:P*(rest*1000000000+u3+1)≤P*(g*v2):=Int.mul_le_mul_of_nonneg_left (by omega) (by omega);have e3:P*(u1*1000000000+u2)=P*(g*v1+rest):=by rw[ht]
  have e4:g*V=g*vl+(P*(g*v2)+1000000000*(P*(g*v1))):=by rw[hV,Int.mul_add,Int.mul_left_comm g P,Int.mul_add g,Int.mul_left_comm g 1000000000,Int.mul_add P,Int.mul_left_comm P 1000000000]
  simp only[Int.mul_add,Int.mul_one, ←Int.mul_assoc,Int.mul_left_comm P 1000000000] at e2 e3 hR e4;simp only[Int.mul_assoc,Int.mul_comm _ (1000000000:Int),Int.mul_left_comm _ (1000000000:Int)] at e2 e3 hR e4 ⊢;omega
theorem amz {G:Int}(hP:0<P)(hvl:0≤vl)(hwl:wl<P)(hV:V=vl+P*(v2+1000000000*v1))(hR:R=wl+P*(u3+1000000000*(u2+1000000000*u1)))
  (WB:0≤v2) (hu3:u3<1000000000) (hG:0≤G) (ht:u1*1000000000+u2+1≤G*v1):R<G*V:=by
 have h2:=Int.mul_le_mul_of_nonneg_left ht (show (0:Int)≤P by omega);have h3:0≤G*vl:=Int.mul_nonneg hG hvl;have h4:0≤P*(G*v2):=Int.mul_nonneg (by omega) (Int.mul_nonneg hG WB);have h5:G*V=G*vl+(P*(G*v2)+1000000000*(P*(G*v1))):=by rw[hV,Int.mul_add,Int.mul_left_comm G P,Int.mul_add G,Int.mul_left_comm G 1000000000,Int.mul_add P,Int.mul_left_comm P 1000000000]
 have h6:P*(u3+1)≤P*1000000000:=Int.mul_le_mul_of_nonneg_left (by omega) (by omega);simp only[Int.mul_add,Int.mul_one, ←Int.mul_assoc,Int.mul_left_comm P 1000000000] at h2 h6 h4 hR h5;simp only[Int.mul_assoc,Int.mul_comm _ (1000000000:Int),Int.mul_left_comm _ (1000000000:Int)] at h2 h6 h4 hR h5 ⊢;omega
theorem aj7 (hP:0<P)(YU:1≤v1)(WB:0≤v2)(abN:0≤vl)(hvl:vl<P)(hwl:0≤wl)(hV:V=vl+P*(v2+1000000000*v1))(hR:R=wl+P*(u3+1000000000*(u2+1000000000*u1)))
  (hg:0≤g) (hg':g≤999999999) (ht:u1*1000000000+u2=g*v1+rest) (h:g*v2≤rest*1000000000+u3):g*V<R+V:=by
 have e1:g*vl≤999999999*vl:=Int.mul_le_mul_of_nonneg_right hg' abN;have e2:P*(g*v2)≤P*(rest*1000000000+u3):=Int.mul_le_mul_of_nonneg_left h (by omega);have e3:P*(u1*1000000000+u2)=P*(g*v1+rest):=by rw[ht]
 have e4:g*V=g*vl+(P*(g*v2)+1000000000*(P*(g*v1))):=by rw[hV,Int.mul_add,Int.mul_left_comm g P,Int.mul_add g,Int.mul_left_comm g 1000000000,Int.mul_add P,Int.mul_left_comm P 1000000000]
 have e5:P*1≤P*v1:=Int.mul_le_mul_of_nonneg_left YU (by omega);have e6:0≤P*v2:=Int.mul_nonneg (by omega) WB;simp only[Int.mul_add,Int.mul_one, ←Int.mul_assoc,Int.mul_left_comm P 1000000000] at e2 e3 hR e4 hV e5;simp only[Int.mul_assoc,Int.mul_comm _ (1000000000:Int),Int.mul_left_comm _ (1000000000:Int)] at e2 e3 hR e4 hV ⊢;omega
end
def RZ (g:Int):List Int→List Int→Int→List Int×Int
 |us,[],b=>(us,b)
 | [],_::_,b=>([],b)
 |u::us,v::vs,b=>
  if u - b - g*v % 1000000000<0 then
   if u - b - g*v % 1000000000+1000000000<0 then
    ((u - b - g*v % 1000000000+2000000000)::(RZ g us vs (g*v / 1000000000+2)).1,(RZ g us vs (g*v / 1000000000+2)).2)
   else ((u - b - g*v % 1000000000+1000000000)::(RZ g us vs (g*v / 1000000000+1)).1,(RZ g us vs (g*v / 1000000000+1)).2)
  else ((u - b - g*v % 1000000000)::(RZ g us vs (g*v / 1000000000)).1,(RZ g us vs (g*v / 1000000000)).2)
def Zu:List Int→List Int→Int→List Int×Int
 |us,[],c=>(us,c)
 | [],_::_,c=>([],c)
 |u::us,v::vs,c=>((u+v+c) % 1000000000::(Zu us vs ((u+v+c) / 1000000000)).1,(Zu us vs ((u+v+c) / 1000000000)).2)
theorem abO {g:Int}(hg:0≤g∧g<1000000000):∀(us vs:List Int) (hs:List Int) (b:Int),us.length=vs.length→i6 1000000000 us→i6 1000000000 vs→0≤b∧b≤1000000000→
  ∃r b',RZ g (us++hs) vs b=(r++hs,b')∧val 1000000000 us - b - g*val 1000000000 vs=val 1000000000 r - 1000000000^vs.length*b'∧i6 1000000000 r∧r.length=us.length∧0≤b'∧b'≤1000000000
 | [],[],hs,b,hl,hu,hv,hb=>⟨[],b,by simp[RZ],by simp[val],i6.nil,rfl,hb⟩
 | [],_::_,hs,b,hl,hu,hv,hb=>by simp at hl
 |_::_,[],hs,b,hl,hu,hv,hb=>by simp at hl
 |u::us,v::vs,hs,b,hl,hu,hv,hb=>by
  have h1:=hu.head;have h2:=hv.head;have hm:=ag2 hg h2;have ih:=fun b' hb'=>abO hg us vs hs b' (by simpa using hl) hu.tail hv.tail hb';have fin:∀(y c b':Int) (r:List Int),u - b - g*v=y - 1000000000*c→0≤y∧y<1000000000→
    val 1000000000 us - c - g*val 1000000000 vs=val 1000000000 r - 1000000000^vs.length*b'→
    val 1000000000 (u::us) - b - g*val 1000000000 (v::vs)=val 1000000000 (y::r) - 1000000000^(v::vs).length*b':=fun y c b' r e1 hy e2=>by
   simp only[val,List.length_cons,Int.pow_succ];have e3:g*(v+1000000000*val 1000000000 vs)=g*v+1000000000*(g*val 1000000000 vs):=by rw[Int.mul_add,Int.mul_left_comm]
   have e4:(1000000000:Int)^vs.length*1000000000*b'=1000000000*(1000000000^vs.length*b'):=by rw[Int.mul_comm ((1000000000:Int)^vs.length),Int.mul_assoc]
   rw[e3,e4];omega
  simp only[List.cons_append,RZ];split
  ·split
   ·obtain⟨r,b',e1,e2,e3,e4,e5⟩:=ih (g*v / 1000000000+2) (by omega);refine⟨(u - b - g*v % 1000000000+2000000000)::r,b',by rw[e1];rfl,fin _ _ _ _ (by omega) (by omega) e2,i6.cons (by omega) (by omega) e3,by simp[e4],e5⟩
   ·obtain⟨r,b',e1,e2,e3,e4,e5⟩:=ih (g*v / 1000000000+1) (by omega);refine⟨(u - b - g*v % 1000000000+1000000000)::r,b',by rw[e1];rfl,fin _ _ _ _ (by omega) (by omega) e2,i6.cons (by omega) (by omega) e3,by simp[e4],e5⟩
  ·obtain⟨r,b',e1,e2,e3,e4,e5⟩:=ih (g*v / 1000000000) (by omega);refine⟨(u - b - g*v % 1000000000)::r,b',by rw[e1];rfl,fin _ _ _ _ (by omega) (by omega) e2,i6.cons (by omega) (by omega) e3,by simp[e4],e5⟩
theorem abP:∀(us vs:List Int) (hs:List Int) (c:Int),us.length=vs.length→i6 1000000000 us→i6 1000000000 vs→0≤c∧c≤1→
  ∃r c',Zu (us++hs) vs c=(r++hs,c')∧val 1000000000 us+val 1000000000 vs+c=val 1000000000 r+1000000000^vs.length*c'∧i6 1000000000 r∧r.length=us.length∧0≤c'∧c'≤1
 | [],[],hs,c,hl,hu,hv,hc=>⟨[],c,by simp[Zu],by simp[val],i6.nil,rfl,hc⟩
 | [],_::_,hs,c,hl,hu,hv,hc=>by simp at hl
 |_::_,[],hs,c,hl,hu,hv,hc=>by simp at hl
 |u::us,v::vs,hs,c,hl,hu,hv,hc=>by
  have h1:=hu.head;have h2:=hv.head;obtain⟨r,c',e1,e2,e3,e4,e5⟩:=abP us vs hs ((u+v+c) / 1000000000) (by simpa using hl) hu.tail hv.tail (by omega);refine⟨(u+v+c) % 1000000000::r,c',by simp only[List.cons_append,Zu];rw[e1], ?_,i6.cons (by omega) (by omega) e3,by simp[e4],e5⟩;simp only[val,List.length_cons,Int.pow_succ];have e6:(1000000000:Int)^vs.length*1000000000*c'=1000000000*(1000000000^vs.length*c'):=by rw[Int.mul_comm ((1000000000:Int)^vs.length),Int.mul_assoc]
  rw[e6];omega
end Go.Abs
namespace Go.Proofs.YtofjebmoebhiiaaGreatDoor.Ev
open Go.Abs Go.IntWalk
section
variable {k:Int}{v:List Int}{n j:Nat}{q u:List Int}
theorem Zv {P V R vl wl v1 v2 u1 u2 u3:Int}(hP:0<P)(abN:0≤vl)(hvl:vl<P)(ag5:0≤wl)(hwl:wl<P)(hV:V=vl+P*(v2+1000000000*v1))(hR:R=wl+P*(u3+1000000000*(u2+1000000000*u1)))
  (YU:500000000≤v1∧v1<1000000000) (WB:0≤v2∧v2<1000000000) (hu1:0≤u1∧u1<1000000000) (hu2:0≤u2∧u2<1000000000) (hu3:0≤u3∧u3<1000000000) (hlt:R<V*1000000000)
  (hn:2≤n) (Zw:v.length=n) (hun:j+n<u.length) (hul:u.length≤1000000000000)
  (gv1:v.getD (n - 1) 0=v1) (gv2:v.getD (n - 2) 0=v2) (gu3:u.getD (j+n - 2) 0=u3):∀(g:Nat) (rest:Int),u1*1000000000+u2=g*v1+rest→0≤rest→rest<1000000000→R<(g+1)*V→
  ∃g':Int,0≤g'∧g'≤999999999∧R<(g'+1)*V∧g'*V<R+V∧jT k v n j g rest q u=gO k v n j g' 0 n 0 q u:=by
 have atW:=aj6 hP hvl ag5 hV hR WB.2 hu3.1 hu2.1 hlt;have abQ:0<V:=by have e5:P*1≤P*v1:=Int.mul_le_mul_of_nonneg_left (by omega) (by omega);have e6:0≤P*v2:=Int.mul_nonneg (by omega) WB.1;simp only[Int.mul_add,Int.mul_one,Int.mul_left_comm P 1000000000] at hV e5;omega
 have hR0:0≤R:=by have e3:0≤P*(u3+1000000000*(u2+1000000000*u1)):=Int.mul_nonneg (by omega) (by omega);omega
 intro g;induction g with
 |zero=>
  intro rest ht h0 h1 hb;have hz:(0:Int)*v2≤rest*1000000000+u3:=by rw[Int.zero_mul];omega
  refine⟨0,by omega,by omega,by simpa using hb,by simp;omega, ?_⟩;rw[Dz,Af];have e1:((n:Int) - 2).toNat=n - 2:=by omega
  have e2:((j:Int)+n - 2).toNat=j+n - 2:=by omega
  simp (disch:=omega) only[abL,cond_false,i64_in,sS,VI,Option.bind_some,e1,e2,gv2,gu3,Int.natCast_zero,Int.zero_mul,u64_in,anN]
 |succ g ih=>
  intro rest ht h0 h1 hb;have hgb:(g:Int)+1≤1000000001:=by
   -- g v1 is at most C7 two top digits
   have h5:(g+1:Nat)*v1≤v1*1000000000+999999999:=by
    have:u1*1000000000≤v1*1000000000:=by omega
    omega
   by_cases hc:(g:Int)+1≤1000000001
   ·exact hc
   ·have h6:(1000000002:Int)*v1≤(g+1:Nat)*v1:=Int.mul_le_mul_of_nonneg_right (by omega) (by omega);omega
  have e1:((n:Int) - 2).toNat=n - 2:=by omega
  have e1':((n:Int) - 1).toNat=n - 1:=by omega
  have e2:((j:Int)+n - 2).toNat=j+n - 2:=by omega
  have egc:((g+1:Nat):Int)=(g:Int)+1:=by omega
  have apd:(g:Int)+1 - 1=g:=by omega
  rw[egc] at ht hb ⊢;have avl:0≤((g:Int)+1)*v2∧((g:Int)+1)*v2≤1000000001*999999999:=by refine⟨Int.mul_nonneg (by omega) WB.1, ?_⟩;have h7:((g:Int)+1)*v2≤1000000001*v2:=Int.mul_le_mul_of_nonneg_right hgb WB.1;omega
  have ari:((g:Int)+1≥1000000000∨((g:Int)+1)*v2>rest*1000000000+u3)→R<((g:Int)+1)*V:=
   apc hP abQ abN hwl hV hR (by omega) ht hlt
  -- one step down
  have abR:R<((g:Int)+1)*V→∃g':Int,0≤g'∧g'≤999999999∧R<(g'+1)*V∧g'*V<R+V∧
    (bif decide (rest+v1≥1000000000) then gO k v n j g 0 n 0 q u else jT k v n j g (rest+v1) q u)=gO k v n j g' 0 n 0 q u:=fun hR'=>by
   have ht':u1*1000000000+u2=g*v1+(rest+v1):=by rw[ht,Int.add_mul];omega
   by_cases hbr:rest+v1≥1000000000
   ·have hg9:(g:Int)≤999999999:=by
     by_cases hc:(g:Int)≤999999999
     ·exact hc
     ·exfalso;have h6:(1000000000:Int)*v1≤(g:Int)*v1:=Int.mul_le_mul_of_nonneg_right (by omega) (by omega);have:u1*1000000000≤v1*1000000000:=by omega
      omega
    have hle:(g:Int)*v2≤(rest+v1)*1000000000+u3:=by have h7:(g:Int)*v2≤999999999*v2:=Int.mul_le_mul_of_nonneg_right hg9 WB.1;omega
    refine⟨g,by omega,hg9,hR',aj7 hP (by omega) WB.1 abN hvl ag5 hV hR (by omega) hg9 ht' hle, ?_⟩;rw[aff hbr,cond_true]
   ·obtain⟨g',h1',h2',h3',h4',h5'⟩:=ih (rest+v1) ht' (by omega) (by omega) hR';refine⟨g',h1',h2',h3',h4', ?_⟩;rw[abL hbr,cond_false];exact h5'
  rw[Dz,Af];by_cases hge:(g:Int)+1≥1000000000
  ·obtain⟨g',h1',h2',h3',h4',h5'⟩:=abR (ari (.inl hge));refine⟨g',h1',h2',h3',h4', ?_⟩;rw[←h5',y7 hge];simp (disch:=omega) only[i64_in,gV,e1',gv1,u64_in,apd]
  ·by_cases hgt:((g:Int)+1)*v2>rest*1000000000+u3
   ·obtain⟨g',h1',h2',h3',h4',h5'⟩:=abR (ari (.inr hgt));refine⟨g',h1',h2',h3',h4', ?_⟩;rw[←h5',wF hge];simp (disch:=omega) only[i64_in,gV,rS,e1,e1',e2,gv1,gv2,gu3,u64_in,apd,da]
   ·refine⟨(g:Int)+1,by omega,by omega,hb,aj7 hP (by omega) WB.1 abN hvl ag5 hV hR (by omega) (by omega) ht (by omega), ?_⟩;rw[wF hge];simp (disch:=omega) only[i64_in,gV,rS,e1,e1',e2,gv1,gv2,gu3,u64_in,apd,dA]
end
end Go.Proofs.YtofjebmoebhiiaaGreatDoor.Ev
namespace Go.Abs
theorem ag6 {l:List Int}{m:Nat}(h:m+2<l.length):val 1000000000 (l.take (m+3))=val 1000000000 (l.take m)+1000000000^m*(l.getD m 0+1000000000*(l.getD (m+1) 0+1000000000*l.getD (m+2) 0)):=by
 rw[eJ (show m+2<l.length by omega),eJ (show m+1<l.length by omega),eJ (show m<l.length by omega),List.append_assoc,List.append_assoc,gE];have:(l.take m).length=m:=by simp;omega
 rw[this];simp[val]
theorem ag7 {l:List Int}{m:Nat}(h:m+1<l.length):val 1000000000 (l.take (m+2))=val 1000000000 (l.take m)+1000000000^m*(l.getD m 0+1000000000*l.getD (m+1) 0):=by
 rw[eJ (show m+1<l.length by omega),eJ (show m<l.length by omega),List.append_assoc,gE];have:(l.take m).length=m:=by simp;omega
 rw[this];simp[val]
end Go.Abs
namespace Go.Proofs.YtofjebmoebhiiaaGreatDoor.Ev
open Go.Abs Go.IntWalk
section
variable {k:Int}{v:List Int}{n j:Nat}
theorem Zx {g:Int}(hg:0≤g∧g<1000000000)(hv:DU v)(Zw:v.length=n):∀(m i:Nat) (b:Int) (u q:List Int),m+i=n→0≤b∧b≤1000000000→DU u→j+n<u.length→u.length≤1000000000000→
  gO k v n j g b n i q u=gO k v n j g (RZ g (u.drop (j+i)) (v.drop i) b).2 n n q (u.take (j+i)++(RZ g (u.drop (j+i)) (v.drop i) b).1):=by
 intro m;induction m with
 |zero=>
  intro i b u q hi hb hu hju hul;have:i=n:=by omega
  subst this;have h1:v.drop i=[]:=drop_nil (by omega);have h2:∀(us:List Int),RZ g us [] b=(us,b):=fun us=>by cases us<;>rfl
  rw[h1,h2];simp only[List.take_append_drop]
 |succ m ih=>
  intro i b u q hi hb hu hju hul;have hx:=hu.getD (by omega) (j+i);have hy:=hv.getD (by omega) i;have hm:=ag2 hg hy;have e1:((i:Int)+(j:Int)).toNat=j+i:=by omega
  rw[DA,Ag];have wL:=fun b u q=>ih (i+1) b u q (by omega);simp only[Int.natCast_add,Int.natCast_one] at wL;simp (disch:=omega) only[au,i64_in,gV,rS,e1,Int.toNat_natCast];simp (disch:=omega) only[i64_in,bD,ns];rw[drop_eq (show i<v.length by omega),drop_eq (show j+i<u.length by omega)];simp only[RZ];by_cases h1:u.getD (j+i) 0 - b - g*v.getD i 0 % 1000000000<0
  ·rw[au h1,if_pos h1];by_cases h2:u.getD (j+i) 0 - b - g*v.getD i 0 % 1000000000+1000000000<0
   ·rw[if_pos h2];simp (disch:=omega) only[i64_in,au,gV,rS,e1,u32_in];rw[wL _ _ _ (by omega) (hu.set (by omega) (by omega) _) (by simpa using hju) (by simpa using hul)];rw[show j+(i+1)=j+i+1 by omega,Ew (by omega),set_drop];have e2:g*v.getD i 0 / 1000000000+1+1=g*v.getD i 0 / 1000000000+2:=by omega
    have e3:u.getD (j+i) 0 - b - g*v.getD i 0 % 1000000000+1000000000+1000000000=u.getD (j+i) 0 - b - g*v.getD i 0 % 1000000000+2000000000:=by omega
    rw[e2,e3];simp only[List.append_assoc,List.singleton_append]
   ·rw[if_neg h2];simp (disch:=omega) only[i64_in,al,gV,rS,e1,u32_in];rw[wL _ _ _ (by omega) (hu.set (by omega) (by omega) _) (by simpa using hju) (by simpa using hul)];rw[show j+(i+1)=j+i+1 by omega,Ew (by omega),set_drop];simp only[List.append_assoc,List.singleton_append]
  ·rw[al h1,if_neg h1];simp (disch:=omega) only[i64_in,al,gV,rS,e1,u32_in];rw[wL _ _ _ (by omega) (hu.set (by omega) (by omega) _) (by simpa using hju) (by simpa using hul)];rw[show j+(i+1)=j+i+1 by omega,Ew (by omega),set_drop];simp only[List.append_assoc,List.singleton_append]
theorem Zy {g x:Int}(hv:DU v)(Zw:v.length=n):∀(m i:Nat) (c:Int) (u q:List Int),m+i=n→0≤c∧c≤1→DU u→j+n<u.length→u.length≤1000000000000→
  kO k v n j g x c n i q u=kO k v n j g x (Zu (u.drop (j+i)) (v.drop i) c).2 n n q (u.take (j+i)++(Zu (u.drop (j+i)) (v.drop i) c).1):=by
 intro m;induction m with
 |zero=>
  intro i b u q hi hb hu hju hul;have:i=n:=by omega
  subst this;have h1:v.drop i=[]:=drop_nil (by omega);have h2:∀(us:List Int),Zu us [] b=(us,b):=fun us=>by cases us<;>rfl
  rw[h1,h2];simp only[List.take_append_drop]
 |succ m ih=>
  intro i c u q hi hc hu hju hul;have hx:=hu.getD (by omega) (j+i);have hy:=hv.getD (by omega) i;have e1:((i:Int)+(j:Int)).toNat=j+i:=by omega
  rw[DB,Ah];have wL:=fun b u q=>ih (i+1) b u q (by omega);simp only[Int.natCast_add,Int.natCast_one] at wL;simp (disch:=omega) only[au,i64_in,gV,rS,e1,Int.toNat_natCast,u32_in];simp (disch:=omega) only[u32_in,bD,ns];rw[drop_eq (show i<v.length by omega),drop_eq (show j+i<u.length by omega)];simp only[Zu];rw[wL _ _ _ (by omega) (hu.set (by omega) (by omega) _) (by simpa using hju) (by simpa using hul)];rw[show j+(i+1)=j+i+1 by omega,Ew (by omega),set_drop];simp only[List.append_assoc,List.singleton_append]
set_option maxHeartbeats 2000000 in
theorem ag8 (hv:DU v)(Zw:v.length=n)(hn:2≤n)(YU:500000000≤v.getD (n - 1) 0){u q:List Int}(hu:DU u)(hju:j+n<u.length)(hul:u.length≤1000000000000)(hq:j<q.length)(hql:q.length≤1000000000000)
  (hlt:VU ((u.drop j).take (n+1))<VU v*1000000000):
  ∃u',fj k v n j q u=fj k v n ((j:Int) - 1) (q.set j (VU ((u.drop j).take (n+1)) / VU v)) u'∧u'.length=u.length∧DU u'∧u'.take j=u.take j∧VU ((u'.drop j).take n)=VU ((u.drop j).take (n+1)) % VU v:=by
 obtain⟨m,rfl⟩:∃m,n=m+2:=⟨n - 2,by omega⟩
 -- C7 digits
 have hdl:(u.drop j).length=u.length - j:=by simp
 have hR:=ag6 (l:=u.drop j) (m:=m) (by rw[hdl];omega);have hV:=ag7 (l:=v) (m:=m) (by omega);rw[show v.take (m+2)=v from List.take_of_length_le (by omega)] at hV;simp only[tj] at hR;have hP:(0:Int)<1000000000^m:=Int.pow_pos (by omega);have ag5:=lL (B:=1000000000) (by omega) ((hu.drop j).take m);have hwl:=BH (B:=1000000000) (by omega) ((hu.drop j).take m);have abN:=lL (B:=1000000000) (by omega) (hv.take m);have hvl:=BH (B:=1000000000) (by omega) (hv.take m);rw[show ((u.drop j).take m).length=m by rw[List.length_take,hdl];omega] at hwl;rw[show (v.take m).length=m by rw[List.length_take];omega] at hvl;have b1:=hv.getD (by omega) (m+1);have b2:=hv.getD (by omega) m;have c1:=hu.getD (by omega) (j+(m+2));have c2:=hu.getD (by omega) (j+(m+1));have c3:=hu.getD (by omega) (j+m);have atZ:500000000≤v.getD (m+1) 0:=YU;have atW:=aj6 hP hvl ag5 hV hR b2.2 c3.1 c2.1 hlt;have abQ:0<VU v:=by have e5:(1000000000:Int)^m*1≤1000000000^m*v.getD (m+1) 0:=Int.mul_le_mul_of_nonneg_left (by omega) (by omega);have e6:0≤(1000000000:Int)^m*v.getD m 0:=Int.mul_nonneg (by omega) b2.1;have hV':VU v=_:=hV;simp only[Int.mul_add,Int.mul_one,Int.mul_left_comm ((1000000000:Int)^m) 1000000000] at hV' e5;omega
 -- C7 first ark
 have arl:0≤u.getD (j+(m+2)) 0*1000000000+u.getD (j+(m+1)) 0:=by omega
 obtain⟨g0,hg0⟩:∃g0:Nat,(u.getD (j+(m+2)) 0*1000000000+u.getD (j+(m+1)) 0) / v.getD (m+1) 0=g0:=Int.eq_ofNat_of_zero_le (Int.ediv_nonneg arl (by omega));have Wv:=Int.mul_ediv_add_emod (u.getD (j+(m+2)) 0*1000000000+u.getD (j+(m+1)) 0) (v.getD (m+1) 0);have hr0:=Int.emod_nonneg (u.getD (j+(m+2)) 0*1000000000+u.getD (j+(m+1)) 0) (show v.getD (m+1) 0≠0 by omega);have Pe:=Int.emod_lt_of_pos (u.getD (j+(m+2)) 0*1000000000+u.getD (j+(m+1)) 0) (show 0<v.getD (m+1) 0 by omega);rw[hg0,Int.mul_comm] at Wv;have ape:val 1000000000 (List.take (m+3) (List.drop j u))<((g0:Int)+1)*VU v:=by
  -- C7 two top digits are less at1 (g0+1) v1
  refine amz hP abN hwl hV hR b2.1 c3.2 (by omega) ?_;rw[Int.add_mul];omega
 obtain⟨g,hg1,hg2,hg3,hg4,hL1⟩:=Zv (k:=k) (q:=q) hP abN hvl ag5 hwl hV hR ⟨atZ,b1.2⟩ b2 c1 c2 c3 hlt hn Zw hju hul rfl rfl rfl g0 _ Wv.symm hr0 (by omega) ape;change VU ((u.drop j).take (m+2+1))<(g+1)*VU v at hg3;change g*VU v<VU ((u.drop j).take (m+2+1))+VU v at hg4
 -- C7 walk as far as C7 abS
 have hgb:(g0:Int)≤1000000001:=by
  by_cases hc:(g0:Int)≤1000000001
  ·exact hc
  ·exfalso;have h6:(1000000002:Int)*v.getD (m+1) 0≤(g0:Int)*v.getD (m+1) 0:=Int.mul_le_mul_of_nonneg_right (by omega) (by omega);omega
 have w1:fj k v ((m+2:Nat):Int) j q u=jT k v ((m+2:Nat):Int) j g0 ((u.getD (j+(m+2)) 0*1000000000+u.getD (j+(m+1)) 0) % v.getD (m+1) 0) q u:=by
  rw[Dy,Ad];have e1:((j:Int)+((m+2:Nat):Int)).toNat=j+(m+2):=by omega
  have e2:((j:Int)+((m+2:Nat):Int) - 1).toNat=j+(m+1):=by omega
  have e3:(((m+2:Nat):Int) - 1).toNat=m+1:=by omega
  simp (disch:=omega) only[y7,i64_in,gV,rS,e1,e2,e3,u64_in,ft,kg];simp (disch:=omega) only[u64_in,ft,kg,bD,ns,hg0]
 -- C7 abS
 have hus:((u.drop j).take (m+2)).length=v.length:=by rw[List.length_take,hdl];omega
 have arn:u.drop j=(u.drop j).take (m+2)++(u.getD (j+(m+2)) 0::u.drop (j+(m+2)+1)):=by
  conv=>lhs;rw[VJ (u.drop j) (m+2)]
  rw[List.drop_drop,drop_eq (show j+(m+2)<u.length by omega)]
 obtain⟨r,b',hs1,hs2,hs3,hs4,hs5⟩:=abO (g:=g) ⟨hg1,by omega⟩ ((u.drop j).take (m+2)) v (u.getD (j+(m+2)) 0::u.drop (j+(m+2)+1)) 0 hus ((hu.drop j).take _) hv ⟨by omega,by omega⟩;have w2:=Zx (k:=k) (j:=j) (g:=g) ⟨hg1,by omega⟩ hv Zw (m+2) 0 0 u q (by omega) ⟨by omega,by omega⟩ hu hju hul;simp only[Nat.add_zero,List.drop_zero,Int.natCast_zero] at w2;rw[arn,hs1] at w2;have hRw:VU ((u.drop j).take (m+2+1))=VU ((u.drop j).take (m+2))+1000000000^(m+2)*u.getD (j+(m+2)) 0:=by rw[eJ (show m+2<(u.drop j).length by rw[hdl];omega),VU,gE,tj,hus,Zw];simp[val]
 have anO:=BH (B:=1000000000) (by omega) hs3;have arp:=lL (B:=1000000000) (by omega) hs3;have anP:=BH (B:=1000000000) (by omega) hv;rw[hs4,hus,Zw] at anO;rw[Zw] at anP hs2;change VU ((u.drop j).take (m+2)) - 0 - g*VU v=VU r - 1000000000^(m+2)*b' at hs2;change VU r<_ at anO;change 0≤VU r at arp;change VU v<_ at anP;have hjl:(u.take j).length=j:=by simp;omega
 have hu1:DU (u.take j++(r++u.getD (j+(m+2)) 0::u.drop (j+(m+2)+1))):=(hu.take j).append (hs3.append (i6.cons c1.1 c1.2 (hu.drop _)));have arq:(u.take j++(r++u.getD (j+(m+2)) 0::u.drop (j+(m+2)+1))).length=u.length:=by simp[hs4,hus,Zw];omega
 have hx1:(u.take j++(r++u.getD (j+(m+2)) 0::u.drop (j+(m+2)+1))).getD (j+(m+2)) 0=u.getD (j+(m+2)) 0:=by
  have hrl:r.length=m+2:=by rw[hs4,hus,Zw]
  rw[List.getD,List.getElem?_append_right (by omega),List.getElem?_append_right (by omega)];simp[hjl,hrl]
 have ef:∀(r:List Int) (y:Int),r.length=m+2→(u.take j++(r++u.getD (j+(m+2)) 0::u.drop (j+(m+2)+1))).set (j+(m+2)) y=u.take j++(r++y::u.drop (j+(m+2)+1)):=fun r y hrl=>by rw[List.set_append_right _ _ (by omega),List.set_append_right _ _ (by omega)];simp[hjl,hrl]
 have hdt:∀(r:List Int) (y:Int),r.length=m+2→((u.take j++(r++y::u.drop (j+(m+2)+1))).drop j).take (m+2)=r:=fun r y hrl=>by have h1:(u.take j++(r++y::u.drop (j+(m+2)+1))).drop j=r++y::u.drop (j+(m+2)+1):=List.drop_left' hjl;rw[h1];exact List.take_left' hrl
 have htk:∀(l:List Int),(u.take j++l).take j=u.take j:=fun l=>List.take_left' hjl;have e1:((j:Int)+((m+2:Nat):Int)).toNat=j+(m+2):=by omega
 have hPn:(0:Int)<1000000000^(m+2):=Int.pow_pos (by omega);have Wn:VU ((u.drop j).take (m+2+1)) - g*VU v=VU r+1000000000^(m+2)*(u.getD (j+(m+2)) 0 - b'):=by rw[hRw,Int.mul_sub];omega
 rw[w1,hL1,w2,DA,Ag];by_cases hneg:u.getD (j+(m+2)) 0 - b'<0
 · -- one too many
   have ars:VU ((u.drop j).take (m+2+1))<g*VU v:=by have h1:(1000000000:Int)^(m+2)*(u.getD (j+(m+2)) 0 - b'+1)≤1000000000^(m+2)*0:=Int.mul_le_mul_of_nonneg_left (by omega) (by omega);rw[Int.mul_add,Int.mul_zero,Int.mul_one] at h1;omega
   have avn:1≤g:=by
    by_cases hc:1≤g
    ·exact hc
    ·exfalso;have:g=0:=by omega
     subst this;have:=zL ((hu.drop j).take (m+2+1));rw[Int.zero_mul] at ars;omega
   have hq:VU ((u.drop j).take (m+2+1)) / VU v=g - 1∧VU ((u.drop j).take (m+2+1)) % VU v=VU ((u.drop j).take (m+2+1)) - (g - 1)*VU v:=by
    have h1:(g - 1)*VU v=g*VU v - VU v:=by rw[Int.sub_mul,Int.one_mul]
    have h2:VU ((u.drop j).take (m+2+1))=(VU ((u.drop j).take (m+2+1)) - (g - 1)*VU v)+VU v*(g - 1):=by rw[Int.mul_comm (VU v)];omega
    have h3:0≤VU ((u.drop j).take (m+2+1)) - (g - 1)*VU v:=by rw[h1];omega
    have h4:VU ((u.drop j).take (m+2+1)) - (g - 1)*VU v<VU v:=by rw[h1];omega
    constructor
    ·rw[h2,Int.add_mul_ediv_left _ _ (by omega),Int.ediv_eq_zero_of_lt h3 h4];omega
    ·conv=>lhs;rw[h2]
     rw[Int.add_mul_emod_self_left,Int.emod_eq_of_lt h3 h4]
   obtain⟨r2,cc,ha1,ha2,ha3,ha4,ha5⟩:=abP r v (u.getD (j+(m+2)) 0::u.drop (j+(m+2)+1)) 0 (by rw[hs4,hus]) hs3 hv ⟨by omega,by omega⟩;have w3:=Zy (k:=k) (j:=j) (g:=g - 1) (x:=u.getD (j+(m+2)) 0 - b') hv Zw (m+2) 0 0 _ q (by omega) ⟨by omega,by omega⟩ hu1 (by rw[arq];exact hju) (by rw[arq];exact hul);have hdj:(u.take j++(r++u.getD (j+(m+2)) 0::u.drop (j+(m+2)+1))).drop j=r++u.getD (j+(m+2)) 0::u.drop (j+(m+2)+1):=List.drop_left' hjl;simp only[Nat.add_zero,List.drop_zero,Int.natCast_zero] at w3;rw[hdj,ha1,htk] at w3;have aj9:r2.length=m+2:=by rw[ha4,hs4,hus,Zw]
   have hu2:DU (u.take j++(r2++u.getD (j+(m+2)) 0::u.drop (j+(m+2)+1))):=(hu.take j).append (ha3.append (i6.cons c1.1 c1.2 (hu.drop _)));have axs:(u.take j++(r2++u.getD (j+(m+2)) 0::u.drop (j+(m+2)+1))).length=u.length:=by simp[aj9];omega
   refine⟨u.take j++(r2++0::u.drop (j+(m+2)+1)), ?_,by simp[aj9];omega,(hu.take j).append (ha3.append (i6.cons (by omega) (by omega) (hu.drop _))),htk _, ?_⟩
   ·simp (disch:=omega) only[al,i64_in,gV,rS,e1,hx1];simp (disch:=omega) only[au,i64_in,u64_in];rw[w3,DB,Ah,hq.1];simp (disch:=omega) only[al,i64_in,gV,rS,e1,u32_in,ef r2 0 aj9,Int.toNat_natCast]
   ·rw[hdt r2 0 aj9,hq.2]
    -- C7 carry takes C7 missing unit
    have aka:=BH (B:=1000000000) (by omega) ha3;have apg:=lL (B:=1000000000) (by omega) ha3;rw[aj9] at aka;rw[Zw] at ha2;change VU r+VU v+0=VU r2+1000000000^(m+2)*cc at ha2;change VU r2<_ at aka;change 0≤VU r2 at apg;have h1:VU ((u.drop j).take (m+2+1)) - (g - 1)*VU v=VU r2+1000000000^(m+2)*(u.getD (j+(m+2)) 0 - b'+cc):=by rw[Int.sub_mul,Int.one_mul,Int.mul_add];omega
    have h3:0≤VU ((u.drop j).take (m+2+1)) - (g - 1)*VU v:=by rw[Int.sub_mul,Int.one_mul];omega
    have h4:VU ((u.drop j).take (m+2+1)) - (g - 1)*VU v<VU v:=by rw[Int.sub_mul,Int.one_mul];omega
    have h5:u.getD (j+(m+2)) 0 - b'+cc=0:=by
     by_cases hp:u.getD (j+(m+2)) 0 - b'+cc≥1
     ·exfalso;have:=Int.mul_le_mul_of_nonneg_left hp (show (0:Int)≤1000000000^(m+2) by omega);rw[Int.mul_one] at this;omega
     ·by_cases hm:u.getD (j+(m+2)) 0 - b'+cc≤ -1
      ·exfalso;have:=Int.mul_le_mul_of_nonneg_left hm (show (0:Int)≤1000000000^(m+2) by omega);rw[Int.mul_neg,Int.mul_one] at this;omega
      ·omega
    rw[h1,h5];simp
 · -- axt right
   have avo:g*VU v≤VU ((u.drop j).take (m+2+1)):=by have h1:(0:Int)≤1000000000^(m+2)*(u.getD (j+(m+2)) 0 - b'):=Int.mul_nonneg (by omega) (by omega);omega
   have h3:VU ((u.drop j).take (m+2+1)) - g*VU v<VU v:=by
    have:((g:Int)+1)*VU v=g*VU v+VU v:=by rw[Int.add_mul,Int.one_mul]
    rw[this] at hg3;omega
   have hq:VU ((u.drop j).take (m+2+1)) / VU v=g∧VU ((u.drop j).take (m+2+1)) % VU v=VU ((u.drop j).take (m+2+1)) - g*VU v:=by
    have h2:VU ((u.drop j).take (m+2+1))=(VU ((u.drop j).take (m+2+1)) - g*VU v)+VU v*g:=by rw[Int.mul_comm (VU v)];omega
    constructor
    ·rw[h2,Int.add_mul_ediv_left _ _ (by omega),Int.ediv_eq_zero_of_lt (by omega) h3];omega
    ·conv=>lhs;rw[h2]
     rw[Int.add_mul_emod_self_left,Int.emod_eq_of_lt (by omega) h3]
   have hrl:r.length=m+2:=by rw[hs4,hus,Zw]
   have h5:u.getD (j+(m+2)) 0 - b'=0:=by
    by_cases hp:u.getD (j+(m+2)) 0 - b'≥1
    ·exfalso;have:=Int.mul_le_mul_of_nonneg_left hp (show (0:Int)≤1000000000^(m+2) by omega);rw[Int.mul_one] at this;omega
    ·omega
   refine⟨u.take j++(r++0::u.drop (j+(m+2)+1)), ?_,by simp[hrl];omega,(hu.take j).append (hs3.append (i6.cons (by omega) (by omega) (hu.drop _))),htk _, ?_⟩
   ·rw[hq.1];simp (disch:=omega) only[al,i64_in,gV,rS,e1,hx1];simp (disch:=omega) only[al,i64_in,gV,rS,e1,u32_in,ef r 0 hrl,Int.toNat_natCast]
   ·rw[hdt r 0 hrl,hq.2,Wn,h5];simp
end
end Go.Proofs.YtofjebmoebhiiaaGreatDoor.Ev
namespace Go.Abs
theorem Hz (l:List Int){m:Nat}(h:m<l.length):val 1000000000 (l.take (m+1))=val 1000000000 (l.take m)+1000000000^m*l.getD m 0:=by
 rw[eJ h,gE];have:(l.take m).length=m:=by simp;omega
 rw[this];simp[val]
theorem ag9 {b k:Int}(hb:1≤b)(hb':b<1000000000)(hk:k=1000000000 / (b+1)):1≤k∧k*(b+1)≤1000000000∧500000000≤k*b∧k≤500000000:=by
 have h1:=Int.mul_ediv_add_emod 1000000000 (b+1);have h2:=Int.emod_nonneg 1000000000 (show b+1≠0 by omega);have h3:=Int.emod_lt_of_pos 1000000000 (show 0<b+1 by omega);rw[←hk,Int.mul_comm] at h1;have hk1:1≤k:=by
  by_cases hc:1≤k
  ·exact hc
  ·exfalso;have:k*(b+1)≤0*(b+1):=Int.mul_le_mul_of_nonneg_right (by omega) (by omega);rw[Int.zero_mul] at this;omega
 have e1:k*(b+1)=k*b+k:=by rw[Int.mul_add,Int.mul_one]
 have e5:k*2≤k*(b+1):=Int.mul_le_mul_of_nonneg_left (by omega) (by omega);refine⟨hk1,by omega, ?_,by omega⟩;by_cases hk2:k=1
 ·subst hk2;omega
 ·have e2:0≤(k - 2)*(b+1 - 2):=Int.mul_nonneg (by omega) (by omega);have e3:(k - 2)*(b+1 - 2)=k*b - k - 2*b+2:=by rw[show b+1 - 2=b - 1 by omega,Int.sub_mul,Int.mul_sub,Int.mul_sub];omega
  omega
end Go.Abs
namespace Go.Proofs.YtofjebmoebhiiaaGreatDoor.Ev
open Go.Abs Go.IntWalk
section
variable {k:Int}{v:List Int}{n:Nat}
theorem adK (hv:DU v)(Zw:v.length=n)(hn:2≤n)(YU:500000000≤v.getD (n - 1) 0):∀(J:Nat) (q u:List Int),DU q→DU u→J≤q.length→J+n≤u.length→u.length≤1000000000000→q.length≤1000000000000→VU ((u.drop J).take n)<VU v→
  ∃q' u',fj k v n ((J:Int) - 1) q u=fj k v n (-1) q' u'∧q'.length=q.length∧DU q'∧u'.length=u.length∧DU u'∧q'.drop J=q.drop J∧
   VU (u.take J)+1000000000^J*VU ((u.drop J).take n)=VU v*VU (q'.take J)+VU (u'.take n)∧VU (u'.take n)<VU v:=by
 intro J;induction J with
 |zero=>intro q u hq hu h1 h2 h3 h4 hx;refine⟨q,u,rfl,rfl,hq,rfl,hu,rfl, ?_,by simpa using hx⟩;simp[VU,val]
 |succ J ih=>
  intro q u hq hu h1 h2 h3 h4 hx;have hw:(u.drop J).take (n+1)=u.getD J 0::(u.drop (J+1)).take n:=by rw[drop_eq (show J<u.length by omega),List.take_succ_cons]
  have hd:=hu.getD (by omega) J;have hRv:VU ((u.drop J).take (n+1))=u.getD J 0+1000000000*VU ((u.drop (J+1)).take n):=by rw[hw];rfl
  have hXn:=zL ((hu.drop (J+1)).take n);have at3:VU ((u.drop J).take (n+1))<VU v*1000000000:=by rw[hRv];omega
  obtain⟨u1,s1,s2,s3,s4,s5⟩:=ag8 (k:=k) hv Zw hn YU hu (show J+n<u.length by omega) h3 (show J<q.length by omega) h4 at3;have abQ:0<VU v:=by omega
  have at4:0≤VU ((u.drop J).take (n+1)):=by omega
  have q0:0≤VU ((u.drop J).take (n+1)) / VU v:=Int.ediv_nonneg at4 (by omega);have q1:VU ((u.drop J).take (n+1)) / VU v<1000000000:=Int.ediv_lt_of_lt_mul abQ (by rw[Int.mul_comm];omega);obtain⟨q',u',t1,t2,t3,t4,t5,t6,t7,t8⟩:=ih (q.set J (VU ((u.drop J).take (n+1)) / VU v)) u1 (hq.set q0 q1 _) s3 (by simp;omega) (by omega) (by omega) (by simpa using h4) (by rw[s5];exact Int.emod_lt_of_pos _ abQ);have hJq:J<q'.length:=by rw[t2];simp;omega
  have hqJ:q'.getD J 0=VU ((u.drop J).take (n+1)) / VU v:=by
   have e:(q'.drop J).getD 0 0=((q.set J (VU ((u.drop J).take (n+1)) / VU v)).drop J).getD 0 0:=by rw[t6]
   rw[tj,tj,Nat.add_zero] at e;rw[e];simp[List.getD,show J<q.length by omega]
  refine⟨q',u', ?_,by rw[t2];simp,t3,by rw[t4,s2],t5, ?_, ?_,t8⟩
  ·rw[show ((J+1:Nat):Int) - 1=J by omega,s1,t1]
  ·have e:(q'.drop J).drop 1=((q.set J (VU ((u.drop J).take (n+1)) / VU v)).drop J).drop 1:=by rw[t6]
   rw[List.drop_drop,List.drop_drop,set_drop] at e;exact e
  ·have e1:=Hz u (show J<u.length by omega);have e2:=Hz q' hJq;have e3:=Int.mul_ediv_add_emod (VU ((u.drop J).take (n+1))) (VU v);rw[s4,s5] at t7;rw[hqJ] at e2;change VU (u.take (J+1))=VU (u.take J)+1000000000^J*u.getD J 0 at e1;change VU (q'.take (J+1))=VU (q'.take J)+1000000000^J*(VU ((u.drop J).take (n+1)) / VU v) at e2;have e4:(1000000000:Int)^J*VU ((u.drop J).take (n+1))=1000000000^J*u.getD J 0+1000000000^(J+1)*VU ((u.drop (J+1)).take n):=by rw[hRv,Int.mul_add,Int.pow_succ,Int.mul_assoc]
   have e5:VU v*VU (q'.take (J+1))=VU v*VU (q'.take J)+1000000000^J*(VU v*(VU ((u.drop J).take (n+1)) / VU v)):=by rw[e2,Int.mul_add,Int.mul_left_comm]
   have e6:(1000000000:Int)^J*VU ((u.drop J).take (n+1))=1000000000^J*(VU v*(VU ((u.drop J).take (n+1)) / VU v))+1000000000^J*(VU ((u.drop J).take (n+1)) % VU v):=by rw[←Int.mul_add,e3]
   omega
end
theorem X1 {N:Nat}{n:Nat}(hl:(dU N).length=n+1){x:Int}(h:x*1000000000^n≤N):x≤(dU N).getD n 0:=by
 have h1:=Hz (dU N) (show n<(dU N).length by omega);rw[List.take_of_length_le (by omega)] at h1;have h2:=BH (B:=1000000000) (by omega) ((JX N).take n);rw[show ((dU N).take n).length=n by rw[List.length_take];omega] at h2;have h3:=Lm N;rw[VU] at h3;by_cases hc:x≤(dU N).getD n 0
 ·exact hc
 ·exfalso;have h4:(1000000000:Int)^n*((dU N).getD n 0+1)≤1000000000^n*x:=Int.mul_le_mul_of_nonneg_left (by omega) (Int.pow_nonneg (by omega));rw[Int.mul_add,Int.mul_one,Int.mul_comm _ x] at h4;omega
theorem ofNat_pow (n:Nat):((1000000000^n:Nat):Int)=(1000000000:Int)^n:=by rw[Int.natCast_pow];rfl
theorem abT {A B:Nat}(hl:(dU A).length≤100000000000)(hB:2≤(dU B).length)(hAB:B≤A):
  ∃q r,De (dU A) (dU B)=some (q,r)∧DU q∧DU r∧VU q=((A / B:Nat):Int)∧VU r=((A % B:Nat):Int)∧q.length≤(dU A).length∧r.length≤(dU A).length:=by
 obtain⟨n,hn⟩:∃n,(dU B).length=n+1:=⟨(dU B).length - 1,by omega⟩
 have art:0<B:=by
  by_cases h:B=0
  ·subst h;rw[show dU 0=[] from fp _] at hB;simp at hB
  ·omega
 have axx:=aj3 hAB;have hdA:=JX A;have hdB:=JX B
 -- C7 top digit of C7 amA
 have arv:(1000000000^n:Nat)≤B:=(ia (B:=1000000000) (by omega) n B).1 (show n<(dU B).length by omega);have ht1:1≤(dU B).getD n 0:=X1 hn (by rw[Int.one_mul, ←ofNat_pow];omega);have ht2:=hdB.getD (by omega) n;obtain⟨k,hk⟩:∃k,k=(1000000000:Int) / ((dU B).getD n 0+1):=⟨_,rfl⟩
 obtain⟨hk1,hk2,hk3,hk4⟩:=ag9 ht1 ht2.2 hk;obtain⟨K,rfl⟩:=Int.eq_ofNat_of_zero_le (show 0≤k by omega)
 -- C7 scaled numbers
 obtain⟨u1,u2,u3⟩:=Zt (dU A) K 0 hdA ⟨by omega,by omega⟩ ⟨by omega,by omega⟩;obtain⟨w1,w2,w3⟩:=Zt (dU B) K 0 hdB ⟨by omega,by omega⟩ ⟨by omega,by omega⟩;rw[Lm,Int.add_zero] at u1 w1;have hv:pc (TN (dU B) K 0)=dU (B*K):=by rw[afk w2,w1, ←Int.natCast_mul,Int.toNat_natCast]
 -- its length
 have amB:=Hz (dU B) (show n<(dU B).length by omega);rw[List.take_of_length_le (by omega)] at amB;have aha:=BH (B:=1000000000) (by omega) (hdB.take n);have avr:=lL (B:=1000000000) (by omega) (hdB.take n);rw[show ((dU B).take n).length=n by rw[List.length_take];omega] at aha;have hVB:=Lm B;rw[VU] at hVB;have hPn:(0:Int)<1000000000^n:=Int.pow_pos (by omega);have hBK:B*K<1000000000^(n+1):=by have h1:(B:Int)*K≤(1000000000^n*((dU B).getD n 0+1) - 1)*K:=Int.mul_le_mul_of_nonneg_right (by rw[Int.mul_add,Int.mul_one];omega) (by omega);have h2:(1000000000:Int)^n*(K*((dU B).getD n 0+1))≤1000000000^n*1000000000:=Int.mul_le_mul_of_nonneg_left hk2 (by omega);rw[Int.sub_mul,Int.one_mul,Int.mul_assoc,Int.mul_comm ((dU B).getD n 0+1) (K:Int)] at h1;have h3:=ofNat_pow (n+1);rw[Int.pow_succ] at h3;have h4:((B*K:Nat):Int)=(B:Int)*K:=Int.natCast_mul _ _;omega
 have at5:1000000000^n≤B*K:=Nat.le_trans arv (Nat.le_mul_of_pos_right _ (by omega));have hvl:(dU (B*K)).length=n+1:=by have h1:=(aS (B:=1000000000) (by omega) (n+1) (B*K)).2 hBK;have h2:=(ia (B:=1000000000) (by omega) n (B*K)).2 at5;show (Wp 1000000000 (B*K)).length=n+1;omega
 have YU:500000000≤(dU (B*K)).getD (n+1 - 1) 0:=by
  refine X1 (N:=B*K) hvl ?_;have h1:(K*(dU B).getD n 0)*1000000000^n≤(B:Int)*K:=by have h2:1000000000^n*(dU B).getD n 0*K≤(B:Int)*K:=Int.mul_le_mul_of_nonneg_right (by omega) (by omega);rw[Int.mul_comm (K*_),Int.mul_comm (K:Int), ←Int.mul_assoc];exact h2
  have h3:500000000*(1000000000:Int)^n≤(K*(dU B).getD n 0)*1000000000^n:=Int.mul_le_mul_of_nonneg_right hk3 (by omega);rw[Int.natCast_mul];omega
 have hvD:=JX (B*K);have hVv:VU (dU (B*K))=(B:Int)*K:=by rw[Lm,Int.natCast_mul]
 -- C7 loop
 have hul:(TN (dU A) K 0).length=(dU A).length+1:=u3;obtain⟨J,hJ⟩:∃J,(dU A).length+1=J+(n+1):=⟨(dU A).length - n,by omega⟩
 have hstart:VU (((TN (dU A) K 0).drop J).take (n+1))<VU (dU (B*K)):=by
  rw[List.take_of_length_le (by rw[List.length_drop];omega),hVv];have h1:=gE 1000000000 ((TN (dU A) K 0).take J) ((TN (dU A) K 0).drop J);rw[List.take_append_drop,show ((TN (dU A) K 0).take J).length=J by rw[List.length_take];omega] at h1;have h2:=zL (u2.take J);have h3:=u1;rw[VU] at h3 h2
  -- a<U^la
  have h4:A<1000000000^(dU A).length:=(aS (B:=1000000000) (by omega) _ A).1 (Nat.le_refl _);rw[show (dU A).length=J+n by omega,Nat.pow_add] at h4;have h5:((1000000000^J*1000000000^n:Nat):Int)=(1000000000:Int)^J*1000000000^n:=by rw[Int.natCast_mul,ofNat_pow,ofNat_pow]
  have hPJ:(0:Int)<1000000000^J:=Int.pow_pos (by omega);have h6:(A:Int)*K<(1000000000^J*1000000000^n)*K:=Int.mul_lt_mul_of_pos_right (by omega) (by omega);have h7:(1000000000:Int)^n*K≤(B:Int)*K:=Int.mul_le_mul_of_nonneg_right (by rw[←ofNat_pow];omega) (by omega);have h8:(1000000000:Int)^J*val 1000000000 ((TN (dU A) K 0).drop J)<1000000000^J*(1000000000^n*K):=by rw[←Int.mul_assoc];omega
  have h9:=Int.lt_of_mul_lt_mul_left h8 (by omega);show val 1000000000 ((TN (dU A) K 0).drop J)<_;omega
 obtain⟨q',u',t1,t2,t3,t4,t5,t6,t7,t8⟩:=adK (k:=K) hvD hvl (by omega) YU J (List.replicate J 0) (TN (dU A) K 0) (i6.replicate (by omega) _) u2 (by simp) (by omega) (by omega) (by simp;omega) hstart;rw[List.length_replicate] at t2;have htq:q'.take J=q':=List.take_of_length_le (by omega);rw[htq,hVv] at t7;have hU0:VU ((TN (dU A) K 0).take J)+1000000000^J*VU (((TN (dU A) K 0).drop J).take (n+1))=(A:Int)*K:=by rw[List.take_of_length_le (l:=(TN (dU A) K 0).drop J) (by rw[List.length_drop];omega), ←u1];have h1:=gE 1000000000 ((TN (dU A) K 0).take J) ((TN (dU A) K 0).drop J);rw[List.take_append_drop,show ((TN (dU A) K 0).take J).length=J by rw[List.length_take];omega] at h1;exact h1.symm
 rw[hU0] at t7
 -- C7 rest is arw
 have hsu:=t5.take (n+1);have hshort:=Qr (b:=(K:Int)) hsu ⟨by omega,by omega⟩ (by rw[List.length_take];omega);obtain⟨s1,s2,s3,s4,s5⟩:=Qq (b:=(K:Int)) ⟨by omega,by omega⟩ _ hsu;have hQ0:=zL t3;have hr0:=zL s4;have avt:(0:Int)<K:=by omega
 -- A=B q+r
 have hAq:(A:Int)=B*VU q'+VU (EK K (u'.take (n+1))).1:=by
  have h1:((A:Int) - B*VU q' - VU (EK K (u'.take (n+1))).1)*K=(EK K (u'.take (n+1))).2:=by
   rw[Int.sub_mul,Int.sub_mul];have:(B:Int)*VU q'*K=B*K*VU q':=by rw[Int.mul_assoc,Int.mul_comm (VU q'), ←Int.mul_assoc]
   rw[this];omega
  have h2:(A:Int) - B*VU q' - VU (EK K (u'.take (n+1))).1=0:=by
   by_cases hp:(A:Int) - B*VU q' - VU (EK K (u'.take (n+1))).1≥1
   ·exfalso;have:=Int.mul_le_mul_of_nonneg_right hp (show (0:Int)≤K by omega);rw[Int.one_mul] at this;omega
   ·by_cases hm:(A:Int) - B*VU q' - VU (EK K (u'.take (n+1))).1≤ -1
    ·exfalso;have:=Int.mul_le_mul_of_nonneg_right hm (show (0:Int)≤K by omega);rw[Int.neg_mul,Int.one_mul] at this;omega
    ·omega
  omega
 have hrB:VU (EK K (u'.take (n+1))).1<B:=by
  have h1:VU (EK K (u'.take (n+1))).1*K<(B:Int)*K:=by rw[hVv] at t8;omega
  exact Int.lt_of_mul_lt_mul_right h1 (by omega)
 obtain⟨Q,hQ⟩:=Int.eq_ofNat_of_zero_le hQ0;obtain⟨r,hr⟩:=Int.eq_ofNat_of_zero_le hr0;rw[hQ,hr] at hAq;rw[hr] at hrB;have hAN:A=B*Q+r:=by
  have:((B*Q+r:Nat):Int)=(B:Int)*Q+r:=by rw[Int.natCast_add,Int.natCast_mul]
  omega
 have hq1:A / B=Q:=by rw[hAN,Nat.mul_add_div art,Nat.div_eq_of_lt (by omega)];omega
 have Pe:A % B=r:=by rw[hAN,Nat.mul_add_mod,Nat.mod_eq_of_lt (by omega)]
 refine⟨q',(EK K (u'.take (n+1))).1, ?_,t3,s4,by rw[hQ,hq1],by rw[hr,Pe],by omega,by rw[s5,List.length_take];omega⟩
 -- C7 walk
 rw[SX,Oi];have e1:(((dU B).length:Int) - 1).toNat=n:=by omega
 simp (disch:=omega) only[i64_in,gV,e1,u64_in,ft,kg,ns];rw[←hk];simp (disch:=omega) only[u64_in,u32_in];rw[NI hdA ⟨by omega,by omega⟩ (by omega),bS,NI hdB ⟨by omega,by omega⟩ (by omega),bS,FL (by omega),bS,hv];simp (disch:=omega) only[i64_in,CD,hul,hvl];have e2:((((dU A).length+1:Nat):Int) - ((n+1:Nat):Int)).toNat=J:=by omega
 have e3:(((dU A).length+1:Nat):Int) - ((n+1:Nat):Int) - 1=(J:Int) - 1:=by omega
 rw[e2,e3,t1,Dy,Ad];simp (disch:=omega) only[wF,Gy,Int.toNat_natCast];rw[hshort,bS]
theorem Zz {A B:Nat}(hl:(dU A).length≤100000000000)(hl':(dU B).length≤100000000000)(hB:0<B):
  ∃q r,vM (dU A) (dU B)=some (q,r)∧DU q∧DU r∧VU q=((A / B:Nat):Int)∧VU r=((A % B:Nat):Int)∧q.length≤1000000000000∧r.length≤1000000000000:=by
 rw[PZ,KH,Lo (by omega) (by omega),bS];by_cases h:A<B
 ·rw[ow (by omega),au (by omega)];refine⟨[],dU A,rfl,i6.nil,JX A, ?_, ?_,by simp,by omega⟩
  ·rw[Nat.div_eq_of_lt h];rfl
  ·rw[Nat.mod_eq_of_lt h,Lm]
 ·have hc:¬nX (A:Int) B<0:=by unfold nX;rw[if_neg (by omega)];split<;>omega
  rw[al hc];by_cases h1:(dU B).length=1
  ·rw[iZ (by omega)];have hd:=(JX B).getD (by omega) 0;have hBv:(dU B).getD 0 0=B:=by
    have h2:=Lm B;cases hb:dU B with
    |nil=>rw[hb] at h1;simp at h1
    |cons x xs=>
     rw[hb] at h1 h2;have:xs=[]:=by simpa using h1
     subst this;simpa [VU,val] using h2
   rw[hBv] at hd;obtain⟨s1,s2,s3,s4,s5⟩:=Qq (b:=(B:Int)) ⟨by omega,hd.2⟩ (dU A) (JX A);have ht:pc [(EK (B:Int) (dU A)).2]=dU (EK (B:Int) (dU A)).2.toNat:=by have:DU [(EK (B:Int) (dU A)).2]:=i6.cons s2 (by omega) i6.nil;rw[afk this];simp[VU,val]
   simp (disch:=omega) only[gV,Int.toNat_zero,hBv];rw[Qr (JX A) ⟨by omega,hd.2⟩ (by omega),bS,FL (by simp),bS,ht];obtain⟨r,hr⟩:=Int.eq_ofNat_of_zero_le s2;obtain⟨Q,hQ⟩:=Int.eq_ofNat_of_zero_le (zL s4);rw[Lm,hQ,hr] at s1;rw[hr] at s3;have hAN:A=B*Q+r:=by
    have:((B*Q+r:Nat):Int)=(B:Int)*Q+r:=by rw[Int.natCast_add,Int.natCast_mul]
    rw[Int.mul_comm] at s1;omega
   have hq1:A / B=Q:=by rw[hAN,Nat.mul_add_div hB,Nat.div_eq_of_lt (by omega)];omega
   have Pe:A % B=r:=by rw[hAN,Nat.mul_add_mod,Nat.mod_eq_of_lt (by omega)]
   refine⟨_,_,rfl,s4,JX _,by rw[hQ,hq1],by rw[Lm,hr,Pe];rfl,by omega, ?_⟩;rw[hr,Int.toNat_natCast];have:=(aS (B:=1000000000) (by omega) 1 r).2 (by omega);show (Wp 1000000000 r).length≤_;omega
  ·rw[ft (by omega)];have hne:(dU B).length≠0:=fun e=>by have:=(nR (B:=1000000000) (n:=B) (by omega)).1 (List.length_eq_zero_iff.1 e);omega
   obtain⟨q,r,e1,e2,e3,e4,e5,e6,e7⟩:=abT (A:=A) (B:=B) hl (by omega) (by omega);rw[e1,bS];exact⟨q,r,rfl,e2,e3,e4,e5,by omega,by omega⟩
theorem adL:∀(y x:Nat),kx x y=some ((Nat.gcd x y:Nat):Int):=by
 intro y;induction y using Nat.strongRecOn with
 |ind y ih=>
  intro x;rw[Jh,Dt];by_cases h:y=0
  ·subst h;rw[dA (by omega),Nat.gcd_zero_right]
  ·have e:(x:Int).tmod y=((x % y:Nat):Int):=by rw[bD (by omega),Int.natCast_emod]
   rw[da (by omega),kg (by omega),e,ih _ (Nat.mod_lt _ (by omega)),Nat.gcd_comm y, ←Nat.gcd_rec,Nat.gcd_comm]
theorem X2 {d:List Int}(hd:DU d)(hl:d.length≤2):Dd d=some (VU d):=by
 rw[SU,Of]
 match d,hd,hl with
 | [],hd,hl=>simp (disch:=omega) only[List.length_nil,i64_in];rw[lB,kQ,wF (by omega)];rfl
 | [x],hd,hl=>have hx:=hd.head;simp only[List.length_singleton];rw[i64_in _ (by omega),lB,kQ,y7 (by omega),gV (by omega) (by simp)];have e:([x]:List Int).getD (((1:Nat):Int) - 1).toNat 0=x:=rfl;rw[e];simp (disch:=omega) only[i64_in];rw[lB,kQ,wF (by omega)];simp[VU,val]
 | [x,y],hd,hl=>have hx:=hd.head;have hy:=hd.tail.head;simp only[List.length_cons,List.length_nil];rw[i64_in _ (by omega),lB,kQ,y7 (by omega),gV (by omega) (by simp)];have e:([x,y]:List Int).getD (((0+1+1:Nat):Int) - 1).toNat 0=y:=rfl;rw[e];simp (disch:=omega) only[i64_in];rw[lB,kQ,y7 (by omega),gV (by omega) (by simp)];have e:([x,y]:List Int).getD (((0+1+1:Nat):Int) - 1 - 1).toNat 0=x:=rfl;rw[e];simp (disch:=omega) only[i64_in];rw[lB,kQ,wF (by omega)];simp[VU,val];omega
 |_::_::_::_,hd,hl=>simp at hl
theorem akb {t:Bool}{t2:List Int}:∀(B A:Nat),(dU A).length≤10000000000→(dU B).length≤10000000000→eo (dU A) (dU B) t t2=some (W ((Nat.gcd A B:Nat):Int)):=by
 intro B;induction B using Nat.strongRecOn with
 |ind B ih=>
  intro A hA hB;rw[BS,vb];by_cases h:B=0
  ·subst h;rw[show dU 0=[] from fp _,dA (by simp),Nat.gcd_zero_right];simp[W]
  ·have hne:(dU B).length≠0:=fun e=>by have:=(nR (B:=1000000000) (n:=B) (by omega)).1 (List.length_eq_zero_iff.1 e);omega
   rw[da (by omega)]
   -- C7 step by a ap5
   have abR:(vM (dU A) (dU B)).bind (fun r6=>(mW r6.2).bind fun r7=>eo (dU B) r7 t t2)=some (W ((Nat.gcd A B:Nat):Int)):=by obtain⟨q,r,e1,e2,e3,e4,e5,e6,e7⟩:=Zz (A:=A) (B:=B) (by omega) (by omega) (by omega);have hmod:=Nat.mod_lt A (show B>0 by omega);have hm:=aj3 (show A % B≤B by omega);rw[e1,bS,FL (show r.length≤_ by omega),bS,afk e3,e5,Int.toNat_natCast,ih _ hmod B hB (by omega)];rw[Nat.gcd_comm B, ←Nat.gcd_rec,Nat.gcd_comm]
   by_cases ha:(dU A).length≤2
   ·rw[Ll (by omega)];by_cases hb:(dU B).length≤2
    ·rw[Ll (by omega),X2 (JX A) ha,bS,X2 (JX B) hb,bS,Lm,Lm,PY,KG,adL,bS];have h1:=(aS (B:=1000000000) (by omega) 2 B).1 hb;have h2:=Nat.gcd_le_right A (show 0<B by omega);rw[X0 (by omega) (by omega),bS,yj]
    ·rw[Qp (by omega)];exact abR
   ·rw[Qp (by omega)];exact abR
theorem HA {x y:Int}(hx:Ln x≤10000000000)(hy:Ln y≤10000000000):nB (W x) (W y)=some (W ((Int.gcd x y:Nat):Int)):=by rw[GY,Bu,W_2,W_2,akb _ _ hx hy];rfl
end Go.Proofs.YtofjebmoebhiiaaGreatDoor.Ev
namespace Go.Abs
theorem bh (s:ByteArray):(bytesOf s).length=s.size:=by rw[bytesOf,List.length_map,Array.length_toList];rfl
theorem nS (s:ByteArray):i6 256 (bytesOf s):=fun x hx=>by simp only[bytesOf,List.mem_map] at hx;obtain⟨b,_,rfl⟩:=hx;have:=b.toNat_lt;omega
theorem An (s:ByteArray)(i:Int):Bi s i=idx (bytesOf s) i:=by
 cases i with
 |ofNat n=>show (s[n]?).map _=(bytesOf s)[n]?;simp only[bytesOf,List.getElem?_map,Array.getElem?_toList];rfl
 |negSucc n=>rfl
theorem mN (s:ByteArray)(l h:Nat):bytesOf (s.extract l h)=((bytesOf s).take h).drop l:=by simp only[bytesOf,ByteArray.data_extract,Array.toList_extract,List.extract_eq_take_drop];rw[←List.map_take, ←List.map_drop,List.drop_take]
theorem nt {s t:ByteArray}(h:bytesOf s=bytesOf t):s=t:=by apply ByteArray.ext;apply Array.ext';refine(List.map_inj_right fun a b hab=> ?_).1 h;have h2:a.toNat=b.toNat:=Int.ofNat.inj hab;exact UInt8.toNat_inj.1 h2
theorem uM {xs:List Int}(h:i6 256 xs):bytesOf (strOf xs)=xs:=by
 simp only[bytesOf,strOf,List.map_map]
 conv=>rhs;rw[←List.map_id xs]
 apply List.map_congr_left;intro x hx;have:=h x hx;simp only[Function.comp,id,UInt8.toNat_ofNat'];omega
theorem WV (s:ByteArray):strOf (bytesOf s)=s:=nt (uM (nS s))
theorem abU (s:ByteArray):∀(n i:Nat) (r:List UInt8),s.size - i=n→ByteArray.toList.loop s i r=r.reverse++s.data.toList.drop i:=by
 intro n;induction n with
 |zero=>intro i r h;rw[ByteArray.toList.loop,if_neg (by omega)];rw[List.drop_eq_nil_of_le (by simp;exact(show s.data.size≤i by have:= @ByteArray.size_data s;omega))];simp
 |succ n ih=>
  intro i r h;have hi:i<s.size:=by omega
  have hi':i<s.data.toList.length:=by simp;exact(show i<s.data.size by have:= @ByteArray.size_data s;omega)
  rw[ByteArray.toList.loop,if_pos hi,ih (i+1) _ (by omega)];rw[List.drop_eq_getElem_cons hi'];simp;have:s.get! i=s.data[i]'(by simpa using hi'):=by simp only[ByteArray.get!];exact getElem!_pos _ _ _
  exact this
theorem toList_eq (s:ByteArray):s.toList=s.data.toList:=by rw[ByteArray.toList,abU s _ 0 [] rfl];simp
theorem ZA (s t:ByteArray):(s.toList==t.toList)=decide (bytesOf s=bytesOf t):=by
 rw[toList_eq,toList_eq];by_cases h:s=t
 ·subst h;simp
 ·have h1:¬bytesOf s=bytesOf t:=fun e=>h (nt e);have h2:¬s.data.toList=t.data.toList:=fun e=>h (ByteArray.ext (Array.ext' e));rw[decide_eq_false h1];simpa using h2
theorem VK (s t:ByteArray):(s.toList==t.toList)=decide (s=t):=by rw[ZA];exact decide_eq_decide.2 ⟨nt,fun h=>by rw[h]⟩
theorem WW:bytesOf ByteArray.empty=[]:=rfl
theorem Lq (s t:ByteArray):bytesOf (s++t)=bytesOf s++bytesOf t:=by
 simp only[bytesOf];rw[←List.map_append]
 congr 1
abbrev dX (n:Nat):List Int:=Wp 10 n
abbrev VX (d:List Int):Int:=val 10 d
abbrev DX (d:List Int):Prop:=i6 10 d
theorem IV (n:Nat):DX (dX n):=Zp (B:=10) (by omega) n
theorem Lr (n:Nat):VX (dX n)=n:=Zq (B:=10) (by omega) n
theorem VL {d:List Int}(h:DX d):pc d=dX (VX d).toNat:=Hv (B:=10) (by omega) d h
theorem Mc {d:List Int}(h:DX d):0≤VX d:=lL (by omega) h
theorem IW (n:Nat):((10^n:Nat):Int)=(10:Int)^n:=by rw[Int.natCast_pow];rfl
theorem Qs {k n:Nat}(h:k≤n):(10:Int)^k≤10^n:=by have h1:=Nat.pow_le_pow_right (show 10>0 by omega) h;rw[←IW, ←IW];exact Int.ofNat_le.2 h1
def HJ (d:List Int):List Int:=d.map (· +48)
def lM (n:Nat):List Int:=if n=0 then [48] else (HJ (dX n)).reverse
def sT (z:Int):List Int:=(if z<0 then [45] else [])++lM z.natAbs
def ib (z:Int):ByteArray:=strOf (sT z)
theorem qu (n:Nat):∀c∈lM n,48≤c∧c≤57:=by
 intro c hc;unfold lM at hc;split at hc
 ·simp at hc;omega
 ·rw[List.mem_reverse] at hc;obtain⟨y,hy,rfl⟩:=List.mem_map.1 hc;have:=IV n y hy;omega
theorem adM (z:Int):i6 256 (sT z):=fun c hc=>by
 unfold sT at hc;rcases List.mem_append.1 hc with h |h
 ·split at h
  ·simp at h;omega
  ·cases h
 ·have:=qu _ c h;omega
theorem eF (z:Int):bytesOf (ib z)=sT z:=uM (adM z)
theorem ZB (n:Nat):lM n≠ []:=by
 unfold lM;split
 ·simp
 ·rename_i h;intro e;have h1:HJ (dX n)=[]:=by simpa using e
  have h2:dX n=[]:=by simpa [HJ] using h1
  exact h ((nR (B:=10) (by omega)).1 h2)
theorem sU (n:Nat):(lM n).length=max 1 (dX n).length:=by
 unfold lM;split
 ·rename_i h;subst h;rw[dX,fp];rfl
 ·rename_i h;have:(dX n).length≠0:=fun e=>h ((nR (B:=10) (by omega)).1 (List.length_eq_zero_iff.1 e));simp[HJ];omega
theorem ahb (n:Nat):(lM n).head?=some 48↔n=0:=by
 unfold lM;split
 ·rename_i h;simp[h]
 ·rename_i h;have hne:dX n≠ []:=fun e=>h ((nR (B:=10) (by omega)).1 e);constructor
  ·intro e;exfalso;rw[List.head?_reverse] at e;have h1:dX n=(dX n).dropLast++[(dX n).getLast hne]:=(List.dropLast_concat_getLast hne).symm;have h2:=S9 (B:=10) (by omega) h1;rw[HJ,List.getLast?_map,List.getLast?_eq_some_getLast hne] at e;simp at e;omega
  ·intro e;exact absurd e h
def kr (l:List Int):Int:=l.foldl (fun x c=>10*x+(c - 48)) 0
theorem Md:∀(l:List Int) (x:Int),l.foldl (fun x c=>10*x+(c - 48)) x=x*10^l.length+kr l
 | [],x=>by simp[kr]
 |c::l,x=>by
  simp only[List.foldl_cons,kr];rw[Md l (10*x+(c - 48)),Md l (10*0+(c - 48)),List.length_cons,Int.pow_succ,Int.add_mul];have e1:10*x*10^l.length=x*(10^l.length*10):=by rw[Int.mul_comm 10 x,Int.mul_assoc,Int.mul_comm 10]
  rw[e1];simp only[Int.mul_zero,Int.zero_add];omega
theorem FM (l m:List Int):kr (l++m)=kr l*10^m.length+kr m:=by rw[kr,List.foldl_append,Md];rfl
theorem zM:∀(d:List Int),kr (HJ d).reverse=VX d
 | []=>rfl
 |x::d=>by simp only[HJ,List.map_cons,List.reverse_cons];rw[FM];have:=zM d;rw[HJ] at this;rw[this];simp[kr,VX,val];omega
theorem HB (n:Nat):kr (lM n)=n:=by
 unfold lM;split
 ·rename_i h;subst h;rfl
 ·rw[zM,Lr]
theorem Be:∀(l:List Int),(∀c∈l,48≤c∧c≤57)→0≤kr l∧kr l<10^l.length
 | [],_=>by simp[kr]
 |c::l,h=>by
  have h1:=h c (by simp);have h2:=Be l (fun x hx=>h x (by simp[hx]));have h3:kr (c::l)=(c - 48)*10^l.length+kr l:=by have:=Md l (10*0+(c - 48));simpa [kr] using this
  rw[h3,List.length_cons,Int.pow_succ];have hp:(0:Int)<10^l.length:=Int.pow_pos (by omega);have h4:0≤(c - 48)*10^l.length:=Int.mul_nonneg (by omega) (by omega);have h5:(c - 48)*10^l.length≤9*10^l.length:=Int.mul_le_mul_of_nonneg_right (by omega) (by omega);omega
def T1 (c:Int):Bool:=decide (48≤c)&&decide (c≤57)
theorem Ao (c:Int):T1 c=true↔48≤c∧c≤57:=by simp[T1]
theorem ahc {l:List Int}(h:∀c∈l,48≤c∧c≤57)(hne:l≠ [])(h0:l.head?=some 48→l=[48]):l=lM (kr l).toNat:=by
 by_cases hz:l.head?=some 48
 ·rw[h0 hz];rfl
 · -- C7 digits from C7 lowest one on
   have hD:DX (l.map (· - 48)).reverse:=fun x hx=>by rw[List.mem_reverse] at hx;obtain⟨c,hc,rfl⟩:=List.mem_map.1 hx;have:=h c hc;omega
   have arx:HJ (l.map (· - 48)).reverse=l.reverse:=by
    simp only[HJ, ←List.map_reverse,List.map_map]
    conv=>rhs;rw[←List.map_id l.reverse]
    apply List.map_congr_left;intro c _;simp only[Function.comp,id];omega
   have hv:VX (l.map (· - 48)).reverse=kr l:=by rw[←zM,arx,List.reverse_reverse]
   have ary:pc (l.map (· - 48)).reverse=(l.map (· - 48)).reverse:=by
    cases l with
    |nil=>exact absurd rfl hne
    |cons c l=>simp only[List.map_cons,List.reverse_cons];exact Eu (fun e=>hz (by simp;omega)) _
   have hu:=adH (B:=10) (by omega) hD ary;rw[show val ((10:Nat):Int) (l.map (· - 48)).reverse=kr l from hv] at hu;have hnz:(kr l).toNat≠0:=fun e=>by rw[e,fp] at hu;exact hne (by simpa using hu)
   unfold lM;rw[if_neg hnz,dX, ←hu,arx,List.reverse_reverse]
theorem abV {m n:Nat}(h:lM m=lM n):m=n:=by have h1:=HB m;rw[h,HB n] at h1;omega
theorem akc {x y:Int}(h:sT x=sT y):x=y:=by
 unfold sT at h;have key:∀(m n:Nat),([45]:List Int)++lM m≠ []++lM n:=fun m n e=>by
  have:(45:Int)∈lM n:=by rw[List.nil_append] at e;rw[←e];simp
  have:=qu n _ this;omega
 split at h<;>split at h
 ·have:=abV (List.append_cancel_left h);omega
 ·exact absurd h (key _ _)
 ·exact absurd h.symm (key _ _)
 ·have:=abV (List.append_cancel_left h);omega
theorem amC {x y:Int}(h:ib x=ib y):x=y:=akc (by rw[←eF, ←eF,h])
theorem adN {x y:Int}:ib x=ib y↔x=y:=⟨amC,fun h=>by rw[h]⟩
def kh (l:List Int):Bool:=l.head?==some 45
def bH (l:List Int):List Int:=if l.head?=some 45 then l.tail else l
def iD (l:List Int):Bool:=
 (bH l).all T1&& !((bH l).isEmpty)&&(!((bH l).head?==some 48)||((bH l).length==1&& !(kh l)))
def numOf (l:List Int):Int:=if kh l then -kr (bH l) else kr (bH l)
theorem Ta (z:Int):iD (sT z)=true∧numOf (sT z)=z:=by
 have hr:=qu z.natAbs;have hne:=ZB z.natAbs;have hh:=ahb z.natAbs;by_cases h:z<0
 ·have hb:bH (sT z)=lM z.natAbs:=by simp[bH,sT,h]
  have hm:kh (sT z)=true:=by simp[kh,sT,h]
  have hz:¬(lM z.natAbs).head?=some 48:=fun e=>by have:=hh.1 e;omega
  refine⟨?_, ?_⟩
  ·unfold iD;rw[hb,hm];have h1:(lM z.natAbs).all T1=true:=List.all_eq_true.2 fun c hc=>(Ao c).2 (hr c hc);have h2:(lM z.natAbs).isEmpty=false:=by simpa using hne
   have h3:((lM z.natAbs).head?==some 48)=false:=by simpa using hz
   rw[h1,h2,h3];rfl
  ·unfold numOf;rw[hb,hm,HB];simp;omega
 ·have hb':(sT z).head?≠some 45:=by simp only[sT,h,if_false,List.nil_append];intro e;have:(45:Int)∈lM z.natAbs:=List.mem_of_mem_head? (by rw[e];rfl);have:=hr _ this;omega
  have hb:bH (sT z)=lM z.natAbs:=by unfold bH;rw[if_neg hb'];simp[sT,h]
  have hm:kh (sT z)=false:=by simpa [kh] using hb'
  refine⟨?_, ?_⟩
  ·unfold iD;rw[hb,hm];have h1:(lM z.natAbs).all T1=true:=List.all_eq_true.2 fun c hc=>(Ao c).2 (hr c hc);have h2:(lM z.natAbs).isEmpty=false:=by simpa using hne
   rw[h1,h2];by_cases h3:(lM z.natAbs).head?=some 48
   ·have:z.natAbs=0:=hh.1 h3;rw[this];rfl
   ·have h4:((lM z.natAbs).head?==some 48)=false:=by simpa using h3
    rw[h4];rfl
  ·unfold numOf;rw[hb,hm,HB];simp;omega
theorem VM {l:List Int}(h:iD l=true):l=sT (numOf l):=by
 unfold iD at h;simp only[Bool.and_eq_true,Bool.or_eq_true,Bool.not_eq_true',List.isEmpty_eq_false_iff] at h;obtain⟨⟨h1,h2⟩,h3⟩:=h;have hr:∀c∈bH l,48≤c∧c≤57:=fun c hc=>(Ao c).1 (List.all_eq_true.1 h1 c hc);have h0:(bH l).head?=some 48→bH l=[48]∧kh l=false:=fun e=>by
  rcases h3 with h3 |h3
  ·rw[e] at h3;cases h3
  ·refine⟨?_,h3.2⟩;cases hb:bH l with
   |nil=>exact absurd hb h2
   |cons c r=>rw[hb] at e h3;simp at e h3;rw[e,h3.1]
 have hn:=ahc hr h2 (fun e=>(h0 e).1);have hb:=Be _ hr;by_cases hm:l.head?=some 45
 ·have hm':kh l=true:=by simpa [kh] using hm
  have hnz:kr (bH l)≠0:=fun e=>by
   rw[e] at hn;have:(bH l).head?=some 48:=by rw[hn];rfl
   have:=(h0 this).2;rw[hm'] at this;cases this
  have hl:l=45::bH l:=by
   cases l with
   |nil=>cases hm
   |cons c r=>simp at hm;subst hm;simp[bH]
  unfold numOf sT;rw[if_pos hm',if_pos (by omega)]
  conv=>lhs;rw[hl,hn]
  have:(-kr (bH l)).natAbs=(kr (bH l)).toNat:=by omega
  rw[this];rfl
 ·have hm':kh l=false:=by simpa [kh] using hm
  have hl:bH l=l:=by unfold bH;rw[if_neg hm]
  unfold numOf sT;rw[hm',hl];rw[hl] at hn hb;simp only[Bool.false_eq_true,if_false];rw[if_neg (by omega),List.nil_append];have:(kr l).natAbs=(kr l).toNat:=by omega
  rw[this];exact hn
def nd (z:Int):Nat:=(lM z.natAbs).length
theorem kY (z:Int)(k:Nat)(hk:1≤k):nd z≤k↔z.natAbs<10^k:=by unfold nd;rw[sU];have:=aS (B:=10) (by omega) k z.natAbs;simp only[dX];rw[←this];omega
theorem ZC (z:Int):nd (-z)=nd z:=by unfold nd;rw[Int.natAbs_neg]
theorem abW (z:Int):(ib z).size=nd z+(if z<0 then 1 else 0):=by rw[←bh,eF];unfold sT nd;split<;>simp<;>omega
end Go.Abs
namespace Go.Proofs.YtofjebmoebhiiaaGreatDoor.Ev
open Go.Abs Go.IntWalk
theorem take_one {l:List Int}:l.take 1=[45]↔l.head?=some 45:=by cases l<;>simp
theorem ZD (s:ByteArray):im s (bs [45])=some (strOf (bH (bytesOf s)),kh (bytesOf s)):=by
 have h45:bytesOf (bs [45])=[45]:=rfl;have hsz:(bs [45]).size=1:=rfl;have hlen:=bh s;rw[AI,tM,ux,oQ,uy,oR,hsz];by_cases h0:1≤s.size
 ·rw[y7 (by omega),Gy (by omega) (by omega) (by omega),bS,ZA,h45,mN];have e1:((0:Int)).toNat=0:=rfl;have e2:(((1:Nat):Int)).toNat=1:=rfl;rw[e1,e2,List.drop_zero];by_cases hm:(bytesOf s).head?=some 45
  ·have hd:decide ((bytesOf s).take 1=[45])=true:=decide_eq_true (take_one.2 hm);rw[hd];simp only[Bool.not_true,cF];rw[Gy (by omega) (by omega) (by omega),bS];have hb:bH (bytesOf s)=(bytesOf s).tail:=by unfold bH;rw[if_pos hm]
   have hm':kh (bytesOf s)=true:=by simpa [kh] using hm
   have hx:s.extract 1 ((s.size:Nat):Int).toNat=strOf (bH (bytesOf s)):=by apply nt;rw[mN,hb,uM (fun x hx=>nS s x (List.mem_of_mem_tail hx)),Int.toNat_natCast, ←hlen,List.take_length];simp
   rw[hm',hx]
  ·have hd:decide ((bytesOf s).take 1=[45])=false:=decide_eq_false (fun e=>hm (take_one.1 e));rw[hd];simp only[Bool.not_false,cT];rw[bS];have hb:bH (bytesOf s)=bytesOf s:=by unfold bH;rw[if_neg hm]
   have hm':kh (bytesOf s)=false:=by simpa [kh] using hm
   rw[hb,hm',WV]
 ·have he:bytesOf s=[]:=List.length_eq_zero_iff.1 (by omega);rw[wF (by omega),bS];simp only[Bool.not_false,cT];rw[bS];have:s=strOf (bH (bytesOf s)):=by
   apply nt;rw[he,uM]
   ·rfl
   ·rw[show bH ([]:List Int)=[] from rfl];exact i6.nil
  rw[←this,he];rfl
theorem adO {s:ByteArray}{neg:Bool}{e:Int}{t4:Bool}{t5:List Int}{c:List Int}(hc:i6 256 c)(hl:c.length≤9):∀(m k:Nat) (x:Int) (d:List Int),m+k=c.length→x=kr (c.take k)→(∀b∈c.take k,48≤b∧b≤57)→d.length≤100000000000000 / 5→
  mS s neg e x c c.length k d t4 t5=bif c.all T1 then jS s neg (IntKind.wrap .i64 (e - 9)) (d++[kr c]) t4 t5 else some ((false,[],()),false):=by
 intro m;induction m with
 |zero=>
  intro k x d hk hx hd hdl;have hk':k=c.length:=by omega
  subst hk';rw[List.take_length] at hx hd;have ha:c.all T1=true:=List.all_eq_true.2 fun b hb=>(Ao b).2 (hd b hb);rw[Dq,z8,al (by omega),iG (by omega) (by omega),ha,cT,hx]
 |succ m ih=>
  intro k x d hk hx hd hdl;have hkl:k<c.length:=by omega
  have hb:=hc.getD (by omega) k;have hxb:=Be (c.take k) hd;rw[show (c.take k).length=k by rw[List.length_take];omega] at hxb;have axK:(10:Int)^k≤10^8:=Qs (by omega);rw[Dq,z8,au (by omega),gV (by omega) (by omega),Int.toNat_natCast];by_cases h1:c.getD k 0<48
  ·have ha:c.all T1=false:=by rw[List.all_eq_false];refine⟨c.getD k 0, ?_,by rw[Ao];omega⟩;simp only[List.getD,hkl,List.getElem?_eq_getElem,Option.getD_some];exact List.getElem_mem hkl
   rw[au h1,ha,cF]
  ·by_cases h2:c.getD k 0>57
   ·have ha:c.all T1=false:=by rw[List.all_eq_false];refine⟨c.getD k 0, ?_,by rw[Ao];omega⟩;simp only[List.getD,hkl,List.getElem?_eq_getElem,Option.getD_some];exact List.getElem_mem hkl
    rw[al h1,da h2,ha,cF]
   ·rw[al h1,dA h2];simp (disch:=omega) only[u8_in,u32_in,i64_in];have wL:=fun x d=>ih (k+1) x d (by omega);simp only[Int.natCast_add,Int.natCast_one] at wL;rw[wL]
    ·rw[eJ hkl,FM, ←hx];simp[kr];omega
    ·rw[eJ hkl];intro b hb';rcases List.mem_append.1 hb' with h |h
     ·exact hd b h
     ·simp only[List.mem_singleton] at h;subst h;omega
    ·exact hdl
theorem adP {s:ByteArray}{neg:Bool}{t4:Bool}{t5:List Int}(hs:s.size≤140737488355328):∀(m e:Nat) (d:List Int),e≤m→e≤s.size→DU d→d.length*9+e≤140737488355328+9→
  jS s neg e d t4 t5=bif ((bytesOf s).take e).all T1 then some (W (bif neg then -(VU d+1000000000^d.length*kr ((bytesOf s).take e)) else (VU d+1000000000^d.length*kr ((bytesOf s).take e))),true) else some ((false,[],()),false):=by
 intro m;induction m using Nat.strongRecOn with
 |ind m ih=>
  intro e d hm he hd hdl;have hbl:=bh s;rw[Dp,z7];by_cases h0:e=0
  ·subst h0;rw[dA (by omega),Am hd (by omega),bS];simp only[List.take_zero,List.all_nil,cT,kr,List.foldl_nil,Int.mul_zero,Int.add_zero]
   try rfl
  ·rw[da (by omega)]
   -- C7 asE begin
   obtain⟨b,hb⟩:∃b:Nat,b=e - 9:=⟨_,rfl⟩
   have e0:(bif decide (IntKind.wrap .i64 ((e:Int) - 9)>0) then IntKind.wrap .i64 ((e:Int) - 9) else 0)=(b:Int):=by
    rw[i64_in _ (by omega)];by_cases h:(e:Int) - 9>0
    ·rw[da h];omega
    ·rw[dA h];omega
   rw[e0];have hx:bytesOf (s.extract b e)=((bytesOf s).take e).drop b:=mN s b e;have hxl:(bytesOf (s.extract b e)).length=e - b:=by rw[hx];simp;omega
   have hxs:(s.extract b e).size≤140737488355328:=by rw[←bh,hxl];omega
   simp only[Int.toNat_natCast];rw[Gy (by omega) (by omega) (by omega),atQ hxs];have hI:=adO (s:=s) (neg:=neg) (e:=(e:Int)) (t4:=t4) (t5:=t5) (c:=bytesOf (s.extract b e)) (nS _) (by omega) (e - b) 0 0 d (by omega) (by simp[kr]) (by simp) (by omega);simp only[Int.natCast_zero] at hI;rw[hI,hx,i64_in _ (by omega)];have R1:(bytesOf s).take e=(bytesOf s).take b++((bytesOf s).take e).drop b:=by
    conv=>lhs;rw[VJ ((bytesOf s).take e) b]
    rw[List.take_take,Nat.min_eq_left (by omega)]
   cases hca:(((bytesOf s).take e).drop b).all T1 with
   |false=>
    have:((bytesOf s).take e).all T1=false:=by rw[R1,List.all_append,hca,Bool.and_false]
    rw[this,cF,cF]
   |true=>
    rw[cT];have hcd:∀x∈((bytesOf s).take e).drop b,48≤x∧x≤57:=fun x hx=>(Ao x).1 (List.all_eq_true.1 hca x hx);have hcb:=Be _ hcd;have Uy:(((bytesOf s).take e).drop b).length=e - b:=by rw[←hx,hxl]
    rw[Uy] at hcb;have hpw:(10:Int)^(e - b)≤10^9:=Qs (by omega);have Z9:DU (d++[kr (((bytesOf s).take e).drop b)]):=hd.append (i6.cons hcb.1 (by omega) i6.nil);have hVd:VU (d++[kr (((bytesOf s).take e).drop b)])=VU d+1000000000^d.length*kr (((bytesOf s).take e).drop b):=by rw[VU,gE];simp[val]
    by_cases h9:9≤e
    ·have e1:(e:Int) - 9=(b:Int):=by omega
     rw[e1,ih b (by omega) b _ (Nat.le_refl _) (by omega) Z9 (by simp;omega),hVd];have h4:((bytesOf s).take e).all T1=((bytesOf s).take b).all T1:=by
      conv=>lhs;rw[R1]
      rw[List.all_append,hca,Bool.and_true]
     have h5:kr ((bytesOf s).take e)=kr ((bytesOf s).take b)*1000000000+kr (((bytesOf s).take e).drop b):=by
      conv=>lhs;rw[R1]
      rw[FM,Uy,show e - b=9 by omega];rfl
     have h6:VU d+1000000000^d.length*kr (((bytesOf s).take e).drop b)+1000000000^(d++[kr (((bytesOf s).take e).drop b)]).length*kr ((bytesOf s).take b)
       =VU d+1000000000^d.length*kr ((bytesOf s).take e):=by
      rw[h5,List.length_append,List.length_singleton,Int.pow_succ,Int.mul_add,Int.mul_assoc,Int.mul_comm (1000000000:Int) (kr _)];omega
     rw[h4,h6]
    · -- C7 last chunk
      have hb0:b=0:=by omega
      subst hb0;rw[Dp,z7,dA (by omega),Am Z9 (by simp;omega),bS,hVd];rw[List.drop_zero] at hca ⊢;rw[hca,cT]
      try rfl
theorem wG {s:ByteArray}(hs:s.size≤140737488355328):Dc s=bif iD (bytesOf s) then some (W (numOf (bytesOf s)),true) else some ((false,[],()),false):=by
 rw[SP,Od,ZD,bS];have hbody:bytesOf (strOf (bH (bytesOf s)))=bH (bytesOf s):=uM (fun x hx=>nS s x (by
  unfold bH at hx;split at hx
  ·exact List.mem_of_mem_tail hx
  ·exact hx))
 have hbl:(bH (bytesOf s)).length≤s.size:=by
  rw[←bh];unfold bH;split
  ·simp
  ·exact Nat.le_refl _
 have hsz:(strOf (bH (bytesOf s))).size=(bH (bytesOf s)).length:=by rw[←bh,hbody]
 generalize hB:bH (bytesOf s)=B at*
 generalize hM:kh (bytesOf s)=M at*
 simp only;rw[ZA,hbody,WW];cases B with
 |nil=>
  have:iD (bytesOf s)=false:=by unfold iD;rw[hB];simp
  rw[this];rfl
 |cons c r=>
  have h1:decide ((c::r:List Int)=[])=false:=by simp
  rw[h1,cF,An,hbody];have h2:idx (c::r) (0:Int)=some c:=rfl;rw[h2,bS];have hout:=adP (s:=strOf (c::r)) (neg:=M) (t4:=false) (t5:=[]) (by rw[hsz];omega) (c::r).length (c::r).length [] (Nat.le_refl _) (by rw[hsz];exact Nat.le_refl _) i6.nil (by simp at hbl ⊢;omega);rw[hbody,List.take_length] at hout;have WG:jS (strOf (c::r)) M ((c::r).length:Int) [] false []=bif (c::r).all T1 then some (W (numOf (bytesOf s)),true) else some ((false,[],()),false):=by
   rw[hout];have:(bif M then -(VU []+1000000000^([]:List Int).length*kr (c::r)) else (VU []+1000000000^([]:List Int).length*kr (c::r)))=numOf (bytesOf s):=by unfold numOf;rw[hB,hM];cases M<;>simp[VU,val]
   rw[this]
  have hok:iD (bytesOf s)=((c::r).all T1&&(!(c==48)||((c::r).length==1&& !M))):=by unfold iD;rw[hB,hM];simp
  by_cases hc:c=48
  ·subst hc;rw[iZ rfl];rw[hok];by_cases hl:r=[]
   ·subst hl;rw[hsz,dA (by simp)];cases M with
    |true=>rfl
    |false=>rw[cF,WG];rfl
   ·have hr:0<r.length:=List.length_pos_iff.2 hl;rw[hsz,da (by simp;omega)];have h5:((48::r:List Int).length==1)=false:=by simp;exact hl
    rw[h5];simp
  ·rw[ft hc,hsz,WG,hok];have:(c==48)=false:=Lk hc;rw[this];simp
end Go.Proofs.YtofjebmoebhiiaaGreatDoor.Ev
namespace Go.Abs
theorem amD {n:Nat}(h:0<n):(dX n).length=(dX (n / 10)).length+1:=by rw[dX,Al (by omega) h,List.length_cons]
theorem X3 (n c:Nat):(10:Nat)^(9*n+c)=1000000000^n*10^c:=by rw[Nat.pow_add,Nat.pow_mul]
def g9:Nat→Int→List Int
 |0,_=>[]
 |k+1,x=>x % 10::g9 k (x / 10)
theorem Me:∀k x,(g9 k x).length=k
 |0,_=>rfl
 |k+1,x=>by simp[g9,Me k]
theorem arz:∀k x,DX (g9 k x)
 |0,_=>i6.nil
 |k+1,x=>i6.cons (by omega) (by omega) (arz k _)
theorem ake:∀k (x:Int),0≤x→x<10^k→VX (g9 k x)=x
 |0,x,h0,h1=>by simp at h1;simp[g9,VX,val];omega
 |k+1,x,h0,h1=>by rw[Int.pow_succ] at h1;have ih:=ake k (x / 10) (by omega) (by omega);simp only[g9,VX,val] at ih ⊢;rw[ih];omega
def NJ (d:List Int):List Int:=d.flatMap (g9 9)
theorem Qt:∀d:List Int,(NJ d).length=9*d.length
 | []=>rfl
 |x::d=>by have:=Qt d;simp only[NJ,List.flatMap_cons,List.length_append,Me,List.length_cons] at this ⊢;omega
theorem ZE:∀d:List Int,DX (NJ d)
 | []=>i6.nil
 |x::d=>by simp only[NJ,List.flatMap_cons];exact(arz 9 x).append (ZE d)
theorem X4:∀d:List Int,i6 1000000000 d→VX (NJ d)=val 1000000000 d
 | [],_=>rfl
 |x::d,h=>by have ih:=X4 d h.tail;have hx:=h.head;simp only[NJ,List.flatMap_cons] at ih ⊢;rw[VX,gE,Me];have:=ake 9 x hx.1 (by simpa using hx.2);rw[VX] at this ih;rw[this,ih,val];rfl
theorem IX (d e:List Int):HJ (d++e)=HJ d++HJ e:=by simp[HJ]
theorem sV (d:List Int):(HJ d).length=d.length:=by simp[HJ]
end Go.Abs
namespace Go.Proofs.YtofjebmoebhiiaaGreatDoor.Ev
open Go.Abs Go.IntWalk
theorem abX:∀(x n:Nat),x<1000000000→n+x≤1000000000000000→dr n x=some (((n+(dX x).length:Nat)):Int):=by
 intro x;induction x using Nat.strongRecOn with
 |ind x ih=>
  intro n hx hn;rw[xp,qJ];by_cases h:x=0
  ·subst h;rw[dA (by omega),show dX 0=[] from fp _];rfl
  ·have e:IntKind.wrap .u32 ((x:Int).tdiv 10)=((x / 10:Nat):Int):=by rw[u32_quo _ _ (by omega)];omega
   have e2:IntKind.wrap .i64 ((n:Int)+1)=((n+1:Nat):Int):=by rw[i64_in _ (by omega)];omega
   rw[da (by omega),e,e2,ih (x / 10) (Nat.div_lt_self (by omega) (by omega)) (n+1) (by omega) (by omega),amD (n:=x) (by omega)]
   congr 2;omega
theorem M8 {z:Int}(hz:Ln z≤20000000000000):gP (W z)=some ((dX z.natAbs).length:Int):=by
 rw[BT,ve,aj5];by_cases h:z=0
 ·subst h;have:Ln 0=0:=(Bc 0).2 rfl;rw[this,iZ (by omega),show dX (Int.natAbs 0)=[] from fp _];rfl
 ·have hpos:Ln z≠0:=fun e=>h ((Bc z).1 e);obtain⟨n,hn⟩:∃n,Ln z=n+1:=⟨Ln z - 1,by omega⟩
  have hd:=JX z.natAbs;have hl:(dU z.natAbs).length=n+1:=hn;have amB:=hd.getD (by omega) n;rw[ft (by omega)];simp only[W_2,qt];have e1:((Ln z:Int) - 1).toNat=n:=by omega
  simp (disch:=omega) only[i64_in,gV,e1,qt];obtain⟨t,ht⟩:=Int.eq_ofNat_of_zero_le amB.1;rw[ht] at amB ⊢;have e2:(9:Int)*((Ln z:Int) - 1)=((9*n:Nat):Int):=by omega
  rw[e2,abX t (9*n) (by omega) (by omega)]
  congr 2
  -- C7 number axL asF two aua
  have h1:=Hz (dU z.natAbs) (show n<(dU z.natAbs).length by omega);rw[List.take_of_length_le (by omega),ht] at h1;have h2:=BH (B:=1000000000) (by omega) (hd.take n);have h3:=lL (B:=1000000000) (by omega) (hd.take n);rw[show ((dU z.natAbs).take n).length=n by rw[List.length_take];omega] at h2;have h4:=Lm z.natAbs;rw[VU] at h4;have ht0:0<t:=by
   have hne:dU z.natAbs=(dU z.natAbs).take n++[(t:Int)]:=by
    conv=>lhs;rw[←List.take_of_length_le (l:=dU z.natAbs) (i:=n+1) (by omega)]
    rw[eJ (by omega),ht]
   have:=S9 (B:=1000000000) (by omega) hne;omega
  have hc:(dX t).length≠0:=fun e=>by have:=(nR (B:=10) (n:=t) (by omega)).1 (List.length_eq_zero_iff.1 e);omega
  obtain⟨c,hcc⟩:∃c,(dX t).length=c+1:=⟨(dX t).length - 1,by omega⟩
  have h5:=(aS (B:=10) (by omega) (c+1) t).1 (by rw[←hcc];exact Nat.le_refl _);have h6:=(ia (B:=10) (by omega) c t).1 (by show c<(dX t).length;omega);have h7:z.natAbs<10^(9*n+(c+1)):=by
   rw[X3];have:((1000000000:Nat)^n)*(t+1)≤1000000000^n*10^(c+1):=Nat.mul_le_mul_left _ h5;rw[Nat.mul_add,Nat.mul_one] at this;have e:=ofNat_pow n;have e':((1000000000^n*t:Nat):Int)=1000000000^n*(t:Int):=by rw[Int.natCast_mul,e]
   omega
  have h8:10^(9*n+c)≤z.natAbs:=by
   rw[X3];have:((1000000000:Nat)^n)*10^c≤1000000000^n*t:=Nat.mul_le_mul_left _ h6;have e:=ofNat_pow n;have e':((1000000000^n*t:Nat):Int)=1000000000^n*(t:Int):=by rw[Int.natCast_mul,e]
   omega
  have h9:=(aS (B:=10) (by omega) (9*n+(c+1)) z.natAbs).2 h7;have h10:=(ia (B:=10) (by omega) (9*n+c) z.natAbs).2 h8;show 9*n+(dX t).length=(Wp 10 z.natAbs).length;omega
def X5 (z:Int):Bool:=decide (1000<nd z)
theorem FN {z:Int}(hz:Ln z≤20000000000000):lv (W z)=some (X5 z):=by
 rw[Fo,zA];show (gP (W z)).bind _=_;rw[M8 hz,bS]
 congr 1
 unfold X5 nd;rw[sU];exact decide_eq_decide.2 (by omega)
theorem adQ {t:List Int}{t2 t3:Int}{a:Bool}{a2:List Int}:∀(m k:Nat) (x:Int) (out:List Int),m+k=9→0≤x→x<1000000000→out.length+m≤10000000000000→
  eN x t t2 t3 k out a a2=dD t t2 (IntKind.wrap .i64 (t3+1)) (out++HJ (g9 m x)) a a2:=by
 intro m;induction m with
 |zero=>intro k x out hk h0 h1 ho;rw[sx,oe,al (by omega)];simp[g9,HJ]
 |succ m ih=>intro k x out hk h0 h1 ho;rw[sx,oe,au (by omega)];simp (disch:=omega) only[bD,u32_in,u8_in,u32_quo,iG,i64_in];have wL:=fun x out=>ih (k+1) x out (by omega);simp only[Int.natCast_add,Int.natCast_one] at wL;rw[wL _ _ (by omega) (by omega) (by simp;omega)];simp only[g9,HJ,List.map_cons,List.append_assoc,List.singleton_append,Int.add_comm (48:Int)]
theorem adR {d:List Int}{a:Bool}{a2:List Int}(hd:DU d)(hl:d.length≤1000000000000):∀(m i:Nat) (out:List Int),m+i=d.length→out.length=9*i→
  dD d d.length i out a a2=dE (out++HJ (NJ (d.drop i))) a a2:=by
 intro m;induction m with
 |zero=>intro i out hi ho;rw[su,od,al (by omega),drop_nil (by omega)];simp[NJ,HJ]
 |succ m ih=>intro i out hi ho;have hx:=hd.getD (by omega) i;rw[su,od,au (by omega),gV (by omega) (by omega),Int.toNat_natCast];have hI:=adQ (t:=d) (t2:=d.length) (t3:=i) (a:=a) (a2:=a2) 9 0 (d.getD i 0) out rfl hx.1 hx.2 (by omega);simp only[Int.natCast_zero] at hI;have wL:=fun out=>ih (i+1) out (by omega);simp only[Int.natCast_add,Int.natCast_one] at wL;rw[hI,i64_in _ (by omega),wL _ (by rw[List.length_append,sV,Me];omega),drop_eq (show i<d.length by omega)];simp only[NJ,List.flatMap_cons,IX,List.append_assoc]
theorem akf:∀(m:Nat) (M A C:List Int),M.length=m→A.length=C.length→(A++M++C).length≤1000000000000000→
  dF A.length ((A.length:Int)+M.length - 1) (A++M++C)=some (strOf (A++M.reverse++C)):=by
 intro m;induction m using Nat.strongRecOn with
 |ind m ih=>
  intro M A C hm hac hl;rw[AH,tJ];by_cases h:M.length≤1
  ·rw[al (by omega)];have:M.reverse=M:=by
    match M,h with
    | [],_=>rfl
    | [x],_=>rfl
    |_::_::_,h=>simp at h
   rw[this]
  ·obtain⟨x,M1,rfl⟩:∃x M1,M=x::M1:=by
    cases M with
    |nil=>simp at h
    |cons x M1=>exact⟨x,M1,rfl⟩
   have hne:M1≠ []:=fun e=>by rw[e] at h;simp at h
   obtain⟨M2,y,rfl⟩:∃M2 y,M1=M2++[y]:=⟨M1.dropLast,M1.getLast hne,(List.dropLast_concat_getLast hne).symm⟩
   have hlen:(A++x::(M2++[y])++C).length=A.length+M2.length+2+C.length:=by simp;omega
   have hM:(x::(M2++[y])).length=M2.length+2:=by simp
   rw[hM];rw[hlen] at hl;have ej:((A.length:Int)+((M2.length+2:Nat):Int) - 1).toNat=A.length+M2.length+1:=by omega
   have hL:A++x::(M2++[y])++C=A++(x::(M2++(y::C))):=by simp
   rw[hL] at hlen ⊢;have gx:(A++(x::(M2++(y::C)))).getD A.length 0=x:=by simp[List.getD]
   have gy:(A++(x::(M2++(y::C)))).getD (A.length+M2.length+1) 0=y:=by
    rw[List.getD,List.getElem?_append_right (by omega)];have:A.length+M2.length+1 - A.length=M2.length+1:=by omega
    rw[this];simp
   have s1:(A++(x::(M2++(y::C)))).set A.length y=A++(y::(M2++(y::C))):=by rw[List.set_append_right _ _ (by omega)];simp
   have s2:(A++(y::(M2++(y::C)))).set (A.length+M2.length+1) x=(A++[y])++M2++(x::C):=by
    rw[List.set_append_right _ _ (by omega)];have:A.length+M2.length+1 - A.length=M2.length+1:=by omega
    rw[this,List.set_cons_succ,List.set_append_right _ _ (by omega)];simp
   have abA:(A++(y::(M2++(y::C)))).length=A.length+M2.length+2+C.length:=by simp;omega
   rw[au (by omega)];simp (disch:=omega) only[gV,rS,ej,Int.toNat_natCast,gx,gy,s1,s2,i64_in];have:=ih M2.length (by simp at hm;omega) M2 (A++[y]) (x::C) rfl (by simp;omega) (by simp;omega);have e1:((A++[y]).length:Int)=(A.length:Int)+1:=by simp
   rw[e1] at this;have e2:(A.length:Int)+1+M2.length - 1=(A.length:Int)+((M2.length+2:Nat):Int) - 1 - 1:=by omega
   rw[e2] at this;rw[this];simp
theorem X6 (o:List Int)(hl:o.length≤1000000000000000):dF 0 ((o.length:Int) - 1) o=some (strOf o.reverse):=by have:=akf o.length o [] [] rfl rfl (by simpa using hl);simpa using this
theorem adT {a:Bool}{a2:List Int}:∀(n:Nat) (ds:List Int),ds.length=n→n≤100000000000000→DX ds→VX ds≠0→
  dE (HJ ds) a a2=some (strOf ((if a then [45] else [])++(HJ (pc ds)).reverse)):=by
 intro n;induction n with
 |zero=>intro ds hn _ _ hv;have:ds=[]:=List.length_eq_zero_iff.1 hn;subst this;exact absurd rfl hv
 |succ n ih=>
  intro ds hn hl hd hv;have hne:ds≠ []:=fun e=>by rw[e] at hn;cases hn
  obtain⟨d',y,rfl⟩:∃d' y,ds=d'++[y]:=⟨ds.dropLast,ds.getLast hne,(List.dropLast_concat_getLast hne).symm⟩
  have hn':d'.length=n:=by simpa using hn
  have hy:=hd.right.head;rw[IX,AG,tI];have Uy:(HJ d'++HJ [y]).length=d'.length+1:=by simp[sV]
  have e1:(((d'.length+1:Nat):Int) - 1).toNat=d'.length:=by omega
  have g1:(HJ d'++HJ [y]).getD d'.length 0=y+48:=by rw[List.getD,List.getElem?_append_right (by rw[sV];omega),sV];simp[HJ]
  simp (disch:=omega) only[Uy,i64_in,gV,rS,e1,g1];by_cases h0:y=0
  ·subst h0;have hv':VX d'≠0:=fun e=>hv (by rw[VX,gE,show val 10 d'=0 from e];simp[val]);have ht:(HJ d'++HJ [0]).take d'.length=HJ d':=List.take_left' (sV _);rw[iZ (by omega),Gy (by omega) (by omega) (by omega),ht,ih d' hn' (by omega) hd.left hv',Bb]
  ·rw[ft (by omega),Eu h0, ←IX];have aub:(HJ (d'++[y])).length=d'.length+1:=by simp[sV]
   cases a with
   |true=>rw[cT,iG (by omega) (by omega)];have e5:IntKind.wrap .i64 (((HJ (d'++[y])++[45]).length:Int) - 1)=((HJ (d'++[y])++[45]).length:Int) - 1:=i64_in _ (by simp[sV];omega);rw[e5,X6 _ (by simp[sV];omega)];simp
   |false=>rw[cF];have:=X6 (HJ (d'++[y])) (by omega);rw[aub] at this;rw[this];simp
theorem FO {z:Int}(hz:Ln z≤10000000000):lr (W z)=some (ib z):=by
 rw[Fl,zx,aj5,W_1,W_2];by_cases h:z=0
 ·subst h;have:Ln 0=0:=(Bc 0).2 rfl;rw[this,iZ (by omega)];rfl
 ·have hpos:Ln z≠0:=fun e=>h ((Bc z).1 e);rw[ft (by omega)];simp (disch:=omega) only[i64_in,CD];have hd:=JX z.natAbs;have h1:=adR (a:=decide (z<0)) (a2:=dU z.natAbs) hd (by rw[qt];omega) (dU z.natAbs).length 0 [] (by omega) rfl;simp only[Int.natCast_zero,List.drop_zero,List.nil_append,qt] at h1;have hv:VX (NJ (dU z.natAbs))=z.natAbs:=by rw[X4 _ hd];exact Lm _
  rw[h1,adT _ _ rfl (by rw[Qt,qt];omega) (ZE _) (by rw[hv];omega),VL (ZE _),hv,Int.toNat_natCast];unfold ib sT lM;rw[if_neg (show ¬z.natAbs=0 by omega)]
  congr 3
  by_cases h2:z<0<;>simp[h2]
theorem akg {z:Int}{k:Nat}(h:nd z≤k):Ln z≤k / 9+1:=by rw[Hx];have h1:=(kY z (k+1) (by omega)).1 (by omega);have h2:10^(k+1)≤10^(9*(k / 9+1)):=Nat.pow_le_pow_right (by omega) (by omega);rw[Nat.pow_mul] at h2;exact Nat.lt_of_lt_of_le h1 h2
def Sm (z:Int):Prop:=nd z≤1000
instance (z:Int):Decidable (Sm z):=inferInstanceAs (Decidable (nd z≤1000))
theorem Sm.Ln {z:Int}(h:Sm z):Ln z≤112:=akg h
theorem adU (z:Int):Sm z↔z.natAbs<10^1000:=kY z 1000 (by omega)
theorem Sm.mono {x y:Int}(h:Sm y)(hxy:x.natAbs≤y.natAbs):Sm x:=(adU x).2 (Nat.lt_of_le_of_lt hxy ((adU y).1 h))
theorem Sm.neg {x:Int}(h:Sm x):Sm (-x):=h.mono (by omega)
def yl (s:ByteArray):Prop:=s.size≤140737488355328
section
variable {a b:ByteArray}{x y:Int}(ha:yl a)(hb:yl b)(hx:Sm x)(hy:Sm y)
include hx hy
end
section
variable {x:Int}(hx:Sm x)
include hx
end
section
variable {a b:ByteArray}(ha:yl a)(hb:yl b)
include ha
include hb
end
theorem adV:∀(n:Nat) (d:List Int),d.length=n→n≤1000000000000000→dP d=some (pc d):=by
 intro n;induction n with
 |zero=>intro d hd hn;have:d=[]:=List.length_eq_zero_iff.1 hd;subst this;rw[qQ,ni];rfl
 |succ n ih=>
  intro d hd hn;obtain⟨d',y,rfl⟩:∃d' y,d=d'++[y]:=by
   have hne:d≠ []:=fun e=>by rw[e] at hd;cases hd
   exact⟨d.dropLast,d.getLast hne,(List.dropLast_concat_getLast hne).symm⟩
  have hl:d'.length=n:=by simpa using hd
  have hy:(d'++[y]).getD d'.length 0=y:=by simp[List.getD]
  have ht:(d'++[y]).take d'.length=d':=by simp
  rw[qQ,ni];simp only[List.length_append,List.length_cons,List.length_nil];simp (disch:=omega) only[i64_in,da,Gy,arc];rw[sS (by omega) (by simp;omega)];have e:(((d'.length+(0+1):Nat):Int) - 1).toNat=d'.length:=by omega
  rw[e,hy,ht,bS];by_cases h0:y=0
  ·subst h0;rw[Bb,ih d' hl (by omega),iZ rfl]
  ·rw[ft h0,Eu h0]
theorem Ls {d:List Int}(h:d.length≤1000000000000000):bk d=some (pc d):=by rw[DH,xz];exact adV _ d rfl h
theorem adW {d:List Int}(hd:DX d)(hl:d.length≤100000000000000):∀(k:Nat) (out:List Int),k≤d.length→out.length+k≤1000000000000000 / 10→
  dM d ((k:Int) - 1) out=some (strOf (out++(HJ (d.take k)).reverse)):=by
 intro k;induction k with
 |zero=>intro out hk ho;rw[qO,nc,wF (by omega)];simp[HJ]
 |succ k ih=>
  intro out hk ho;have hx:=hd.getD (by omega) k;have e:((k+1:Nat):Int) - 1=k:=by omega
  rw[qO,nc,e,y7 (by omega),gV (by omega) (by omega),Int.toNat_natCast];simp (disch:=omega) only[i64_in,u8_in,iG];rw[ih _ (by omega) (by simp;omega),eJ (show k<d.length by omega),IX];simp[HJ,Int.add_comm]
theorem ym {minus:Bool}{d:List Int}(hd:DX d)(hl:d.length≤10000000000000):aw minus d=some (ib (if minus then -VX d else VX d)):=by
 obtain⟨v,hv⟩:=Int.eq_ofNat_of_zero_le (Mc hd);rw[DE,xw,Ls (by omega),bS,VL hd,hv,Int.toNat_natCast];have hlen:=CL d;rw[VL hd,hv,Int.toNat_natCast] at hlen;by_cases h0:v=0
 ·subst h0;rw[show dX 0=[] from fp _,iZ (by rfl)];cases minus<;>rfl
 ·have hne:(dX v).length≠0:=fun e=>h0 ((nR (B:=10) (by omega)).1 (List.length_eq_zero_iff.1 e));rw[ft (by omega)];have hw:=adW (IV v) (by omega) (dX v).length;have e5:IntKind.wrap .i64 (((dX v).length:Int) - 1)=((dX v).length:Int) - 1:=i64_in _ (by omega);cases minus with
  |true=>
   rw[cT,iG (by omega) (by omega),e5,hw _ (Nat.le_refl _) (by simp;omega),List.take_length];unfold ib sT lM;simp only[if_true];rw[if_pos (by omega),if_neg (by omega)];have:(-(v:Int)).natAbs=v:=by omega
   rw[this];simp
  |false=>rw[cF,e5,hw _ (Nat.le_refl _) (by simp;omega),List.take_length];unfold ib sT lM;simp only[Bool.false_eq_true,if_false];rw[if_neg (by omega),if_neg (by omega)];simp
def Nd (k:Nat)(z:Int):Prop:=z.natAbs<10^k
theorem Nd.mono {k l:Nat}{z:Int}(h:Nd k z)(hkl:k≤l):Nd l z:=Nat.lt_of_lt_of_le h (Nat.pow_le_pow_right (by omega) hkl)
theorem Nd.add {k l:Nat}{x y:Int}(hx:Nd k x)(hy:Nd l y):Nd (max k l+1) (x+y):=by
 have h1:=hx.mono (Nat.le_max_left k l);have h2:=hy.mono (Nat.le_max_right k l);unfold Nd at*
 rw[Nat.pow_succ];omega
theorem Nd.neg {k:Nat}{x:Int}(hx:Nd k x):Nd k (-x):=by unfold Nd at*;omega
theorem Nd.sub {k l:Nat}{x y:Int}(hx:Nd k x)(hy:Nd l y):Nd (max k l+1) (x - y):=hx.add hy.neg
theorem Nd.mul {k l:Nat}{x y:Int}(hx:Nd k x)(hy:Nd l y):Nd (k+l) (x*y):=by
 unfold Nd at*
 rw[Int.natAbs_mul,Nat.pow_add];exact Nat.mul_lt_mul'' hx hy
theorem Nd.Sm {k:Nat}{x:Int}(hx:Nd k x)(hk:k≤1000):Sm x:=(adU x).2 (hx.mono hk)
theorem Nd.le {k:Nat}{x y:Int}(hy:Nd k y)(h:x.natAbs≤y.natAbs):Nd k x:=Nat.lt_of_le_of_lt h hy
theorem Mf (x y:Int):((ib x).toList==(ib y).toList)=decide (x=y):=by rw[VK];exact decide_eq_decide.2 adN
theorem X7 {x y:Int}(h:x=y):((ib x).toList==(ib y).toList)=true:=by rw[Mf];exact decide_eq_true h
theorem X8 {x y:Int}(h:¬x=y):((ib x).toList==(ib y).toList)=false:=by rw[Mf];exact decide_eq_false h
theorem akh {l:List Nat}{z:Int}(h:iD (bytesOf (bs l))=true)(hz:numOf (bytesOf (bs l))=z):bs l=ib z:=
 nt (by rw[eF, ←hz];exact VM h)
theorem arB:bs [48]=ib 0:=akh rfl rfl
theorem auc:bs [49]=ib 1:=akh rfl rfl
section
variable {x y:Int}(hx:Sm x)(hy:Sm y)
include hx hy
end
end Go.Proofs.YtofjebmoebhiiaaGreatDoor.Ev
namespace Go.Abs
def R2 (l:List Int):List Int:=((l.filter (fun c=>c != 45)).reverse).map (· - 48)
theorem Tc (l m:List Int):R2 (l++m)=R2 m++R2 l:=by simp[R2]
theorem arC {c:Int}(h:¬c=45):([c]:List Int).filter (fun c=>c != 45)=[c]:=by simp[List.filter_cons,h]
theorem arD {c:Int}(h:¬c=45):R2 [c]=[c - 48]:=by simp[R2,List.filter_cons,h]
theorem FP (n:Nat):(lM n).filter (fun c=>c != 45)=lM n:=by apply List.filter_eq_self.2;intro c hc;have:=qu n c hc;simp;omega
theorem ahd (n:Nat):pc (R2 (lM n))=dX n:=by
 unfold R2;rw[FP];unfold lM;split
 ·rename_i h;subst h;rw[dX,fp];rfl
 ·rw[List.reverse_reverse];have:(HJ (dX n)).map (· - 48)=dX n:=by
   simp only[HJ,List.map_map]
   conv=>rhs;rw[←List.map_id (dX n)]
   apply List.map_congr_left;intro c _;simp only[Function.comp,id];omega
  rw[this];exact Qo (B:=10) (by omega) n
theorem ahe (z:Int):pc (R2 (sT z))=dX z.natAbs:=by
 unfold sT;rw[Tc];have:R2 (if z<0 then [45] else [])=[]:=by split<;>rfl
 rw[this,List.append_nil,ahd]
theorem NK (z:Int):(dX z.natAbs).length≤nd z:=by unfold nd;rw[sU];omega
theorem X9 {m n:Nat}(h:m≤n):(dX m).length≤(dX n).length:=by have l2:=(aS (B:=10) (by omega) (dX n).length n).1 (Nat.le_refl _);exact(aS (B:=10) (by omega) (dX n).length m).2 (by omega)
theorem Qu {x y:Int}(h:x.natAbs≤y.natAbs):nd x≤nd y:=by unfold nd;rw[sU,sU];have:=X9 h;omega
theorem adX (z:Int):1≤nd z:=by unfold nd;rw[sU];omega
theorem aki (z:Int):z.natAbs<10^nd z:=(kY z _ (adX z)).1 (Nat.le_refl _)
theorem akj (x y:Int):nd (x*y)≤nd x+nd y:=by rw[kY _ _ (by have:=adX x;omega),Int.natAbs_mul,Nat.pow_add];exact Nat.mul_lt_mul'' (aki x) (aki y)
theorem Qv {x:Int}(h:x.natAbs<10):nd x=1:=by have h1:=(kY x 1 (by omega)).2 (by omega);have:=adX x;omega
def Bd (z:Int):Prop:=nd z≤100000
end Go.Abs
namespace Go.Proofs.YtofjebmoebhiiaaGreatDoor.Ev
open Go.Abs Go.IntWalk
theorem ZF {s:ByteArray}{minus:Bool}(hs:s.size≤100000000000):∀(k:Nat) (d:List Int),k≤s.size→d.length+k≤1000000000000→
  cY s minus ((k:Int) - 1) d=some (minus,pc (d++R2 ((bytesOf s).take k))):=by
 intro k;induction k with
 |zero=>intro d hk hd;rw[oS,kB,wF (by omega),Ls (by omega),bS];simp[R2]
 |succ k ih=>
  intro d hk hd;have hb:=(nS s).getD (by omega) k;have hl:=bh s;have e:((k+1:Nat):Int) - 1=k:=by omega
  rw[oS,kB,e,y7 (by omega),An,sS (by omega) (by omega),bS,Int.toNat_natCast,eJ (show k<(bytesOf s).length by omega),Tc];by_cases h:(bytesOf s).getD k 0=45
  ·rw[pd h,i64_in _ (by omega),ih d (by omega) (by omega)];have:R2 [(bytesOf s).getD k 0]=[]:=by rw[h];rfl
   rw[this,List.nil_append]
  ·rw[Hw h,bS];simp (disch:=omega) only[i64_in,iG];rw[ih _ (by omega) (by simp;omega)];rw[arD h,List.append_assoc]
theorem VN (z:Int):(ib z).size>0∧(bytesOf (ib z)).getD 0 0=(if z<0 then 45 else (lM z.natAbs).getD 0 0):=by
 have hn:=ZB z.natAbs;constructor
 ·rw[←bh,eF];unfold sT;have:0<(lM z.natAbs).length:=List.length_pos_iff.2 hn;simp;omega
 ·rw[eF];unfold sT;split<;>rfl
theorem adY (n:Nat):(lM n).getD 0 0≠45:=by
 have hn:=ZB n;have h1:=qu n;cases h:lM n with
 |nil=>exact absurd h hn
 |cons c r=>rw[h] at h1;have:=h1 c (by simp);simp;omega
theorem Ya (z:Int):((bytesOf (ib z)).getD 0 0==45)=decide (z<0):=by
 rw[(VN z).2];by_cases h:z<0
 ·rw[if_pos h,decide_eq_true h];rfl
 ·rw[if_neg h,decide_eq_false h];exact Lk (adY _)
theorem FQ (z:Int):(ib z).size≤nd z+1:=by rw[abW];split<;>omega
theorem nT {z:Int}(hz:Bd z):ax (ib z)=some (decide (z<0),dX z.natAbs):=by have h1:=(VN z).1;have hsz:=FQ z;unfold Bd at hz;have hl:=bh (ib z);rw[AM,tO,da (by omega),An,sS (by omega) (by omega),bS];have e0:(0:Int).toNat=0:=rfl;rw[e0,Ya,i64_in _ (by omega),ZF (by omega) _ [] (Nat.le_refl _) (by simp;omega),List.nil_append, ←hl,List.take_length,eF,ahe]
theorem VO {s:ByteArray}(hs:yl s):eO s=some ((bH (bytesOf s)).length:Int):=by
 have hl:=bh s;unfold yl at hs;rw[AO,tS];by_cases h:s.size>0
 ·rw[da (by omega),An,sS (by omega) (by omega),bS];have e0:(0:Int).toNat=0:=rfl;rw[e0];cases hb:bytesOf s with
  |nil=>rw[hb] at hl;simp at hl;omega
  |cons c r=>
   rw[hb] at hl;have:(c::r).getD 0 0=c:=rfl;rw[this];by_cases hc:c=45
   ·subst hc;rw[iZ rfl,i64_in _ (by omega)];have:bH (45::r)=r:=by simp[bH]
    rw[this];simp at hl
    congr 1;omega
   ·rw[ft hc];have:bH (c::r)=c::r:=by unfold bH;rw[if_neg (by simp;exact hc)]
    rw[this,hl]
 ·have hb:bytesOf s=[]:=List.length_eq_zero_iff.1 (by omega);rw[dA (by omega),hb];have:s.size=0:=by omega
  rw[this];rfl
theorem akk {s:ByteArray}(hs:yl s):iI s=some (decide ((bH (bytesOf s)).length>1000)):=by
 rw[DF,xx,VO hs,bS]
 congr 1
 exact decide_eq_decide.2 (by omega)
theorem akl (z:Int):bH (bytesOf (ib z))=lM z.natAbs:=by
 rw[eF];unfold bH sT;by_cases h:z<0
 ·simp[h]
 ·have:(lM z.natAbs).head?≠some 45:=by intro e;have:(45:Int)∈lM z.natAbs:=List.mem_of_mem_head? (by rw[e];rfl);have:=qu _ _ this;omega
  simp[h,this]
theorem abY {s:ByteArray}(hs:s.size≤140737488355328):∀(m k:Nat),m+k=s.size→cC s k=some (((bytesOf s).drop k).all T1):=by
 intro m;have hl:=bh s;induction m with
 |zero=>intro k hk;rw[pN,lY,al (by omega),drop_nil (by omega)];rfl
 |succ m ih=>
  intro k hk;have hb:=(nS s).getD (by omega) k;have wL:=ih (k+1) (by omega);simp only[Int.natCast_add,Int.natCast_one] at wL;rw[pN,lY,au (by omega),An,sS (by omega) (by omega),bS,Int.toNat_natCast,drop_eq (show k<(bytesOf s).length by omega),List.all_cons,bS];by_cases h1:(bytesOf s).getD k 0<48
  ·have:T1 ((bytesOf s).getD k 0)=false:=by
    cases hd:T1 ((bytesOf s).getD k 0) with
    |false=>rfl
    |true=>have:=(Ao _).1 hd;omega
   rw[au h1,this];rfl
  ·rw[al h1];by_cases h2:(bytesOf s).getD k 0>57
   ·have:T1 ((bytesOf s).getD k 0)=false:=by
     cases hd:T1 ((bytesOf s).getD k 0) with
     |false=>rfl
     |true=>have:=(Ao _).1 hd;omega
    rw[da h2,this];rfl
   ·rw[dA h2,(Ao _).2 (by omega),Bool.true_and,i64_in _ (by omega),wL]
theorem R3 {s:ByteArray}(hs:yl s):jo s=some (iD (bytesOf s)):=by
 have hl:=bh s;unfold yl at hs;have anS:∀t:ByteArray,t.size≤140737488355328→cC t 0=some ((bytesOf t).all T1):=fun t ht=>by have:=abY ht t.size 0 (by omega);simpa using this
 rw[BV,vh];have e0:(0:Int).toNat=0:=rfl;by_cases h:s.size>0
 ·rw[da (by omega),An,sS (by omega) (by omega),bS,e0];cases hb:bytesOf s with
  |nil=>rw[hb] at hl;simp at hl;omega
  |cons c r=>
   rw[hb] at hl;have hgc:(c::r).getD 0 0=c:=rfl;rw[hgc];by_cases hc:c=45
   ·subst hc;have hbo:bH (45::r)=r:=by simp[bH]
    have hmo:kh (45::r)=true:=rfl;have e1:(1:Int).toNat=1:=rfl;have hx:bytesOf (s.extract 1 s.size)=r:=by rw[mN,hb, ←hl,List.take_length];rfl
    have hxs:(s.extract 1 s.size).size=r.length:=by rw[←bh,hx]
    have hrl:r.length+1=s.size:=by simpa using hl
    rw[iZ rfl,Gy (by omega) (by omega) (by omega)];simp only[e1,Int.toNat_natCast];have hok:iD (45::r)=(r.all T1&& !r.isEmpty&&(!(r.head?==some 48)||(r.length==1&&false))):=by unfold iD;rw[hbo,hmo];rfl
    rw[hxs,hok];cases r with
    |nil=>
     simp only[List.length_nil];rw[dA (by omega),iZ (by rfl)]
     try rfl
    |cons c2 r2=>
     rw[da (by simp),An,hx];have hi:idx (c2::r2) (0:Int)=some c2:=rfl;rw[hi,bS];by_cases h48:c2=48
     ·subst h48;rw[iZ rfl];simp
     ·rw[ft h48,ft (by simp;omega),bS,ft h48,anS _ (by rw[hxs];omega),hx];have:(some c2==some 48)=false:=by simpa using h48
      simp[this,h48]
   ·have hbo:bH (c::r)=c::r:=by unfold bH;rw[if_neg (by simp;exact hc)]
    have hmo:kh (c::r)=false:=by simpa [kh] using hc
    have hok:iD (c::r)=((c::r).all T1&&(!(c==48)||(c::r).length==1)):=by unfold iD;rw[hbo,hmo];simp
    rw[ft hc,ft (by omega),bS,anS _ hs,hb,hok];by_cases h48:c=48
    ·subst h48;rw[iZ rfl];cases r with
     |nil=>rw[dA (by rw[←hl];simp)];rfl
     |cons c2 r2=>rw[da (by rw[←hl];simp;omega)];simp
    ·rw[ft h48];have:(c==48)=false:=Lk h48;simp[this]
 ·have hb:bytesOf s=[]:=List.length_eq_zero_iff.1 (by omega);rw[dA (by omega),iZ (by omega),hb];rfl
theorem adZ:∀(k u:Nat) (d:List Int),u<10^k→u≤9223372036854775807→d.length+k≤1000→c6 u d=(aw false (d++dX u)).bind fun r=>some r:=by
 intro k;induction k with
 |zero=>
  intro u d hu hu' hd;have:u=0:=by rw[Nat.pow_zero] at hu;omega
  subst this;rw[oU,kD,dA (by omega),show dX 0=[] from fp _,List.append_nil]
 |succ k ih=>
  intro u d hu hu' hd;rw[oU,kD];by_cases h0:u=0
  ·subst h0;rw[dA (by omega),show dX 0=[] from fp _,List.append_nil]
  ·rw[da (by omega),iG (by omega) (by omega),i64_quo _ _ (by omega),bD (by omega)];have e1:((u:Int) / 10)=((u / 10:Nat):Int):=by omega
   have e2:((u:Int) % 10)=((u % 10:Nat):Int):=by omega
   rw[Nat.pow_succ] at hu;rw[e1,e2,ih (u / 10) _ (by omega) (by omega) (by simp;omega),show dX u=_ from Al (B:=10) (by omega) (by omega)];simp
theorem ad0:∀(k u:Nat) (d:List Int),u<10^k→u≤9223372036854775807→d.length+k≤1000→c5 u d=(aw true (d++dX u)).bind fun r=>some r:=by
 intro k;induction k with
 |zero=>
  intro u d hu hu' hd;have:u=0:=by rw[Nat.pow_zero] at hu;omega
  subst this;rw[oT,kC,dA (by omega),show dX 0=[] from fp _,List.append_nil]
 |succ k ih=>
  intro u d hu hu' hd;rw[oT,kC];by_cases h0:u=0
  ·subst h0;rw[dA (by omega),show dX 0=[] from fp _,List.append_nil]
  ·rw[da (by omega),iG (by omega) (by omega),i64_quo _ _ (by omega),bD (by omega)];have e1:((u:Int) / 10)=((u / 10:Nat):Int):=by omega
   have e2:((u:Int) % 10)=((u % 10:Nat):Int):=by omega
   rw[Nat.pow_succ] at hu;rw[e1,e2,ih (u / 10) _ (by omega) (by omega) (by simp;omega),show dX u=_ from Al (B:=10) (by omega) (by omega)];simp
theorem nU {n:Int}(h0: -9223372036854775808≤n)(h1:n≤9223372036854775807):bL n=some (ib n):=by
 rw[AN,tQ];by_cases h:n<0
 ·obtain⟨u,hu⟩:∃u:Nat,(u:Int)= -n:=⟨n.natAbs,by omega⟩
  have hm:n.tmod 10= -((u % 10:Nat):Int):=by
   have:n= -(u:Int):=by omega
   rw[this,Int.neg_tmod,bD (by omega)];omega
  have hq:n.tdiv 10= -((u / 10:Nat):Int):=by
   have:n= -(u:Int):=by omega
   rw[this,Int.neg_tdiv,ns (by omega)];omega
  have e1:IntKind.wrap .i64 (0 - n.tmod 10)=((u % 10:Nat):Int):=by rw[hm,i64_in _ (by omega)];omega
  have e2:IntKind.wrap .i64 (n.tdiv 10)= -((u / 10:Nat):Int):=by rw[hq,i64_in _ (by omega)]
  have e3:IntKind.wrap .i64 (0 - -((u / 10:Nat):Int))=((u / 10:Nat):Int):=by rw[i64_in _ (by omega)];omega
  have hl:([((u % 10:Nat):Int)]:List Int).length=1:=rfl;rw[au h];simp only[e1,e2,e3];rw[iG (by omega) (by first |omega | (rw[hl];omega)),List.nil_append,ad0 19 (u / 10) _ (by omega) (by omega) (by simp)];have hd:DX ([((u % 10:Nat):Int)]++dX (u / 10)):=(i6.cons (by omega) (by omega) i6.nil).append (IV _);have hv:VX ([((u % 10:Nat):Int)]++dX (u / 10))=u:=by have:=Lr (u / 10);simp only[VX,List.singleton_append,val] at this ⊢;rw[this];omega
  have hlen:(dX (u / 10)).length≤19:=(aS (B:=10) (by omega) 19 (u / 10)).2 (by omega);rw[ym hd (by simp;omega),bS,hv]
  congr 2
  rw[if_pos rfl];omega
 ·obtain⟨u,rfl⟩:=Int.eq_ofNat_of_zero_le (show 0≤n by omega);have hlen:(dX u).length≤19:=(aS (B:=10) (by omega) 19 u).2 (by omega);rw[al h,adZ 19 u [] (by omega) (by omega) (by simp),List.nil_append,ym (IV u) (by omega),bS,Lr];rfl
theorem abZ {z:Int}(hz:nd z≤9):∀(m k:Nat) (n:Int),m+k=(ib z).size→n=kr (((bytesOf (ib z)).take k).filter (fun c=>c != 45))→
  dn (ib z) n k=some (z,true):=by
 intro m;have hsz:=FQ z;have hl:=bh (ib z);have hh:=VN z;induction m with
 |zero=>
  intro k n hk hn;have hk':k=(bytesOf (ib z)).length:=by omega
  rw[hk',List.take_length] at hn;have hf:(bytesOf (ib z)).filter (fun c=>c != 45)=lM z.natAbs:=by rw[eF];unfold sT;rw[List.filter_append,FP];split<;>rfl
  rw[hf,HB] at hn;have e0:(0:Int).toNat=0:=rfl;rw[pO,lZ,al (by omega),da (by omega),An,sS (by omega) (by omega),bS,e0,Ya];have hzb:z.natAbs<10^9:=(kY z 9 (by omega)).1 hz;by_cases h:z<0
  ·rw[decide_eq_true h,cT,i64_in _ (by omega)]
   congr 2;omega
  ·rw[decide_eq_false h,cF]
   congr 2;omega
 |succ m ih=>
  intro k n hk hn;have hkl:k<(bytesOf (ib z)).length:=by omega
  have hb:=(nS (ib z)).getD (by omega) k;have wL:=fun n=>ih (k+1) n (by omega);simp only[Int.natCast_add,Int.natCast_one] at wL;rw[pO,lZ,au (by omega),An,sS (by omega) (by omega),bS,Int.toNat_natCast]
  -- all asG but C7 sign are digits
  have hmem:∀c∈(bytesOf (ib z)).filter (fun c=>c != 45),48≤c∧c≤57:=by
   rw[eF];unfold sT;rw[List.filter_append,FP];intro c hc;rcases List.mem_append.1 hc with h |h
   ·exfalso;split at h
    ·simp at h
    ·cases h
   ·exact qu _ c h
  have hlen:(((bytesOf (ib z)).take k).filter (fun c=>c != 45)).length≤9:=by
   have h1:(((bytesOf (ib z)).take k).filter (fun c=>c != 45)).length≤((bytesOf (ib z)).filter (fun c=>c != 45)).length:=
    ((List.take_sublist k (bytesOf (ib z))).filter _).length_le
   have h2:(bytesOf (ib z)).filter (fun c=>c != 45)=lM z.natAbs:=by rw[eF];unfold sT;rw[List.filter_append,FP];split<;>rfl
   rw[h2] at h1;unfold nd at hz;omega
  have hnb:=Be (((bytesOf (ib z)).take k).filter (fun c=>c != 45)) (fun c hc=>hmem c (((List.take_sublist k _).filter _).subset hc));have hp:=Qs hlen;rw[←hn] at hnb;have hts:(bytesOf (ib z)).take (k+1)=(bytesOf (ib z)).take k++[(bytesOf (ib z)).getD k 0]:=eJ hkl;by_cases h:(bytesOf (ib z)).getD k 0=45
  ·rw[pd h,i64_in _ (by omega),wL n (by rw[hts,List.filter_append,h];simpa using hn)]
  ·rw[Hw h,bS];simp (disch:=omega) only[i64_in];rw[wL];rw[hts,List.filter_append,arC h,FM, ←hn];simp only[kr,List.foldl_cons,List.foldl_nil,List.length_singleton,Int.mul_zero,Int.zero_add,Int.pow_one];omega
theorem CP {z:Int}(hz:Bd z):dy (ib z)=some (if nd z≤9 then (z,true) else (0,false)):=by
 unfold Bd at hz;have ape:yl (ib z):=by unfold yl;have:=FQ z;omega
 rw[BW,vi,VO ape,bS,akl];have e:(lM z.natAbs).length=nd z:=rfl;rw[e];by_cases h:nd z≤9
 ·rw[dA (by omega),if_pos h];have:=abZ h (ib z).size 0 0 (by omega) (by simp[kr]);simpa using this
 ·rw[da (by omega),if_neg h]
theorem ad1 {a b:List Int}(ha:DX a)(hb:DX b)(hl:a.length=b.length)(hl':a.length≤1000000000000):∀(k:Nat),k≤a.length→
  dO a b ((k:Int) - 1)=some (nX (VX (a.take k)) (VX (b.take k))):=by
 intro k;induction k with
 |zero=>intro hk;rw[qP,ng];simp (disch:=omega) only[wF];simp[nX]
 |succ k ih=>
  intro hk;have e:((k+1:Nat):Int) - 1=k:=by omega
  rw[qP,ng,e,eJ (show k<a.length by omega),eJ (show k<b.length by omega)];simp (disch:=omega) only[y7,gV,Int.toNat_natCast,i64_in];have hta:(a.take k).length=(b.take k).length:=by simp;omega
  by_cases h1:a.getD k 0<b.getD k 0
  ·rw[au h1,ow (Zr (by omega) (ha.take k) (hb.take k) hta h1)]
  ·rw[al h1];by_cases h2:a.getD k 0>b.getD k 0
   ·rw[da h2,qs (Zr (by omega) (hb.take k) (ha.take k) hta.symm h2)]
   ·have h:a.getD k 0=b.getD k 0:=by omega
    rw[dA h2,ih (by omega)];simp only[VX,gE,hta,h];generalize (10:Int)^(b.take k).length*val 10 [b.getD k 0]=z;by_cases h1:val 10 (a.take k)<val 10 (b.take k)
    ·rw[ow h1,ow (by omega)]
    ·by_cases h2:val 10 (b.take k)<val 10 (a.take k)
     ·rw[qs h2,qs (by omega)]
     ·rw[yi (by omega),yi (by omega)]
theorem Qw {m n:Nat}(hm:(dX m).length≤1000000000000)(hn:(dX n).length≤1000000000000):du (dX m) (dX n)=some (nX m n):=by
 rw[DG,xy];by_cases h:(dX m).length=(dX n).length
 ·have:=ad1 (IV m) (IV n) h hm (dX m).length (Nat.le_refl _);rw[pd (by omega)];simp (disch:=omega) only[i64_in];rw[this,List.take_length];rw[h,List.take_length,Lr,Lr]
 ·rw[Hw (by omega)];have l1:=(aS (B:=10) (by omega) (dX m).length m).1 (Nat.le_refl _);have l2:=(aS (B:=10) (by omega) (dX n).length n).1 (Nat.le_refl _);by_cases h1:(dX m).length<(dX n).length
  ·rw[au (by omega)];have:=(ia (B:=10) (by omega) (dX m).length n).1 h1;rw[ow (by omega)]
  ·rw[al (by omega)];have:=(ia (B:=10) (by omega) (dX n).length m).1 (show (dX n).length<(dX m).length by omega);rw[qs (by omega)]
def rsL:List Int→List Int→Int→List Int
 | [],[],c=>if c>0 then [c % 10] else []
 |x::xs,[],c=>(c+x) % 10::rsL xs [] ((c+x) / 10)
 | [],y::ys,c=>(c+y) % 10::rsL [] ys ((c+y) / 10)
 |x::xs,y::ys,c=>(c+x+y) % 10::rsL xs ys ((c+x+y) / 10)
theorem ahf {a b:List Int}(ha:DX a)(hb:DX b)(hl:a.length≤1000000000000)(hl':b.length≤1000000000000):∀(m k:Nat) (c:Int) (out:List Int),m+k=max a.length b.length→out.length=k→0≤c∧c≤1→
  eP a b c k out=some (out++rsL (a.drop k) (b.drop k) c):=by
 intro m;induction m with
 |zero=>
  intro k c out hk ho hc;have hka:a.length≤k:=by omega
  have hkb:b.length≤k:=by omega
  rw[drop_nil hka,drop_nil hkb,nj,ko];rw[al (by omega),al (by omega)];by_cases h:c>0
  ·have hc1:c=1:=by omega
   subst hc1;simp (disch:=omega) only[da,al,iG,bD,ns,i64_in];rw[nj,ko];simp (disch:=omega) only[al,dA];simp[rsL]
  ·rw[dA h];have:c=0:=by omega
   subst this;simp[rsL]
 |succ m ih=>
  intro k c out hk ho hc;have hx:=ha.getD (by omega) k;have hy:=hb.getD (by omega) k;have wL:=fun c out=>ih (k+1) c out (by omega);simp only[Int.natCast_add,Int.natCast_one] at wL;rw[nj,ko];by_cases hka:k<a.length
  ·by_cases hkb:k<b.length
   ·rw[drop_eq hka,drop_eq hkb];simp (disch:=omega) only[au,gV,Int.toNat_natCast,i64_in,bD,ns,iG];rw[wL _ _ (by simp;omega) (by omega)];simp[rsL]
   ·have hd:b.drop (k+1)=[]:=drop_nil (by omega);rw[drop_eq hka,drop_nil (show b.length≤k by omega)];simp (disch:=omega) only[au,al,gV,Int.toNat_natCast,i64_in,bD,ns,iG];rw[wL _ _ (by simp;omega) (by omega),hd];simp[rsL]
  ·have hkb:k<b.length:=by omega
   have hd:a.drop (k+1)=[]:=drop_nil (by omega);rw[drop_eq hkb,drop_nil (show a.length≤k by omega)];simp (disch:=omega) only[au,al,gV,Int.toNat_natCast,i64_in,bD,ns,iG];rw[wL _ _ (by simp;omega) (by omega),hd];simp[rsL]
theorem T2:∀(a b:List Int) (c:Int),DX a→DX b→0≤c∧c≤1→VX (rsL a b c)=VX a+VX b+c∧DX (rsL a b c)∧(rsL a b c).length≤max a.length b.length+1
 | [],[],c,ha,hb,hc=>by
   simp only[rsL];split
   ·exact⟨by simp[VX,val];omega,i6.cons (by omega) (by omega) i6.nil,by simp⟩
   ·exact⟨by simp[VX,val];omega,i6.nil,by simp⟩
 |x::xs,[],c,ha,hb,hc=>by have hx:=ha.head;obtain⟨e1,e2,e3⟩:=T2 xs [] ((c+x) / 10) ha.tail i6.nil (by omega);simp only[rsL];refine⟨?_,i6.cons (by omega) (by omega) e2,by simp at e3 ⊢;omega⟩;simp only[VX,val] at e1 ⊢;rw[e1];omega
 | [],y::ys,c,ha,hb,hc=>by have hy:=hb.head;obtain⟨e1,e2,e3⟩:=T2 [] ys ((c+y) / 10) i6.nil hb.tail (by omega);simp only[rsL];refine⟨?_,i6.cons (by omega) (by omega) e2,by simp at e3 ⊢;omega⟩;simp only[VX,val] at e1 ⊢;rw[e1];omega
 |x::xs,y::ys,c,ha,hb,hc=>by have hx:=ha.head;have hy:=hb.head;obtain⟨e1,e2,e3⟩:=T2 xs ys ((c+x+y) / 10) ha.tail hb.tail (by omega);simp only[rsL];refine⟨?_,i6.cons (by omega) (by omega) e2,by simp at e3 ⊢;omega⟩;simp only[VX,val] at e1 ⊢;rw[e1];omega
theorem amE {a b:List Int}(ha:DX a)(hb:DX b)(hl:a.length≤1000000000000)(hl':b.length≤1000000000000):
  ∃r,ix a b=some r∧VX r=VX a+VX b∧DX r∧r.length≤max a.length b.length+1:=by
 obtain⟨e1,e2,e3⟩:=T2 a b 0 ha hb ⟨by omega,by omega⟩;have:=ahf ha hb hl hl' (max a.length b.length) 0 0 [] (by omega) rfl ⟨by omega,by omega⟩;refine⟨rsL a b 0, ?_,by omega,e2,e3⟩;rw[Fq,zF];simpa using this
def Yb:List Int→List Int→Int→List Int
 | [],_,_=>[]
 |x::xs,[],c=>if x - c<0 then (x - c+10)::Yb xs [] 1 else (x - c)::Yb xs [] 0
 |x::xs,y::ys,c=>if x - c - y<0 then (x - c - y+10)::Yb xs ys 1 else (x - c - y)::Yb xs ys 0
theorem ad2 {a b:List Int}(ha:DX a)(hb:DX b)(hl:a.length≤1000000000000):∀(m k:Nat) (c:Int) (out:List Int),m+k=a.length→out.length=k→0≤c∧c≤1→
  bB a b c k out=(bk (out++Yb (a.drop k) (b.drop k) c)).bind fun r=>some r:=by
 intro m;induction m with
 |zero=>intro k c out hk ho hc;rw[kE,iA,al (by omega),drop_nil (show a.length≤k by omega)];simp[Yb]
 |succ m ih=>
  intro k c out hk ho hc;have hx:=ha.getD (by omega) k;have hy:=hb.getD (by omega) k;have wL:=fun c out=>ih (k+1) c out (by omega);simp only[Int.natCast_add,Int.natCast_one] at wL;rw[kE,iA,au (by omega),gV (by omega) (by omega),Int.toNat_natCast,drop_eq (show k<a.length by omega)];have hl1:∀z:Int,([z]:List Int).length=1:=fun z=>rfl;by_cases hkb:k<b.length
  ·rw[drop_eq hkb,au (by omega),gV (by omega) (by omega),Int.toNat_natCast];simp (disch:=omega) only[i64_in,hl1];by_cases h:a.getD k 0 - c - b.getD k 0<0
   ·rw[au h,iG (by omega) (by omega),wL _ _ (by simp;omega) ⟨by omega,by omega⟩];simp only[Yb,if_pos h];simp
   ·rw[al h,iG (by omega) (by omega),wL _ _ (by simp;omega) ⟨by omega,by omega⟩];simp only[Yb,if_neg h];simp
  ·have hd:b.drop (k+1)=[]:=drop_nil (by omega);rw[drop_nil (show b.length≤k by omega),al (by omega)];simp (disch:=omega) only[i64_in];by_cases h:a.getD k 0 - c<0
   ·rw[au h,iG (by omega) (by omega),wL _ _ (by simp;omega) ⟨by omega,by omega⟩,hd];simp only[Yb,if_pos h];simp
   ·rw[al h,iG (by omega) (by omega),wL _ _ (by simp;omega) ⟨by omega,by omega⟩,hd];simp only[Yb,if_neg h];simp
theorem T3:∀(a b:List Int) (c:Int),b.length≤a.length→DX a→DX b→0≤c∧c≤1→
  ∃c',0≤c'∧VX (Yb a b c)=VX a - VX b - c+c'*10^a.length∧DX (Yb a b c)∧(Yb a b c).length=a.length
 | [],[],c,hl,ha,hb,hc=>⟨c,hc.1,by simp[Yb,VX,val];omega,i6.nil,rfl⟩
 | [],y::ys,c,hl,ha,hb,hc=>by simp at hl
 |x::xs,[],c,hl,ha,hb,hc=>by
  have hx:=ha.head;have key:∀d:Int,(0≤d∧d≤1)→∃c',0≤c'∧VX (Yb xs [] d)=VX xs - d+c'*10^xs.length∧DX (Yb xs [] d)∧(Yb xs [] d).length=xs.length:=fun d hd=>by obtain⟨c',h2,h3,h4,h5⟩:=T3 xs [] d (by simp) ha.tail i6.nil hd;exact⟨c',h2,by simpa [VX,val] using h3,h4,h5⟩
  simp only[Yb];split
  ·obtain⟨c',h2,h3,h4,h5⟩:=key 1 ⟨by omega,by omega⟩;refine⟨c',h2, ?_,i6.cons (by omega) (by omega) h4,by simp[h5]⟩;simp only[VX,val,List.length_cons,Int.pow_succ] at h3 ⊢;rw[←Int.mul_assoc,h3];omega
  ·obtain⟨c',h2,h3,h4,h5⟩:=key 0 ⟨by omega,by omega⟩;refine⟨c',h2, ?_,i6.cons (by omega) (by omega) h4,by simp[h5]⟩;simp only[VX,val,List.length_cons,Int.pow_succ] at h3 ⊢;rw[←Int.mul_assoc,h3];omega
 |x::xs,y::ys,c,hl,ha,hb,hc=>by
  have hx:=ha.head;have hy:=hb.head;simp only[Yb];split
  ·obtain⟨c',h2,h3,h4,h5⟩:=T3 xs ys 1 (by simp at hl;omega) ha.tail hb.tail ⟨by omega,by omega⟩;refine⟨c',h2, ?_,i6.cons (by omega) (by omega) h4,by simp[h5]⟩;simp only[VX,val,List.length_cons,Int.pow_succ] at h3 ⊢;rw[←Int.mul_assoc,h3];omega
  ·obtain⟨c',h2,h3,h4,h5⟩:=T3 xs ys 0 (by simp at hl;omega) ha.tail hb.tail ⟨by omega,by omega⟩;refine⟨c',h2, ?_,i6.cons (by omega) (by omega) h4,by simp[h5]⟩;simp only[VX,val,List.length_cons,Int.pow_succ] at h3 ⊢;rw[←Int.mul_assoc,h3];omega
theorem ab1 {m n:Nat}(hl:(dX m).length≤1000000000000)(h:n≤m):aV (dX m) (dX n)=some (dX (m - n)):=by
 have ha:=IV m;have hb:=IV n;obtain⟨c',h1,h2,h3,h4⟩:=T3 (dX m) (dX n) 0 (X9 h) ha hb ⟨by omega,by omega⟩;have hv:VX (Yb (dX m) (dX n) 0)=((m - n:Nat):Int):=by
  have h5:=BH (B:=10) (by omega) h3;rw[h4] at h5;change VX _<_ at h5;rw[Lr,Lr] at h2;by_cases hc:c'=0
  ·subst hc;simp at h2;omega
  ·exfalso;have hp:(0:Int)≤10^(dX m).length:=Int.pow_nonneg (by omega);have h8:1*(10:Int)^(dX m).length≤c'*10^(dX m).length:=Int.mul_le_mul_of_nonneg_right (by omega) hp;rw[Int.one_mul] at h8;omega
 have:=ad2 ha hb hl (dX m).length 0 0 [] (by omega) rfl ⟨by omega,by omega⟩;simp only[Int.natCast_zero,List.drop_zero,List.nil_append] at this;rw[uA,oX,this,Ls (by omega),bS,VL h3,hv,Int.toNat_natCast]
theorem ahg {m n:Nat}{s:Bool}(hm:(dX m).length≤1000000000000)(hn:(dX n).length≤1000000000000):
  ((ix (dX m) (dX n)).bind fun r5=>(aw s r5).bind fun r6=>some r6)=some (ib (if s then -((m:Int)+n) else (m:Int)+n)):=by
 obtain⟨r,e1,e2,e3,e4⟩:=amE (IV m) (IV n) hm hn;rw[e1,bS,ym e3 (by omega),bS,e2,Lr,Lr]
theorem VP {m n:Nat}{s:Bool}(hm:(dX m).length≤1000000000000)(h:n≤m):
  ((aV (dX m) (dX n)).bind fun r5=>(aw s r5).bind fun r6=>some r6)=some (ib (if s then -((m:Int) - n) else (m:Int) - n)):=by
 have:=X9 (show m - n≤m by omega);rw[ab1 hm h,bS,ym (IV _) (by omega),bS,Lr];have:((m - n:Nat):Int)=(m:Int) - n:=by omega
 rw[this]
theorem ab2 {x y:Int}(hx:Bd x)(hy:Bd y):gv (ib x) (ib y)=some (ib (x+y)):=by
 have hlx:=NK x;have hly:=NK y;rw[DI,xD,CP hx,bS,CP hy,bS];unfold Bd at hx hy
 -- C7 R4 way
 have R4:((ax (ib x)).bind fun r3=>(ax (ib y)).bind fun r4=>
   bif (r3.1==r4.1) then
    (ix r3.2 r4.2).bind fun r5=>(aw r3.1 r5).bind fun r6=>some r6
   else
    (du r3.2 r4.2).bind fun r7=>
    bif (decide (r7<(0:Int))) then
     (aV r4.2 r3.2).bind fun r8=>(aw r4.1 r8).bind fun r9=>some r9
    else
     (aV r3.2 r4.2).bind fun Ph=>(aw r3.1 Ph).bind fun r11=>some r11)=some (ib (x+y)):=by
  rw[nT hx,bS,nT hy,bS];simp only;by_cases hs:(x<0↔y<0)
  ·have:(decide (x<0)==decide (y<0))=true:=beq_iff_eq.2 (decide_eq_decide.2 hs);rw[this,cT,ahg (by omega) (by omega)]
   congr 2
   by_cases h:x<0
   ·rw[decide_eq_true h,if_pos rfl];omega
   ·rw[decide_eq_false h,if_neg (by simp)];omega
  ·have:(decide (x<0)==decide (y<0))=false:=by simpa using hs
   rw[this,cF,Qw (by omega) (by omega),bS];by_cases hc:x.natAbs<y.natAbs
   ·rw[au (OU.2 (by omega)),VP (by omega) (by omega)]
    congr 2
    by_cases h:y<0
    ·rw[decide_eq_true h,if_pos rfl];omega
    ·rw[decide_eq_false h,if_neg (by simp)];omega
   ·rw[al (fun e=>by have:=OU.1 e;omega),VP (by omega) (by omega)]
    congr 2
    by_cases h:x<0
    ·rw[decide_eq_true h,if_pos rfl];omega
    ·rw[decide_eq_false h,if_neg (by simp)];omega
 by_cases h1:nd x≤9
 ·rw[if_pos h1];simp only[cT];by_cases h2:nd y≤9
  ·rw[if_pos h2];simp only[cT];have b1:=(kY x 9 (by omega)).1 h1;have b2:=(kY y 9 (by omega)).1 h2;rw[i64_in _ (by omega),nU (by omega) (by omega),bS]
  ·rw[if_neg h2];simp only[cF];exact R4
 ·rw[if_neg h1];simp only[cF];exact R4
theorem ZG {x:Int}(hx:Bd x):di (ib x)=some (ib (-x)):=by
 have hlx:=NK x;rw[xv,qL,nT hx,bS];unfold Bd at hx;rw[ym (IV _) (by omega),bS,Lr]
 congr 2
 by_cases h:x<0
 ·rw[decide_eq_true h,if_neg (by simp)];omega
 ·rw[decide_eq_false h,if_pos (by rfl)];omega
theorem ahh {x y:Int}(hx:Bd x)(hy:Bd y):jq (ib x) (ib y)=some (ib (x - y)):=by rw[BY,vj,ZG hy,bS,ab2 hx (by unfold Bd at*;rw[ZC];exact hy),bS];rfl
theorem Qx {x:Int}(hx:Bd x):fQ (ib x)=some (ib x.natAbs):=by have hlx:=NK x;rw[xC,qS,nT hx,bS];unfold Bd at hx;rw[ym (IV _) (by omega),bS,Lr];rfl
theorem Lt {x y:Int}(hx:Bd x)(hy:Bd y):bW (ib x) (ib y)=some (nX x y):=by
 have hlx:=NK x;have hly:=NK y;rw[yF,sy,nT hx,bS,nT hy,bS];unfold Bd at hx hy;simp only;rw[Qw (by omega) (by omega),Qw (by omega) (by omega),bS,bS];rcases (show x<y∨x=y∨y<x by omega) with h |h |h
 all_goals
  by_cases h1:x<0<;>by_cases h2:y<0
  all_goals simp only[h1,h2,decide_true,decide_false,beq_self_eq_true,Bool.not_true,Bool.not_false,cT,cF,show (true==false)=false from rfl,show (false==true)=false from rfl,Option.some.injEq]
  all_goals unfold nX
  all_goals (repeat' split)<;>omega
def pmL:List Int→Int→List Int→List Int
 | [],x,os=>os
 |y::ys,x,o::os=>(o+x*y)::pmL ys x os
 |_::_,_,[]=>[]
def ptL:List Int→List Int→List Int→List Int
 | [],b,o=>o
 |x::xs,b,o=>match pmL b x o with
  | []=>[]
  |h::t=>h::ptL xs b t
def Td:List Int→List Int
 | []=>[]
 | [o]=>[o]
 |o::p::r=>o % 10::Td ((p+o / 10)::r)
termination_by l=>l.length
theorem OW:∀(b:List Int) (x:Int) (o:List Int),b.length≤o.length→(pmL b x o).length=o.length
 | [],x,o,h=>by simp[pmL]
 |y::ys,x,[],h=>by simp at h
 |y::ys,x,o::os,h=>by simp only[pmL,List.length_cons];rw[OW ys x os (by simpa using h)]
theorem afp:∀(b:List Int) (x:Int) (o:List Int),b.length≤o.length→VX (pmL b x o)=VX o+x*VX b
 | [],x,o,h=>by simp[pmL,VX,val]
 |y::ys,x,[],h=>by simp at h
 |y::ys,x,o::os,h=>by
  have ih:=afp ys x os (by simpa using h);simp only[pmL,VX,val] at ih ⊢;have e:x*(y+10*val 10 ys)=x*y+10*(x*val 10 ys):=by rw[Int.mul_add,Int.mul_left_comm]
  rw[ih,e];omega
def EL (M:Int)(l:List Int):Prop:=∀x∈l,0≤x∧x≤M
theorem EL.mono {M M':Int}{l:List Int}(h:EL M l)(hM:M≤M'):EL M' l:=fun x hx=>by have:=h x hx;omega
theorem EL.getD {M:Int}{l:List Int}(h:EL M l)(hM:0≤M)(k:Nat):0≤l.getD k 0∧l.getD k 0≤M:=by
 by_cases hk:k<l.length
 ·have:l.getD k 0=l[k]:=by simp[List.getD,hk]
  rw[this];exact h _ (List.getElem_mem hk)
 ·rw[getD_none (by omega)];omega
theorem EL.take {M:Int}{l:List Int}(h:EL M l)(k:Nat):EL M (l.take k):=fun x hx=>h x (List.mem_of_mem_take hx)
theorem EL.drop {M:Int}{l:List Int}(h:EL M l)(k:Nat):EL M (l.drop k):=fun x hx=>h x (List.mem_of_mem_drop hx)
theorem EL.append {M:Int}{l m:List Int}(h:EL M l)(h':EL M m):EL M (l++m):=fun x hx=>by
 rcases List.mem_append.1 hx with hx |hx
 ·exact h x hx
 ·exact h' x hx
theorem ab3 {M x:Int}(hx:0≤x∧x≤9):∀(b o:List Int),DX b→EL M o→EL (M+81) (pmL b x o)
 | [],o,hb,ho=>ho.mono (by omega)
 |y::ys,[],hb,ho=>fun z hz=>by cases hz
 |y::ys,o::os,hb,ho=>by
  have hy:=hb.head;have h1:=Int.mul_nonneg hx.1 hy.1;have h2:x*y≤9*y:=Int.mul_le_mul_of_nonneg_right hx.2 hy.1;have h3:=ho o (by simp);have ih:=ab3 hx ys os hb.tail (fun z hz=>ho z (by simp[hz]));intro z hz;simp only[pmL,List.mem_cons] at hz;rcases hz with rfl |hz
  ·omega
  ·exact ih z hz
theorem ZH {p q:Bool}{x y:List Int}{i:Nat}(hy:DX y)(hx:0≤x.getD i 0∧x.getD i 0≤9)(hi:i<x.length)(hlx:x.length≤10000000)(hly:y.length≤10000000):
  ∀(m k:Nat) (M:Int) (out:List Int),m+k=y.length→out.length=x.length+y.length+1→EL M out→0≤M→M+81*m≤1000000000000000→
  dj p x q y i k out=bw p x q y (i+1) (out.take (i+k)++pmL (y.drop k) (x.getD i 0) (out.drop (i+k))):=by
 intro m;induction m with
 |zero=>intro k M out hk ho hu h0 hM;rw[pJ,lV,al (by omega),drop_nil (show y.length≤k by omega),i64_in _ (by omega)];simp[pmL]
 |succ m ih=>
  intro k M out hk ho hu h0 hM;have hyk:=hy.getD (by omega) k;have hok:=hu.getD h0 (i+k);have h1:=Int.mul_nonneg hx.1 hyk.1;have h2:x.getD i 0*y.getD k 0≤9*y.getD k 0:=Int.mul_le_mul_of_nonneg_right hx.2 hyk.1;have e1:((i:Int)+k).toNat=i+k:=by omega
  have wL:=fun M out=>ih (k+1) M out (by omega);simp only[Int.natCast_add,Int.natCast_one] at wL;rw[pJ,lV];simp (disch:=omega) only[au,i64_in,gV,rS,e1,Int.toNat_natCast];have ef:EL (M+81) (out.set (i+k) (out.getD (i+k) 0+x.getD i 0*y.getD k 0)):=fun z hz=>by
   rcases List.mem_or_eq_of_mem_set hz with hz |rfl
   ·have:=hu z hz;omega
   ·omega
  rw[wL (M+81) _ (by simp[ho]) ef (by omega) (by omega),drop_eq (show k<y.length by omega),drop_eq (show i+k<out.length by omega)];simp only[pmL];rw[show i+(k+1)=i+k+1 by omega,Ew (by omega),set_drop];simp
theorem afq:∀(a b o:List Int),o.length=a.length+b.length+1→DX a→VX (ptL a b o)=VX o+VX a*VX b∧(ptL a b o).length=o.length
 | [],b,o,hl,ha=>by simp[ptL,VX,val]
 |x::xs,b,o,hl,ha=>by
  have hlen:=OW b x o (by simp at hl;omega);have hval:=afp b x o (by simp at hl;omega);simp only[ptL];split
  ·rename_i e;rw[e] at hlen;simp at hlen hl;omega
  ·rename_i h t e;rw[e] at hlen hval;obtain⟨f1,f2⟩:=afq xs b t (by simp at hl hlen;omega) ha.tail;refine⟨?_,by simp[f2] at hlen ⊢;omega⟩;simp only[VX,val] at hval f1 ⊢;rw[f1,Int.add_mul,Int.mul_assoc];omega
theorem ZI {p q:Bool}{x y:List Int}(hxd:DX x)(hy:DX y)(hlx:x.length≤10000000)(hly:y.length≤10000000):
  ∀(m i:Nat) (out:List Int),m+i=x.length→out.length=x.length+y.length+1→EL (81*i) out→
  ∃o',bw p x q y i out=cB p q 0 o'∧o'=out.take i++ptL (x.drop i) y (out.drop i)∧EL 1000000000000 o':=by
 intro m;induction m with
 |zero=>
  intro i out hi ho hu;refine⟨out, ?_, ?_,hu.mono (by omega)⟩
  ·rw[pI,lU,al (by omega)]
  ·rw[drop_nil (show x.length≤i by omega)];simp[ptL]
 |succ m ih=>
  intro i out hi ho hu;have hx:=hxd.getD (by omega) i;have hI:=ZH (p:=p) (q:=q) (i:=i) hy ⟨hx.1,by omega⟩ (by omega) hlx hly y.length 0 (81*i) out (by omega) ho hu (by omega) (by omega);simp only[Int.natCast_zero,Nat.add_zero,List.drop_zero] at hI;rw[pI,lU,au (by omega),hI];have wL:=fun out=>ih (i+1) out (by omega);simp only[Int.natCast_add,Int.natCast_one] at wL;have akm:=OW y (x.getD i 0) (out.drop i) (by rw[List.length_drop];omega);have hup:EL (81*((i:Int)+1)) (out.take i++pmL y (x.getD i 0) (out.drop i)):=((hu.take i).mono (by omega)).append ((ab3 ⟨hx.1,by omega⟩ y (out.drop i) hy (hu.drop i)).mono (by omega));obtain⟨o',e1,e2,e3⟩:=wL (out.take i++pmL y (x.getD i 0) (out.drop i)) (by rw[List.length_append,akm,List.length_take,List.length_drop];omega) hup;refine⟨o',e1, ?_,e3⟩;rw[e2,drop_eq (show i<x.length by omega)];simp only[ptL];cases hp:pmL y (x.getD i 0) (out.drop i) with
  |nil=>rw[hp] at akm;simp at akm;omega
  |cons h t=>
   have htl:(out.take i).length=i:=by simp;omega
   have h7:(out.take i++h::t).drop (i+1)=t:=by rw[List.drop_append,htl];have:(out.take i).drop (i+1)=[]:=drop_nil (by omega);rw[this];simp
   have h8:(out.take i++h::t).take (i+1)=out.take i++[h]:=by rw[List.take_append,htl];have:(out.take i).take (i+1)=out.take i:=List.take_of_length_le (by omega);rw[this];simp
   rw[h7,h8];simp
theorem afr (o:Int):Td [o]=[o]:=by rw[Td]
theorem afs (o p:Int)(r:List Int):Td (o::p::r)=o % 10::Td ((p+o / 10)::r):=by rw[Td]
theorem aft:∀(n:Nat) (l:List Int),l.length=n→(∀x∈l,0≤x)→VX (Td l)=VX l∧(Td l).length=l.length∧(∀x∈Td l,0≤x)∧DX (Td l).dropLast
 |0,l,hl,h=>by have:l=[]:=List.length_eq_zero_iff.1 hl;subst this;rw[Td];exact⟨rfl,rfl,h,i6.nil⟩
 |1,l,hl,h=>by
  obtain⟨o,rfl⟩:∃o,l=[o]:=by
   cases l with
   |nil=>cases hl
   |cons o r=>exact⟨o,by have:r=[]:=List.length_eq_zero_iff.1 (by simpa using hl);rw[this]⟩
  rw[afr];exact⟨rfl,rfl,h,i6.nil⟩
 |n+2,l,hl,h=>by
  match l,hl,h with
  |o::q::r,hl,h=>
   have h1:=h o (by simp);have h2:=h q (by simp);obtain⟨e1,e2,e3,e4⟩:=aft (n+1) ((q+o / 10)::r) (by simpa using hl) (fun x hx=>by
    rcases List.mem_cons.1 hx with rfl |hx
    ·omega
    ·exact h x (by simp[hx]))
   rw[afs];refine⟨?_,by simp[e2], ?_, ?_⟩
   ·simp only[VX,val] at e1 ⊢;rw[e1];omega
   ·intro x hx;rcases List.mem_cons.1 hx with rfl |hx
    ·omega
    ·exact e3 x hx
   ·have hne:Td ((q+o / 10)::r)≠ []:=fun e=>by rw[e] at e2;simp at e2
    rw[List.dropLast_cons_of_ne_nil hne];exact i6.cons (by omega) (by omega) e4
theorem ZJ {p q:Bool}:∀(n:Nat) (A l:List Int),l.length=n+1→(A++l).length≤100000000→(∀x∈l,0≤x)→(∀x∈l.tail,x≤1000000000000)→l.getD 0 0≤2000000000000→
  cB p q A.length (A++l)=(aw (!(p==q)) (A++Td l)).bind fun r=>some r:=by
 intro n;induction n with
 |zero=>
  intro A l hl hlen h0 h1 h2;obtain⟨o,rfl⟩:∃o,l=[o]:=by
   cases l with
   |nil=>cases hl
   |cons o r=>exact⟨o,by have:r=[]:=List.length_eq_zero_iff.1 (by simpa using hl);rw[this]⟩
  have aaH:(A++[o]).length=A.length+1:=by simp
  rw[pK,lX,i64_in _ (by omega),al (by omega),afr]
 |succ n ih=>
  intro A l hl hlen h0 h1 h2
  match l,hl,hlen,h0,h1,h2 with
  |o::t::r,hl,hlen,h0,h1,h2=>
   have ho:=h0 o (by simp);have ht:=h0 t (by simp);have ht1:=h1 t (by simp);have ho1:o≤2000000000000:=h2;have aaH:(A++o::t::r).length=A.length+r.length+2:=by simp;omega
   have e1:((A.length:Int)+1).toNat=A.length+1:=by omega
   have g0:(A++o::t::r).getD A.length 0=o:=by simp[List.getD]
   have g1:(A++o::t::r).getD (A.length+1) 0=t:=by rw[List.getD,List.getElem?_append_right (by omega),show A.length+1 - A.length=1 by omega];rfl
   have s1:∀z,(A++o::t::r).set (A.length+1) z=A++o::z::r:=fun z=>by rw[List.set_append_right _ _ (by omega),show A.length+1 - A.length=1 by omega];rfl
   have s2:∀z w,(A++o::z::r).set A.length w=A++w::z::r:=fun z w=>by rw[List.set_append_right _ _ (by omega),show A.length - A.length=0 by omega];rfl
   have abA:∀z,(A++o::z::r).length=A.length+r.length+2:=fun z=>by simp;omega
   have g2:∀z,(A++o::z::r).getD A.length 0=o:=fun z=>by simp[List.getD]
   rw[pK,lX];simp (disch:=omega) only[i64_in,au,gV,rS,e1,g0,g1,s1,Int.toNat_natCast,ns,bD];have hl2:=abA (t+o / 10);simp (disch:=omega) only[gV,rS,g2,s2,Int.toNat_natCast,bD];have:=ih (A++[o % 10]) ((t+o / 10)::r) (by simpa using hl) (by simp at hlen ⊢;omega) (fun x hx=>by
    rcases List.mem_cons.1 hx with rfl |hx
    ·omega
    ·exact h0 x (by simp[hx])) (fun x hx=>h1 x (by simp at hx ⊢;exact .inr hx)) (by show t+o / 10≤_;omega)
   have e3:((A++[o % 10]).length:Int)=(A.length:Int)+1:=by simp
   rw[e3] at this;simp only[List.append_assoc,List.singleton_append] at this;rw[afs];exact this
theorem ab4 {m n:Nat}{s t:Bool}(hm:(dX m).length≤10000000)(hn:(dX n).length≤10000000):
  bw s (dX m) t (dX n) 0 (List.replicate ((dX m).length+(dX n).length+1) 0)=some (ib (if s=t then (m:Int)*n else -((m:Int)*n))):=by
 have Wv:=IV m;have hdn:=IV n;obtain⟨o',e1,e2,e3⟩:=ZI (p:=s) (q:=t) Wv hdn hm hn (dX m).length 0 (List.replicate ((dX m).length+(dX n).length+1) 0) (by omega) (by simp) (fun x hx=>by
  obtain⟨_,rfl⟩:=List.mem_replicate.1 hx;omega)
 simp only[Int.natCast_zero,List.take_zero,List.nil_append,List.drop_zero] at e1 e2;obtain⟨v1,v2⟩:=afq (dX m) (dX n) (List.replicate ((dX m).length+(dX n).length+1) 0) (by simp) Wv;rw[←e2,List.length_replicate] at v2;rw[←e2,Lr,Lr] at v1;simp only[VX,NH,Int.zero_add] at v1;have hnn:∀x∈o',0≤x:=fun x hx=>(e3 x hx).1;obtain⟨c1,c2,c3,c4⟩:=aft _ o' rfl hnn;have hc:=ZJ (p:=s) (q:=t) ((dX m).length+(dX n).length) [] o' (by omega) (by simp;omega) hnn (fun x hx=>(e3 x (List.mem_of_mem_tail hx)).2) (by have:=(e3.getD (by omega) 0).2;omega);simp only[List.nil_append,List.length_nil,Int.natCast_zero] at hc;rw[e1,hc]
 -- C7 last entry is a digit,too
 have hne:Td o'≠ []:=fun e=>by rw[e] at c2;simp at c2;omega
 have R1:Td o'=(Td o').dropLast++[(Td o').getLast hne]:=(List.dropLast_concat_getLast hne).symm;have hvs:VX (Td o')=VX (Td o').dropLast+10^(Td o').dropLast.length*(Td o').getLast hne:=by
  conv=>lhs;rw[R1]
  rw[VX,gE];simp[val]
 have hdl:(Td o').dropLast.length=(dX m).length+(dX n).length:=by rw[List.length_dropLast,c2,v2];omega
 have aha:=Mc c4;have arE:=c3 _ (List.getLast_mem hne);have aph:(Td o').getLast hne<10:=by
  by_cases hcc:(Td o').getLast hne<10
  ·exact hcc
  ·exfalso;have h1:=(aS (B:=10) (by omega) (dX m).length m).1 (Nat.le_refl _);have h2:=(aS (B:=10) (by omega) (dX n).length n).1 (Nat.le_refl _);have h3:m*n<10^(dX m).length*10^(dX n).length:=Nat.mul_lt_mul'' h1 h2;rw[←Nat.pow_add] at h3;have h4:((m*n:Nat):Int)<((10^((dX m).length+(dX n).length):Nat):Int):=Int.ofNat_lt.2 h3;rw[IW,Int.natCast_mul] at h4;have h5:(10:Int)^((dX m).length+(dX n).length)*1≤10^((dX m).length+(dX n).length)*(Td o').getLast hne:=Int.mul_le_mul_of_nonneg_left (by omega) (Int.pow_nonneg (by omega));rw[hdl] at hvs;rw[c1] at hvs;change VX o'=_ at v1;omega
 have hD:DX (Td o'):=by rw[R1];exact c4.append (i6.cons arE aph i6.nil)
 rw[ym hD (by rw[c2,v2];omega),bS,c1];change VX o'=_ at v1;rw[v1]
 congr 2
 cases s<;>cases t<;>simp
theorem Yc {x y:Int}(hx:Bd x)(hy:Bd y):fz (ib x) (ib y)=some (ib (x*y)):=by
 have hlx:=NK x;have hly:=NK y;rw[BU,vg,CP hx,bS,CP hy,bS];unfold Bd at hx hy;have R4:((ax (ib x)).bind fun r3=>(ax (ib y)).bind fun r4=>
   bif (ic 8 (IntKind.wrap .i64 ((IntKind.wrap .i64 ((r3.2.length:Int)+(r4.2.length:Int)))+(1:Int))) (IntKind.wrap .i64 ((IntKind.wrap .i64 ((r3.2.length:Int)+(r4.2.length:Int)))+(1:Int)))) then
   bw r3.1 r3.2 r4.1 r4.2 (0:Int) (List.replicate (IntKind.wrap .i64 ((IntKind.wrap .i64 ((r3.2.length:Int)+(r4.2.length:Int)))+(1:Int))).toNat (0:Int))
   else none)=some (ib (x*y)):=by
  rw[nT hx,bS,nT hy,bS];simp only;simp (disch:=omega) only[i64_in,CD];have e1:(((dX x.natAbs).length:Int)+(dX y.natAbs).length+1).toNat=(dX x.natAbs).length+(dX y.natAbs).length+1:=by omega
  rw[e1,ab4 (by omega) (by omega)]
  congr 2
  by_cases h1:x<0<;>by_cases h2:y<0
  ·have a1:(x.natAbs:Int)= -x:=by omega
   have a2:(y.natAbs:Int)= -y:=by omega
   rw[decide_eq_true h1,decide_eq_true h2,if_pos rfl,a1,a2];simp[Int.neg_mul,Int.mul_neg]
  ·have a1:(x.natAbs:Int)= -x:=by omega
   have a2:(y.natAbs:Int)=y:=by omega
   rw[decide_eq_true h1,decide_eq_false h2,if_neg (by simp),a1,a2];simp[Int.neg_mul,Int.mul_neg]
  ·have a1:(x.natAbs:Int)=x:=by omega
   have a2:(y.natAbs:Int)= -y:=by omega
   rw[decide_eq_false h1,decide_eq_true h2,if_neg (by simp),a1,a2];simp[Int.neg_mul,Int.mul_neg]
  ·have a1:(x.natAbs:Int)=x:=by omega
   have a2:(y.natAbs:Int)=y:=by omega
   rw[decide_eq_false h1,decide_eq_false h2,if_pos rfl,a1,a2]
 by_cases h1:nd x≤9
 ·rw[if_pos h1];simp only[cT];by_cases h2:nd y≤9
  ·rw[if_pos h2];simp only[cT];have b1:=(kY x 9 (by omega)).1 h1;have b2:=(kY y 9 (by omega)).1 h2;have b3:(x*y).natAbs<10^9*10^9:=by rw[Int.natAbs_mul];exact Nat.mul_lt_mul'' b1 b2
   rw[i64_in _ (by omega),nU (by omega) (by omega),bS]
  ·rw[if_neg h2];simp only[cF];exact R4
 ·rw[if_neg h1];simp only[cF];exact R4
end Go.Proofs.YtofjebmoebhiiaaGreatDoor.Ev
namespace Go.Abs
theorem akn {x y:Int}(hy:y≠0){Q R:Int}(hQ:Q=((x.natAbs / y.natAbs:Nat):Int))(hR:R=((x.natAbs % y.natAbs:Nat):Int)):
  (x.fdiv y=if (x<0↔y<0) then Q else if R=0 then -Q else -Q - 1)∧
  (x.fmod y=if (x<0↔y<0) then (if x<0 then -R else R) else if R=0 then 0 else (if x<0 then -R else R)+y):=by
 have Wv:=Nat.div_add_mod x.natAbs y.natAbs;have hlt:=Nat.mod_lt x.natAbs (show y.natAbs>0 by omega);obtain⟨A,hA⟩:∃A,A=x.natAbs:=⟨_,rfl⟩
 obtain⟨B,hB⟩:∃B,B=y.natAbs:=⟨_,rfl⟩
 rw[←hA, ←hB] at Wv hlt hQ hR;have axO:(B:Int)*Q+R=A:=by rw[hQ,hR, ←Int.natCast_mul, ←Int.natCast_add,Wv]
 have hR0:0≤R:=by rw[hR];exact Int.natCast_nonneg _
 have hRB:R<B:=by rw[hR];exact Int.ofNat_lt.2 hlt
 by_cases h1:x<0<;>by_cases h2:y<0
 ·have hx':x= -(A:Int):=by omega
  have hy':y= -(B:Int):=by omega
  have hu:=(Int.fdiv_fmod_unique' (a:=x) (b:=y) (r:= -R) (q:=Q) h2).2 ⟨by rw[hx',hy',Int.neg_mul];omega,by omega,by omega⟩;rw[hu.1,hu.2];simp[h1,h2]
 ·have hx':x= -(A:Int):=by omega
  have hy':y=(B:Int):=by omega
  by_cases hz:R=0
  ·have hu:=(Int.fdiv_fmod_unique (a:=x) (b:=y) (r:= -R) (q:= -Q) (by omega)).2 ⟨by rw[hx',hy',Int.mul_neg];omega,by omega,by omega⟩;rw[hu.1,hu.2];simp[h1,h2,hz]
  ·have hu:=(Int.fdiv_fmod_unique (a:=x) (b:=y) (r:= -R+y) (q:= -Q - 1) (by omega)).2 ⟨by rw[hx',hy',Int.mul_sub,Int.mul_neg];omega,by omega,by omega⟩;rw[hu.1,hu.2];simp[h1,h2,hz]
 ·have hx':x=(A:Int):=by omega
  have hy':y= -(B:Int):=by omega
  by_cases hz:R=0
  ·have hu:=(Int.fdiv_fmod_unique' (a:=x) (b:=y) (r:=R) (q:= -Q) (by omega)).2 ⟨by rw[hx',hy',Int.neg_mul_neg];omega,by omega,by omega⟩;rw[hu.1,hu.2];simp[h1,h2,hz]
  ·have hu:=(Int.fdiv_fmod_unique' (a:=x) (b:=y) (r:=R+y) (q:= -Q - 1) (by omega)).2 ⟨by rw[hx',hy',Int.mul_sub,Int.neg_mul_neg];omega,by omega,by omega⟩;rw[hu.1,hu.2];simp[h1,h2,hz]
 ·have hx':x=(A:Int):=by omega
  have hy':y=(B:Int):=by omega
  have hu:=(Int.fdiv_fmod_unique (a:=x) (b:=y) (r:=R) (q:=Q) (by omega)).2 ⟨by rw[hx',hy'];omega,by omega,by omega⟩;rw[hu.1,hu.2];simp[h1,h2]
end Go.Abs
namespace Go.Proofs.YtofjebmoebhiiaaGreatDoor.Ev
open Go.Abs Go.IntWalk
section
variable {b:ByteArray}{p s:Bool}
theorem arF {x:List Int}{B:Nat}(hB:0<B)(hBl:(dX B).length≤10000000){i:Int}{q:List Int}(hq:q.length≤10000000):∀(S k:Nat),(dX S).length≤10000001→k+S / B≤1000→
  bZ b p x s (dX B) (dX S) i k q=bf b p x s (dX B) (dX (S % B)) (IntKind.wrap .i64 (i - 1)) (q++[((k+S / B:Nat):Int)]):=by
 intro S;induction S using Nat.strongRecOn with
 |ind S ih=>
  intro k hS hk;rw[tu,nN,Qw (by omega) (by omega),bS];by_cases h:B≤S
  ·have hc:nX (S:Int) B≥0:=by
    by_cases hh:nX (S:Int) B≥0
    ·exact hh
    ·have:=OU.1 (show nX (S:Int) B<0 by omega);omega
   have e1:=Nat.mod_eq_sub_mod h;have e2:S / B=(S - B) / B+1:=Nat.div_eq_sub_div hB h;obtain⟨D,hD⟩:∃D,(S - B) / B=D:=⟨_,rfl⟩
   rw[e2,hD] at hk;rw[y7 hc,ab1 (by omega) h,bS,i64_in _ (by omega)];have:=ih (S - B) (by omega) (k+1) (by have:=X9 (show S - B≤S by omega);omega) (by rw[hD];omega);simp only[Int.natCast_add,Int.natCast_one] at this;rw[this, ←e1,e2]
   congr 3
   omega
  ·have hc:¬nX (S:Int) B≥0:=by rw[ow (by omega)];omega
   rw[wF hc,iG (by omega) (by omega),Nat.mod_eq_of_lt (by omega),Nat.div_eq_of_lt (by omega),Nat.add_zero]
theorem arG {x:List Int}(hx:DX x){B:Nat}(hB:0<B)(hBl:(dX B).length≤10000000)(hxl:x.length≤10000000):∀(k:Nat) (R:Nat) (q:List Int),k≤x.length→R<B→q.length+k≤10000000→DX q→
  VX (x.drop k)=B*VX q.reverse+R→
  ∃q' R',bf b p x s (dX B) (dX R) ((k:Int) - 1) q=aE b p s (dX R') 0 q'∧R'<B∧DX q'∧VX x=B*VX q'.reverse+R'∧q'.length≤10000000:=by
 intro k;induction k with
 |zero=>intro R q hk hR hql hq hv;refine⟨q,R, ?_,hR,hq,by simpa using hv,by omega⟩;rw[mE,jH,wF (by omega)]
 |succ k ih=>
  intro R q hk hR hql hq hv;have hxk:=hx.getD (by omega) k;have hRl:=X9 (show R≤B by omega);have e:((k+1:Nat):Int) - 1=k:=by omega
  obtain⟨c,hc⟩:=Int.eq_ofNat_of_zero_le hxk.1;rw[hc] at hxk;have hDc:DX ([(c:Int)]++dX R):=(i6.cons hxk.1 hxk.2 i6.nil).append (IV R);have hVc:VX ([(c:Int)]++dX R)=((c+10*R:Nat):Int):=by have:=Lr R;simp only[VX,List.singleton_append,val] at this ⊢;rw[this];omega
  have hlen:(dX (c+10*R)).length≤10000001:=by have h1:=CL ([(c:Int)]++dX R);rw[VL hDc,hVc,Int.toNat_natCast] at h1;simp at h1;show (dX (c+10*R)).length≤_;omega
  have hdiv:(c+10*R) / B<10:=by rw[Nat.div_lt_iff_lt_mul hB];omega
  have hmod:=Nat.mod_lt (c+10*R) hB;have Wv:=Nat.div_add_mod (c+10*R) B;rw[mE,jH,e,y7 (by omega),gV (by omega) (by omega),Int.toNat_natCast,hc,iG (by omega) (by omega),Ls (by simp;omega),bS,VL hDc,hVc,Int.toNat_natCast];have h1:=arF (b:=b) (p:=p) (s:=s) (x:=x) hB hBl (i:=k) (q:=q) (by omega) (c+10*R) 0 hlen (by omega);simp only[Int.natCast_zero,Nat.zero_add] at h1;rw[h1,i64_in _ (by omega)];refine ih _ _ (by omega) hmod (by simp;omega) (hq.append (i6.cons (Int.natCast_nonneg _) (Int.ofNat_lt.2 hdiv) i6.nil)) ?_;rw[drop_eq (show k<x.length by omega),hc,List.reverse_append,List.reverse_singleton,List.singleton_append];simp only[VX,val] at hv ⊢;rw[hv];have h2:((B*((c+10*R) / B)+(c+10*R) % B:Nat):Int)=((c+10*R:Nat):Int):=by rw[Wv]
  rw[Int.natCast_add,Int.natCast_mul] at h2;have h3:(B:Int)*(((c+10*R) / B:Nat)+10*val 10 q.reverse)=B*((c+10*R) / B:Nat)+10*(B*val 10 q.reverse):=by rw[Int.mul_add,Int.mul_left_comm]
  rw[h3];omega
theorem api {r:List Int}:∀(m:Nat) (M A C:List Int),M.length=m→A.length=C.length→(A++M++C).length≤1000000000→
  aE b p s r A.length (A++M++C)=aE b p s r (((A++M++C).length:Int) / 2) (A++M.reverse++C):=by
 intro m;induction m using Nat.strongRecOn with
 |ind m ih=>
  intro M A C hm hac hl;by_cases h:M.length≤1
  ·have hrev:M.reverse=M:=by
    match M,h with
    | [],_=>rfl
    | [x],_=>rfl
    |_::_::_,h=>simp at h
   have:((A++M++C).length:Int) / 2=A.length:=by simp;omega
   rw[hrev,this]
  ·obtain⟨x,M1,rfl⟩:∃x M1,M=x::M1:=by
    cases M with
    |nil=>simp at h
    |cons x M1=>exact⟨x,M1,rfl⟩
   have hne:M1≠ []:=fun e=>by rw[e] at h;simp at h
   obtain⟨M2,y,rfl⟩:∃M2 y,M1=M2++[y]:=⟨M1.dropLast,M1.getLast hne,(List.dropLast_concat_getLast hne).symm⟩
   have hlen:(A++x::(M2++[y])++C).length=A.length+M2.length+2+C.length:=by simp;omega
   rw[hlen] at hl;have hL:A++x::(M2++[y])++C=A++(x::(M2++(y::C))):=by simp
   have hR:A++(x::(M2++[y])).reverse++C=(A++[y])++M2.reverse++(x::C):=by simp
   have arH:((A++[y])++M2++(x::C)).length=A.length+M2.length+2+C.length:=by simp;omega
   have Y7:=ih M2.length (by simp at hm;omega) M2 (A++[y]) (x::C) rfl (by simp;omega) (by omega);have e1:((A++[y]).length:Int)=(A.length:Int)+1:=by simp
   rw[e1,arH] at Y7;rw[hlen,hR, ←Y7,hL];rw[hL] at hlen;have gx:(A++(x::(M2++(y::C)))).getD A.length 0=x:=by simp[List.getD]
   have gy:(A++(x::(M2++(y::C)))).getD (A.length+M2.length+1) 0=y:=by
    rw[List.getD,List.getElem?_append_right (by omega)];have:A.length+M2.length+1 - A.length=M2.length+1:=by omega
    rw[this];simp
   have s1:(A++(x::(M2++(y::C)))).set A.length y=A++(y::(M2++(y::C))):=by rw[List.set_append_right _ _ (by omega)];simp
   have s2:(A++(y::(M2++(y::C)))).set (A.length+M2.length+1) x=(A++[y])++M2++(x::C):=by
    rw[List.set_append_right _ _ (by omega)];have:A.length+M2.length+1 - A.length=M2.length+1:=by omega
    rw[this,List.set_cons_succ,List.set_append_right _ _ (by omega)];simp
   have abA:(A++(y::(M2++(y::C)))).length=A.length+M2.length+2+C.length:=by simp;omega
   have ej:(((A.length+M2.length+2+C.length:Nat):Int) - 1 - A.length).toNat=A.length+M2.length+1:=by omega
   rw[mF,jJ];simp only[hlen];rw[ns (by omega)];simp (disch:=omega) only[au,i64_in,gV,rS,ej,Int.toNat_natCast,gx,gy,s1,s2]
theorem amF {r q:List Int}(hl:q.length≤1000000000):aE b p s r 0 q=aE b p s r ((q.length:Int) / 2) q.reverse:=by have:=api (b:=b) (p:=p) (s:=s) (r:=r) q.length q [] [] rfl rfl (by simpa using hl);simpa using this
end
theorem ZK {x y:Int}(hx:Bd x)(hy:Bd y)(hy0:y≠0):dq (ib x) (ib y)=some (ib (x.fdiv y),ib (x.fmod y)):=by
 have hlx:=NK x;have hly:=NK y;obtain⟨fq,fr⟩:=akn (x:=x) (y:=y) hy0 rfl rfl;have Wv:=Nat.div_add_mod x.natAbs y.natAbs;have hlt:=Nat.mod_lt x.natAbs (show y.natAbs>0 by omega);have hbx:=hx;have hby:=hy;rw[xB,qR,CP hx,bS,CP hy,bS];unfold Bd at hx hy
 -- C7 R4 way
 have R4:((ax (ib x)).bind fun r9=>(ax (ib y)).bind fun Ph=>
   let WH:Int:=(IntKind.wrap .i64 ((Ph.2.length:Int) - (1:Int)))
   let e12:Int:=(bif decide (WH>(0:Int)) then WH else (0:Int))
   let Ze:Int:=(bif decide ((IntKind.wrap .i64 ((r9.2.length:Int) - e12))>(0:Int)) then (IntKind.wrap .i64 ((r9.2.length:Int) - e12)) else (0:Int))
   bif (dW r9.2.length Ze (r9.2.length:Int)) then
   bif (aB 8 1 0 (cut r9.2 Ze (r9.2.length:Int)).length) then
   let e14:List Int:=(([]:List Int)++(cut r9.2 Ze (r9.2.length:Int)))
   (bk e14).bind fun r15=>
   bf (ib y) r9.1 r9.2 Ph.1 Ph.2 r15 (IntKind.wrap .i64 (Ze - (1:Int))) ([]:List Int)
   else none
   else none)=some (ib (x.fdiv y),ib (x.fmod y)):=by
  rw[nT hbx,bS,nT hby,bS];simp only;obtain⟨LX,hLX⟩:∃LX,LX=(dX x.natAbs).length:=⟨_,rfl⟩
  obtain⟨LY,hLY⟩:∃LY,LY=(dX y.natAbs).length:=⟨_,rfl⟩
  have axQ:0<LY:=by
   have:(dX y.natAbs).length≠0:=fun e=>by have:=(nR (B:=10) (n:=y.natAbs) (by omega)).1 (List.length_eq_zero_iff.1 e);omega
   omega
  obtain⟨st,hst⟩:∃st:Nat,st=LX - (LY - 1):=⟨_,rfl⟩
  rw[←hLX, ←hLY];have WH:IntKind.wrap .i64 ((LY:Int) - 1)=((LY - 1:Nat):Int):=by rw[i64_in _ (by omega)];omega
  have e12:(bif decide (((LY - 1:Nat):Int)>0) then ((LY - 1:Nat):Int) else 0)=((LY - 1:Nat):Int):=by
   by_cases h:((LY - 1:Nat):Int)>0
   ·rw[da h]
   ·rw[dA h];omega
  have Ze:(bif decide (IntKind.wrap .i64 ((LX:Int) - ((LY - 1:Nat):Int))>0) then IntKind.wrap .i64 ((LX:Int) - ((LY - 1:Nat):Int)) else 0)=(st:Int):=by
   rw[i64_in _ (by omega)];by_cases h:(LX:Int) - ((LY - 1:Nat):Int)>0
   ·rw[da h];omega
   ·rw[dA h];omega
  have ako:cut (dX x.natAbs) (st:Int) (LX:Int)=(dX x.natAbs).drop st:=by unfold cut;rw[Int.toNat_natCast,Int.toNat_natCast,hLX,List.take_length]
  simp only[WH,e12,Ze,ako];have hdl:((dX x.natAbs).drop st).length=LX - st:=by rw[List.length_drop,hLX]
  have hDd:=(IV x.natAbs).drop st;obtain⟨R0,hR0⟩:=Int.eq_ofNat_of_zero_le (Mc hDd);rw[Gy (by omega) (by omega) (by omega),iG (by omega) (by omega),List.nil_append,Ls (by omega),bS,VL hDd,hR0,Int.toNat_natCast,i64_in _ (by omega)]
  -- C7 first digits are less at1 C7 amA
  have aug:R0<y.natAbs:=by have h1:VX ((dX x.natAbs).drop st)<10^((dX x.natAbs).drop st).length:=BH (B:=10) (by omega) hDd;have h2:=Qs (show ((dX x.natAbs).drop st).length≤LY - 1 by omega);have h3:=(ia (B:=10) (by omega) (LY - 1) y.natAbs).1 (by show LY - 1<(dX y.natAbs).length;omega);have h4:((10^(LY - 1):Nat):Int)≤(y.natAbs:Int):=Int.ofNat_le.2 h3;rw[IW] at h4;omega
  obtain⟨q',R',w1,w2,w3,w4,w5⟩:=arG (b:=ib y) (p:=decide (x<0)) (s:=decide (y<0)) (IV x.natAbs) (B:=y.natAbs) (by omega) (by omega) (by omega) st R0 [] (by omega) aug (by simp;omega) i6.nil (by rw[hR0];simp[VX,val]);have hq0:=Mc (show DX q'.reverse from fun z hz=>w3 z (List.mem_reverse.1 hz));obtain⟨Q,hQ⟩:=Int.eq_ofNat_of_zero_le hq0;rw[Lr,hQ] at w4;have hAN:x.natAbs=y.natAbs*Q+R':=by
   have:((y.natAbs*Q+R':Nat):Int)=(y.natAbs:Int)*Q+R':=by rw[Int.natCast_add,Int.natCast_mul]
   omega
  have hq1:x.natAbs / y.natAbs=Q:=by rw[hAN,Nat.mul_add_div (by omega),Nat.div_eq_of_lt w2];omega
  have Pe:x.natAbs % y.natAbs=R':=by rw[hAN,Nat.mul_add_mod,Nat.mod_eq_of_lt w2]
  rw[hq1,Pe] at fq;rw[Pe] at fr;have axR:=X9 (show R'≤y.natAbs by omega);rw[w1,amF (by omega),mF,jJ];have hql:(q'.reverse).length=q'.length:=by simp
  rw[hql,ns (by omega)];simp (disch:=omega) only[i64_in,al];have hD':DX q'.reverse:=fun z hz=>w3 z (List.mem_reverse.1 hz);rw[ym hD' (by rw[hql];omega),bS,ym (IV R') (by omega),bS,hQ,Lr,arB];have auh:nd (Q:Int)≤100000:=by
   have:Q≤x.natAbs:=by rw[←hq1];exact Nat.div_le_self _ _
   have:=Qu (x:=(Q:Int)) (y:=x) (by omega);omega
  have arI:nd (R':Int)≤100000:=by have:=Qu (x:=(R':Int)) (y:=y) (by omega);omega
  have b1:Bd 1:=by unfold Bd;rw[Qv (by decide)];omega
  by_cases hs:(x<0↔y<0)
  ·have hd:(decide (x<0)==decide (y<0))=true:=beq_iff_eq.2 (decide_eq_decide.2 hs);rw[if_pos hs] at fq fr;rw[hd,Bool.not_true,fq,fr];simp only[Bool.false_eq_true,if_false,cF,decide_eq_true_eq];cases ((ib (if x<0 then -(R':Int) else (R':Int))).toList==(ib 0).toList)<;>rfl
  ·have hd:(decide (x<0)==decide (y<0))=false:=by
    cases hh:(decide (x<0)==decide (y<0)) with
    |false=>rfl
    |true=>exact absurd (decide_eq_decide.1 (beq_iff_eq.1 hh)) hs
   rw[if_neg hs] at fq fr;rw[hd,Bool.not_false,fq,fr];simp only[if_true,cT,decide_eq_true_eq];by_cases hz:R'=0
   ·subst hz;have:(if x<0 then -((0:Nat):Int) else ((0:Nat):Int))=0:=by split<;>rfl
    rw[this,X7 rfl,Bool.not_true,cF,if_pos (by rfl),if_pos (by rfl)]
   ·have h1:¬(if x<0 then -(R':Int) else (R':Int))=0:=by split<;>omega
    rw[X8 h1,Bool.not_false,cT,if_neg (show ¬((R':Nat):Int)=0 by omega),if_neg (show ¬((R':Nat):Int)=0 by omega),auc,ahh (by unfold Bd;rw[ZC];exact auh) b1,bS,ab2 (by
     unfold Bd;split
     ·rw[ZC];exact arI
     ·exact arI) hby,bS]
 by_cases h1:nd x≤9
 ·rw[if_pos h1];simp only[cT];by_cases h2:nd y≤9
  ·rw[if_pos h2];simp only[cT];have c1:=(kY x 9 (by omega)).1 h1;have c2:=(kY y 9 (by omega)).1 h2;have aui:=Nat.div_le_self x.natAbs y.natAbs
   -- truncated arJ by C7 absolute values
   have eq1:x.tdiv y=if (x<0↔y<0) then ((x.natAbs / y.natAbs:Nat):Int) else -((x.natAbs / y.natAbs:Nat):Int):=by
    by_cases a:x<0<;>by_cases b:y<0
    ·have hx':x= -(x.natAbs:Int):=by omega
     have hy':y= -(y.natAbs:Int):=by omega
     rw[if_pos (by simp[a,b])]
     conv=>lhs;rw[hx',hy']
     rw[Int.neg_tdiv,Int.tdiv_neg,Int.neg_neg,ns (by omega),Int.natCast_ediv]
    ·have hx':x= -(x.natAbs:Int):=by omega
     have hy':y=(y.natAbs:Int):=by omega
     rw[if_neg (by simp[a,b])]
     conv=>lhs;rw[hx',hy']
     rw[Int.neg_tdiv,ns (by omega),Int.natCast_ediv]
    ·have hx':x=(x.natAbs:Int):=by omega
     have hy':y= -(y.natAbs:Int):=by omega
     rw[if_neg (by simp[a,b])]
     conv=>lhs;rw[hx',hy']
     rw[Int.tdiv_neg,ns (by omega),Int.natCast_ediv]
    ·have hx':x=(x.natAbs:Int):=by omega
     have hy':y=(y.natAbs:Int):=by omega
     rw[if_pos (by simp[a,b])]
     conv=>lhs;rw[hx',hy']
     rw[ns (by omega),Int.natCast_ediv]
   have eq2:x.tmod y=if x<0 then -((x.natAbs % y.natAbs:Nat):Int) else ((x.natAbs % y.natAbs:Nat):Int):=by
    have key:x.tmod y=x.tmod (y.natAbs:Int):=by
     by_cases b:y<0
     ·have hy':y= -(y.natAbs:Int):=by omega
      conv=>lhs;rw[hy']
      rw[Int.tmod_neg]
     ·have hy':y=(y.natAbs:Int):=by omega
      conv=>lhs;rw[hy']
    rw[key];by_cases a:x<0
    ·have hx':x= -(x.natAbs:Int):=by omega
     rw[if_pos a]
     conv=>lhs;rw[hx']
     rw[Int.neg_tmod,bD (by omega),Int.natCast_emod]
    ·have hx':x=(x.natAbs:Int):=by omega
     rw[if_neg a]
     conv=>lhs;rw[hx']
     rw[bD (by omega),Int.natCast_emod]
   obtain⟨Q,hQ⟩:∃Q,Q=x.natAbs / y.natAbs:=⟨_,rfl⟩
   obtain⟨R,hR⟩:∃R,R=x.natAbs % y.natAbs:=⟨_,rfl⟩
   rw[kg hy0,kg hy0,eq1,eq2,fq,fr];rw[←hQ, ←hR] at Wv;rw[←hR] at hlt;rw[←hQ] at aui;rw[←hQ, ←hR];clear hQ hR fq fr eq1 eq2;by_cases hz:R=0
   ·subst hz;have e0:(if x<0 then -((0:Nat):Int) else ((0:Nat):Int))=0:=by split<;>rfl
    rw[e0,pd rfl];by_cases hs:(x<0↔y<0)
    ·rw[if_pos hs,if_pos hs,if_pos hs,i64_in _ (by omega),nU (by omega) (by omega),bS,nU (by omega) (by omega),bS]
    ·rw[if_neg hs,if_neg hs,if_neg hs,if_pos (by rfl),if_pos (by rfl),i64_in _ (by omega),nU (by omega) (by omega),bS,nU (by omega) (by omega),bS]
   ·have hr0:¬(if x<0 then -(R:Int) else (R:Int))=0:=by split<;>omega
    rw[Hw hr0];have hsg:(decide ((if x<0 then -(R:Int) else (R:Int))<0))=decide (x<0):=decide_eq_decide.2 (by split<;>omega);rw[hsg];by_cases hs:(x<0↔y<0)
    ·have hd:(decide (x<0)==decide (y<0))=true:=beq_iff_eq.2 (decide_eq_decide.2 hs);rw[hd,Bool.not_true,cF,if_pos hs,if_pos hs,if_pos hs,i64_in _ (by omega),nU (by omega) (by omega),bS,nU (by split<;>omega) (by split<;>omega),bS]
    ·have hd:(decide (x<0)==decide (y<0))=false:=by
      cases hh:(decide (x<0)==decide (y<0)) with
      |false=>rfl
      |true=>exact absurd (decide_eq_decide.1 (beq_iff_eq.1 hh)) hs
     rw[hd,Bool.not_false,cT,if_neg hs,if_neg hs,if_neg hs,if_neg (show ¬((R:Nat):Int)=0 by omega),if_neg (show ¬((R:Nat):Int)=0 by omega)];have w1:IntKind.wrap .i64 (-(Q:Int))= -(Q:Int):=i64_in _ (by omega);have w2:IntKind.wrap .i64 (-(Q:Int) - 1)= -(Q:Int) - 1:=i64_in _ (by omega);have w3:IntKind.wrap .i64 ((if x<0 then -(R:Int) else (R:Int))+y)=(if x<0 then -(R:Int) else (R:Int))+y:=i64_in _ (by split<;>omega);simp only[w1,w2,w3];rw[nU (by omega) (by omega),bS,nU (by split<;>omega) (by split<;>omega),bS]
  ·rw[if_neg h2];simp only[cF];exact R4
 ·rw[if_neg h1];simp only[cF];exact R4
theorem Sm.Bd {z:Int}(h:Sm z):Bd z:=by unfold Sm at h;unfold Go.Abs.Bd;omega
theorem Ey {z:Int}{k:Nat}(h:nd z≤k)(hk:k≤100000):Bd z:=by unfold Bd;omega
theorem akp {z:Int}(h:z.natAbs<10):Bd z:=Ey (Nat.le_of_eq (Qv h)) (by omega)
theorem WX:∀(y x:Nat),Bd x→Bd y→cn (ib x) (ib y)=some (ib ((Nat.gcd x y:Nat):Int)):=by
 intro y;induction y using Nat.strongRecOn with
 |ind y ih=>
  intro x hx hy;rw[uz,oV,arB];by_cases h:y=0
  ·subst h;rw[X7 (by rfl),Bool.not_true,cF,Nat.gcd_zero_right]
  ·have e:(x:Int).fmod y=((x % y:Nat):Int):=by rw[Int.fmod_eq_emod_of_nonneg _ (by omega),Int.natCast_emod]
   have hlt:=Nat.mod_lt x (show y>0 by omega);rw[X8 (by omega),Bool.not_false,cT,ZK hx hy (by omega),bS,e,ih _ hlt y hy (Ey (Qu (x:=((x % y:Nat):Int)) (y:=(y:Int)) (by simp;omega)) hy),Nat.gcd_comm y, ←Nat.gcd_rec,Nat.gcd_comm]
theorem ab5 {x y:Int}(hx:Bd x)(hy:Bd y):dN (ib x) (ib y)=some (ib ((Int.gcd x y:Nat):Int)):=by rw[yJ,sA,Qx hx,bS,Qx hy,bS,WX y.natAbs x.natAbs (Ey (Qu (y:=x) (by simp)) hx) (Ey (Qu (y:=y) (by simp)) hy)];rfl
section
variable {x y:Int}(hx:Sm x)(hy:Sm y)
include hx hy
end
section
variable {x:Int}(hx:Sm x)
include hx
end
def fs:List Int→Option Nat
 | []=>none
 |x::r=>if x=47 then some 0 else (fs r).map (· +1)
theorem anV:∀{l:List Int} {k:Nat},fs l=some k→k<l.length
 |x::r,k,h=>by
  simp only[fs] at h;split at h
  ·cases h;simp
  ·cases hr:fs r with
   |none=>rw[hr] at h;cases h
   |some j=>rw[hr] at h;cases h;have:=anV hr;simp;omega
theorem afu:∀(l:List UInt8) (i:Nat),WJ 47 i l=match fs (l.map fun b=>(b.toNat:Int)) with
  |none=> -1
  |some k=>((i+k:Nat):Int)
 | [],i=>rfl
 |x::r,i=>by
  simp only[WJ,List.map_cons,fs];by_cases h:(x.toNat:Int)=47
  ·rw[afg h,cT,if_pos h];rfl
  ·rw[Lk h,cF,if_neg h,afu r (i+1)];cases fs (r.map fun b=>(b.toNat:Int)) with
   |none=>rfl
   |some k=>show ((i+1+k:Nat):Int)=((i+(k+1):Nat):Int);congr 1;omega
theorem ZL (s:ByteArray):fY s 47=some (match fs (bytesOf s) with
  |none=> -1
  |some k=>((k:Nat):Int)):=by
 have h:fY s 47=(bif decide ((0:Int)≤47)&&decide ((47:Int)<256) then some (WJ 47 0 s.data.toList) else none):=Fa T B (Go.Abs.look fns) 165 (s,47);rw[h];have e:(decide ((0:Int)≤47)&&decide ((47:Int)<256))=true:=rfl;rw[e,cT,afu];unfold bytesOf;cases fs (s.data.toList.map fun b=>(b.toNat:Int)) with
 |none=>rfl
 |some k=>simp
theorem arK:bytesOf (bs [47])=[47]:=rfl
theorem akq {s:ByteArray}(hs:s.size≤100000):sf s (bs [47])=some (match fs (bytesOf s) with
  |none=>(s,ByteArray.empty,false)
  |some k=>(s.extract 0 k,s.extract (k+1) s.size,true)):=by
 have hi:iw s (bs [47])=some (match fs (bytesOf s) with
  |none=> -1
  |some k=>((k:Nat):Int)):=by
  rw[AJ,tN];have e1:((bs [47]).size:Int)=1:=rfl;rw[e1,ft (by omega),VK, ];by_cases hq:bs [47]=s
  ·subst hq;rw[decide_eq_true rfl,cT,arK];rfl
  ·rw[decide_eq_false hq,cF,iZ rfl];have e2:Bi (bs [47]) 0=some 47:=rfl;rw[e2,bS,ZL,bS]
 rw[KL,Gg,DC,xq,hi,bS];cases hf:fs (bytesOf s) with
 |none=>simp only;rw[wF (by omega),bS]
 |some k=>
  have hk:=anV hf;rw[bh] at hk;simp only;have e1:((bs [47]).size:Int)=1:=rfl;rw[e1,y7 (by omega),Gy (by omega) (by omega) (by omega),i64_in _ (by omega),Gy (by omega) (by omega) (by omega),bS];have e2:((k:Int)+1).toNat=k+1:=by omega
  have e3:((k:Int)).toNat=k:=by omega
  have e4:((s.size:Int)).toNat=s.size:=by omega
  rw[e2,e3,e4];rfl
theorem ad3 {s:ByteArray}(hs:s.size≤100000):∀(m i:Nat),m+i=s.size→dh s i=some (match fs ((bytesOf s).drop i) with
  |none=>(s,bs [49],false)
  |some k=>(s.extract 0 (i+k),s.extract (i+k+1) s.size,true)):=by
 intro m;induction m with
 |zero=>intro i hi;have hl:=bh s;rw[pP,l9,al (by omega),List.drop_eq_nil_of_le (by omega)];rfl
 |succ m ih=>
  intro i hi;have hl:=bh s;have hd:(bytesOf s).drop i=(bytesOf s).getD i 0::(bytesOf s).drop (i+1):=drop_eq (by omega);rw[pP,l9,au (by omega),An,gV (by omega) (by omega),hd];have e0:((i:Int)).toNat=i:=by omega
  simp only[e0,fs];by_cases hc:(bytesOf s).getD i 0=47
  ·rw[iZ hc,Gy (by omega) (by omega) (by omega),i64_in _ (by omega),Gy (by omega) (by omega) (by omega),if_pos hc];have e2:((i:Int)+1).toNat=i+1:=by omega
   have e4:((s.size:Int)).toNat=s.size:=by omega
   rw[e2,e4];rfl
  ·have e1:(i:Int)+1=((i+1:Nat):Int):=by omega
   rw[ft hc,i64_in _ (by omega),e1,ih (i+1) (by omega),if_neg hc];cases fs ((bytesOf s).drop (i+1)) with
   |none=>rfl
   |some k=>
    show some (s.extract 0 (i+1+k),s.extract (i+1+k+1) s.size,true)=some (s.extract 0 (i+(k+1)),s.extract (i+(k+1)+1) s.size,true);have e:i+1+k=i+(k+1):=by omega
    rw[e]
theorem VQ {s:ByteArray}(hs:s.size≤100000):cQ s=some (match fs (bytesOf s) with
  |none=>(s,bs [49],false)
  |some k=>(s.extract 0 k,s.extract (k+1) s.size,true)):=by
 rw[B1,vm];have:=ad3 hs s.size 0 (by omega);simp only[List.drop_zero,Nat.zero_add] at this;exact this
theorem wH {s:ByteArray}(h:iD (bytesOf s)=true):s=ib (numOf (bytesOf s)):=nt (by rw[eF];exact VM h)
theorem VR (z:Int):iD (bytesOf (ib z))=true:=by rw[eF];exact(Ta z).1
theorem Mg (z:Int):numOf (bytesOf (ib z))=z:=by rw[eF];exact(Ta z).2
theorem FR (z:Int):nd z≤(ib z).size:=by rw[abW];omega
theorem FT (z:Int):Ln z≤nd z:=by
 rw[Hx];have h1:1≤nd z:=by have:=sU z.natAbs;unfold nd;omega
 have h:=(kY z (nd z) h1).1 (Nat.le_refl _);exact Nat.lt_of_lt_of_le h (Nat.pow_le_pow_left (by omega) _)
inductive Rt:ByteArray→Int→Int→Prop
 |whole (n:Int):Rt (ib n) n 1
 |ab6 {s:ByteArray} {k:Nat} {n d:Int} (hk:fs (bytesOf s)=some k) (h1:s.extract 0 k=ib n) (h2:s.extract (k+1) s.size=ib d) (hn:n≠0) (hd:2≤d) (hg:Int.gcd n d=1):Rt s n d
def yn (s:ByteArray):Bool:=match fs (bytesOf s) with
 |none=>iD (bytesOf s)
 |some k=>iD (bytesOf (s.extract 0 k))&&iD (bytesOf (s.extract (k+1) s.size))&& !(numOf (bytesOf (s.extract 0 k))==0)&&decide (2≤numOf (bytesOf (s.extract (k+1) s.size)))&&(Int.gcd (numOf (bytesOf (s.extract 0 k))) (numOf (bytesOf (s.extract (k+1) s.size)))==1)
theorem ahi {l:List Int}(h:∀x∈l,x≠47):fs l=none:=by
 induction l with
 |nil=>rfl
 |cons x r ih=>simp only[fs];rw[if_neg (h x (by simp)),ih fun y hy=>h y (by simp[hy])];rfl
theorem ZM (z:Int):fs (bytesOf (ib z))=none:=by
 rw[eF];refine ahi fun x hx=> ?_;unfold sT at hx;rcases List.mem_append.1 hx with hx |hx
 ·split at hx
  ·simp at hx;omega
  ·cases hx
 ·have:=qu _ x hx;omega
theorem tk {s:ByteArray}:yn s=true↔∃n d,Rt s n d:=by
 constructor
 ·intro h;unfold yn at h;cases hf:fs (bytesOf s) with
  |none=>rw[hf] at h;exact⟨numOf (bytesOf s),1,by have:=Rt.whole (numOf (bytesOf s));rw[←wH h] at this;exact this⟩
  |some k=>rw[hf] at h;simp only[Bool.and_eq_true,decide_eq_true_eq,Bool.not_eq_true',beq_eq_false_iff_ne,beq_iff_eq] at h;obtain⟨⟨⟨⟨h1,h2⟩,h3⟩,h4⟩,h5⟩:=h;exact⟨_,_,Rt.ab6 hf (wH h1) (wH h2) h3 h4 h5⟩
 ·rintro ⟨n,d,h⟩;unfold yn;cases h with
  |whole=>rw[ZM];exact VR _
  |ab6 hk h1 h2 hn hd hg=>rw[hk];simp only[h1,h2,VR,Mg,hg,Bool.and_eq_true,decide_eq_true_eq,Bool.not_eq_true',beq_eq_false_iff_ne,beq_iff_eq];exact⟨⟨⟨⟨trivial,trivial⟩,hn⟩,hd⟩,trivial⟩
theorem extract_size (s:ByteArray)(a b:Nat):(s.extract a b).size≤s.size:=by rw[ByteArray.size_extract];omega
theorem Rt.bounds {s:ByteArray}{n d:Int}(h:Rt s n d)(hs:s.size≤1000):nd n≤1000∧nd d≤1000∧0<d:=by
 cases h with
 |whole=>exact⟨by have:=FR n;omega,by have:=Qv (x:=1) (by decide);omega,by omega⟩
 |ab6 hk h1 h2 hn hd hg=>
  refine⟨?_, ?_,by omega⟩
  ·have e1:=FR n;rw[←h1] at e1;exact Nat.le_trans e1 (Nat.le_trans (extract_size s _ _) hs)
  ·have e1:=FR d;rw[←h2] at e1;exact Nat.le_trans e1 (Nat.le_trans (extract_size s _ _) hs)
def mq (s:ByteArray):Int×Int:=match fs (bytesOf s) with
 |none=>(numOf (bytesOf s),1)
 |some k=>(numOf (bytesOf (s.extract 0 k)),numOf (bytesOf (s.extract (k+1) s.size)))
theorem Rt.val {s:ByteArray}{n d:Int}(h:Rt s n d):mq s=(n,d):=by
 unfold mq;cases h with
 |whole=>rw[ZM,Mg]
 |ab6 hk h1 h2 hn hd hg=>rw[hk];simp only[h1,h2,Mg]
abbrev WR (n d:Int):(Bool×List Int×Unit)×(Bool×List Int×Unit)×Unit:=(W n,(W d,()))
theorem ahj:wY 1=some (W 1):=X0 (by omega) (by omega)
theorem ahk:Ln 1≤100000000000:=by have:=FT 1;have:=Qv (x:=1) (by decide);omega
theorem R5 {s:ByteArray}{n d:Int}(hs:s.size≤1000)(h:Rt s n d):gM s=some (WR n d,true):=by
 obtain⟨b1,b2,b3⟩:=h.bounds hs;have l1:=FT n;have l2:=FT d;rw[Dm,z6,akq (by omega),bS];cases h with
 |whole=>rw[ZM];simp only;rw[wG (by omega),VR,cT,bS,Mg];simp only;rw[Bool.not_true,cF,Bool.not_false,cT,ahj,bS]
 |ab6 hk h1 h2 hn hd hg=>
  rw[hk];simp only;rw[h1,wG (by have:=FR n;rw[←h1] at this ⊢;exact Nat.le_trans (extract_size s _ _) (by omega)),VR,cT,bS,Mg];simp only;rw[Bool.not_true,cF,cF,h2,wG (by rw[←h2];exact Nat.le_trans (extract_size s _ _) (by omega)),VR,cT,bS,Mg];simp only;rw[Bool.not_true,cF,yj,yk,bS];have hs0:¬adI n=0:=by unfold adI;split<;>(try split)<;>omega
  rw[ft hs0,ahj,bS];simp only[yj];rw[kX (by omega) ahk,bS,qs (by omega),Qp (by omega),HA (by omega) (by omega),bS,hg,bS];simp only[yj];have e1:((1:Nat):Int)=1:=rfl;rw[e1,kX ahk ahk,bS,yi rfl,pd rfl]
theorem Yd {s:ByteArray}(hs:s.size≤1000)(h:yn s=false):∃j,gM s=some (j,false):=by
 rw[Dm,z6,akq (by omega),bS];unfold yn at h;cases hf:fs (bytesOf s) with
 |none=>rw[hf] at h;simp only at h ⊢;rw[wG (by omega),h,cF,bS];simp only;rw[Bool.not_false,cT,ahj,bS];exact⟨_,rfl⟩
 |some k=>
  rw[hf] at h;simp only at h ⊢;have q1:=extract_size s 0 k;have q2:=extract_size s (k+1) s.size;rw[wG (by omega)];by_cases o1:iD (bytesOf (s.extract 0 k))=true
  ·rw[o1,cT,bS];simp only;rw[Bool.not_true,cF,cF,wG (by omega)];by_cases o2:iD (bytesOf (s.extract (k+1) s.size))=true
   ·rw[o2,cT,bS];simp only;have s1:=wH o1;have s2:=wH o2;rw[o1,o2] at h;generalize numOf (bytesOf (s.extract 0 k))=n at h s1 ⊢;generalize numOf (bytesOf (s.extract (k+1) s.size))=d at h s2 ⊢;have b1:=FR n;have b2:=FR d;rw[←s1] at b1;rw[←s2] at b2;have l1:=FT n;have l2:=FT d;rw[Bool.not_true,cF,yj,yk,bS];by_cases hn:n=0
    ·rw[iZ (by subst hn;rfl)];exact⟨_,rfl⟩
    ·have hs0:¬adI n=0:=by unfold adI;split<;>(try split)<;>omega
     rw[ft hs0,ahj,bS];simp only[yj];rw[kX (by omega) ahk,bS];by_cases hd:2≤d
     ·rw[qs (by omega),Qp (by omega),HA (by omega) (by omega),bS,bS];simp only[yj];have hg:¬Int.gcd n d=1:=fun e=>by rw[Lk hn,e,decide_eq_true hd] at h;cases h
      have lg:Ln ((Int.gcd n d:Nat):Int)≤Ln n:=amx (by
       have h1:Int.gcd n d ∣ n.natAbs:=Nat.gcd_dvd_left _ _;simp only[Int.natAbs_natCast];exact Nat.le_of_dvd (by omega) h1)
      rw[kX (by omega) ahk,bS,Hw (by unfold nX;split<;>(try split)<;>omega)];exact⟨_,rfl⟩
     ·rw[Ll (by unfold nX;split<;>(try split)<;>omega)];exact⟨_,rfl⟩
   ·have o2':iD (bytesOf (s.extract (k+1) s.size))=false:=by simpa using o2
    rw[o2',cF,bS];simp only;rw[Bool.not_false,cT];exact⟨_,rfl⟩
  ·have o1':iD (bytesOf (s.extract 0 k))=false:=by simpa using o1
   rw[o1',cF,bS];simp only;rw[Bool.not_false,cT,ahj,bS];exact⟨_,rfl⟩
theorem amG {n d:Int}(h1:nd n≤1000)(h2:nd d≤1000):lu (WR n d)=some false:=by
 have l1:=FT n;have l2:=FT d;have e1:X5 n=false:=by unfold X5;exact decide_eq_false (by omega)
 have e2:X5 d=false:=by unfold X5;exact decide_eq_false (by omega)
 rw[Fm,zy];simp only[yj];rw[FN (by omega),bS,e1,cF,FN (by omega),bS,e2]
theorem VS {s:ByteArray}(hs:s.size≤1000):sc s=some (yn s):=by
 rw[KK,Gf,Nv,IC];cases h:yn s with
 |true=>obtain⟨n,d,hr⟩:=tk.1 h;obtain⟨b1,b2,b3⟩:=hr.bounds hs;rw[R5 hs hr,bS];simp only;rw[cT];simp only[yj];rw[amG b1 b2,bS,bS];rfl
 |false=>obtain⟨j,hj⟩:=Yd hs h;rw[hj,bS];simp only;rw[cF,bS]
theorem ad4 {n d:Int}(hd:0<d):jz (WR n d)=some (W d):=by rw[G0,Bw];simp only[yj];rw[yk,bS,ft (by unfold adI;split<;>(try split)<;>omega)]
theorem apk {n d m k:Int}(h1:nd n≤1000)(h2:nd d≤1000)(h3:nd m≤1000)(h4:nd k≤1000)(hd:0<d)(hk:0<k):nA (WR n d) (WR m k)=some (nX (n*k) (m*d)):=by have l1:=FT n;have l2:=FT d;have l3:=FT m;have l4:=FT k;have l5:=aj4 n k;have l6:=aj4 m d;rw[GW,Bs];simp only[yj];rw[ad4 hk,bS];simp only[yj];rw[Hy (by omega) (by omega),bS,ad4 hd,bS];simp only[yj];rw[Hy (by omega) (by omega),bS,kX (by omega) (by omega),bS]
theorem R6 {s:ByteArray}{z:Int}(h:iD (bytesOf s)=true)(e:numOf (bytesOf s)=z):s=ib z:=by rw[←e];exact wH h
theorem akr:bs [49]=ib 1:=R6 rfl rfl
theorem arL:bs [50]=ib 2:=R6 rfl rfl
theorem apl:bs [48]=ib 0:=R6 rfl rfl
theorem amH {s:ByteArray}(hs:s.size≤1000):nD s=some (yn s):=by
 rw[G7,BC,VQ (by omega),bS];unfold yn;cases hf:fs (bytesOf s) with
 |none=>
  simp only;rw[R3 (show yl s by unfold yl;omega),bS];cases iD (bytesOf s) with
  |true=>rw[Bool.not_true,cF,Bool.not_false,cT]
  |false=>rw[Bool.not_false,cT]
 |some k=>
  have q1:=extract_size s 0 k;have q2:=extract_size s (k+1) s.size;simp only;rw[R3 (show yl (s.extract 0 k) by unfold yl;omega),bS];cases o1:iD (bytesOf (s.extract 0 k)) with
  |false=>rw[Bool.not_false,cT];rfl
  |true=>
   rw[Bool.not_true,cF,cF,R3 (show yl (s.extract (k+1) s.size) by unfold yl;omega),bS];cases o2:iD (bytesOf (s.extract (k+1) s.size)) with
   |false=>rw[cF];rfl
   |true=>
    have s1:=wH o1;have s2:=wH o2;have b1:=FR (numOf (bytesOf (s.extract 0 k)));have b2:=FR (numOf (bytesOf (s.extract (k+1) s.size)));rw[←s1] at b1;rw[←s2] at b2;rw[cT];generalize numOf (bytesOf (s.extract 0 k))=n at s1 b1 ⊢;generalize numOf (bytesOf (s.extract (k+1) s.size))=d at s2 b2 ⊢;rw[s1,s2,apl,akr,arL,Mf];by_cases hn:n=0
    ·rw[decide_eq_true hn,Bool.not_true,cF,afg hn];simp
    ·rw[decide_eq_false hn,Bool.not_false,cT,Lk hn,Lt (Ey (k:=1000) (by omega) (by omega)) (akp (by decide)),bS];by_cases hd:2≤d
     ·rw[y7 (by unfold nX;split<;>(try split)<;>omega),ab5 (Ey (k:=1000) (by omega) (by omega)) (Ey (k:=1000) (by omega) (by omega)),bS,Mf,decide_eq_true hd]
      congr 1
      simp only[Bool.not_false,Bool.and_true,Bool.true_and];rw[Bool.eq_iff_iff,decide_eq_true_eq,beq_iff_eq];omega
     ·rw[wF (by rw[ow (by omega)];omega),decide_eq_false hd];simp
theorem ahl (l:List Int):(bH l).length≤l.length:=by
 unfold bH;split
 ·rw[List.length_tail];omega
 ·exact Nat.le_refl _
theorem T4 {s:ByteArray}(hs:s.size≤1000):iI s=some false:=by
 rw[akk (show yl s by unfold yl;omega)];have:=ahl (bytesOf s);rw[bh] at this
 congr 1
 exact decide_eq_false (by omega)
theorem ad5 {s:ByteArray}(hs:s.size≤1000):kl s=some false:=by
 rw[DJ,xE,VQ (by omega),bS];cases hf:fs (bytesOf s) with
 |none=>simp only;have e:(bs [49]).size=1:=rfl;rw[T4 hs,bS,cF,T4 (by rw[e];omega),bS]
 |some k=>have q1:=extract_size s 0 k;have q2:=extract_size s (k+1) s.size;simp only;rw[T4 (by omega),bS,cF,T4 (by omega),bS]
theorem VT {s:ByteArray}(hs:s.size≤1000):fy s=some (yn s):=by rw[B0,vk,ad5 hs,bS,Bool.not_false,cT,amH hs,bS]
theorem Rt.split {s:ByteArray}{n d:Int}(h:Rt s n d)(hs:s.size≤1000):∃b,cQ s=some (ib n,ib d,b):=by
 rw[VQ (by omega)];cases h with
 |whole=>rw[ZM];exact⟨false,by simp only;rw[akr]⟩
 |ab6 hk h1 h2 hn hd hg=>rw[hk];exact⟨true,by simp only[h1,h2]⟩
theorem Rt.aks {s:ByteArray}{n d:Int}(h:Rt s n d):(s.toList==(bs [105,110,102]).toList)=false:=by rw[VK];refine decide_eq_false fun e=> ?_;have h2:=tk.2 ⟨n,d,h⟩;rw[e] at h2;exact absurd h2 (by decide)
theorem ZN {a b:ByteArray}{n d m k:Int}(h:Rt a n d)(g:Rt b m k)(ha:a.size≤1000)(hb:b.size≤1000):bV a b=some (nX (n*k) (m*d)):=by
 obtain⟨a1,a2,a3⟩:=h.bounds ha;obtain⟨b1,b2,b3⟩:=g.bounds hb;obtain⟨x,hx⟩:=h.split ha;obtain⟨y,hy⟩:=g.split hb;have p1:=akj n k;have p2:=akj m d;rw[yK,sD,h.aks,cF,cF,g.aks,cF,hx,bS,hy,bS];simp only;rw[akr,Mf,Mf];have R4:((fz (ib n) (ib k)).bind fun r12=>(fz (ib m) (ib d)).bind fun r13=>(bW r12 r13).bind fun r14=>some r14)=some (nX (n*k) (m*d)):=by rw[Yc (Ey (k:=1000) (by omega) (by omega)) (Ey (k:=1000) (by omega) (by omega)),bS,Yc (Ey (k:=1000) (by omega) (by omega)) (Ey (k:=1000) (by omega) (by omega)),bS,Lt (Ey (k:=3000) (by omega) (by omega)) (Ey (k:=3000) (by omega) (by omega)),bS]
 by_cases h1:d=1
 ·rw[decide_eq_true h1,cT];by_cases h2:k=1
  ·rw[decide_eq_true h2,cT,Lt (Ey (k:=1000) (by omega) (by omega)) (Ey (k:=1000) (by omega) (by omega)),bS,h1,h2,Int.mul_one,Int.mul_one]
  ·rw[decide_eq_false h2,cF];exact R4
 ·rw[decide_eq_false h1,cF];exact R4
end Go.Proofs.YtofjebmoebhiiaaGreatDoor.Ev
namespace Go.Abs
abbrev Tm:=Int×Int×Unit
abbrev Tr2:=Int×(Int×Int×Unit)×Unit
theorem ab7 {α:Type}{a:α}{r:List α}:idx (a::r) 0=some a:=rfl
theorem ahm {α:Type}{a:α}{r:List α}{n:Int}(h:n=((a::r).length:Int)):cut (a::r) 1 n=r:=by subst h;simp[cut]
theorem fE {α:Type}(d:α){l:List α}{k:Nat}(h:k<l.length):l.drop k=l.getD k d::l.drop (k+1):=by rw[List.drop_eq_getElem_cons h];simp[List.getD,h]
theorem akt {α β:Type}(d:α){xs:List α}{i:Int}{f:α→Option β}(h0:0≤i)(h:i<xs.length):(idx xs i).bind f=f (xs.getD i.toNat d):=by rw[afh d h0 h];exact bS _ _
theorem eQ {α β:Type}(d:α){xs:List α}{k:Nat}{f:α→Option β}(h:k<xs.length):(idx xs (k:Int)).bind f=f (xs.getD k d):=by rw[afh d (by omega) (by omega),Int.toNat_natCast];exact bS _ _
def cf:List Tm→Int→Int
 | [],_=>0
 |t::r,i=>if t.1=i then t.2.1 else cf r i
theorem IY (i:Int):cf [] i=0:=rfl
theorem tl (t:Tm)(r:List Tm)(i:Int):cf (t::r) i=if t.1=i then t.2.1 else cf r i:=rfl
def Sr:Int→List Tm→Prop
 |_,[]=>True
 |lo,t::r=>lo<t.1∧Sr t.1 r
theorem Sr.mono {lo lo':Int}{l:List Tm}(h:Sr lo l)(g:lo'≤lo):Sr lo' l:=by
 cases l with
 |nil=>trivial
 |cons t r=>exact⟨by have:=h.1;omega,h.2⟩
theorem Sr.cf0:∀{l:List Tm} {lo i:Int},Sr lo l→i≤lo→cf l i=0
 | [],lo,i,h,hi=>rfl
 |t::r,lo,i,h,hi=>by have h1:=h.1;rw[cf,if_neg (by omega)];exact Sr.cf0 h.2 (by omega)
theorem Sr.mem:∀{l:List Tm} {lo:Int},Sr lo l→∀t∈l,lo<t.1
 |u::r,lo,h,t,ht=>by
  rcases List.mem_cons.1 ht with rfl |ht
  ·exact h.1
  ·have:=Sr.mem h.2 t ht;have:=h.1;omega
structure Vc (p n:Int) (l:List Tm):Prop where
 s:Sr (-1) l
 r:∀t∈l,t.1<n∧1≤t.2.1∧t.2.1<p
def Cp (p:Int)(l:List Tm):Prop:=∀t∈l,1≤t.2.1∧t.2.1<p
theorem Vc.c {p n:Int}{l:List Tm}(h:Vc p n l):Cp p l:=fun t ht=>(h.r t ht).2
theorem Vc.nil {p n:Int}:Vc p n []:=⟨trivial,fun t ht=>by cases ht⟩
theorem Vc.mono {p n m:Int}{l:List Tm}(h:Vc p n l)(g:n≤m):Vc p m l:=⟨h.s,fun t ht=>by have:=h.r t ht;omega⟩
theorem Lu {p:Int}(hp:0<p):∀{l:List Tm},Cp p l→∀i,0≤cf l i∧cf l i<p
 | [],h,i=>⟨by simp[cf],by simpa [cf] using hp⟩
 |t::r,h,i=>by
  have h1:=h t (by simp);have h2:=Lu hp (l:=r) (fun u hu=>h u (by simp[hu])) i;rw[cf];split
  ·omega
  ·exact h2
theorem Gz:∀{l:List Tm} {lo:Int},Sr lo l→∀t∈l,cf l t.1=t.2.1
 |u::r,lo,h,t,ht=>by
  rcases List.mem_cons.1 ht with rfl |ht
  ·rw[cf,if_pos rfl]
  ·have:=Sr.mem h.2 t ht;rw[cf,if_neg (by omega)];exact Gz h.2 t ht
theorem Te:∀{l:List Tm} {i:Int},cf l i≠0→∃t∈l,t.1=i
 | [],i,h=>by simp[cf] at h
 |t::r,i,h=>by
  rw[cf] at h;split at h
  ·rename_i e;exact⟨t,by simp,e⟩
  ·obtain⟨u,hu,e⟩:=Te h;exact⟨u,by simp[hu],e⟩
theorem Sr.ext:∀{a b:List Tm} {lo p:Int},Sr lo a→Sr lo b→Cp p a→Cp p b→(∀i,cf a i=cf b i)→a=b
 | [],[],_,_,_,_,_,_,_=>rfl
 | [],t::r,lo,p,ha,hb,ca,cb,h=>by have:=h t.1;rw[IY,tl,if_pos rfl] at this;have h1:=cb t (by simp);omega
 |t::r,[],lo,p,ha,hb,ca,cb,h=>by have:=h t.1;rw[IY,tl,if_pos rfl] at this;have h1:=ca t (by simp);omega
 |t::r,u::s,lo,p,ha,hb,ca,cb,h=>by
  have h1:=ca t (by simp);have h2:=cb u (by simp);have e:t.1=u.1:=by
   rcases Int.lt_trichotomy t.1 u.1 with hl |hl |hl
   ·have:=h t.1;rw[cf,if_pos rfl,cf,if_neg (by omega),Sr.cf0 hb.2 (by omega)] at this;omega
   ·exact hl
   ·have:=h u.1;rw[cf,if_neg (by omega),Sr.cf0 ha.2 (by omega),cf,if_pos rfl] at this;omega
  have e2:t.2.1=u.2.1:=by have:=h t.1;rw[cf,if_pos rfl,cf,if_pos e.symm] at this;exact this
  have e3:r=s:=by
   refine Sr.ext (lo:=t.1) ha.2 (by rw[e];exact hb.2) (fun x hx=>ca x (by simp[hx])) (fun x hx=>cb x (by simp[hx])) fun i=> ?_;have:=h i;rw[cf,cf] at this;by_cases hi:t.1=i
   ·rw[Sr.cf0 ha.2 (by omega),Sr.cf0 hb.2 (by omega)]
   ·rw[if_neg hi,if_neg (by omega)] at this;exact this
  obtain⟨t1,t2,t3⟩:=t;obtain⟨u1,u2,u3⟩:=u;simp only at e e2;subst e e2 e3;rfl
def mg:List Tm→List Tm→List Tr2
 | [],[]=>[]
 |a::r,[]=>(a.1,((a.2.1,((0:Int),())),()))::mg r []
 | [],b::s=>(b.1,(((0:Int),(b.2.1,())),()))::mg [] s
 |a::r,b::s=>if a.1<b.1 then (a.1,((a.2.1,((0:Int),())),()))::mg r (b::s)
  else if b.1<a.1 then (b.1,(((0:Int),(b.2.1,())),()))::mg (a::r) s
  else (a.1,((a.2.1,(b.2.1,())),()))::mg r s
termination_by a b=>a.length+b.length
def fl (p k:Int):List Tr2→List Tm
 | []=>[]
 |x::r=>if (x.2.1.1+k*x.2.1.2.1) % p≠0 then (x.1,((x.2.1.1+k*x.2.1.2.1) % p,()))::fl p k r else fl p k r
def tv (p:Int)(a:List Tm)(k:Int)(b:List Tm):List Tm:=fl p k (mg a b)
theorem Qy {p k:Int}{x:Tr2}{r:List Tr2}{lo:Int}(hlo:lo<x.1)(hr:Sr x.1 (fl p k r)):
  Sr lo (fl p k (x::r))∧∀i,cf (fl p k (x::r)) i=if x.1=i then (x.2.1.1+k*x.2.1.2.1) % p else cf (fl p k r) i:=by
 rw[fl];split
 ·exact⟨⟨hlo,hr⟩,fun i=>by rw[cf]⟩
 ·rename_i h;refine⟨hr.mono (by omega),fun i=> ?_⟩;split
  ·rename_i e;rw[Sr.cf0 hr (by omega)];omega
  ·rfl
theorem amI {p k:Int}(hp:0<p):∀(a b:List Tm) (lo:Int),Sr lo a→Sr lo b→Cp p a→
  Sr lo (tv p a k b)∧∀i,cf (tv p a k b) i=(cf a i+k*cf b i) % p:=by
 intro a b;induction a,b using mg.induct with
 |case1=>intro lo ha hb ca;exact⟨by unfold tv;rw[mg];trivial,fun i=>by simp[tv,mg,fl,cf]⟩
 |case2 a r ih=>intro lo ha hb ca;obtain⟨h1,h2⟩:=ih a.1 ha.2 trivial fun t ht=>ca t (by simp[ht]);unfold tv at h1 h2 ⊢;rw[mg];obtain⟨g1,g2⟩:=Qy (p:=p) (k:=k) (x:=(a.1,((a.2.1,((0:Int),())),()))) (lo:=lo) ha.1 h1;refine⟨g1,fun i=> ?_⟩;rw[g2,h2,cf];simp only[cf,Int.mul_zero,Int.add_zero];split<;>rfl
 |case3 b s ih=>intro lo ha hb ca;obtain⟨h1,h2⟩:=ih b.1 trivial hb.2 fun t ht=>ca t ht;unfold tv at h1 h2 ⊢;rw[mg];obtain⟨g1,g2⟩:=Qy (p:=p) (k:=k) (x:=(b.1,(((0:Int),(b.2.1,())),()))) (lo:=lo) hb.1 h1;refine⟨g1,fun i=> ?_⟩;rw[g2,h2];simp only[cf,Int.zero_add];split<;>rfl
 |case4 a r b s hlt ih=>
  intro lo ha hb ca;obtain⟨h1,h2⟩:=ih a.1 ha.2 ⟨hlt,hb.2⟩ fun t ht=>ca t (by simp[ht]);unfold tv at h1 h2 ⊢;rw[mg,if_pos hlt];obtain⟨g1,g2⟩:=Qy (p:=p) (k:=k) (x:=(a.1,((a.2.1,((0:Int),())),()))) (lo:=lo) ha.1 h1;refine⟨g1,fun i=> ?_⟩;rw[g2,h2,tl a r i];simp only[Int.mul_zero,Int.add_zero];split
  ·rename_i e;rw[Sr.cf0 (lo:=a.1) (l:=b::s) ⟨hlt,hb.2⟩ (by omega),Int.mul_zero,Int.add_zero]
  ·rfl
 |case5 a r b s hlt hgt ih=>
  intro lo ha hb ca;obtain⟨h1,h2⟩:=ih b.1 ⟨hgt,ha.2⟩ hb.2 ca;unfold tv at h1 h2 ⊢;rw[mg,if_neg hlt,if_pos hgt];obtain⟨g1,g2⟩:=Qy (p:=p) (k:=k) (x:=(b.1,(((0:Int),(b.2.1,())),()))) (lo:=lo) hb.1 h1;refine⟨g1,fun i=> ?_⟩;rw[g2,h2,tl b s i];simp only[Int.zero_add];split
  ·rename_i e;rw[Sr.cf0 (lo:=b.1) (l:=a::r) ⟨hgt,ha.2⟩ (by omega),Int.zero_add]
  ·rfl
 |case6 a r b s hlt hgt ih=>
  intro lo ha hb ca;have e:a.1=b.1:=by omega
  obtain⟨h1,h2⟩:=ih a.1 ha.2 (by rw[e];exact hb.2) fun t ht=>ca t (by simp[ht]);unfold tv at h1 h2 ⊢;rw[mg,if_neg hlt,if_neg hgt];obtain⟨g1,g2⟩:=Qy (p:=p) (k:=k) (x:=(a.1,((a.2.1,(b.2.1,())),()))) (lo:=lo) ha.1 h1;refine⟨g1,fun i=> ?_⟩;rw[g2,h2,cf,cf, ←e];split<;>rfl
theorem ad6 {p k:Int}(hp:0<p):∀{l:List Tr2} {t:Tm},t∈fl p k l→(1≤t.2.1∧t.2.1<p)∧∃x∈l,x.1=t.1
 |x::r,t,h=>by
  rw[fl] at h;split at h
  ·rename_i hne;rcases List.mem_cons.1 h with rfl |h
   ·have h1:=Int.emod_nonneg (x.2.1.1+k*x.2.1.2.1) (show p≠0 by omega);have h2:=Int.emod_lt_of_pos (x.2.1.1+k*x.2.1.2.1) hp;exact⟨⟨by simp only;omega,h2⟩,x,by simp,rfl⟩
   ·obtain⟨h1,y,hy,e⟩:=ad6 hp h;exact⟨h1,y,by simp[hy],e⟩
  ·obtain⟨h1,y,hy,e⟩:=ad6 hp h;exact⟨h1,y,by simp[hy],e⟩
theorem apm:∀(a b:List Tm) (x:Tr2),x∈mg a b→(∃t∈a,t.1=x.1)∨∃t∈b,t.1=x.1:=by
 intro a b;induction a,b using mg.induct with
 |case1=>intro x h;rw[mg] at h;cases h
 |case2 a r ih=>
  intro x h;rw[mg] at h;rcases List.mem_cons.1 h with rfl |h
  ·exact .inl ⟨a,by simp,rfl⟩
  ·rcases ih x h with ⟨t,ht,e⟩ | ⟨t,ht,e⟩
   ·exact .inl ⟨t,by simp[ht],e⟩
   ·exact .inr ⟨t,ht,e⟩
 |case3 b s ih=>
  intro x h;rw[mg] at h;rcases List.mem_cons.1 h with rfl |h
  ·exact .inr ⟨b,by simp,rfl⟩
  ·rcases ih x h with ⟨t,ht,e⟩ | ⟨t,ht,e⟩
   ·exact .inl ⟨t,ht,e⟩
   ·exact .inr ⟨t,by simp[ht],e⟩
 |case4 a r b s hlt ih=>
  intro x h;rw[mg,if_pos hlt] at h;rcases List.mem_cons.1 h with rfl |h
  ·exact .inl ⟨a,by simp,rfl⟩
  ·rcases ih x h with ⟨t,ht,e⟩ | ⟨t,ht,e⟩
   ·exact .inl ⟨t,by simp[ht],e⟩
   ·exact .inr ⟨t,ht,e⟩
 |case5 a r b s hlt hgt ih=>
  intro x h;rw[mg,if_neg hlt,if_pos hgt] at h;rcases List.mem_cons.1 h with rfl |h
  ·exact .inr ⟨b,by simp,rfl⟩
  ·rcases ih x h with ⟨t,ht,e⟩ | ⟨t,ht,e⟩
   ·exact .inl ⟨t,ht,e⟩
   ·exact .inr ⟨t,by simp[ht],e⟩
 |case6 a r b s hlt hgt ih=>
  intro x h;rw[mg,if_neg hlt,if_neg hgt] at h;rcases List.mem_cons.1 h with rfl |h
  ·exact .inl ⟨a,by simp,rfl⟩
  ·rcases ih x h with ⟨t,ht,e⟩ | ⟨t,ht,e⟩
   ·exact .inl ⟨t,by simp[ht],e⟩
   ·exact .inr ⟨t,by simp[ht],e⟩
theorem FU {p k n:Int}(hp:0<p){a b:List Tm}(ha:Vc p n a)(hb:Vc p n b):Vc p n (tv p a k b)∧∀i,cf (tv p a k b) i=(cf a i+k*cf b i) % p:=by
 obtain⟨h1,h2⟩:=amI (k:=k) hp a b (-1) ha.s hb.s ha.c;refine⟨⟨h1,fun t ht=> ?_⟩,h2⟩;obtain⟨g1,x,hx,e⟩:=ad6 hp ht;refine⟨?_,g1⟩;rcases apm a b x hx with ⟨u,hu,e'⟩ | ⟨u,hu,e'⟩
 ·have:=(ha.r u hu).1;omega
 ·have:=(hb.r u hu).1;omega
end Go.Abs
namespace Go.Proofs.YtofjebmoebhiiaaGreatDoor.Ev
open Go.Abs Go.IntWalk
theorem HC {α:Type}(a:α)(r:List α):(((a::r).length:Nat):Int)=(r.length:Int)+1:=by simp
theorem ab8:∀(t t2:List Tm) (trace:List Tr2),dQ t t2 trace=some (trace++mg t t2):=by
 intro t t2;induction t,t2 using mg.induct with
 |case1=>intro trace;rw[eI,dK,List.length_nil,dA (by omega),dA (by omega),mg,List.append_nil]
 |case2 a r ih=>intro trace;rw[eI,dK,List.length_nil,HC];rw[da (by omega),iZ (by omega),ab7,bS,bS,Gy (by omega) (by omega) (Int.le_of_eq (HC _ _).symm),ahm (HC _ _).symm,ih,mg,List.append_assoc];rfl
 |case3 b s ih=>intro trace;rw[eI,dK,List.length_nil,HC];rw[dA (by omega),da (by omega),ft (by omega),dA (by omega),iZ (by omega),ab7,bS,bS,Gy (by omega) (by omega) (Int.le_of_eq (HC _ _).symm),ahm (HC _ _).symm,ih,mg,List.append_assoc];rfl
 |case4 a r b s hlt ih=>intro trace;rw[eI,dK,HC,HC];rw[da (by omega),ft (by omega),da (by omega),ab7,bS,ab7,bS,au hlt,bS,bS,Gy (by omega) (by omega) (Int.le_of_eq (HC _ _).symm),ahm (HC _ _).symm,ih,mg,if_pos hlt,List.append_assoc];rfl
 |case5 a r b s hlt hgt ih=>intro trace;rw[eI,dK,HC,HC];rw[da (by omega),ft (by omega),da (by omega),ab7,bS,ab7,bS,al hlt,ft (by omega),bS,bS,au hgt,bS,bS,Gy (by omega) (by omega) (Int.le_of_eq (HC _ _).symm),ahm (HC _ _).symm,ih,mg,if_neg hlt,if_pos hgt,List.append_assoc];rfl
 |case6 a r b s hlt hgt ih=>intro trace;rw[eI,dK,HC,HC];rw[da (by omega),ft (by omega),da (by omega),ab7,bS,ab7,bS,al hlt,ft (by omega),bS,bS,al hgt,bS,bS,bS,Gy (by omega) (by omega) (Int.le_of_eq (HC _ _).symm),Gy (by omega) (by omega) (Int.le_of_eq (HC _ _).symm),ahm (HC _ _).symm,ahm (HC _ _).symm,ih,mg,if_neg hlt,if_neg hgt,List.append_assoc];rfl
theorem R7 {p k:Int}(hp:0<p∧p≤251)(hk:0≤k∧k<p):∀(rest:List Tr2) (row:List Tm),(∀x∈rest,(0≤x.2.1.1∧x.2.1.1<p)∧0≤x.2.1.2.1∧x.2.1.2.1<p)→row.length+rest.length≤1000000000→
  iq row p k rest=some (row++fl p k rest)
 | [],row,h,hl=>by rw[xj,tg,fl,List.append_nil]
 |x::r,row,h,hl=>by
  obtain⟨⟨h1,h2⟩,h3,h4⟩:=h x (by simp);have hm:0≤k*x.2.1.2.1∧k*x.2.1.2.1≤251*251:=⟨Int.mul_nonneg (by omega) (by omega),Int.mul_le_mul (by omega) (by omega) (by omega) (by omega)⟩
  rw[xj,tg];simp only;rw[i64_in (k*x.2.1.2.1) (by omega),i64_in _ (by omega),kg (by omega),bD (by omega),fl];by_cases hz:(x.2.1.1+k*x.2.1.2.1) % p=0
  ·rw[pd hz,if_neg (by omega)];exact R7 hp hk r row (fun y hy=>h y (by simp[hy])) (by simp at hl;omega)
  ·rw[Hw hz,if_pos hz,iG (by omega) (by simp at hl;omega),R7 hp hk r _ (fun y hy=>h y (by simp[hy])) (by simp at hl ⊢;omega),List.append_assoc];rfl
theorem aku {p:Int}(hp:0<p):∀(a b:List Tm),Cp p a→Cp p b→∀x∈mg a b,(0≤x.2.1.1∧x.2.1.1<p)∧0≤x.2.1.2.1∧x.2.1.2.1<p:=by
 intro a b;induction a,b using mg.induct with
 |case1=>intro ha hb x h;rw[mg] at h;cases h
 |case2 a r ih=>
  intro ha hb x h;rw[mg] at h;rcases List.mem_cons.1 h with rfl |h
  ·have:=ha a (by simp);simp only;omega
  ·exact ih (fun t ht=>ha t (by simp[ht])) hb x h
 |case3 b s ih=>
  intro ha hb x h;rw[mg] at h;rcases List.mem_cons.1 h with rfl |h
  ·have:=hb b (by simp);simp only;omega
  ·exact ih ha (fun t ht=>hb t (by simp[ht])) x h
 |case4 a r b s hlt ih=>
  intro ha hb x h;rw[mg,if_pos hlt] at h;rcases List.mem_cons.1 h with rfl |h
  ·have:=ha a (by simp);simp only;omega
  ·exact ih (fun t ht=>ha t (by simp[ht])) hb x h
 |case5 a r b s hlt hgt ih=>
  intro ha hb x h;rw[mg,if_neg hlt,if_pos hgt] at h;rcases List.mem_cons.1 h with rfl |h
  ·have:=hb b (by simp);simp only;omega
  ·exact ih ha (fun t ht=>hb t (by simp[ht])) x h
 |case6 a r b s hlt hgt ih=>
  intro ha hb x h;rw[mg,if_neg hlt,if_neg hgt] at h;rcases List.mem_cons.1 h with rfl |h
  ·have h1:=ha a (by simp);have h2:=hb b (by simp);simp only;omega
  ·exact ih (fun t ht=>ha t (by simp[ht])) (fun t ht=>hb t (by simp[ht])) x h
theorem ahn:∀(a b:List Tm),(mg a b).length≤a.length+b.length:=by
 intro a b;induction a,b using mg.induct with
 |case1=>rw[mg];simp
 |case2 a r ih=>rw[mg];simp only[List.length_cons] at ih ⊢;omega
 |case3 b s ih=>rw[mg];simp only[List.length_cons] at ih ⊢;omega
 |case4 a r b s hlt ih=>rw[mg,if_pos hlt];simp only[List.length_cons] at ih ⊢;omega
 |case5 a r b s hlt hgt ih=>rw[mg,if_neg hlt,if_pos hgt];simp only[List.length_cons] at ih ⊢;omega
 |case6 a r b s hlt hgt ih=>rw[mg,if_neg hlt,if_neg hgt];simp only[List.length_cons] at ih ⊢;omega
theorem VV {p k:Int}(hp:0<p∧p≤251)(hk:0≤k∧k<p){a b:List Tm}(ha:Cp p a)(hb:Cp p b)(hl:a.length+b.length≤1000000000):si p a k b=some (tv p a k b):=by rw[KE,F8,GU,Bq,bS,Dk,xk,ab8,bS];have:=ahn a b;rw[List.nil_append,R7 hp hk _ _ (aku hp.1 a b ha hb) (by simp;omega)];rfl
def ob:Option Int→Int→Bool
 |none,_=>false
 |some q,x=>decide (x≤q)
def Tf (p:Int):Option Int→List Tm→Int
 |_,[]=>0
 |q,t::r=>if t.1<0∨t.1≥1024∨t.2.1<1∨t.2.1≥p then 1 else if ob q t.1=true then 6 else Tf p (some t.1) r
abbrev wM:Tm:=(0,(0,()))
def prev (c:List Tm):Nat→Option Int
 |0=>none
 |i+1=>some (c.getD i wM).1
theorem ab9 {p:Int}{c:List Tm}(hl:c.length≤1000000000):∀(m i:Nat),m+i=c.length→gu p c c (c.length:Int) i=some (Tf p (prev c i) (c.drop i)):=by
 intro m;induction m with
 |zero=>intro i hi;rw[u9,rM,al (by omega),List.drop_eq_nil_of_le (by omega)];rfl
 |succ m ih=>
  intro i hi;rw[u9,rM,au (by omega),eQ wM (by omega),fE wM (by omega),Tf];have e1:IntKind.wrap .i64 ((i:Int)+1)=((i+1:Nat):Int):=by rw[i64_in _ (by omega)];omega
  have wL:=ih (i+1) (by omega);have ep:prev c (i+1)=some (c.getD i wM).1:=rfl;rw[ep] at wL;generalize c.getD i wM=t at wL ⊢;by_cases h1:t.1<0
  ·rw[au h1,if_pos (.inl h1)]
  ·rw[al h1];by_cases h2:t.1≥1024
   ·rw[y7 h2,if_pos (.inr (.inl h2))]
   ·rw[wF h2];by_cases h3:t.2.1<1
    ·rw[au h3,if_pos (.inr (.inr (.inl h3)))]
    ·rw[al h3];by_cases h4:t.2.1≥p
     ·rw[y7 h4,if_pos (.inr (.inr (.inr h4)))]
     ·rw[wF h4,if_neg (by omega),e1,wL];cases i with
      |zero=>rw[dA (by omega),if_neg (by intro h;cases h)]
      |succ j=>
       have e2:IntKind.wrap .i64 (((j+1:Nat):Int) - 1)=(j:Int):=by rw[i64_in _ (by omega)];omega
       rw[da (by omega),e2,eQ wM (by omega)];by_cases h5:t.1≤(c.getD j wM).1
       ·rw[Ll h5,if_pos (show ob (prev c (j+1)) t.1=true from decide_eq_true h5)]
       ·rw[Qp h5,if_neg (by intro h;exact h5 (of_decide_eq_true h))]
def aca (p:Int)(c:List Tm):Int:=Tf p none c
theorem acb {p:Int}:∀{c:List Tm} {q:Option Int},Tf p q c=0→(∀t∈c,0≤t.1∧t.1<1024∧1≤t.2.1∧t.2.1<p)∧Sr (q.getD (-1)) c
 | [],q,h=>⟨fun t ht=>(by cases ht),trivial⟩
 |t::r,q,h=>by
  rw[Tf] at h;split at h
  ·cases h
  ·rename_i h1;split at h
   ·cases h
   ·rename_i h2;obtain⟨g1,g2⟩:=acb h;refine⟨fun u hu=> ?_, ?_,g2⟩
    ·rcases List.mem_cons.1 hu with rfl |hu
     ·omega
     ·exact g1 u hu
    ·cases q with
     |none=>simp only[Option.getD_none];omega
     |some q=>simp only[Option.getD_some];have:¬t.1≤q:=fun g=>h2 (decide_eq_true g);omega
theorem acd {p:Int}:∀{c:List Tm} {q:Option Int},(∀t∈c,0≤t.1∧t.1<1024∧1≤t.2.1∧t.2.1<p)→Sr (q.getD (-1)) c→Tf p q c=0
 | [],q,h,g=>rfl
 |t::r,q,h,g=>by
  have h1:=h t (by simp);have h2:=g.1;rw[Tf,if_neg (by omega),if_neg (by
   cases q with
   |none=>intro h;cases h
   |some q=>simp only[Option.getD_some] at h2;intro h;have:=of_decide_eq_true h;omega)]
  exact acd (q:=some t.1) (fun u hu=>h u (by simp[hu])) g.2
theorem Lv {p:Int}{c:List Tm}:aca p c=0↔Vc p 1024 c:=by
 constructor
 ·intro h;obtain⟨g1,g2⟩:=acb h;exact⟨g2,fun t ht=>by have:=g1 t ht;omega⟩
 ·intro h;refine acd (fun t ht=> ?_) h.s;have h1:=h.r t ht;have h2:=Sr.mem h.s t ht;omega
def prB (p:Nat):Bool:=Nat.ble 2 p&&Nat.ble p 251&&(List.range 14).all fun d=> !(p % (d+2)==0)||p==d+2
def Pr (p:Int):Prop:=2≤p∧p≤251∧prB p.toNat=true
instance (p:Int):Decidable (Pr p):=by unfold Pr;infer_instance
theorem afv {α:Type}{f g:Nat→α}{n:Nat}(h:(List.range n).map f=(List.range n).map g){i:Nat}(hi:i<n):f i=g i:=by have:=congrArg (fun l=>l[i]?) h;simpa [hi] using this
theorem ace:(List.range 250).map (fun i=>xV 400 ((i+2:Nat):Int))=(List.range 250).map fun i=>some (prB (i+2)):=by kernel_rfl
theorem ZO:(List.range 250).map (fun i=>vF 400 ((i+2:Nat):Int))=(List.range 250).map fun i=>some (prB (i+2)):=by kernel_rfl
theorem akv {i:Nat}(hi:i<250):decide (Pr ((i+2:Nat):Int))=prB (i+2):=by rw[Bool.eq_iff_iff,decide_eq_true_eq];unfold Pr;rw[Int.toNat_natCast];exact⟨fun h=>h.2.2,fun h=>⟨by omega,by omega,h⟩⟩
theorem ad7 {p:Int}(hp:p≤1∨251<p):∀(m t:Nat),m+t=16→jy p t=some false:=by
 intro m;induction m with
 |zero=>
  intro t ht;rw[zr,uQ,al (by omega)];rcases hp with h |h
  ·rw[dA (by omega)]
  ·rw[da (by omega),ajY (by omega)]
 |succ m ih=>
  intro t ht;have e1:IntKind.wrap .i64 ((t:Int)+1)=((t+1:Nat):Int):=by rw[i64_in _ (by omega)];omega
  rw[zr,uQ,au (by omega),e1,ih (t+1) (by omega)];by_cases h:(t:Int)>1
  ·rw[da h,kg (by omega)];cases (p.tmod t==0)<;>cases (p != (t:Int))<;>rfl
  ·rw[dA h]
theorem Ap (p:Int):ln p=some (decide (Pr p)):=by
 by_cases h:2≤p∧p≤251
 ·obtain⟨i,hi⟩:=Int.eq_ofNat_of_zero_le (show 0≤p - 2 by omega);have e:p=((i+2:Nat):Int):=by omega
  subst e;have:=afv ace (show i<250 by omega);rw[Ai] at this;rw[this,akv (by omega)]
 ·have hf:decide (Pr p)=false:=decide_eq_false fun g=>h ⟨g.1,g.2.1⟩;rw[Ns,Ix,hf];exact ad7 (by omega) 16 0 rfl
theorem aho (p:Int):gL p=some (decide (Pr p)):=by
 by_cases h:2≤p∧p≤251
 ·obtain⟨i,hi⟩:=Int.eq_ofNat_of_zero_le (show 0≤p - 2 by omega);have e:p=((i+2:Nat):Int):=by omega
  subst e;have:=afv ZO (show i<250 by omega);rw[Ci] at this;rw[this,akv (by omega)]
 ·have hf:decide (Pr p)=false:=decide_eq_false fun g=>h ⟨g.1,g.2.1⟩;rw[Cf,vE,hf,xS,rz];by_cases h1:2<p
  ·rw[au h1,Qp (by omega),y7 (by omega),ajY (by omega)]
  ·rw[al h1,wF (by omega)]
theorem ZP {p a:Int}(hp:2≤p∧p≤251):ee p a=some (a % p):=by
 have h1:=Int.tmod_lt_of_pos a (show 0<p by omega);have h2:=Int.lt_tmod_of_pos a (show 0<p by omega);rw[Dl,xl,kg (by omega),kg (by omega),i64_in _ (by omega),bD (by omega),Int.add_emod_right]
 congr 1
 rw[Int.tmod_def,Int.sub_mul_emod_self_left]
theorem Lw {p:Int}(hp:Pr p)(a:Int):aaa p a=some (a % p):=by rw[SO,N9,Oa,L9,Ap,bS,decide_eq_true hp,Bool.not_true,cF,bS,pd rfl,ZP ⟨hp.1,hp.2.1⟩,bS]
def iv (p a:Int):Int:=((a.toNat^(p.toNat - 2) % p.toNat:Nat):Int)
theorem ad8 {f:Nat}(hf:2≤f∧f≤251):∀(n o b:Nat),o<f→b<f→n≤1000→dp f n o b=some ((o*b^n % f:Nat):Int):=by
 intro n;induction n using Nat.strongRecOn with
 |ind n ih=>
  intro o b ho hb hn;rw[xm,qI];by_cases h0:n=0
  ·subst h0;rw[dA (by omega),Nat.pow_zero,Nat.mul_one,Nat.mod_eq_of_lt ho]
  ·have e1:((n:Int).tmod 2)=((n % 2:Nat):Int):=by rw[bD (by omega),Int.natCast_emod];rfl
   have e2:IntKind.wrap .i64 ((n:Int).tdiv 2)=((n / 2:Nat):Int):=by rw[ns (by omega),i64_in _ (by omega)];omega
   have bb:b*b≤251*251:=Nat.mul_le_mul (by omega) (by omega);have ob:o*b≤251*251:=Nat.mul_le_mul (by omega) (by omega);have c1:((b:Int)*(b:Int))=((b*b:Nat):Int):=by rw[Int.natCast_mul]
   have c2:((o:Int)*(b:Int))=((o*b:Nat):Int):=by rw[Int.natCast_mul]
   have e3:(IntKind.wrap .i64 ((b:Int)*(b:Int))).tmod (f:Int)=((b*b % f:Nat):Int):=by rw[c1,i64_in _ (by omega),bD (by omega),Int.natCast_emod]
   have e4:(IntKind.wrap .i64 ((o:Int)*(b:Int))).tmod (f:Int)=((o*b % f:Nat):Int):=by rw[c2,i64_in _ (by omega),bD (by omega),Int.natCast_emod]
   have hpw:(b*b)^(n / 2)=b^(2*(n / 2)):=by rw[Nat.pow_mul,Nat.pow_two]
   rw[da (by omega),e1,e2,e3,e4];by_cases h1:n % 2=1
   ·rw[h1,iZ (by rfl),kg (by omega),kg (by omega),ih (n / 2) (by omega) _ _ (Nat.mod_lt _ (by omega)) (Nat.mod_lt _ (by omega)) (by omega)]
    congr 2
    rw[Nat.mul_mod,Nat.mod_mod, ←Nat.pow_mod, ←Nat.mul_mod,hpw,Nat.mul_assoc, ←Nat.pow_succ'];have:(2*(n / 2)).succ=n:=by omega
    rw[this]
   ·have h2:n % 2=0:=by omega
    rw[h2,ft (by omega),kg (by omega),ih (n / 2) (by omega) _ _ ho (Nat.mod_lt _ (by omega)) (by omega)]
    congr 2
    rw[Nat.mul_mod, ←Nat.pow_mod, ←Nat.mul_mod,hpw];have:2*(n / 2)=n:=by omega
    rw[this]
theorem akw:((List.range 252).all fun p=> !(prB p)||(List.range p).all fun a=>a==0||a*(a^(p - 2) % p) % p==1)=true:=by kernel_rfl
theorem OX {p a:Int}(hp:Pr p)(ha:1≤a∧a<p):a*iv p a % p=1:=by
 obtain⟨h1,h2,h3⟩:=hp;have h:=List.all_eq_true.1 akw p.toNat (List.mem_range.2 (by omega))
 rw[h3,Bool.not_true,Bool.false_or] at h;have h:=List.all_eq_true.1 h a.toNat (List.mem_range.2 (by omega))
 rw[Bool.or_eq_true] at h;rcases h with h |h
 ·have:=beq_iff_eq.1 h;omega
 ·have h:=beq_iff_eq.1 h;unfold iv;have e1:(a.toNat:Int)=a:=by omega
  have e2:(p.toNat:Int)=p:=by omega
  have h':((a.toNat*(a.toNat^(p.toNat - 2) % p.toNat) % p.toNat:Nat):Int)=1:=by rw[h];rfl
  rw[Int.natCast_emod,Int.natCast_mul,e1,e2] at h';exact h'
theorem Lx {p a:Int}(hp:Pr p)(ha:1≤a∧a<p):1≤iv p a∧iv p a<p:=by
 have h:=OX hp ha;obtain⟨h1,h2,h3⟩:=hp;have h4:iv p a<p:=by unfold iv;have:=Nat.mod_lt (a.toNat^(p.toNat - 2)) (show 0<p.toNat by omega);omega
 have h5:0≤iv p a:=by unfold iv;omega
 refine⟨?_,h4⟩;by_cases h0:iv p a=0
 ·rw[h0,Int.mul_zero,Int.zero_emod] at h;omega
 ·omega
theorem Tg {p a:Int}(hp:Pr p)(ha:1≤a∧a<p):wZ p a=some (iv p a,0):=by
 obtain⟨h1,h2,h3⟩:=hp;have hm:a % p=a:=Int.emod_eq_of_lt (by omega) ha.2;rw[SN,N8,Oa,L9,Ap,bS,decide_eq_true ⟨h1,h2,h3⟩,Bool.not_true,cF,bS,pd rfl,ZP ⟨h1,h2⟩,bS,hm,ft (by omega),yE,sq,BR,va,ZP ⟨h1,h2⟩,bS,hm];obtain⟨q,hq⟩:=Int.eq_ofNat_of_zero_le (show 0≤p by omega);obtain⟨b,hb⟩:=Int.eq_ofNat_of_zero_le (show 0≤a by omega);subst hq hb;have e:IntKind.wrap .i64 ((q:Int) - 2)=((q - 2:Nat):Int):=by rw[i64_in _ (by omega)];omega
 have:=ad8 (f:=q) (by omega) (q - 2) 1 b (by omega) (by omega) (by omega);rw[Nat.one_mul] at this;have e1:((1:Nat):Int)=1:=rfl;rw[e1] at this;rw[e,this,bS,bS];unfold iv;rw[Int.toNat_natCast,Int.toNat_natCast]
theorem ZQ {p a:Int}(hp:2≤p∧p≤251)(ha:1≤a∧a<p){w:Int}(hw:1≤w∧w<p)(hm:a*w % p=1)(hu:∀b,1≤b→b<p→a*b % p=1→b=w):∀(m:Nat) (b:Int),1≤b→b≤w→w - b=m→eH p a b=some w:=by
 intro m;induction m with
 |zero=>
  intro b h1 h2 h3;have:b=w:=by omega
  subst this;have hb:0≤a*b∧a*b≤251*251:=⟨Int.mul_nonneg (by omega) (by omega),Int.mul_le_mul (by omega) (by omega) (by omega) (by omega)⟩
  rw[uE,o5,au (by omega),kg (by omega),i64_in _ (by omega),bD (by omega),iZ hm]
 |succ m ih=>
  intro b h1 h2 h3;have hb:0≤a*b∧a*b≤251*251:=⟨Int.mul_nonneg (by omega) (by omega),Int.mul_le_mul (by omega) (by omega) (by omega) (by omega)⟩
  rw[uE,o5,au (by omega),kg (by omega),i64_in (a*b) (by omega),bD (by omega),ft (fun e=>by have:=hu b h1 (by omega) e;omega),i64_in _ (by omega)];exact ih (b+1) (by omega) (by omega) (by omega)
theorem ahp {p a b w:Int}(hp:2≤p)(hb:0≤b∧b<p)(hw:0≤w∧w<p)(h1:a*b % p=1)(h2:a*w % p=1):b=w:=by
 have e1:b*(a*w) % p=b:=by rw[Int.mul_emod,h2,Int.mul_one,Int.emod_emod_of_dvd _ (Int.dvd_refl p),Int.emod_eq_of_lt hb.1 hb.2]
 have e2:w*(a*b) % p=w:=by rw[Int.mul_emod,h1,Int.mul_one,Int.emod_emod_of_dvd _ (Int.dvd_refl p),Int.emod_eq_of_lt hw.1 hw.2]
 have e3:b*(a*w)=w*(a*b):=by rw[←Int.mul_assoc,Int.mul_comm b a,Int.mul_assoc,Int.mul_comm b w, ←Int.mul_assoc,Int.mul_comm a w,Int.mul_assoc]
 rw[←e1,e3,e2]
theorem VW {p a:Int}(hp:Pr p)(ha:1≤a∧a<p):gC p a=some (iv p a):=by have hr:=Lx hp ha;rw[JM,AU];refine ZQ ⟨hp.1,hp.2.1⟩ ha hr (OX hp ha) (fun b h1 h2 h3=>ahp hp.1 (by omega) (by omega) h3 (OX hp ha)) (iv p a - 1).toNat 1 (by omega) (by omega) (by omega)
theorem BI {p:Int}(hp:Pr p){c:List Tm}(hl:c.length≤1000000000):ku p c=some (aca p c):=by rw[Jf,Di,Ap,bS,decide_eq_true hp,Bool.not_true,cF];exact ab9 hl c.length 0 (by omega)
theorem GA {p k:Int}(hp:Pr p){a b:List Tm}(ha:Vc p 1024 a)(hb:Vc p 1024 b)(hla:a.length≤100000000)(hlb:b.length≤100000000):jg p a k b=some (tv p a (k % p) b,0):=by have h0:∀{x y:List Tm},([x,y]:List (List Tm)).length=2:=rfl;rw[Nr,Iw,Dj,xi,h0,lS,jV,au (by omega)];have i0:idx ([a,b]:List (List Tm)) 0=some a:=rfl;have i1:idx ([a,b]:List (List Tm)) 1=some b:=rfl;have w1:IntKind.wrap .i64 ((0:Int)+1)=1:=rfl;have w2:IntKind.wrap .i64 ((1:Int)+1)=2:=rfl;rw[i0,bS,BI hp (by omega),bS,Lv.2 ha,pd rfl,w1,lS,jV,au (by omega),i1,bS,BI hp (by omega),bS,Lv.2 hb,pd rfl,w2,lS,jV,al (by omega),bS,pd rfl,Lw hp,bS];have h1:=Int.emod_nonneg k (show p≠0 by have:=hp.1;omega);have h2:=Int.emod_lt_of_pos k (show 0<p by have:=hp.1;omega);rw[VV ⟨by have:=hp.1;omega,hp.2.1⟩ ⟨h1,h2⟩ ha.c hb.c (by omega),bS]
theorem ZR {c:List Tm}(hl:c.length≤1000000000):jf c=some (match c.getLast? with |some t=>(t.1,true) |none=>(0,false)):=by
 rw[Nq,Iv];by_cases h:c=[]
 ·subst h;rw[List.length_nil,iZ (by rfl)];rfl
 ·have hn:c.length≠0:=fun e=>h (List.length_eq_zero_iff.1 e);have e:IntKind.wrap .i64 ((c.length:Int) - 1)=((c.length - 1:Nat):Int):=by rw[i64_in _ (by omega)];omega
  rw[ft (by omega)];simp only[e];rw[eQ wM (by omega),List.getLast?_eq_getElem?];have:c[c.length - 1]? =some (c.getD (c.length - 1) wM):=by simp[List.getD,show c.length - 1<c.length by omega]
  rw[this]
end Go.Proofs.YtofjebmoebhiiaaGreatDoor.Ev
namespace Go.Abs
abbrev Cl:=Int×ByteArray×List Tm×Unit
abbrev iF:Cl:=(0,(ByteArray.empty,([],())))
theorem db {l:List Int}{k j:Nat}{v:Int}:(l.set k v).getD j 0=if k=j∧k<l.length then v else l.getD j 0:=by
 simp only[List.getD,List.getElem?_set];by_cases h:k=j
 ·subst h;by_cases hk:k<l.length
  ·simp[hk]
  ·simp[hk]
 ·simp[h]
theorem Qz (n j:Nat):(List.replicate n (0:Int)).getD j 0=0:=by simp only[List.getD,List.getElem?_replicate];split<;>rfl
structure Vr (n:Nat) (l:List Tm) (v:List Int):Prop where
 len:v.length=n
 at_:∀j:Nat,j<n→v.getD j 0=cf l j
def nu (out:List Int):List Tm→List Int
 | []=>out
 |t::r=>nu (out.set t.1.toNat t.2.1) r
theorem OY:∀(l:List Tm) (out:List Int),(nu out l).length=out.length
 | [],out=>rfl
 |t::r,out=>by rw[nu,OY r];simp
theorem VY {p:Int}:∀{l:List Tm} {lo:Int} {out:List Int} {j:Nat},Sr lo l→ -1≤lo→Cp p l→(∀t∈l,t.1<out.length)→(nu out l).getD j 0=if cf l j=0 then out.getD j 0 else cf l j
 | [],lo,out,j,h,h0,hc,hn=>by rw[nu,IY,if_pos rfl]
 |t::r,lo,out,j,h,h0,hc,hn=>by
  have h1:=h.1;have h2:=hn t (by simp);have h3:=hc t (by simp);rw[nu,VY (lo:=t.1) (p:=p) h.2 (by omega) (fun u hu=>hc u (by simp[hu])) (fun u hu=>by rw[List.length_set];exact hn u (by simp[hu])),db,tl];by_cases e:t.1=j
  ·rw[if_pos e,Sr.cf0 h.2 (by omega),if_pos rfl,if_pos (by omega),if_neg (by omega)]
  ·rw[if_neg e,if_neg (show ¬(t.1.toNat=j∧t.1.toNat<out.length) by omega)]
def OZ (i:Nat):List Int→List Tm
 | []=>[]
 |x::r=>if x≠0 then ((i:Int),(x,()))::OZ (i+1) r else OZ (i+1) r
theorem ad9:∀(v:List Int) (i:Nat) (lo:Int),lo<i→Sr lo (OZ i v)
 | [],i,lo,h=>trivial
 |x::r,i,lo,h=>by
  rw[OZ];split
  ·exact⟨h,ad9 r (i+1) i (by omega)⟩
  ·exact ad9 r (i+1) lo (by omega)
theorem ZS:∀(v:List Int) (i j:Nat),cf (OZ i v) j=if i≤j then v.getD (j - i) 0 else 0
 | [],i,j=>by simp[OZ,IY]
 |x::r,i,j=>by
  have ih:=ZS r (i+1) j;rw[OZ];by_cases hx:x≠0
  ·rw[if_pos hx,tl,ih];by_cases e:i=j
   ·subst e;simp
   ·rw[if_neg (by simp only;omega)];by_cases h:i≤j
    ·rw[if_pos h,if_pos (by omega)];obtain⟨k,hk⟩:∃k,j - i=k+1:=⟨j - i - 1,by omega⟩
     have:j - (i+1)=k:=by omega
     rw[hk,this];simp
    ·rw[if_neg h,if_neg (by omega)]
  ·rw[if_neg hx,ih];have hx:x=0:=by omega
   by_cases e:i=j
   ·subst e;rw[if_neg (by omega),if_pos (Nat.le_refl _)];simpa using hx.symm
   ·by_cases h:i≤j
    ·rw[if_pos h,if_pos (by omega)];obtain⟨k,hk⟩:∃k,j - i=k+1:=⟨j - i - 1,by omega⟩
     have:j - (i+1)=k:=by omega
     rw[hk,this];simp
    ·rw[if_neg h,if_neg (by omega)]
theorem ZT:∀{v:List Int} {i:Nat} {t:Tm},t∈OZ i v→(i:Int)≤t.1∧t.1<i+v.length∧t.2.1∈v∧t.2.1≠0
 |x::r,i,t,h=>by
  rw[OZ] at h;split at h
  ·rename_i hx;rcases List.mem_cons.1 h with rfl |h
   ·exact⟨by simp,by simp;omega,by simp,hx⟩
   ·have:=ZT h;exact⟨by omega,by simp only[List.length_cons];omega,by simp[this.2.2.1],this.2.2.2⟩
  ·have:=ZT h;exact⟨by omega,by simp only[List.length_cons];omega,by simp[this.2.2.1],this.2.2.2⟩
theorem VZ:∀(v:List Int) (i:Nat),(OZ i v).length≤v.length
 | [],i=>by simp[OZ]
 |x::r,i=>by rw[OZ];have:=VZ r (i+1);split<;>simp<;>omega
def Rs (p:Int)(out:List Int):Prop:=∀j:Nat,0≤out.getD j 0∧out.getD j 0<p
theorem Rs.set {p v:Int}{out:List Int}(h:Rs p out)(hv:0≤v∧v<p)(k:Nat):Rs p (out.set k v):=fun j=>by
 rw[db];split
 ·exact hv
 ·exact h j
def ck (aa:List Cl)(r:Int):List Tm:=(aa.getD r.toNat iF).2.2.1
def JY (p:Int)(aa:List Cl)(out:List Tm):List Tm→List Tm
 | []=>out
 |t::r=>JY p aa (tv p out (t.2.1 % p) (ck aa t.1)) r
theorem NL:∀{l:List Tm} {lo:Int} {n:Int},Sr lo l→(∀t∈l,t.1<n)→lo<n→(l.length:Int)≤n - lo - 1
 | [],lo,n,h,hn,hl=>by simp;omega
 |t::r,lo,n,h,hn,hl=>by have:=NL h.2 (fun u hu=>hn u (by simp[hu])) (hn t (by simp));have:=h.1;simp only[List.length_cons];omega
theorem Vc.length {p n:Int}{l:List Tm}(h:Vc p n l)(hn:0≤n):(l.length:Int)≤n:=by have:=NL h.s (fun t ht=>(h.r t ht).1) (by omega);omega
end Go.Abs
namespace Go.Proofs.YtofjebmoebhiiaaGreatDoor.Ev
open Go.Abs Go.IntWalk
theorem aU {i:Nat}(h:i≤1000000000):IntKind.wrap .i64 ((i:Int)+1)=((i+1:Nat):Int):=by rw[i64_in _ (by omega)];omega
theorem aea {x:List Tm}{n:Nat}(hl:x.length≤1000000000)(hx:∀t∈x,0≤t.1∧t.1<n):∀(m i:Nat) (out:List Int),m+i=x.length→out.length=n→fI x i out=some (nu out (x.drop i)):=by
 intro m;induction m with
 |zero=>intro i out hi ho;rw[xT,rB,al (by omega),List.drop_eq_nil_of_le (by omega)];rfl
 |succ m ih=>
  intro i out hi ho;have hb:∀{β:Type} {f:Tm→Option β},(idx x (i:Int)).bind f=f (x.getD i wM):=eQ wM (by omega);have hm:x.getD i wM∈x:=by
   have:x.getD i wM=x[i]'(by omega):=by simp[List.getD,show i<x.length by omega]
   rw[this];exact List.getElem_mem _
  have hr:=hx _ hm;rw[xT,rB,au (by omega),hb,hb,gV (by omega) (by omega),rS (by omega),aU (by omega),ih (i+1) _ (by omega) (by simpa using ho),fE wM (show i<x.length by omega),nu]
theorem V1 {p:Int}{x:List Tm}{n:Nat}(hn:n≤1000000)(hx:Vc p n x):∃v,jb x n=some v∧Vr n x v∧(0<p→Rs p v):=by
 have hl:=hx.length (by omega);have hx':∀t∈x,0≤t.1∧t.1<n:=fun t ht=>⟨by have:=Sr.mem hx.s t ht;omega,(hx.r t ht).1⟩
 have hg:∀j:Nat,(nu (List.replicate n 0) x).getD j 0=cf x j:=fun j=>by rw[VY hx.s (by omega) hx.c (fun t ht=>by rw[List.length_replicate];exact(hx' t ht).2),Qz];split<;>omega
 refine⟨nu (List.replicate n 0) x, ?_,⟨by rw[OY,List.length_replicate],fun j _=>hg j⟩,fun hp j=>by rw[hg];exact Lu hp hx.c j⟩;rw[MN,D4,CD (by omega) (by omega) (by omega),Int.toNat_natCast];exact aea (by omega) hx' x.length 0 _ (by omega) (by simp)
theorem acf {p:Int}(hp:Pr p){x:List Tm}{c2:List Cl}(hxl:x.length≤1000000)(hx:∀t∈x,(0≤t.1∧t.1<c2.length)∧Vc p 1024 (ck c2 t.1)):
  ∀(m i:Nat) (S:List Tm),m+i=x.length→Vc p 1024 S→fu S x (x.length:Int) i p c2=some (JY p c2 S (x.drop i)):=by
 intro m;induction m with
 |zero=>intro i S hi hS;rw[py,mZ,al (by omega),List.drop_eq_nil_of_le (by omega),JY]
 |succ m ih=>
  intro i S hi hS;have hm:x.getD i wM∈x:=by
   have:x.getD i wM=x[i]'(by omega):=by simp[List.getD,show i<x.length by omega]
   rw[this];exact List.getElem_mem _
  obtain⟨h1,h3⟩:=hx _ hm;have hl:=h3.length (by omega);have hl2:=hS.length (by omega);rw[py,mZ,au (by omega),eQ wM (by omega),akt iF (by omega) (by omega)];have e:(c2.getD (x.getD i wM).1.toNat iF).2.2.1=ck c2 (x.getD i wM).1:=rfl;rw[e,GA hp hS h3 (by omega) (by omega),bS,aU (by omega)];simp only;rw[ih (i+1) _ (by omega) (FU (by have:=hp.1;omega) hS h3).1,fE wM (show i<x.length by omega),JY]
theorem ahq {p:Int}(hp:Pr p){x:List Tm}{c2:List Cl}(hxl:x.length≤1000000)(hx:∀t∈x,(0≤t.1∧t.1<c2.length)∧Vc p 1024 (ck c2 t.1)):se (p,(c2,())) x=some (JY p c2 [] x):=by
 have h:=acf hp hxl hx x.length 0 [] (by omega) Vc.nil;rw[KB,F6];simp only;have e:lq x (x.length:Int) 0 [] p c2=fu [] x (x.length:Int) 0 p c2:=by rw[Fc,zn,py,mZ]
 rw[e];simpa using h
def nV (aa:List Cl)(j:Nat):ByteArray:=(aa.getD j iF).2.1
def O0 (aa:List Cl)(j:Nat):Bool:=decide (0<j)&&decide (nX ((mq (nV aa j)).1*(mq (nV aa (j - 1))).2) ((mq (nV aa (j - 1))).1*(mq (nV aa j)).2)<0)
def yo (p:Int)(aa:List Cl)(j:Nat):Int:=
 if (aa.getD j iF).1<0∨4<(aa.getD j iF).1∨yn (nV aa j)=false then 1
 else if aca p (aa.getD j iF).2.2.1≠0 then aca p (aa.getD j iF).2.2.1
 else if ((aa.getD j iF).2.2.1.any fun t=>decide (t.1≥(j:Int)))=true then 7
 else if ((aa.getD j iF).2.2.1.any fun t=>(aa.getD t.1.toNat iF).1 != (aa.getD j iF).1 - 1)=true then 10
 else if (JY p aa [] (aa.getD j iF).2.2.1)≠ [] then 11
 else if O0 aa j=true then 6 else 0
def Th (p:Int)(aa:List Cl)(j:Nat):Nat→Int
 |0=>0
 |m+1=>if yo p aa j≠0 then yo p aa j else Th p aa (j+1) m
def gr (p:Int)(aa:List Cl):Int:=if Pr p then (if 1024<aa.length then 3 else Th p aa 0 aa.length) else 8
structure Good (p:Int) (aa:List Cl) (j:Nat):Prop where
 dim:0≤(aa.getD j iF).1∧(aa.getD j iF).1≤4
 at_:yn (nV aa j)=true
 bd:Vc p j (ck aa j)
 low:j≤1024→Vc p 1024 (ck aa j)
 amJ:∀t∈ck aa j,(aa.getD t.1.toNat iF).1=(aa.getD j iF).1 - 1
 cyc:JY p aa [] (ck aa j)=[]
 ord:O0 aa j=false
theorem gX (aa:List Cl)(j:Nat):ck aa j=(aa.getD j iF).2.2.1:=by unfold ck;rw[Int.toNat_natCast]
theorem ZU {p:Int}{aa:List Cl}{j:Nat}(h:yo p aa j=0):Good p aa j:=by
 unfold yo at h;split at h
 ·cases h
 ·rename_i h1;split at h
  ·rename_i h2;exact absurd h h2
  ·rename_i h2;split at h
   ·cases h
   ·rename_i h3;split at h
    ·cases h
    ·rename_i h4;split at h
     ·cases h
     ·rename_i h5;split at h
      ·cases h
      ·rename_i h6;have hv:=Lv.1 (show aca p (aa.getD j iF).2.2.1=0 by omega);refine⟨by omega, ?_, ?_,fun _=>by rw[gX];exact hv, ?_, ?_,by simpa using h6⟩
       ·cases hh:yn (nV aa j) with
        |true=>rfl
        |false=>exact absurd (.inr (.inr hh)) h1
       ·rw[gX];refine⟨hv.s,fun t ht=>⟨?_,(hv.r t ht).2⟩⟩;have:¬t.1≥(j:Int):=fun g=>h3 (List.any_eq_true.2 ⟨t,ht,decide_eq_true g⟩);omega
       ·intro t ht;rw[gX] at ht;have:¬((aa.getD t.1.toNat iF).1 != (aa.getD j iF).1 - 1)=true:=fun g=>h4 (List.any_eq_true.2 ⟨t,ht,g⟩);simpa using this
       ·rw[gX];exact Decidable.not_not.1 h5
structure Sz (aa:List Cl):Prop where
 at_:∀j,(nV aa j).size≤1000
 bd:∀j,((aa.getD j iF).2.2.1).length≤1000
theorem aeb {s:List Tm}{j:Int}(hl:s.length≤1000000):∀(m i:Nat),m+i=s.length→∃r:Int,bO s j (s.length:Int) i=some r∧decide (r≥0)=(s.drop i).any fun t=>decide (t.1≥j):=by
 intro m;induction m with
 |zero=>intro i hi;rw[lC,iS,al (by omega),List.drop_eq_nil_of_le (by omega)];exact⟨-1,rfl,rfl⟩
 |succ m ih=>
  intro i hi;rw[lC,iS,au (by omega),eQ wM (by omega),GQ,Bl,bS,fE wM (show i<s.length by omega),List.any_cons];by_cases h:(s.getD i wM).1≥j
  ·rw[y7 h,decide_eq_true h];exact⟨i,rfl,by rw[Bool.true_or];exact decide_eq_true (by omega)⟩
  ·rw[wF h,decide_eq_false h,Bool.false_or,aU (by omega)];exact ih (i+1) (by omega)
theorem arN {s:List Tm}{j:Int}(hl:s.length≤1000000):dR s j=some (s.any fun t=>decide (t.1≥j)):=by obtain⟨r,h1,h2⟩:=aeb (j:=j) hl s.length 0 (by omega);have e0:((0:Nat):Int)=0:=rfl;rw[e0] at h1;rw[tq,nJ,vO,pG,h1,bS,h2,List.drop_zero]
theorem aec {s:List Tm}{p d:Int}{aa:List Cl}{a:ByteArray}{b:List Tm}(hd:0≤d∧d≤4)(hl:s.length≤1000000)(hs:∀t∈s,0≤t.1∧t.1<aa.length):∀(m i:Nat),m+i=s.length→
  ∃r:Int,bP s p aa d a b (s.length:Int) i=some r∧decide (r≥0)=(s.drop i).any fun t=>(aa.getD t.1.toNat iF).1 != d - 1:=by
 intro m;induction m with
 |zero=>intro i hi;rw[lD,iT,al (by omega),List.drop_eq_nil_of_le (by omega)];exact⟨-1,rfl,rfl⟩
 |succ m ih=>
  intro i hi;have hm:s.getD i wM∈s:=by
   have:s.getD i wM=s[i]'(by omega):=by simp[List.getD,show i<s.length by omega]
   rw[this];exact List.getElem_mem _
  have h1:=hs _ hm;rw[lD,iT,au (by omega),eQ wM (by omega),GR,Bm];simp only;rw[akt iF h1.1 h1.2,bS,i64_in (d - 1) (by omega),fE wM (show i<s.length by omega),List.any_cons];cases hc:((aa.getD (s.getD i wM).1.toNat iF).1 != d - 1) with
  |true=>rw[cT];exact⟨i,rfl,by rw[Bool.true_or];exact decide_eq_true (by omega)⟩
  |false=>rw[cF,Bool.false_or,aU (by omega)];exact ih (i+1) (by omega)
theorem arO {s:List Tm}{p d:Int}{aa:List Cl}{a:ByteArray}{b:List Tm}(hd:0≤d∧d≤4)(hl:s.length≤1000000)(hs:∀t∈s,0≤t.1∧t.1<aa.length):
  dS s ((p,(aa,())),(d,(a,(b,()))))=some (s.any fun t=>(aa.getD t.1.toNat iF).1 != d - 1):=by
 obtain⟨r,h1,h2⟩:=aec (p:=p) (a:=a) (b:=b) hd hl hs s.length 0 (by omega);have e0:((0:Nat):Int)=0:=rfl;rw[e0] at h1;rw[tt,nK,vP,pH];simp only;rw[h1,bS,h2,List.drop_zero]
theorem Ti {s:ByteArray}(h:yn s=true)(hs:s.size≤1000):Rt s (mq s).1 (mq s).2∧nd (mq s).1≤1000∧nd (mq s).2≤1000∧0<(mq s).2:=by obtain⟨n,d,hr⟩:=tk.1 h;rw[hr.val];exact⟨hr,hr.bounds hs⟩
theorem apn {p:Int}{aa:List Cl}{j:Nat}{b:List Tm}(hj:j<aa.length)(hl:aa.length≤1024)(hI:∀i,i<j→yo p aa i=0)(hb:Vc p 1024 b)(hr:∀t∈b,t.1<j):
  ∀t∈b,(0≤t.1∧t.1<aa.length)∧Vc p aa.length (ck aa t.1):=fun t ht=>by
 have h1:=hr t ht;have h2:=Sr.mem hb.s t ht;have e:t.1=((t.1.toNat:Nat):Int):=by omega
 have h3:=(ZU (hI t.1.toNat (by omega))).bd;refine⟨by omega, ?_⟩;rw[e];exact h3.mono (by omega)
theorem acg {p:Int}(hp:Pr p){aa:List Cl}(hs:Sz aa)(hl:aa.length≤1024){j:Nat}{l:(Bool×List Int×Unit)×(Bool×List Int×Unit)×Unit}(hj:j<aa.length)(hI:∀i,i<j→yo p aa i=0)(hL:0<j→l=WR (mq (nV aa (j - 1))).1 (mq (nV aa (j - 1))).2)(E:Int)(hE:yo p aa j=E):
  ed aa (aa.length:Int) j p aa l.1.1 l.1.2.1 l.2.1.1 l.2.1.2.1=if E=0 then ed aa (aa.length:Int) ((j+1:Nat):Int) p aa (W (mq (nV aa j)).1).1 (W (mq (nV aa j)).1).2.1 (W (mq (nV aa j)).2).1 (W (mq (nV aa j)).2).2.1 else some E:=by
 have ea:(aa.getD j iF).2.1=nV aa j:=rfl;have ha:=hs.at_ j;have hb:=hs.bd j;generalize hK:ed aa (aa.length:Int) ((j+1:Nat):Int) p aa (W (mq (nV aa j)).1).1 (W (mq (nV aa j)).1).2.1 (W (mq (nV aa j)).2).1 (W (mq (nV aa j)).2).2.1=K;rw[w7,tc,au (by omega),eQ iF (by omega),ea];unfold yo at hE;generalize hx:aa.getD j iF=x at hE hb ⊢;cases akx:yn (nV aa j) with
 |false=>obtain⟨jk,hjk⟩:=Yd ha akx;rw[if_pos (.inr (.inr akx))] at hE;subst hE;rw[hjk,bS];simp only;rw[Bool.not_false,cT,if_neg (by omega)];cases decide (x.1<0)<;>cases decide (x.1>4)<;>rfl
 |true=>
  obtain⟨hrt,n1,n2,n3⟩:=Ti akx ha;rw[R5 ha hrt,bS];simp only;by_cases h1:x.1<0
  ·rw[if_pos (.inl h1)] at hE;subst hE;rw[au h1,if_neg (by omega)]
  rw[al h1];by_cases h2:x.1>4
  ·rw[if_pos (.inr (.inl h2))] at hE;subst hE;rw[da h2,if_neg (by omega)]
  have hc1:¬(x.1<0∨4<x.1∨yn (nV aa j)=false):=by
   rintro (h |h |h)
   ·exact h1 h
   ·exact h2 h
   ·rw[akx] at h;cases h
  rw[if_neg hc1] at hE;rw[dA h2,Bool.not_true,cF,VS ha,bS,akx,Bool.not_true,cF,BI hp (by omega),bS];by_cases h3:aca p x.2.2.1=0
  ·rw[if_neg (show ¬aca p x.2.2.1≠0 by omega)] at hE;rw[pd h3,arN (by omega),bS];have hv:=Lv.1 h3;cases h4:(x.2.2.1.any fun t=>decide (t.1≥(j:Int))) with
   |true=>rw[h4,if_pos rfl] at hE;subst hE;rw[cT,if_neg (by omega)]
   |false=>
    rw[h4,if_neg (by decide)] at hE;rw[cF];have hr:∀t∈x.2.2.1,t.1<j:=fun t ht=>by have:=List.any_eq_false.1 h4 t ht;have:¬t.1≥(j:Int):=fun g=>this (decide_eq_true g);omega
    have hin:=apn hj hl hI hv hr;rw[arO (by omega) (by omega) (fun t ht=>(hin t ht).1),bS];cases h5:(x.2.2.1.any fun t=>(aa.getD t.1.toNat iF).1 != x.1 - 1) with
    |true=>rw[h5,if_pos rfl] at hE;subst hE;rw[cT,if_neg (by omega)]
    |false=>
     rw[h5,if_neg (by decide)] at hE;rw[cF,ahq hp (by omega) (fun t ht=>⟨(hin t ht).1,(hin t ht).2.mono (by omega)⟩),bS];by_cases h6:JY p aa [] x.2.2.1=[]
     ·rw[h6,if_neg (by simp)] at hE;rw[h6,List.length_nil,dA (by omega),aU (by omega),hK];simp only[yj];unfold O0 at hE;by_cases h7:0<j
      ·have hg:=ZU (hI (j - 1) (by omega));obtain⟨axW,m1,m2,m3⟩:=Ti hg.at_ (hs.at_ (j - 1));have hl':=hL h7;subst hl';rw[da (by omega),apk n1 n2 m1 m2 n3 m3,bS];rw[decide_eq_true h7,Bool.true_and] at hE;by_cases h8:nX ((mq (nV aa j)).1*(mq (nV aa (j - 1))).2) ((mq (nV aa (j - 1))).1*(mq (nV aa j)).2)<0
       ·rw[decide_eq_true h8,if_pos rfl] at hE;subst hE;rw[au h8,if_neg (by omega)]
       ·rw[decide_eq_false h8,if_neg (by decide)] at hE;subst hE;rw[al h8,if_pos rfl]
      ·rw[decide_eq_false h7,Bool.false_and,if_neg (by decide)] at hE;subst hE;rw[dA (by omega),if_pos rfl]
     ·rw[if_pos h6] at hE;subst hE;have hlen:0<(JY p aa [] x.2.2.1).length:=by
       cases hq:JY p aa [] x.2.2.1 with
       |nil=>exact absurd hq h6
       |cons a b=>simp
      rw[da (by omega),if_neg (by omega)]
  ·rw[if_pos h3] at hE;subst hE;rw[Hw h3,if_neg h3]
theorem ahr {p:Int}(hp:Pr p){aa:List Cl}(hs:Sz aa)(hl:aa.length≤1024):∀(m j:Nat) (l:(Bool×List Int×Unit)×(Bool×List Int×Unit)×Unit),m+j=aa.length→(∀i,i<j→yo p aa i=0)→(0<j→l=WR (mq (nV aa (j - 1))).1 (mq (nV aa (j - 1))).2)→
  ed aa (aa.length:Int) j p aa l.1.1 l.1.2.1 l.2.1.1 l.2.1.2.1=some (Th p aa j m):=by
 intro m;induction m with
 |zero=>intro j l hj hI hL;rw[w7,tc,al (by omega)];rfl
 |succ m ih=>
  intro j l hj hI hL;rw[acg hp hs hl (by omega) hI hL _ rfl,Th];by_cases h:yo p aa j=0
  ·rw[if_pos h,if_neg (show ¬yo p aa j≠0 by omega)];exact ih (j+1) (WR (mq (nV aa j)).1 (mq (nV aa j)).2) (by omega) (fun i hi=>by
    by_cases e:i=j
    ·rw[e];exact h
    ·exact hI i (by omega)) (fun _=>by rw[Nat.add_sub_cancel])
  ·rw[if_neg h,if_pos h]
theorem Ez {p:Int}{aa:List Cl}(hs:Sz aa):jR (p,(aa,()))=some (gr p aa):=by
 rw[KA,F5];simp only;unfold gr;rw[Ap,bS];by_cases hp:Pr p
 ·rw[decide_eq_true hp,Bool.not_true,cF,if_pos hp];by_cases hl:1024<aa.length
  ·rw[da (by omega),if_pos hl]
  ·rw[dA (by omega),if_neg hl];have:=ahr hp hs (by omega) aa.length 0 ((false,([],())),((false,([],())),())) (by omega) (fun i hi=>by omega) (fun h=>by omega);exact this
 ·rw[decide_eq_false hp,Bool.not_false,cT,if_neg hp]
theorem pe {p:Int}{aa:List Cl}(h:gr p aa=0):Pr p∧aa.length≤1024∧∀j,j<aa.length→Good p aa j:=by
 unfold gr at h;split at h
 ·rename_i hp;split at h
  ·cases h
  ·rename_i hl;have key:∀(m j:Nat),m+j=aa.length→Th p aa j m=0→∀i,j≤i→i<aa.length→yo p aa i=0:=by
    intro m;induction m with
    |zero=>intro j hj h i h1 h2;omega
    |succ m ih=>
     intro j hj h i h1 h2;rw[Th] at h;split at h
     ·rename_i hne;exact absurd h hne
     ·rename_i hne;by_cases e:i=j
      ·subst e;omega
      ·exact ih (j+1) (by omega) h i (by omega) h2
   exact⟨hp,by omega,fun j hj=>ZU (key aa.length 0 (by omega) h j (by omega) hj)⟩
 ·cases h
def sm (g:Nat→Int):Nat→Int
 |0=>0
 |n+1=>sm g n+g n
theorem bq {g h:Nat→Int}:∀{n:Nat},(∀i,i<n→g i=h i)→sm g n=sm h n
 |0,_=>rfl
 |n+1,e=>by rw[sm,sm,bq fun i hi=>e i (by omega),e n (by omega)]
theorem CM {g:Nat→Int}:∀{n:Nat},(∀i,i<n→g i=0)→sm g n=0
 |0,_=>rfl
 |n+1,e=>by rw[sm,CM fun i hi=>e i (by omega),e n (by omega)];rfl
theorem BJ (g h:Nat→Int):∀n:Nat,sm (fun i=>g i+h i) n=sm g n+sm h n
 |0=>rfl
 |n+1=>by rw[sm,sm,sm,BJ g h n];omega
theorem uf (c:Int)(g:Nat→Int):∀n:Nat,sm (fun i=>c*g i) n=c*sm g n
 |0=>by simp[sm]
 |n+1=>by rw[sm,sm,uf c g n,Int.mul_add]
theorem QA (g:Nat→Nat→Int)(m:Nat):∀n:Nat,sm (fun i=>sm (g i) m) n=sm (fun j=>sm (fun i=>g i j) n) m
 |0=>(CM (g:=fun j=>sm (fun i=>g i j) 0) fun _ _=>rfl).symm
 |n+1=>by rw[sm,QA g m n, ←BJ];rfl
theorem Ly {g:Nat→Int}{a:Nat}:∀{n:Nat},a<n→(∀i,i<n→i≠a→g i=0)→sm g n=g a
 |0,h,_=>by omega
 |n+1,h,e=>by
  rw[sm];by_cases ha:a=n
  ·subst ha;rw[CM fun i hi=>e i (by omega) (by omega)];omega
  ·rw[Ly (a:=a) (by omega) fun i hi hn=>e i (by omega) hn,e n (by omega) (by omega)];omega
theorem ach (g:Nat→Int):∀n:Nat,sm g (n+1)=g 0+sm (fun i=>g (i+1)) n
 |0=>by simp[sm]
 |n+1=>by rw[sm,ach g n,sm];omega
theorem aed (g:Nat→Int):∀n:Nat,sm (fun i=>g (n - 1 - i)) n=sm g n
 |0=>rfl
 |n+1=>by
  rw[ach,sm, ←aed g n];have:sm (fun i=>g (n+1 - 1 - (i+1))) n=sm (fun i=>g (n - 1 - i)) n:=bq fun i hi=>by congr 1;omega
  rw[this];have e:n+1 - 1 - 0=n:=by omega
  rw[e];omega
theorem aky {p:Int}{g h:Nat→Int}:∀{n:Nat},(∀i,i<n→g i % p=h i % p)→sm g n % p=sm h n % p
 |0,_=>rfl
 |n+1,e=>by rw[sm,sm,Int.add_emod,aky fun i hi=>e i (by omega),e n (by omega), ←Int.add_emod]
def aci (aa:List Cl)(r:Int):List Tm→Int
 | []=>0
 |t::l=>t.2.1*cf (ck aa t.1) r+aci aa r l
theorem afw {aa:List Cl}{r:Int}{n:Nat}:∀{x:List Tm} {lo:Int},Sr lo x→ -1≤lo→(∀t∈x,t.1<n)→aci aa r x=sm (fun i=>cf x i*cf (ck aa i) r) n
 | [],lo,_,_,_=>by rw[aci,CM fun i hi=>by rw[IY,Int.zero_mul]]
 |t::l,lo,hs,hlo,hn=>by
  have h1:=hs.1;have hlt:=hn t List.mem_cons_self;rw[aci,afw (n:=n) hs.2 (by omega) fun u hu=>hn u (List.mem_cons_of_mem _ hu)];obtain⟨a,ha⟩:∃a:Nat,t.1=(a:Int):=⟨t.1.toNat,by omega⟩
  have hz:cf l (a:Int)=0:=Sr.cf0 hs.2 (by omega);have e1:t.2.1*cf (ck aa t.1) r=sm (fun i=>if i=a then t.2.1*cf (ck aa (i:Int)) r else 0) n:=by rw[Ly (a:=a) (by omega) fun i hi hne=>by rw[if_neg hne],if_pos rfl,ha]
  rw[e1, ←BJ];refine bq fun i hi=> ?_;rw[tl];by_cases e:i=a
  ·subst e;rw[if_pos rfl,if_pos ha,hz];omega
  ·rw[if_neg e,if_neg (by omega)];omega
theorem afx {p:Int}(hp:0<p){aa:List Cl}{n:Int}:∀{x S:List Tm},(∀t∈x,Vc p n (ck aa t.1))→Vc p n S→Vc p n (JY p aa S x)∧∀r,cf (JY p aa S x) r=(cf S r+aci aa r x) % p
 | [],S,_,hS=>⟨hS,fun r=>by
   have:=Lu hp hS.c r;rw[JY,aci,Int.add_zero,Int.emod_eq_of_lt this.1 this.2]⟩
 |t::l,S,hx,hS=>by
  obtain⟨h1,h2⟩:=FU (k:=t.2.1 % p) hp hS (hx t List.mem_cons_self);obtain⟨h3,h4⟩:=afx (x:=l) hp (fun u hu=>hx u (List.mem_cons_of_mem _ hu)) h1;refine⟨h3,fun r=> ?_⟩;have h5:=h4 r;rw[h2 r,Int.emod_add_emod] at h5;rw[JY,h5,aci];generalize aci aa r l=u;generalize cf (ck aa t.1) r=b;generalize cf S r=s;have e:s+t.2.1 % p*b+u=(s+(t.2.1*b+u))+p*(-(t.2.1 / p)*b):=by rw[Int.emod_def];grind
  rw[e,Int.add_mul_emod_self_left]
abbrev mx (aa:List Cl)(i j:Nat):Int:=cf (ck aa (j:Int)) (i:Int)
theorem Mh {p:Int}(hp:0<p){aa:List Cl}{n:Nat}(hv:∀j,j<n→Vc p n (ck aa j)){j:Nat}(hj:j<n):JY p aa [] (ck aa j)=[]↔∀r,r<n→sm (fun i=>mx aa i j*mx aa r i) n % p=0:=by
 have hx:=hv j hj;obtain⟨h1,h2⟩:=afx (p:=p) (n:=(n:Int)) (aa:=aa) (x:=ck aa j) (S:=[]) hp (fun t ht=>by
  have:=hx.r t ht;have:=Sr.mem hx.s t ht;have e:t.1=((t.1.toNat:Nat):Int):=by omega
  rw[e];exact hv _ (by omega)) Vc.nil
 have h3:∀r:Nat,cf (JY p aa [] (ck aa j)) r=sm (fun i=>mx aa i j*mx aa r i) n % p:=fun r=>by rw[h2,IY,Int.zero_add,afw (n:=n) hx.s (by omega) fun t ht=>(hx.r t ht).1]
 constructor
 ·intro e r hr;rw[←h3,e,IY]
 ·intro e;have arP:Vc p n []:=Vc.nil;refine Sr.ext h1.s arP.s h1.c arP.c fun i=> ?_;rw[IY];by_cases hi:0≤i∧i<n
  ·have:=h3 i.toNat
   rw[Int.toNat_of_nonneg hi.1,e i.toNat (by omega)] at this;exact this
  ·by_cases hz:cf (JY p aa [] (ck aa j)) i=0
   ·exact hz
   ·obtain⟨t,ht,rfl⟩:=Te hz;have:=h1.r t ht;have:=Sr.mem h1.s t ht;omega
theorem Mi {p:Int}{g:Nat→Int}:∀{n:Nat},(∀i,i<n→p ∣ g i)→p ∣ sm g n
 |0,_=>Int.dvd_zero p
 |n+1,h=>Int.dvd_add (Mi fun i hi=>h i (by omega)) (h n (by omega))
theorem QB {p:Int}{g:Nat→Int}{a:Nat}:∀{n:Nat},a<n→(∀i,i<n→i≠a→p ∣ g i)→p ∣ sm g n - g a
 |0,h,_=>by omega
 |n+1,h,e=>by
  rw[sm];by_cases ha:a=n
  ·subst ha;rw[Int.add_sub_cancel];exact Mi fun i hi=>e i (by omega) (by omega)
  ·have h1:=QB (g:=g) (a:=a) (n:=n) (by omega) fun i hi hn=>e i (by omega) hn;have h2:=e n (by omega) (by omega);have:sm g n+g n - g a=(sm g n - g a)+g n:=by omega
   rw[this];exact Int.dvd_add h1 h2
theorem Mj {p:Int}{g h:Nat→Int}:∀{n:Nat},(∀i,i<n→p ∣ g i - h i)→p ∣ sm g n - sm h n
 |0,_=>by rw[sm,sm];exact Int.dvd_zero p
 |n+1,e=>by
  have h1:=Mj (g:=g) (h:=h) (n:=n) fun i hi=>e i (by omega);have h2:=e n (by omega);have:sm g (n+1) - sm h (n+1)=(sm g n - sm h n)+(g n - h n):=by rw[sm,sm];omega
  rw[this];exact Int.dvd_add h1 h2
def Bh (p:Int)(n:Nat)(R:Nat→Nat→Int)(j i:Nat):Prop:=i<n∧¬p ∣ R i j∧∀r,i<r→r<n→p ∣ R r j
def IsF (p:Int)(n:Nat)(S:Nat→Nat→Int)(i j:Nat):Prop:=j<n∧¬p ∣ S i j∧∀c,c<j→p ∣ S i c
structure Wq (p:Int) (n:Nat) (m R:Nat→Nat→Int):Prop where
 cmb:∃v:Nat→Nat→Int,(∀j,j<n→v j j=1)∧(∀j,j<n→∀k,j<k→v k j=0)∧∀j,j<n→∀r,r<n→p ∣ R r j - sm (fun k=>v k j*m r k) n
 inj:∀i j k,j<n→k<n→Bh p n R j i→Bh p n R k i→j=k
def sW (n:Nat)(m:Nat→Nat→Int)(r k:Nat):Int:=m (n - 1 - k) (n - 1 - r)
theorem akz {f:Nat→Prop}:∀{n:Nat},(∃i,i<n∧f i)→∃i,i<n∧f i∧∀r,i<r→r<n→¬f r
 |0,⟨i,h,_⟩=>by omega
 |n+1,⟨i,h,hf⟩=>by
  by_cases hn:f n
  ·exact⟨n,by omega,hn,fun r _ _=>by omega⟩
  ·have hi:i<n:=by
    rcases Nat.lt_or_ge i n with g |g
    ·exact g
    ·have:i=n:=by omega
     subst this;exact absurd hf hn
   obtain⟨k,k1,k2,k3⟩:=akz ⟨i,hi,hf⟩;refine⟨k,by omega,k2,fun r h1 h2=> ?_⟩;by_cases e:r=n
   ·subst e;exact hn
   ·exact k3 r h1 (by omega)
theorem akA {f:Nat→Prop}:∀{n:Nat},f n→∃i,i≤n∧f i∧∀r,r<i→¬f r:=fun {n}=>by
 induction n using Nat.strongRecOn with
 |ind n ih=>
  intro h;by_cases g:∃r,r<n∧f r
  ·obtain⟨r,h1,h2⟩:=g;obtain⟨i,k1,k2,k3⟩:=ih r h1 h2;exact⟨i,by omega,k2,k3⟩
  ·exact⟨n,Nat.le_refl n,h,fun r hr hf=>g ⟨r,hr,hf⟩⟩
theorem Bh.anX {p:Int}{n:Nat}{R:Nat→Nat→Int}{j i:Nat}(hi:i<n)(h:¬p ∣ R i j):∃k,i≤k∧Bh p n R j k:=by
 obtain⟨k,k1,k2,k3⟩:=akz (f:=fun r=>¬p ∣ R r j) ⟨i,hi,h⟩;have k4:∀r,k<r→r<n→p ∣ R r j:=fun r h1 h2=>Classical.byContradiction fun g=>k3 r h1 h2 g;refine⟨k, ?_,k1,k2,k4⟩;rcases Nat.lt_or_ge k i with g |g
 ·exact absurd (k4 i g hi) h
 ·exact g
theorem Bh.uniq {p:Int}{n:Nat}{R:Nat→Nat→Int}{j i k:Nat}(h:Bh p n R j i)(g:Bh p n R j k):i=k:=by
 rcases Nat.lt_trichotomy i k with e |e |e
 ·exact absurd (h.2.2 k e g.1) g.2.1
 ·exact e
 ·exact absurd (g.2.2 i e h.1) h.2.1
theorem IsF.uniq {p:Int}{n:Nat}{R:Nat→Nat→Int}{i j k:Nat}(h:IsF p n R i j)(g:IsF p n R i k):j=k:=by
 rcases Nat.lt_trichotomy j k with e |e |e
 ·exact absurd (g.2.2 j e) h.2.1
 ·exact e
 ·exact absurd (h.2.2 k e) g.2.1
theorem eG {p a b:Int}(h:p ∣ a - b):p ∣ a↔p ∣ b:=by
 constructor
 ·intro g;have:=Int.dvd_sub g h;rw[show a - (a - b)=b by omega] at this;exact this
 ·intro g;have:=Int.dvd_add h g;rw[show a - b+b=a by omega] at this;exact this
theorem Wq.congr {p:Int}{n:Nat}{m m' R:Nat→Nat→Int}(h:Wq p n m R)(e:∀r k,r<n→k<n→m' r k=m r k):Wq p n m' R:=by obtain⟨v,h1,h2,h3⟩:=h.cmb;refine⟨⟨v,h1,h2,fun j hj r hr=> ?_⟩,h.inj⟩;have:=h3 j hj r hr;rw[bq (h:=fun k=>v k j*m r k) fun k hk=>by rw[e r k hr hk]];exact this
theorem V2 {p:Int}{n:Nat}{m R R':Nat→Nat→Int}(h:Wq p n m R)(h':Wq p n (sW n m) R'){i j:Nat}(hj:j<n)(hl:Bh p n R j i):Bh p n R' (n - 1 - i) (n - 1 - j):=by
 obtain⟨v,v1,v2,v3⟩:=h.cmb;obtain⟨w,w1,w2,w3⟩:=h'.cmb
 -- C7 rows of C7 apo ahs
 let S:Nat→Nat→Int:=fun i c=>R' (n - 1 - c) (n - 1 - i)
 let N:Nat→Nat→Int:=fun i j=>sm (fun k=>w (n - 1 - k) (n - 1 - i)*R k j) n
 have hA:∀i j,i<n→j<n→(∀r,i<r→r<n→p ∣ R r j)→p ∣ N i j - R i j:=fun i j hi hj hz=>by
  have:=QB (p:=p) (g:=fun k=>w (n - 1 - k) (n - 1 - i)*R k j) (a:=i) hi fun k hk hne=>by
   rcases Nat.lt_or_ge k i with g |g
   ·rw[w2 (n - 1 - i) (by omega) (n - 1 - k) (by omega),Int.zero_mul];exact Int.dvd_zero p
   ·exact Int.dvd_trans (hz k (by omega) hk) (Int.dvd_mul_left _ _)
  simp only[w1 (n - 1 - i) (by omega),Int.one_mul] at this;exact this
 have hN:∀i j,i<n→j<n→p ∣ N i j - sm (fun l=>v l j*S i l) n:=fun i j hi hj=>by
  have a1:p ∣ N i j - sm (fun k=>sm (fun l=>w (n - 1 - k) (n - 1 - i)*(v l j*m k l)) n) n:=Mj fun k hk=>by rw[uf, ←Int.mul_sub];exact Int.dvd_trans (v3 j hj k hk) (Int.dvd_mul_left _ _)
  have a2:sm (fun k=>sm (fun l=>w (n - 1 - k) (n - 1 - i)*(v l j*m k l)) n) n=sm (fun l=>v l j*sm (fun k=>w (n - 1 - k) (n - 1 - i)*m k l) n) n:=by rw[QA (fun k l=>w (n - 1 - k) (n - 1 - i)*(v l j*m k l)) n n];refine bq fun l hl=> ?_;rw[←uf];refine bq fun k hk=> ?_;rw[Int.mul_left_comm]
  have a3:p ∣ sm (fun l=>v l j*sm (fun k=>w (n - 1 - k) (n - 1 - i)*m k l) n) n - sm (fun l=>v l j*S i l) n:=Mj fun l hl=>by
   rw[←Int.mul_sub];refine Int.dvd_trans ?_ (Int.dvd_mul_left _ _);have b1:=w3 (n - 1 - i) (by omega) (n - 1 - l) (by omega);have b2:sm (fun k=>w k (n - 1 - i)*sW n m (n - 1 - l) k) n=sm (fun k=>w (n - 1 - k) (n - 1 - i)*m k l) n:=by rw[←aed];refine bq fun k hk=> ?_;unfold sW;rw[show n - 1 - (n - 1 - k)=k by omega,show n - 1 - (n - 1 - l)=l by omega]
   rw[b2] at b1;have b3:=Int.dvd_neg.2 b1;rw[Int.neg_sub] at b3;exact b3
  rw[a2] at a1;have:=Int.dvd_add a1 a3;rw[show N i j - sm (fun l=>v l j*sm (fun k=>w (n - 1 - k) (n - 1 - i)*m k l) n) n+(sm (fun l=>v l j*sm (fun k=>w (n - 1 - k) (n - 1 - i)*m k l) n) n - sm (fun l=>v l j*S i l) n)=N i j - sm (fun l=>v l j*S i l) n by omega] at this;exact this
 have hB:∀i j,i<n→j<n→(∀c,c<j→p ∣ S i c)→p ∣ N i j - S i j:=fun i j hi hj hz=>by
  have:=QB (p:=p) (g:=fun l=>v l j*S i l) (a:=j) hj fun l hl hne=>by
   rcases Nat.lt_or_ge l j with g |g
   ·exact Int.dvd_trans (hz l g) (Int.dvd_mul_left _ _)
   ·rw[v2 j hj l (by omega),Int.zero_mul];exact Int.dvd_zero p
  simp only[v1 j hj,Int.one_mul] at this;have h2:=Int.dvd_add (hN i j hi hj) this;rw[show N i j - sm (fun l=>v l j*S i l) n+(sm (fun l=>v l j*S i l) n - S i j)=N i j - S i j by omega] at h2;exact h2
 have AL:∀j i,j<n→Bh p n R j i→Bh p n N j i:=fun j i hj g=>⟨g.1,fun e=>g.2.1 ((eG (hA i j g.1 hj g.2.2)).1 e),fun r h1 h2=>(eG (hA r j h2 hj fun s h3 h4=>g.2.2 s (by omega) h4)).2 (g.2.2 r h1 h2)⟩
 have AZ:∀i j,i<n→j<n→¬p ∣ N i j→∃k,i≤k∧Bh p n R j k∧Bh p n N j k:=fun i j hi hj g=>by
  by_cases hz:∃r,r<n∧¬p ∣ R r j
  ·obtain⟨r,h1,h2⟩:=hz;obtain⟨k,_,h3⟩:=Bh.anX h1 h2;have h4:=AL j k hj h3;refine⟨k, ?_,h3,h4⟩;rcases Nat.lt_or_ge k i with e |e
   ·exact absurd (h4.2.2 i e hi) g
   ·exact e
  ·have hz':∀r,r<n→p ∣ R r j:=fun r hr=>Classical.byContradiction fun q=>hz ⟨r,hr,q⟩;exact absurd ((eG (hA i j hi hj fun r _ h2=>hz' r h2)).2 (hz' i hi)) g
 have BF:∀i j,i<n→IsF p n S i j→IsF p n N i j:=fun i j hi g=>⟨g.1,fun e=>g.2.1 ((eG (hB i j hi g.1 g.2.2)).1 e),fun c hc=>(eG (hB i c hi (by have:=g.1;omega) fun s h3=>g.2.2 s (by omega))).2 (g.2.2 c hc)⟩
 have BZ:∀i j,i<n→j<n→¬p ∣ N i j→∃c,c≤j∧IsF p n S i c∧IsF p n N i c:=fun i j hi hj g=>by
  by_cases hz:∃c,c≤j∧¬p ∣ S i c
  ·obtain⟨c,h1,h2⟩:=hz;obtain⟨d,d1,d2,d3⟩:=akA (f:=fun c=>¬p ∣ S i c) h2;have h3:IsF p n S i d:=⟨by omega,d2,fun c hc=>Classical.byContradiction fun q=>d3 c hc q⟩
   have h4:=BF i d hi h3;exact⟨d,by omega,h3,h4⟩
  ·have hz':∀c,c≤j→p ∣ S i c:=fun c hc=>Classical.byContradiction fun q=>hz ⟨c,hc,q⟩;exact absurd ((eG (hB i j hi hj fun c hc=>hz' c (by omega))).2 (hz' j (Nat.le_refl j))) g
 have auj:∀i j k,j<n→k<n→Bh p n N j i→Bh p n N k i→j=k:=fun i j k hj hk g1 g2=>by obtain⟨a,_,a2,a3⟩:=AZ i j g1.1 hj g1.2.1;obtain⟨b,_,b2,b3⟩:=AZ i k g2.1 hk g2.2.1;have ea:=g1.uniq a3;have eb:=g2.uniq b3;rw[←ea] at a2;rw[←eb] at b2;exact h.inj i j k hj hk a2 b2
 have SF:∀i c,i<n→IsF p n S i c→Bh p n R' (n - 1 - i) (n - 1 - c):=fun i c hi g=>by refine⟨by omega,g.2.1,fun r h1 h2=> ?_⟩;have hc:=g.1;have:=g.2.2 (n - 1 - r) (by omega);simp only[S] at this;rw[show n - 1 - (n - 1 - r)=r by omega] at this;exact this
 have auk:∀j i k,i<n→k<n→IsF p n N i j→IsF p n N k j→i=k:=fun j i k hi hk g1 g2=>by obtain⟨a,_,a2,a3⟩:=BZ i j hi g1.1 g1.2.1;obtain⟨b,_,b2,b3⟩:=BZ k j hk g2.1 g2.2.1;have ea:=g1.uniq a3;have eb:=g2.uniq b3;rw[←ea] at a2;rw[←eb] at b2;have:=h'.inj (n - 1 - j) (n - 1 - i) (n - 1 - k) (by omega) (by omega) (SF i j hi a2) (SF k j hk b2);omega
 have main:∀j,j<n→∀i,Bh p n N j i→IsF p n N i j:=by
  intro j;induction j using Nat.strongRecOn with
  |ind j ih=>
   intro hj i g;obtain⟨c,c1,_,c3⟩:=BZ i j g.1 hj g.2.1;by_cases e:c=j
   ·rw[e] at c3;exact c3
   ·exfalso;obtain⟨k,k1,_,k3⟩:=AZ i c g.1 c3.1 c3.2.1;have h3:=ih c (by omega) c3.1 k k3;have:=auk c i k g.1 k3.1 c3 h3;rw[←this] at k3;exact e (auj i c j c3.1 hj k3 g)
 have f1:=main j hj i (AL j i hj hl);obtain⟨c,_,c2,c3⟩:=BZ i j hl.1 hj f1.2.1;have:=f1.uniq c3;rw[←this] at c2;exact SF i j hl.1 c2
theorem NM {p:Int}{n:Nat}{m R R':Nat→Nat→Int}(h:Wq p n m R)(h':Wq p n (sW n m) R'){i j:Nat}(hi:i<n)(hl:Bh p n R' (n - 1 - i) (n - 1 - j))(hj:j<n):Bh p n R j i:=by
 have h2:Wq p n (sW n (sW n m)) R:=h.congr fun r k hr hk=>by unfold sW;rw[show n - 1 - (n - 1 - r)=r by omega,show n - 1 - (n - 1 - k)=k by omega]
 have:=V2 h' h2 (show n - 1 - i<n by omega) hl;rw[show n - 1 - (n - 1 - j)=j by omega,show n - 1 - (n - 1 - i)=i by omega] at this;exact this
theorem akB {p:Int}{n:Nat}{m R R':Nat→Nat→Int}(pp:∀a b:Int,p ∣ a*b→p ∣ a∨p ∣ b)(h:Wq p n m R)(h':Wq p n (sW n m) R'){j:Nat}(hj:j<n){a:Nat→Int}(a1:¬p ∣ a j)(a2:∀k,j<k→k<n→p ∣ a k)(hz:∀r,r<n→p ∣ sm (fun k=>a k*m r k) n){i:Nat}:¬Bh p n R j i:=fun hl=>by
 have hf:=V2 h h' hj hl;have hi:=hl.1;obtain⟨w,w1,w2,w3⟩:=h'.cmb
 -- C7 row i of C7 apo ahs,times a
 have e1:p ∣ sm (fun k=>a k*R' (n - 1 - k) (n - 1 - i)) n - sm (fun k=>a k*sm (fun l=>w l (n - 1 - i)*sW n m (n - 1 - k) l) n) n:=Mj fun k hk=>by rw[←Int.mul_sub];exact Int.dvd_trans (w3 (n - 1 - i) (by omega) (n - 1 - k) (by omega)) (Int.dvd_mul_left _ _)
 have e2:sm (fun k=>a k*sm (fun l=>w l (n - 1 - i)*sW n m (n - 1 - k) l) n) n=sm (fun l=>w l (n - 1 - i)*sm (fun k=>a k*m (n - 1 - l) k) n) n:=by
  have:sm (fun k=>a k*sm (fun l=>w l (n - 1 - i)*sW n m (n - 1 - k) l) n) n=sm (fun k=>sm (fun l=>w l (n - 1 - i)*(a k*m (n - 1 - l) k)) n) n:=bq fun k hk=>by rw[←uf];refine bq fun l hl=> ?_;unfold sW;rw[show n - 1 - (n - 1 - k)=k by omega,Int.mul_left_comm]
  rw[this,QA (fun k l=>w l (n - 1 - i)*(a k*m (n - 1 - l) k)) n n];exact bq fun l hl=>uf _ _ _
 have e3:p ∣ sm (fun l=>w l (n - 1 - i)*sm (fun k=>a k*m (n - 1 - l) k) n) n:=Mi fun l hl=>Int.dvd_trans (hz (n - 1 - l) (by omega)) (Int.dvd_mul_left _ _);rw[←e2] at e3;have e4:=(eG e1).2 e3;have e5:=QB (p:=p) (g:=fun k=>a k*R' (n - 1 - k) (n - 1 - i)) hj fun k hk hne=>by
  rcases Nat.lt_or_ge k j with g |g
  ·exact Int.dvd_trans (hf.2.2 (n - 1 - k) (by omega) (by omega)) (Int.dvd_mul_left _ _)
  ·exact Int.dvd_trans (a2 k (by omega) hk) (Int.dvd_mul_right _ _)
 have e6:=(eG e5).1 e4;rcases pp _ _ e6 with g |g
 ·exact a1 g
 ·exact hf.2.1 g
def sk (r s:Nat):Nat:=if s<r then s else s+1
theorem anY {f:Nat→Int}{r:Nat}:∀{a:Nat},r<a+1→sm f (a+1)=sm (fun s=>f (sk r s)) a+f r
 |0,h=>by
  obtain rfl:r=0:=by omega
  simp[sm]
 |a+1,h=>by
  by_cases e:r=a+1
  ·subst e;have:sm (fun s=>f (sk (a+1) s)) (a+1)=sm f (a+1):=bq fun i hi=>by unfold sk;rw[if_pos (by omega)]
   rw[this];rfl
  ·have ih:=anY (f:=f) (r:=r) (a:=a) (by omega);have h2:sk r a=a+1:=if_neg (by omega);show sm f (a+1)+f (a+1)=sm (fun s=>f (sk r s)) a+f (sk r a)+f r;rw[ih,h2];omega
theorem ker {p:Int}(h1:¬p ∣ 1)(pp:∀a b:Int,p ∣ a*b→p ∣ a∨p ∣ b):∀(b a:Nat) (A:Nat→Nat→Int),b<a→∃c:Nat→Int,(∃s,s<a∧¬p ∣ c s)∧∀j,j<b→p ∣ sm (fun s=>c s*A s j) a
 |0,a,A,h=>⟨fun _=>1,⟨0,h,h1⟩,fun j hj=>by omega⟩
 |b+1,a,A,h=>by
  by_cases g:∃r,r<a∧¬p ∣ A r b
  ·obtain⟨r,hr,hA⟩:=g;obtain⟨a,rfl⟩:∃a',a=a'+1:=⟨a - 1,by omega⟩
   obtain⟨c,⟨s0,hs0,hc0⟩,hc⟩:=ker h1 pp b a (fun s j=>A r b*A (sk r s) j - A (sk r s) b*A r j) (by omega);obtain⟨d,hd⟩:∃d:Nat→Int,d=fun t=>if t=r then - sm (fun s=>c s*A (sk r s) b) a else A r b*c (if t<r then t else t - 1):=⟨_,rfl⟩
   have d1:∀s,d (sk r s)=A r b*c s:=fun s=>by
    rw[hd];unfold sk;by_cases e:s<r
    ·simp only[if_pos e];rw[if_neg (by omega)]
    ·simp only[if_neg e];rw[if_neg (by omega),if_neg (by omega),Nat.add_sub_cancel]
   have d2:d r= - sm (fun s=>c s*A (sk r s) b) a:=by rw[hd];exact if_pos rfl
   have d3:∀j,sm (fun t=>d t*A t j) (a+1)=sm (fun s=>c s*(A r b*A (sk r s) j - A (sk r s) b*A r j)) a:=fun j=>by
    have e0:sm (fun t=>d t*A t j) (a+1)=sm (fun s=>d (sk r s)*A (sk r s) j) a+d r*A r j:=anY (f:=fun t=>d t*A t j) hr;have e1:sm (fun s=>d (sk r s)*A (sk r s) j) a=sm (fun s=>A r b*(c s*A (sk r s) j)) a:=bq fun s _=>by rw[d1,Int.mul_assoc]
    have e2:sm (fun s=>c s*(A r b*A (sk r s) j - A (sk r s) b*A r j)) a=sm (fun s=>A r b*(c s*A (sk r s) j)+ - A r j*(c s*A (sk r s) b)) a:=bq fun s _=>by
     generalize A (sk r s) j=x;generalize A (sk r s) b=y;generalize A r b=z;generalize A r j=v;generalize c s=u
     grind
    have e3:sm (fun s=>A r b*(c s*A (sk r s) j)+ - A r j*(c s*A (sk r s) b)) a=sm (fun s=>A r b*(c s*A (sk r s) j)) a+ - A r j*sm (fun s=>c s*A (sk r s) b) a:=by rw[BJ,uf (- A r j)]
    rw[e0,e1,d2,e2,e3];generalize sm (fun s=>c s*A (sk r s) b) a=X;generalize A r j=y
    grind
   refine⟨d,⟨sk r s0, ?_, ?_⟩,fun j hj=> ?_⟩
   ·unfold sk;split<;>omega
   ·rw[d1];intro e;rcases pp _ _ e with q |q
    ·exact hA q
    ·exact hc0 q
   ·rw[d3];by_cases e:j=b
    ·subst e;have:sm (fun s=>c s*(A r j*A (sk r s) j - A (sk r s) j*A r j)) a=0:=CM fun s _=>by
      generalize A (sk r s) j=x;generalize A r j=v;generalize c s=u
      grind
     rw[this];exact Int.dvd_zero p
    ·exact hc j (by omega)
  ·obtain⟨c,h2,h3⟩:=ker h1 pp b a A (by omega);refine⟨c,h2,fun j hj=> ?_⟩;by_cases e:j=b
   ·subst e;exact Mi fun s hs=>Int.dvd_trans (Classical.byContradiction fun q=>g ⟨s,hs,q⟩) (Int.dvd_mul_left _ _)
   ·exact h3 j (by omega)
def Aq (p:Int)(w b:Nat)(V:Nat→Nat→Int)(x:Nat→Int):Prop:=∃c:Nat→Int,∀q,q<w→p ∣ x q - sm (fun k=>c k*V k q) b
section
variable {p:Int}{w b a:Nat}{V U:Nat→Nat→Int}{x y:Nat→Int}
theorem Aq.congr (h:Aq p w b V x)(e:∀q,q<w→p ∣ y q - x q):Aq p w b V y:=by obtain⟨c,h⟩:=h;refine⟨c,fun q hq=> ?_⟩;have:=Int.dvd_add (e q hq) (h q hq);rw[show y q - x q+(x q - sm (fun k=>c k*V k q) b)=y q - sm (fun k=>c k*V k q) b by omega] at this;exact this
theorem Aq.zero (h:∀q,q<w→p ∣ x q):Aq p w b V x:=⟨fun _=>0,fun q hq=>by
 have:sm (fun k=>0*V k q) b=0:=CM fun i _=>Int.zero_mul _;rw[this,Int.sub_zero];exact h q hq⟩
theorem Aq.gen {k:Nat}(hk:k<b):Aq p w b V (V k):=⟨fun l=>if l=k then 1 else 0,fun q hq=>by
 have:sm (fun l=>(if l=k then 1 else 0)*V l q) b=V k q:=by rw[Ly (a:=k) hk fun i hi hne=>by rw[if_neg hne,Int.zero_mul],if_pos rfl,Int.one_mul]
 rw[this,Int.sub_self];exact Int.dvd_zero p⟩
theorem Aq.add (u:Int)(hx:Aq p w b V x)(hy:Aq p w b V y):Aq p w b V (fun q=>x q+u*y q):=by
 obtain⟨c,h⟩:=hx;obtain⟨d,g⟩:=hy;refine⟨fun k=>c k+u*d k,fun q hq=> ?_⟩;have e:sm (fun k=>(c k+u*d k)*V k q) b=sm (fun k=>c k*V k q) b+u*sm (fun k=>d k*V k q) b:=by rw[←uf, ←BJ];exact bq fun l _=>by grind
 simp only;rw[e];obtain⟨s,hs⟩:=h q hq;obtain⟨t,ht⟩:=g q hq;exact⟨s+u*t,by grind⟩
theorem Aq.sum (c:Nat→Int):∀{b:Nat},(∀k,k<b→Aq p w a U (V k))→Aq p w a U (fun q=>sm (fun k=>c k*V k q) b)
 |0,_=>Aq.zero fun q _=>Int.dvd_zero p
 |b+1,h=>(Aq.sum c fun k hk=>h k (by omega)).add (c b) (h b (by omega))
theorem Aq.trans (h:∀k,k<b→Aq p w a U (V k))(hx:Aq p w b V x):Aq p w a U x:=by obtain⟨c,g⟩:=hx;exact(Aq.sum c h).congr g
theorem Aq.cut {r:Nat}(hr:r≤b)(hz:∀t,r≤t→t<b→∀q,q<w→p ∣ V t q)(hx:Aq p w b V x):Aq p w r V x:=
 Aq.trans (fun k hk=>by
  rcases Nat.lt_or_ge k r with g |g
  ·exact Aq.gen g
  ·exact Aq.zero (hz k g hk)) hx
end
def Ind (p:Int)(w a:Nat)(V:Nat→Nat→Int):Prop:=∀c:Nat→Int,(∀q,q<w→p ∣ sm (fun s=>c s*V s q) a)→∀s,s<a→p ∣ c s
theorem stz {p:Int}(h1:¬p ∣ 1)(pp:∀a b:Int,p ∣ a*b→p ∣ a∨p ∣ b){w a b:Nat}{V W:Nat→Nat→Int}(hV:∀s,s<a→Aq p w b W (V s))(hi:Ind p w a V):a≤b:=by
 rcases Nat.lt_or_ge b a with h |h
 ·exfalso;have:∀s,∃c:Nat→Int,s<a→∀q,q<w→p ∣ V s q - sm (fun k=>c k*W k q) b:=fun s=>by
   by_cases hs:s<a
   ·obtain⟨c,g⟩:=hV s hs;exact⟨c,fun _=>g⟩
   ·exact⟨fun _=>0,fun h=>absurd h hs⟩
  obtain⟨C,hC⟩:=Classical.axiomOfChoice this;obtain⟨c,⟨s,hs,hc⟩,hz⟩:=ker h1 pp b a C h;refine hc (hi c (fun q hq=> ?_) s hs);have e1:p ∣ sm (fun s=>c s*V s q) a - sm (fun s=>c s*sm (fun k=>C s k*W k q) b) a:=Mj fun s hs=>by rw[←Int.mul_sub];exact Int.dvd_trans (hC s hs q hq) (Int.dvd_mul_left _ _)
  have e2:sm (fun s=>c s*sm (fun k=>C s k*W k q) b) a=sm (fun k=>W k q*sm (fun s=>c s*C s k) a) b:=by
   have:sm (fun s=>c s*sm (fun k=>C s k*W k q) b) a=sm (fun s=>sm (fun k=>W k q*(c s*C s k)) b) a:=bq fun s _=>by
    rw[←uf];exact bq fun k _=>by
     generalize C s k=A;generalize W k q=B;generalize c s=D
     grind
   rw[this,QA (fun s k=>W k q*(c s*C s k)) b a];exact bq fun k _=>uf _ _ _
  rw[e2] at e1;exact(eG e1).2 (Mi fun k hk=>Int.dvd_trans (hz k hk) (Int.dvd_mul_left _ _))
 ·exact h
theorem akC {p:Int}(pp:∀a b:Int,p ∣ a*b→p ∣ a∨p ∣ b){w a:Nat}{V:Nat→Nat→Int}(pos mu:Nat→Nat)(h:∀s,s<a→pos s<w∧¬p ∣ V s (pos s)∧∀t,t<a→t≠s→p ∣ V t (pos s)∨mu t<mu s):Ind p w a V:=by
 intro c hc;have key:∀m s,s<a→mu s=m→p ∣ c s:=by
  intro m;induction m using Nat.strongRecOn with
  |ind m ih=>
   intro s hs e;obtain⟨p1,p2,p3⟩:=h s hs;have e5:=QB (p:=p) (g:=fun t=>c t*V t (pos s)) hs fun t ht hne=>by
    rcases p3 t ht hne with g |g
    ·exact Int.dvd_trans g (Int.dvd_mul_left _ _)
    ·exact Int.dvd_trans (ih (mu t) (by omega) t ht rfl) (Int.dvd_mul_right _ _)
   have e6:=(eG e5).1 (hc (pos s) p1);rcases pp _ _ e6 with g |g
   ·exact g
   ·exact absurd g p2
 exact fun s hs=>key _ s hs rfl
structure RI (p:Int) (w N r c:Nat) (m M:Nat→Nat→Int) (pos:Nat→Nat):Prop where
 le:r≤N
 cl:c≤w
 a:∀k,k<N→Aq p w N M (m k)
 b:∀s,s<N→Aq p w N m (M s)
 e:∀s,s<r→pos s<c∧¬p ∣ M s (pos s)∧∀t,s<t→t<N→p ∣ M t (pos s)
 z:∀t,r≤t→t<N→∀q,q<c→p ∣ M t q
section
variable {p:Int}{w N r c:Nat}{m M:Nat→Nat→Int}{pos:Nat→Nat}
theorem RI.zero:RI p w N 0 0 m m pos:=⟨by omega,by omega,fun k hk=>Aq.gen hk,fun k hk=>Aq.gen hk,fun s hs=>by omega,fun t _ _ q hq=>by omega⟩
theorem RI.congr {M':Nat→Nat→Int}(h:RI p w N r c m M pos)(e:∀s q,s<N→q<w→M' s q=M s q):RI p w N r c m M' pos:=by
 refine⟨h.le,h.cl,fun k hk=>Aq.trans (fun s hs=>(Aq.gen (V:=M') hs).congr fun q hq=> ?_) (h.a k hk),fun s hs=>(h.b s hs).congr fun q hq=> ?_,fun s hs=> ?_,fun t h1 h2 q hq=> ?_⟩
 ·rw[e s q hs hq,Int.sub_self];exact Int.dvd_zero p
 ·rw[e s q hs hq,Int.sub_self];exact Int.dvd_zero p
 ·obtain⟨e1,e2,e3⟩:=h.e s hs;have:=h.le;have:=h.cl;refine⟨e1, ?_,fun t h1 h2=> ?_⟩
  ·rw[e s _ (by omega) (by omega)];exact e2
  ·rw[e t _ h2 (by omega)];exact e3 t h1 h2
 ·have:=h.cl;rw[e t q h2 (by omega)];exact h.z t h1 h2 q hq
theorem RI.skip (h:RI p w N r c m M pos)(hc:c<w)(hz:∀t,r≤t→t<N→p ∣ M t c):RI p w N r (c+1) m M pos:=
 ⟨h.le,hc,h.a,h.b,fun s hs=>by have:=h.e s hs;exact⟨by omega,this.2⟩,fun t h1 h2 q hq=>by
   by_cases e:q=c
   ·subst e;exact hz t h1 h2
   ·exact h.z t h1 h2 q (by omega)⟩
def sw (r P t:Nat):Nat:=if t=r then P else if t=P then r else t
theorem akD {r P t:Nat}:sw r P (sw r P t)=t:=by
 unfold sw;by_cases h1:t=r
 ·rw[if_pos h1];by_cases h2:P=r
  ·rw[if_pos h2];omega
  ·rw[if_neg h2,if_pos rfl];omega
 ·rw[if_neg h1];by_cases h2:t=P
  ·rw[if_pos h2,if_pos rfl];omega
  ·rw[if_neg h2,if_neg h1,if_neg h2]
theorem RI.step (h:RI p w N r c m M pos)(hc:c<w){P:Nat}(hP:r≤P)(hN:P<N)(hne:¬p ∣ M P c){M':Nat→Nat→Int}{kap:Nat→Int}(hk:∀i,i≤r→kap i=0)
  (hM:∀i,i<N→∀q,q<w→p ∣ M' i q - (M (sw r P i) q+kap i*M P q)) (hz:∀i,r<i→i<N→p ∣ M' i c):RI p w N (r+1) (c+1) m M' (fun s=>if s=r then c else pos s):=by
 have w1:∀t,t<N→sw r P t<N:=fun t ht=>by unfold sw;split<;>(try split)<;>omega
 have w2:sw r P r=P:=if_pos rfl;have w3:∀t,t<r→sw r P t=t:=fun t ht=>by unfold sw;rw[if_neg (by omega),if_neg (by omega)]
 have w4:∀t,r≤t→r≤sw r P t:=fun t ht=>by unfold sw;split<;>(try split)<;>omega
 have hr:∀q,q<w→p ∣ M' r q - M P q:=fun q hq=>by have:=hM r (by omega) q hq;rw[hk r (Nat.le_refl r),w2,Int.zero_mul,Int.add_zero] at this;exact this
 refine⟨by omega,by omega,fun k hkk=>Aq.trans (fun t ht=> ?_) (h.a k hkk),fun s hs=> ?_,fun s hs=> ?_,fun t h1 h2 q hq=> ?_⟩
 ·have e1:Aq p w N M' (fun q=>M' (sw r P t) q+ - kap (sw r P t)*M' r q):=(Aq.gen (w1 t ht)).add _ (Aq.gen (by omega));refine e1.congr fun q hq=> ?_;have g1:=hM (sw r P t) (w1 t ht) q hq;rw[akD] at g1;have g2:=hr q hq;obtain⟨s,hs⟩:=g1;obtain⟨u,hu⟩:=g2;generalize kap (sw r P t)=K at*
  exact⟨K*u - s,by grind⟩
 ·exact((h.b (sw r P s) (w1 s hs)).add (kap s) (h.b P hN)).congr (hM s hs)
 ·by_cases e:s=r
  ·subst e;simp only[if_true];refine⟨by omega,fun q=>hne ((eG (hr c hc)).1 q),fun t h1 h2=>hz t h1 h2⟩
  ·simp only[if_neg e];obtain⟨e1,e2,e3⟩:=h.e s (by omega);have:=h.cl;refine⟨by omega,fun q=>e2 ?_,fun t h1 h2=> ?_⟩
   ·have:=hM s (by omega) (pos s) (by omega);rw[hk s (by omega),w3 s (by omega),Int.zero_mul,Int.add_zero] at this;exact(eG this).1 q
   ·refine(eG (hM t h2 (pos s) (by omega))).2 (Int.dvd_add (e3 _ ?_ (w1 t h2)) (Int.dvd_trans (e3 P (by omega) hN) (Int.dvd_mul_left _ _)));rcases Nat.lt_or_ge t r with g |g
    ·rw[w3 t g];exact h1
    ·have:=w4 t g;omega
 ·have:=h.cl;by_cases e:q=c
  ·subst e;exact hz t (by omega) h2
  ·exact(eG (hM t h2 q (by omega))).2 (Int.dvd_add (h.z _ (w4 t (by omega)) (w1 t h2) q (by omega)) (Int.dvd_trans (h.z P hP hN q (by omega)) (Int.dvd_mul_left _ _)))
theorem RI.fin (h:RI p w N r c m M pos)(he:r=N∨c=w):(∀k,k<N→Aq p w r M (m k))∧(∀s,s<r→Aq p w N m (M s)):=by
 have:=h.le;refine⟨fun k hk=>Aq.cut h.le (fun t h1 h2 q hq=> ?_) (h.a k hk),fun s hs=>h.b s (by omega)⟩;rcases he with e |e
 ·omega
 ·exact h.z t h1 h2 q (by omega)
end
theorem aht {p:Int}(h1:¬p ∣ 1)(pp:∀a b:Int,p ∣ a*b→p ∣ a∨p ∣ b){n:Nat}{m R:Nat→Nat→Int}(h:Wq p n m R){i N:Nat}(hN:N≤n){r c:Nat}{M:Nat→Nat→Int}{pos:Nat→Nat}
  (hR:RI p (n - i) N r c (fun k q=>m (i+q) k) M pos) (he:r=N∨c=n - i) {f:Nat→Bool} (hf:∀k,k<n→(f k=true↔∃s,i≤s∧Bh p n R k s)):r=((List.range N).filter f).length:=by
 obtain⟨v,v1,v2,v3⟩:=h.cmb;obtain⟨f1,f2⟩:=hR.fin he;obtain⟨L,hL⟩:∃L,L=(List.range N).filter f:=⟨_,rfl⟩
 rw[←hL];have hmem:∀s,s<L.length→L.getD s 0<N∧f (L.getD s 0)=true:=fun s hs=>by
  have:L.getD s 0∈L:=by simp only[List.getD,List.getElem?_eq_getElem hs,Option.getD_some];exact List.getElem_mem hs
  rw[hL] at this ⊢;have:=List.mem_filter.1 this;exact⟨List.mem_range.1 this.1,this.2⟩
 have hnd:∀s t,s<L.length→t<L.length→L.getD s 0=L.getD t 0→s=t:=by
  have hp:L.Pairwise (· ≠ ·):=by rw[hL];exact(List.nodup_range (n:=N)).filter _
  intro s t hs ht e;simp only[List.getD,List.getElem?_eq_getElem hs,List.getElem?_eq_getElem ht,Option.getD_some] at e;rcases Nat.lt_trichotomy s t with g |g |g
  ·exact absurd e (List.pairwise_iff_getElem.1 hp s t hs ht g)
  ·exact g
  ·exact absurd e.symm (List.pairwise_iff_getElem.1 hp t s ht hs g)
 have hidx:∀k,k<N→f k=true→∃s,s<L.length∧L.getD s 0=k:=fun k hk hfk=>by
  have:k∈L:=by rw[hL];exact List.mem_filter.2 ⟨List.mem_range.2 hk,hfk⟩
  obtain⟨s,hs,e⟩:=List.getElem_of_mem this;exact⟨s,hs,by simp only[List.getD,List.getElem?_eq_getElem hs,Option.getD_some];exact e⟩
 have low:∀s,∃q,s<L.length→i≤q∧Bh p n R (L.getD s 0) q:=fun s=>by
  by_cases hs:s<L.length
  ·obtain⟨g1,g2⟩:=hmem s hs;obtain⟨q,q1,q2⟩:=(hf _ (by omega)).1 g2;exact⟨q,fun _=>⟨q1,q2⟩⟩
  ·exact⟨0,fun h=>absurd h hs⟩
 obtain⟨lw,hlw⟩:=Classical.axiomOfChoice low
 -- C7 reduced QC with a low are ack
 have hI:Ind p (n - i) L.length (fun s q=>R (i+q) (L.getD s 0)):=by
  refine akC pp (fun s=>lw s - i) (fun s=>n - lw s) fun s hs=> ?_;obtain⟨a1,a2⟩:=hlw s hs;have a3:=a2.1;refine⟨by omega, ?_,fun t ht hne=> ?_⟩
  ·rw[show i+(lw s - i)=lw s by omega];exact a2.2.1
  ·obtain⟨b1,b2⟩:=hlw t ht;have b3:=b2.1;rw[show i+(lw s - i)=lw s by omega];rcases Nat.lt_trichotomy (lw s) (lw t) with g |g |g
   ·right;omega
   ·rw[←g] at b2;exact absurd (hnd t s ht hs (h.inj _ _ _ (by have:=(hmem t ht).1;omega) (by have:=(hmem s hs).1;omega) b2 a2)) hne
   ·left;exact b2.2.2 _ g a3
 -- C7 reduced QC are ZV of C7 QC
 have hRm:∀k,k<N→Aq p (n - i) N (fun k q=>m (i+q) k) (fun q=>R (i+q) k):=fun k hk=>by
  refine(Aq.sum (b:=N) (V:=fun k q=>m (i+q) k) (fun l=>v l k) fun l hl=>Aq.gen (V:=fun k q=>m (i+q) k) hl).congr fun q hq=> ?_;have:=v3 k (by omega) (i+q) (by omega);have e:sm (fun l=>v l k*m (i+q) l) n=sm (fun l=>v l k*m (i+q) l) N:=by
   have:∀d,sm (fun l=>v l k*m (i+q) l) (N+d)=sm (fun l=>v l k*m (i+q) l) N:=fun d=>by
    induction d with
    |zero=>rfl
    |succ d ih=>show sm (fun l=>v l k*m (i+q) l) (N+d)+v (N+d) k*m (i+q) (N+d)=_;rw[ih,v2 k (by omega) (N+d) (by omega),Int.zero_mul,Int.add_zero]
   have:=this (n - N);rw[show N+(n - N)=n by omega] at this;exact this
  rw[e] at this;exact this
 -- C7 QC are ZV of C7 reduced QC with a low
 have hmR:∀k,k<N→Aq p (n - i) L.length (fun s q=>R (i+q) (L.getD s 0)) (fun q=>m (i+q) k):=by
  intro k;induction k using Nat.strongRecOn with
  |ind k ih=>
   intro hk;have r1:Aq p (n - i) L.length (fun s q=>R (i+q) (L.getD s 0)) (fun q=>R (i+q) k):=by
    by_cases hfk:f k=true
    ·obtain⟨s,hs,e⟩:=hidx k hk hfk;have:=Aq.gen (p:=p) (w:=n - i) (V:=fun s q=>R (i+q) (L.getD s 0)) hs;simp only[e] at this;exact this
    ·refine Aq.zero fun q hq=>Classical.byContradiction fun hn=>hfk ((hf k (by omega)).2 ?_);obtain⟨s,s1,s2⟩:=Bh.anX (n:=n) (i:=i+q) (by omega) hn;exact⟨s,by omega,s2⟩
   have r2:Aq p (n - i) L.length (fun s q=>R (i+q) (L.getD s 0)) (fun q=>sm (fun l=>v l k*m (i+q) l) k):=Aq.sum (V:=fun l q=>m (i+q) l) (fun l=>v l k) fun l hl=>ih l hl (by omega);refine(r1.add (-1) r2).congr fun q hq=> ?_;have:=v3 k (by omega) (i+q) (by omega);have e:sm (fun l=>v l k*m (i+q) l) n=sm (fun l=>v l k*m (i+q) l) k+m (i+q) k:=by
    have:∀d,sm (fun l=>v l k*m (i+q) l) (k+1+d)=sm (fun l=>v l k*m (i+q) l) k+m (i+q) k:=fun d=>by
     induction d with
     |zero=>show sm (fun l=>v l k*m (i+q) l) k+v k k*m (i+q) k=_;rw[v1 k (by omega),Int.one_mul]
     |succ d ih=>show sm (fun l=>v l k*m (i+q) l) (k+1+d)+v (k+1+d) k*m (i+q) (k+1+d)=_;rw[ih,v2 k (by omega) (k+1+d) (by omega),Int.zero_mul,Int.add_zero]
    have:=this (n - (k+1));rw[show k+1+(n - (k+1))=n by omega] at this;exact this
   rw[e] at this;have:=Int.dvd_neg.2 this;rw[show -(R (i+q) k - (sm (fun l=>v l k*m (i+q) l) k+m (i+q) k))=m (i+q) k - (R (i+q) k+ -1*sm (fun l=>v l k*m (i+q) l) k) by omega] at this;exact this
 -- C7 rows of C7 kv are ack
 have hM:Ind p (n - i) r M:=by
  have h2:=hR.le;have h3:=hR.cl;refine akC pp pos id fun s hs=> ?_;obtain⟨e1,e2,e3⟩:=hR.e s hs;refine⟨by omega,e2,fun t ht hne=> ?_⟩;rcases Nat.lt_or_ge t s with g |g
  ·right;exact g
  ·left;exact e3 t (by omega) (by omega)
 have le1:r≤L.length:=stz h1 pp (fun s hs=>Aq.trans hmR (f2 s hs)) hM;have le2:L.length≤r:=stz h1 pp (fun s hs=>Aq.trans f1 (hRm _ (hmem s hs).1)) hI;omega
end Go.Proofs.YtofjebmoebhiiaaGreatDoor.Ev
namespace Go.Abs
theorem O4 {l:List Tm}{t:Tm}(h:l.getLast?=some t):∃r,l=r++[t]:=by
 cases hl:l with
 |nil=>subst hl;cases h
 |cons a r=>
  have hne:l≠ []:=by rw[hl];simp
  rw[List.getLast?_eq_some_getLast hne] at h;have h:=Option.some.inj h;exact⟨l.dropLast,by rw[←hl, ←h,List.dropLast_concat_getLast hne]⟩
theorem b9 {l:List Tm}{t:Tm}(h:l.getLast?=some t):t∈l:=by obtain⟨r,rfl⟩:=O4 h;simp
theorem acm:∀{l:List Tm} {lo:Int} {t:Tm},Sr lo l→l.getLast?=some t→∀u∈l,u.1≤t.1
 |a::r,lo,t,h,hl,u,hu=>by
  cases r with
  |nil=>simp at hl hu;subst hl hu;exact Int.le_refl _
  |cons b s=>
   have hl':(b::s).getLast?=some t:=by simpa [List.getLast?_cons_cons] using hl
   have ih:=acm h.2 hl';rcases List.mem_cons.1 hu with rfl |hu
   ·have:=ih b (by simp);have:=h.2.1;omega
   ·exact ih u hu
theorem T5 {l:List Tm}{lo:Int}{t:Tm}(h:Sr lo l)(hl:l.getLast?=some t){i:Int}(hi:t.1<i):cf l i=0:=by
 by_cases h0:cf l i=0
 ·exact h0
 ·obtain⟨u,hu,e⟩:=Te h0;have:=acm h hl u hu;omega
def QD (x:List Tm):Int×Bool:=match x.getLast? with
 |some t=>(t.1,true)
 |none=>(0,false)
structure Sto (p:Int) (n:Nat) (st:List (Option (List Tm))):Prop where
 len:st.length=n
 ok:∀i y,st.getD i none=some y→Vc p n y∧∃u,y.getLast?=some u∧u.1=i
theorem aum {α:Type}{l:List (Option α)}{i:Nat}(h:i<l.length):l[i]? =some (l.getD i none):=by simp[List.getD,h]
def kS (p:Int)(st:List (Option (List Tm))):Nat→List Tm→Int→List Tm×Int
 |0,x,a=>(x,a)
 |f+1,x,a=>match x.getLast? with
  |none=>(x,a)
  |some t=>match st.getD t.1.toNat none with
   |none=>(x,a)
   |some y=>kS p st f (tv p x ((-t.2.1*Go.Proofs.YtofjebmoebhiiaaGreatDoor.Ev.iv p ((y.getLast?.getD (0,(0,()))).2.1)) % p) y) (a+1)
end Go.Abs
namespace Go.Proofs.YtofjebmoebhiiaaGreatDoor.Ev
open Go.Abs Go.IntWalk
theorem kill {p c d:Int}(hp:Pr p)(hc:1≤c∧c<p)(hd:1≤d∧d<p):(c+(-c*iv p d) % p*d) % p=0:=by
 have h:=OX hp hd;have h0:p≠0:=by have:=hp.1;omega
 rw[Int.add_emod,Int.mul_emod,Int.emod_emod_of_dvd _ (Int.dvd_refl p), ←Int.mul_emod, ←Int.add_emod];have e:c+ -c*iv p d*d=c*(1 - d*iv p d):=by rw[Int.mul_sub,Int.mul_one,Int.neg_mul,Int.neg_mul,Int.mul_assoc,Int.mul_comm (iv p d) d];omega
 rw[e,Int.mul_emod,Int.sub_emod,h];have h1:(1:Int) % p=1:=Int.emod_eq_of_lt (by omega) (by have:=hp.1;omega);rw[h1];simp
theorem V3 {p:Int}(hp:Pr p){n:Nat}{x y:List Tm}{t u:Tm}(hx:Vc p n x)(hy:Vc p n y)(ht:x.getLast?=some t)(hu:y.getLast?=some u)(e:t.1=u.1):
  ∀s∈tv p x ((-t.2.1*iv p u.2.1) % p) y,s.1<t.1:=fun s hs=>by
 have hpp:0<p:=by have:=hp.1;omega
 obtain⟨h1,h2⟩:=FU (k:=(-t.2.1*iv p u.2.1) % p) hpp hx hy;have h3:=Gz h1.s s hs;have h4:=h1.r s hs;rw[h2] at h3;have ct:=Gz hx.s t (b9 ht);have cu:=Gz hy.s u (b9 hu);rcases Int.lt_trichotomy s.1 t.1 with h |h |h
 ·exact h
 ·exfalso;rw[h,ct,e,cu,kill hp (hx.r t (b9 ht)).2 (hy.r u (b9 hu)).2] at h3;omega
 ·exfalso;rw[T5 hx.s ht h,T5 hy.s hu (by omega)] at h3;simp at h3;omega
theorem acn {x:List Tm}(h:x≠ []):wO [] (.qG (.st (.pair (.int .i64) (.pair (.int .i64) (.unit))))) [⟨.slice (.st (.pair (.int .i64) (.pair (.int .i64) (.unit)))),x⟩]=some (some x):=by
 cases x with
 |nil=>exact absurd rfl h
 |cons a r=>rfl
theorem ZW {α β:Type}{xs:List (Option α)}{k:Nat}{f:Option α→Option β}(h:k<xs.length):(xs[k]?).bind f=f (xs.getD k none):=by rw[aum h];exact bS _ _
theorem QE {α β:Type}{xs:List (Option α)}{i:Int}{f:Option α→Option β}(h0:0≤i)(h:i<xs.length):(idx xs i).bind f=f (xs.getD i.toNat none):=akt none h0 h
abbrev V4:=List (Option (List Tm))
noncomputable def Ye (j:Nat)(x:List Tm)(out:Nat)(st:List (Option (List Tm)))(dt:List Int)(e:Bool)(p:Int)(aa:List Cl)(a w2:Int)(cO:V4)(rest:List (Int×Unit)):Option ((Nat×Int×Int×Unit)×V4):=
 match x.getLast? with
 |some t=>ao out out (st.set t.1.toNat (some x)) (dt.set t.1.toNat j) e p aa a w2 cO rest
 |none=>if dt.getD j 0= -2 then ao out out st (dt.set j (-1)) e p aa a w2 cO rest else ao out out st dt e p aa a w2 cO rest
theorem ahu {p:Int}(hp:Pr p){n:Nat}(hn:n≤1024){st:List (Option (List Tm))}(hst:Sto p n st){dt:List Int}(hdt:dt.length=n){j:Nat}(hj:j<n){e:Bool}{aa:List Cl}{w2:Int}{out:Nat}{cO:V4}{rest:List (Int×Unit)}:
  ∀(f:Nat) (x:List Tm) (a:Int),Vc p n x→(∀t∈x,t.1<f)→0≤a→a+f≤1000000000→
   bC j x (QD x).1 (QD x).2 out st dt e p aa a w2 cO rest=Ye j (kS p st f x a).1 out st dt e p aa (kS p st f x a).2 w2 cO rest:=by
 intro f;have stop:∀(x:List Tm) (a:Int),Vc p n x→(∀t,x.getLast?=some t→st.getD t.1.toNat none=none)→bC j x (QD x).1 (QD x).2 out st dt e p aa a w2 cO rest=Ye j x out st dt e p aa a w2 cO rest:=by
  intro x a hx hno;rw[mA,jG];unfold Ye QD;cases hl:x.getLast? with
  |none=>
   simp only;rw[cF,cF,gV (by omega) (by omega),rS (by omega),Int.toNat_natCast];by_cases h2:dt.getD j 0= -2
   ·rw[iZ h2,gV (by omega) (by omega),rS (by omega),if_pos h2]
   ·rw[ft h2,if_neg h2]
  |some t=>
   have ht:=hx.r t (b9 hl);have ht0:=Sr.mem hx.s t (b9 hl);have hne:x≠ []:=fun e=>by rw[e] at hl;cases hl
   have hlen:=hst.len;simp only;rw[cT,QE (by omega) (by omega),ZW (by omega),hno t hl];have e1:(!(Option.isNone (none:Option (List Tm))))=false:=rfl;rw[e1,cF,cT,QE (by omega) (by omega),ZW (by omega),acn hne,bS,gV (by omega) (by omega),rS (by omega)]
 induction f with
 |zero=>
  intro x a hx hf ha hb;have:x=[]:=by
   cases x with
   |nil=>rfl
   |cons t r=>have h1:=hf t (by simp);have h2:=Sr.mem hx.s t (by simp);omega
  subst this;rw[kS];exact stop [] a hx (fun t ht=>by cases ht)
 |succ f ih=>
  intro x a hx hf ha hb;rw[kS];cases hl:x.getLast? with
  |none=>exact stop x a hx (fun t ht=>by rw[hl] at ht;cases ht)
  |some t=>
   simp only;cases hy:st.getD t.1.toNat none with
   |none=>exact stop x a hx (fun u hu=>by rw[hl] at hu;cases hu;exact hy)
   |some y=>
    simp only;have ht:=hx.r t (b9 hl);have ht0:=Sr.mem hx.s t (b9 hl);have hne:x≠ []:=fun e=>by rw[e] at hl;cases hl
    have hlen:=hst.len;have hf':=hf t (b9 hl);obtain⟨hvy,u,hu,hu1⟩:=hst.ok _ y hy;have hur:=hvy.r u (b9 hu);have hxl:=hx.length (by omega);have hyl:=hvy.length (by omega);have aun:y.length≠0:=fun e=>by rw[List.length_eq_zero_iff.1 e] at hu;cases hu
    have auo:x.length≠0:=fun e=>hne (List.length_eq_zero_iff.1 e);have gl:∀{z:List Tm} {v:Tm},z.getLast?=some v→z.getD (z.length - 1) wM=v:=fun {z v} h=>by obtain⟨r,rfl⟩:=O4 h;simp[List.getD]
    have ey:IntKind.wrap .i64 (((lst (some y)).length:Int) - 1)=((y.length - 1:Nat):Int):=by show IntKind.wrap .i64 ((y.length:Int) - 1)=_;rw[i64_in _ (by omega)];omega
    have ex:IntKind.wrap .i64 ((x.length:Int) - 1)=((x.length - 1:Nat):Int):=by rw[i64_in _ (by omega)];omega
    have hiv:=Lx hp hur.2;have hm1:0≤t.2.1*iv p u.2.1:=Int.mul_nonneg (by omega) (by omega);have hm2:t.2.1*iv p u.2.1≤251*251:=Int.mul_le_mul (by have:=hp.2.1;omega) (by have:=hp.2.1;omega) (by omega) (by omega);have e7:IntKind.wrap .i64 (IntKind.wrap .i64 (0 - t.2.1)*iv p u.2.1)= -t.2.1*iv p u.2.1:=by
     have:=hp.2.1;rw[i64_in (0 - t.2.1) (by omega)];have:(0 - t.2.1)*iv p u.2.1= -(t.2.1*iv p u.2.1):=by rw[Int.zero_sub,Int.neg_mul]
     rw[this,i64_in _ (by omega),Int.neg_mul]
    have hpp:0<p:=by have:=hp.1;omega
    have hk:(-t.2.1*iv p u.2.1) % p % p=(-t.2.1*iv p u.2.1) % p:=Int.emod_emod_of_dvd _ (Int.dvd_refl p);have hpl:=V3 hp hx hvy hl hu (by omega);have hv':=(FU (k:=(-t.2.1*iv p u.2.1) % p) hpp hx hvy).1;have aaH:=hv'.length (by omega);have hd:(y.getLast?.getD (0,(0,())))=u:=by rw[hu];rfl
    have wL:=ih (tv p x ((-t.2.1*iv p u.2.1) % p) y) (a+1) hv' (fun s hs=>by have:=hpl s hs;omega) (by omega) (by omega);rw[hd, ←wL,mA,jG];have el:QD x=(t.1,true):=by unfold QD;rw[hl]
    rw[el];simp only;rw[cT,QE (by omega) (by omega),ZW (by omega),hy];have e1:(!(Option.isNone (some y)))=true:=rfl;rw[e1,cT,QE (by omega) (by omega),ZW (by omega),hy,ey];have e2:lst (some y)=y:=rfl;rw[e2,eQ wM (by omega),gl hu,Tg hp hur.2,bS,ex,eQ wM (by omega),gl hl,e7,Lw hp,bS,GA hp (hx.mono (by omega)) (hvy.mono (by omega)) (by omega) (by omega),bS,hk];simp only;rw[ZR (by omega),bS,i64_in (a+1) (by omega)];rfl
theorem _root_.Go.Abs.Vr.out {n:Nat}{x:List Tm}{v:List Int}(h:Vr n x v){j:Nat}(hj:n≤j):v.getD j 0=0:=by have:=h.len;simp only[List.getD];rw[List.getElem?_eq_none (by omega)];rfl
abbrev aup:=(Int×List Cl×Unit)×Nat×Nat×Nat×Int×Int×Unit
def h5 (p:Int)(aa:List Cl)(a k:Int):List (Option (List aup)):=[some [((p,(aa,())),((1:Nat),((1:Nat),((1:Nat),(a,(k,()))))))]]
structure Sv (p:Int) (n:Nat) (st:List (Option (List Tm))) (sd:List (Option (List Int))):Prop where
 len:sd.length=n
 none_:∀i,st.getD i none=none→sd.getD i none=none
 some_:∀i y,st.getD i none=some y→∃w,sd.getD i none=some w∧Vr n y w∧Rs p w
theorem aco {s:List Tm}(h:s.length≤1000000):mT s=some s:=by have e:mT s=(bif aB 16 2 0 s.length then some s else none):=Fa T B (Go.Abs.look fns) 84 s;rw[e,iG (by omega) (by omega)]
structure Rel (p:Int) (n:Nat) (st:List (Option (List Tm))) (dt:List Int) (sd:List (Option (List Int))) (by_:List Int) (em:List Bool):Prop where
 M9:Sto p n st
 sv:Sv p n st sd
 ldt:dt.length=n
 lby:by_.length=n
 lem:em.length=n
 d:∀i,i<n→dt.getD i 0=match st.getD i none with |some _=>by_.getD i 0 |none=>bif em.getD i false then -1 else -2
 b:∀i,i<n→0≤by_.getD i 0
theorem O5 {α:Type}{l:List (Option α)}{k j:Nat}{v:Option α}:(l.set k v).getD j none=if k=j∧k<l.length then v else l.getD j none:=by
 simp only[List.getD,List.getElem?_set];by_cases h:k=j
 ·subst h;by_cases hk:k<l.length
  ·simp[hk]
  ·simp[hk]
 ·simp[h]
theorem arS {l:List Bool}{k j:Nat}{v:Bool}:(l.set k v).getD j false=if k=j∧k<l.length then v else l.getD j false:=by
 simp only[List.getD,List.getElem?_set];by_cases h:k=j
 ·subst h;by_cases hk:k<l.length
  ·simp[hk]
  ·simp[hk]
 ·simp[h]
theorem Rel.put {p:Int}{n:Nat}{st:List (Option (List Tm))}{dt:List Int}{sd:List (Option (List Int))}{by_:List Int}{em:List Bool}(h:Rel p n st dt sd by_ em){x:List Tm}{v:List Int}{t:Tm}(hx:Vc p n x)(hv:Vr n x v)(hr:Rs p v)(ht:x.getLast?=some t){j:Nat}:
  Rel p n (st.set t.1.toNat (some x)) (dt.set t.1.toNat j) (sd.set t.1.toNat (some v)) (by_.set t.1.toNat j) em:=by
 have htr:=hx.r t (b9 ht);have ht0:=Sr.mem hx.s t (b9 ht);have l1:=h.M9.len;have l2:=h.sv.len;have l3:=h.ldt;have l4:=h.lby;refine⟨⟨by simpa using l1,fun i y hy=> ?_⟩,⟨by simpa using l2,fun i hi=> ?_,fun i y hy=> ?_⟩,by simpa using l3,by simpa using l4,h.lem,fun i hi=> ?_,fun i hi=> ?_⟩
 ·rw[O5] at hy;split at hy
  ·rename_i e;cases hy;exact⟨hx,t,ht,by omega⟩
  ·exact h.M9.ok i y hy
 ·rw[O5] at hi ⊢;split at hi
  ·cases hi
  ·rename_i e;rw[if_neg (by omega)];exact h.sv.none_ i hi
 ·rw[O5] at hy ⊢;split at hy
  ·rename_i e;cases hy;rw[if_pos (by omega)];exact⟨v,rfl,hv,hr⟩
  ·rename_i e;rw[if_neg (by omega)];exact h.sv.some_ i y hy
 ·rw[db,O5,db];by_cases e:t.1.toNat=i
  ·rw[if_pos (by omega),if_pos (by omega)];simp only;rw[if_pos (by omega)]
  ·rw[if_neg (by omega),if_neg (by omega)];rw[h.d i hi];cases st.getD i none with
   |none=>rfl
   |some y=>simp only;rw[if_neg (by omega)]
 ·rw[db];split
  ·omega
  ·exact h.b i hi
theorem Rel.empty {p:Int}{n:Nat}{st:List (Option (List Tm))}{dt:List Int}{sd:List (Option (List Int))}{by_:List Int}{em:List Bool}(h:Rel p n st dt sd by_ em){j:Nat}(hj:j<n):
  Rel p n st (if dt.getD j 0= -2 then dt.set j (-1) else dt) sd by_ (em.set j true):=by
 have l3:=h.ldt;have l5:=h.lem;refine⟨h.M9,h.sv,by split<;>simpa using l3,h.lby,by simpa using l5,fun i hi=> ?_,h.b⟩;have hd:=h.d i hi;by_cases e:j=i
 ·subst e;have e5:(em.set j true).getD j false=true:=by rw[arS,if_pos ⟨rfl,by omega⟩]
  rw[e5];cases hs:st.getD j none with
  |some y=>rw[hs] at hd;have hb:=h.b j hi;simp only at hd ⊢;rw[if_neg (by omega)];exact hd
  |none=>
   rw[hs] at hd;simp only at hd ⊢;rw[cT];cases he:em.getD j false with
   |true=>rw[he,cT] at hd;rw[if_neg (by omega)];exact hd
   |false=>rw[he,cF] at hd;rw[if_pos hd,db,if_pos (by omega)]
 ·have e5:(em.set j true).getD i false=em.getD i false:=by rw[arS,if_neg (by omega)]
  rw[e5, ←hd];split
  ·rw[db,if_neg (by omega)]
  ·rfl
def EM (dt:List Int):Nat→Nat→List Tm
 |_,0=>[]
 |i,m+1=>if dt.getD i 0> -2 then ((i:Int),(dt.getD i 0,()))::EM dt (i+1) m else EM dt (i+1) m
theorem O6 (dt:List Int):∀(m i:Nat),(EM dt i m).length≤m
 |0,i=>by simp[EM]
 |m+1,i=>by rw[EM];have:=O6 dt m (i+1);split<;>simp<;>omega
theorem ahw {dt:List Int}(hn:dt.length≤1024){w w2:Int}:∀(m i out:Nat) (cO:V4) (l:List Tm),m+i=dt.length→ag cO out=some l→l.length≤i→
  ∃out' hp',bg out (dt.length:Int) i dt w w2 cO=some ((out',(w,(w2,()))),hp')∧ag hp' out'=some (l++EM dt i m):=by
 intro m;induction m with
 |zero=>intro i out cO l hi hg hl;rw[mz,jF,al (by omega)];exact⟨out,cO,rfl,by rw[EM,List.append_nil];exact hg⟩
 |succ m ih=>
  intro i out cO l hi hg hl;rw[mz,jF,au (by omega),gV (by omega) (by omega),rS (by omega),Int.toNat_natCast,EM,aU (by omega)];by_cases h:dt.getD i 0> -2
  ·rw[da h,hg,bS,iG (by omega) (by omega),if_pos h];simp only;have hg':ag (cw cO out++[some (l++[((i:Int),(dt.getD i 0,()))])]) ((cw cO out).length+1)=some (l++[((i:Int),(dt.getD i 0,()))]):=by simp[ag]
   obtain⟨o',h',g1,g2⟩:=ih (i+1) _ _ _ (by omega) hg' (by simp;omega);refine⟨o',h',g1, ?_⟩;rw[g2,List.append_assoc];rfl
  ·rw[dA h,if_neg h];exact ih (i+1) out cO l (by omega) hg (by omega)
end Go.Proofs.YtofjebmoebhiiaaGreatDoor.Ev
namespace Go.Abs
abbrev tP:Ty:= .st (.pair (.int .i64) (.pair (.int .i64) (.unit)))
theorem Lz {α:Type}{f:α→Option α}(h:∀y,f y=some y):∀ys:List α,mO f ys=some ys
 | []=>rfl
 |a::r=>by rw[mO,h a,Lz h r]
theorem IZ {af:List aQ}{hp:List (Option (List Tm))}(h3:af[3]? =some ⟨58,tP,0,true,hp⟩){n:Nat}{l:List Tm}(hg:ag hp n=some l):typed af (.slice tP) (.rv (.cv ⟨.ref 3,n⟩))=some l:=by
 unfold typed;simp only;unfold wO snap HO;simp only;rw[h3];simp only;cases n with
 |zero=>
  have:l=[]:=by simpa [ag] using hg.symm
  subst this;rfl
 |succ k=>have hb:Nat.beq (k+1) 0=false:=rfl;rw[hb,hg];simp only[cond_false,Option.bind_some];rw[Lz (fun y=>by obtain⟨a,b,u⟩:=y;rfl)];rfl
end Go.Abs
namespace Go.Proofs.YtofjebmoebhiiaaGreatDoor.Ev
open Go.Abs Go.IntWalk
def rg:Nat→Nat→List (Int×Unit)
 |_,0=>[]
 |j,m+1=>((j:Int),())::rg (j+1) m
theorem akE {n:Nat}(hn:n≤1000000):∀(m j:Nat) (tr:List (Int×Unit)),m+j=n→c7 n j tr=some (tr++rg j m):=by
 intro m;induction m with
 |zero=>intro j tr h;rw[oO,kz,al (by omega),rg,List.append_nil]
 |succ m ih=>intro j tr h;rw[oO,kz,au (by omega),aU (by omega),ih (j+1) _ (by omega),rg,List.append_assoc];rfl
theorem apq {p:Int}(hp:Pr p){n:Nat}(hn:n≤1024){aa:List Cl}(hc:aa.length=n){st:List (Option (List Tm))}(hst:Sto p n st){dt:List Int}(hdt:dt.length=n){j:Nat}(hj:j<n)(hx:Vc p n (ck aa j)){a w2:Int}(ha:0≤a)(hb:a+n≤1000000000){out:Nat}{cO:V4}{rest:List (Int×Unit)}:
  ao out out st dt false p aa a w2 cO (((j:Int),())::rest)=Ye j (kS p st n (ck aa j) a).1 out st dt false p aa (kS p st n (ck aa j) a).2 w2 cO rest:=by
 have hl:=hx.length (by omega);rw[my,jC];simp only;rw[cF,eQ iF (by omega)];have eb:(aa.getD j iF).2.2.1=ck aa j:=by rw[gX]
 rw[eb,aco (by omega),bS,ZR (by omega),bS];exact ahu hp hn hst hdt hj n (ck aa j) a hx (fun t ht=>(hx.r t ht).1) ha hb
theorem apr {n:Nat}(hn:n≤1024){st:List (Option (List Tm))}{p:Int}{aa:List Cl}(hc:aa.length=n){cO:V4}:∀(m i:Nat),m+i=n→
  b4 0 (n:Int) i st (List.replicate i (-2)++List.replicate m 0) false p aa 0 0 cO=ao 0 0 st (List.replicate n (-2)) false p aa 0 0 cO (rg 0 n):=by
 intro m;induction m with
 |zero=>
  intro i hi;have e0:((0:Nat):Int)=0:=rfl;have hw:=akE (n:=n) (by omega) n 0 [] (by omega);rw[e0,List.nil_append] at hw;have hi':i=n:=by omega
  subst hi';rw[mw,jB,al (by omega),Dg,xf,bS,AF,tD];simp only;rw[hc,hw,bS,List.replicate_zero,List.append_nil]
 |succ m ih=>
  intro i hi;have hl:(List.replicate i (-2:Int)++List.replicate (m+1) 0).length=n:=by simp;omega
  rw[mw,jB,au (by omega),gV (by omega) (by omega),Int.toNat_natCast,rS (by omega),aU (by omega)];have e:(List.replicate i (-2:Int)++List.replicate (m+1) 0).set i (-2)=List.replicate (i+1) (-2)++List.replicate m 0:=by rw[List.set_append_right _ _ (by simp)];simp only[List.length_replicate,Nat.sub_self,List.replicate_succ,List.set_cons_zero];rw[←List.replicate_succ,List.replicate_succ',List.append_assoc];rfl
  rw[e];exact ih (i+1) (by omega)
theorem akF (x:Tm):CU (.pair (.int .i64) (.pair (.int .i64) (.unit))) (x.1,(x.2.1,())) (x.1,(x.2.1,()))=true:=by show ((x.1==x.1)&&((x.2.1==x.2.1)&&true))=true;simp
theorem ahx {l:List Tm}(hl:l.length≤1000000):∀(m i:Nat),m+i=l.length→bJ l l i=some true:=by
 intro m;induction m with
 |zero=>intro i hi;rw[lJ,iW,al (by omega)]
 |succ m ih=>intro i hi;rw[lJ,iW,au (by omega),eQ wM (by omega),eQ wM (by omega),akF,Bool.not_true,cF,aU (by omega)];exact ih (i+1) (by omega)
theorem amM {l:List Tm}(hl:l.length≤1000000):cU l l=some true:=by rw[wo,qm,pd rfl];exact ahx hl l.length 0 (by omega)
abbrev HL:=List (List Int)
theorem qz {β:Type}{xs:HL}{k:Nat}{f:List Int→Option β}(h:k<xs.length):(idx xs (k:Int)).bind f=f (xs.getD k []):=eQ [] h
theorem az {α:Type}{d:α}{l:List α}{k:Nat}(h:k<l.length):l.getD k d∈l:=by
 have:l.getD k d=l[k]:=by simp[List.getD,h]
 rw[this];exact List.getElem_mem _
def Sx (n:Nat)(l:HL):Prop:=l.length≤n∧∀s∈l,s.length≤4
theorem Sx.getD {n:Nat}{l:HL}(h:Sx n l){k:Nat}(hk:k<l.length):(l.getD k []).length≤4:=h.2 _ (az hk)
theorem Yf {n:Nat}(h:n≤4):shl .i64 1 (n:Int)=((2^n:Nat):Int)∧2^n≤16:=by
 have:n=0∨n=1∨n=2∨n=3∨n=4:=by omega
 rcases this with rfl |rfl |rfl |rfl |rfl<;>exact⟨rfl,by decide⟩
end Go.Proofs.YtofjebmoebhiiaaGreatDoor.Ev
namespace Go.Abs
abbrev Ce:=List Int×ByteArray×Unit
abbrev iE:Ce:=([],(ByteArray.empty,()))
abbrev QR:=Nat×ByteArray×Unit
abbrev ahy:QR:=(0,(ByteArray.empty,()))
abbrev tCe:Ty:= .st (.pair (.slice (.int .i64)) (.pair (.str) (.unit)))
abbrev aps:Ty:= .st (.pair (.ref 4) (.pair (.str) (.unit)))
theorem pn {α:Type}{xs ys:List (Option (List α))}{n:Nat}{l:List α}(h:ag xs n=some l):ag (xs++ys) n=some l:=by
 cases n with
 |zero=>exact h
 |succ m=>
  simp only[ag] at h ⊢;cases hx:xs[m]? with
  |none=>rw[hx] at h;cases h
  |some o=>rw[hx] at h;rw[List.getElem?_append_left (List.getElem?_eq_some_iff.1 hx).1,hx];exact h
theorem gY {α:Type}{xs:List (Option (List α))}{l:List α}:ag (xs++[some l]) (xs.length+1)=some l:=by simp[ag]
theorem aee {α:Type}{xs:List (Option (List α))}{y:Option (List α)}:cw (xs++[y]) (xs.length+1)=xs++[none]:=by simp[cw]
theorem amN {α:Type}{xs:List (Option (List α))}{n:Nat}{l:List α}(h:ag xs n=some l)(hn:n≠0):∃m,n=m+1∧m<xs.length:=by
 cases n with
 |zero=>exact absurd rfl hn
 |succ m=>
  simp only[ag] at h;cases hx:xs[m]? with
  |none=>rw[hx] at h;cases h
  |some o=>exact⟨m,rfl,(List.getElem?_eq_some_iff.1 hx).1⟩
theorem fD {α:Type}{xs:List (Option (List α))}{n:Nat}{l l':List α}(h:ag xs n=some l)(hn:n≠0):ag (ef xs n l') n=some l':=by obtain⟨m,rfl,hm⟩:=amN h hn;simp[ag,ef,hm]
theorem ZX {α:Type}{xs:List (Option (List α))}{n:Nat}{l:List α}(h:ag xs n=some l)(hl:l≠ []):n≠0:=fun e=>by subst e;simp only[ag,Option.some.injEq] at h;exact hl h.symm
theorem Bf {α β:Type}{f:α→Option β}{g:α→β}:∀ys:List α,(∀y∈ys,f y=some (g y))→mO f ys=some (ys.map g)
 | [],_=>rfl
 |a::r,h=>by rw[mO,h a (by simp),Bf r fun y hy=>h y (by simp[hy])];rfl
theorem Yg {af:List aQ}{hp:List (Option (List Int))}(h4:af[4]? =some ⟨3, .int .i64,0,true,hp⟩){n:Nat}{l:List Int}(hg:ag hp n=some l)(r:List CV):snap af (.slice (.int .i64)) (⟨.ref 4,n⟩::r)=some (l,r):=by
 unfold snap HO;simp only;rw[h4];simp only;cases n with
 |zero=>
  have:l=[]:=by simpa [ag] using hg.symm
  subst this;rfl
 |succ k=>have hb:Nat.beq (k+1) 0=false:=rfl;rw[hb,hg];simp only[cond_false,Option.bind_some];rw[Lz (fun y=>by rfl)];rfl
theorem V5 {af:List aQ}{hp:List (Option (List Int))}(h4:af[4]? =some ⟨3, .int .i64,0,true,hp⟩){n:Nat}{l:List Int}(hg:ag hp n=some l):typed af (.slice (.int .i64)) (.rv (.cv ⟨.ref 4,n⟩))=some l:=by unfold typed;simp only;unfold wO;rw[Yg h4 hg]
theorem aef {af:List aQ}{aj:List (Option (List Int))}{pg:List (Option (List QR))}(h4:af[4]? =some ⟨3, .int .i64,0,true,aj⟩)(h8:af[8]? =some ⟨101,aps,0,true,pg⟩){n:Nat}{rows:List QR}(hg:ag pg n=some rows)
  (hr:∀x∈rows,∃s,ag aj x.1=some s):typed af (.slice tCe) (.rv (.cv ⟨.ref 8,n⟩))=some (rows.map fun x=>((ag aj x.1).getD [],(x.2.1,()))):=by
 unfold typed;simp only;unfold wO snap HO;simp only;rw[h8];simp only;cases n with
 |zero=>
  have:rows=[]:=by simpa [ag] using hg.symm
  subst this;rfl
 |succ k=>
  have hb:Nat.beq (k+1) 0=false:=rfl;rw[hb,hg];simp only[cond_false,Option.bind_some];rw[Bf (g:=fun x:QR=>((ag aj x.1).getD [],(x.2.1,()))) rows (fun y hy=>by
   obtain⟨s,hs⟩:=hr y hy;obtain⟨a,b,u⟩:=y;have e:snap af tCe (flat aps ((a,(b,u)):QR))=some ((s,(b,())),[]):=by have e0:flat aps ((a,(b,u)):QR)=[⟨.ref 4,a⟩,⟨.str,b⟩]:=rfl;rw[e0,snap,snap,Yg h4 hs];rfl
   rw[e,hs];rfl)]
  rfl
end Go.Abs
namespace Go.Proofs.YtofjebmoebhiiaaGreatDoor.Ev
open Go.Abs Go.IntWalk
theorem acp:((List.range 24).all fun i=>match y5 400 ((i:Int) - 8) 4 with
  |some s=>yn s&&Nat.ble s.size 20
  |none=>false)=true:=by kernel_rfl
def At (s:ByteArray):Prop:=yn s=true∧s.size≤20
theorem acq (n:Int):∃s,oJ n=some s∧At s:=by
 have h1:=Int.tmod_lt_of_pos n (show (0:Int)<24 by omega);have h2:=Int.lt_tmod_of_pos n (show (0:Int)<24 by omega);rw[MD,DV];rw[i64_in (n.tmod 24+24) (by omega),bD (by omega)];have h3:=Int.emod_nonneg (n.tmod 24+24) (show (24:Int)≠0 by omega);have h4:=Int.emod_lt_of_pos (n.tmod 24+24) (show (0:Int)<24 by omega);rw[i64_in _ (by omega)];obtain⟨i,hi⟩:=Int.eq_ofNat_of_zero_le h3;rw[hi];have ht:=List.all_eq_true.1 acp i (List.mem_range.2 (by omega));rw[IT] at ht;cases hf:fM ((i:Int) - 8) 4 with
 |none=>rw[hf] at ht;cases ht
 |some s=>rw[hf] at ht;simp only[Bool.and_eq_true] at ht;exact⟨s,by rw[bS],ht.1,Nat.le_of_ble_eq_true ht.2⟩
def Cs (l:List Ce):Prop:=l.length≤800∧∀x∈l,x.1.length≤4∧At x.2.1
def Cr (aj:List (Option (List Int)))(rows:List QR):Prop:=∀x∈rows,(∃s,ag aj x.1=some s∧s.length≤4)∧At x.2.1
theorem Cr.append {aj ys:List (Option (List Int))}{rows:List QR}(h:Cr aj rows):Cr (aj++ys) rows:=fun x hx=>by obtain⟨⟨s,h1,h2⟩,h3⟩:=h x hx;exact⟨⟨s,pn h1,h2⟩,h3⟩
theorem Cr.set {aj:List (Option (List Int))}{rows:List QR}(h:Cr aj rows){x:QR}(hx:(∃s,ag aj x.1=some s∧s.length≤4)∧At x.2.1)(k:Nat):Cr aj (rows.set k x):=fun y hy=>by
 rcases List.mem_or_eq_of_mem_set hy with hy |rfl
 ·exact h y hy
 ·exact hx
def Ats (n:Nat)(l:List ByteArray):Prop:=l.length=n∧∀s∈l,At s
theorem afy {β:Type}{xs:List ByteArray}{k:Nat}{f:ByteArray→Option β}(h:k<xs.length):(idx xs (k:Int)).bind f=f (xs.getD k ByteArray.empty):=eQ _ h
theorem Cs.nil:Cs []:=⟨by simp,fun x hx=>by cases hx⟩
theorem LA {β:Type}{xs:List Ce}{k:Nat}{f:Ce→Option β}(h:k<xs.length):(idx xs (k:Int)).bind f=f (xs.getD k iE):=eQ iE h
end Go.Proofs.YtofjebmoebhiiaaGreatDoor.Ev
namespace Go.Abs
abbrev tTm:Ty:= .st (.pair (.int .i64) (.pair (.int .i64) .unit))
abbrev tCl:Ty:= .st (.pair (.int .i64) (.pair (.str) (.pair (.slice tTm) (.unit))))
abbrev tCh:Ty:= .st (.pair (.int .i64) (.pair (.slice tCl) (.unit)))
theorem amP (af:List aQ)(y:Cl):snap af tCl (flat tCl y)=some (y,[]):=by obtain⟨a,b,c,u⟩:=y;rfl
theorem O7 {af:List aQ}{hp:List (Option (List Cl))}(h0:af[0]? =some ⟨42,tCl,0,true,hp⟩){p:Int}{n:Nat}{l:List Cl}(hg:ag hp n=some l):
  typed af tCh (.rv (.agg [⟨.int .i64,p⟩,⟨.ref 0,n⟩]))=some (p,(l,())):=by
 unfold typed;simp only;have e:snap af (.slice tCl) [⟨.ref 0,n⟩]=some (l,[]):=by
  unfold snap HO;simp only;rw[h0];simp only;cases n with
  |zero=>
   have:l=[]:=by simpa [ag] using hg.symm
   subst this;rfl
  |succ k=>have hb:Nat.beq (k+1) 0=false:=rfl;rw[hb,hg];simp only[cond_false,Option.bind_some];rw[Bf (g:=fun x:Cl=>x) l (fun y _=>by rw[amP])];simp
 unfold wO;rw[show snap af (.pair (.int .i64) (.pair (.slice tCl) (.unit))) [⟨.int .i64,p⟩,⟨.ref 0,n⟩]=some ((p,(l,())),[]) from by
  unfold snap;rw[show snap af (.int .i64) [⟨.int .i64,p⟩,⟨.ref 0,n⟩]=some (p,[⟨.ref 0,n⟩]) from rfl];simp only;unfold snap;rw[e];rfl]
theorem V6 {p:Int}{n:Nat}{v:List Int}(hv:v.length≤n)(hr:Rs p v):Vc p n (OZ 0 v):=⟨ad9 v 0 (-1) (by omega),fun t ht=>by
 obtain⟨h1,h2,h3,h4⟩:=ZT ht;obtain⟨k,hk,he⟩:=List.getElem_of_mem h3;have:=hr k;simp only[List.getD,List.getElem?_eq_getElem hk,Option.getD_some] at this;omega⟩
theorem Rs.rep {p:Int}(hp:0<p)(n:Nat):Rs p (List.replicate n 0):=fun j=>by rw[Qz];omega
end Go.Abs
namespace Go.Proofs.YtofjebmoebhiiaaGreatDoor.Ev
open Go.Abs Go.IntWalk
def Gd (p:Int)(aa:List Cl)(n:Nat):Prop:=∀x∈aa,At x.2.1∧Vc p n x.2.2.1
theorem Gd.set {p:Int}{aa:List Cl}{n:Nat}(h:Gd p aa n){x:Cl}(hx:At x.2.1∧Vc p n x.2.2.1)(k:Nat):Gd p (aa.set k x) n:=fun y hy=>by
 rcases List.mem_or_eq_of_mem_set hy with hy |rfl
 ·exact h y hy
 ·exact hx
def Go1 (p:Int)(aa:List Cl):Prop:=aa.length≤30∧(aa=[]∨Pr p)∧Gd p aa aa.length
theorem WY {v:Nat}{aj:List (Option (List Int))}{l:List Int}(hg:ag aj v=some l)(hl:l.length≤1000000):∀(m i:Nat) (out:List Tm),m+i=l.length→out.length≤i→bN v i out aj=some (out++OZ i (l.drop i)):=by
 intro m;induction m with
 |zero=>intro i out hi ho;rw[lI,iU,hg,bS,al (by omega),List.drop_eq_nil_of_le (by omega),OZ,List.append_nil]
 |succ m ih=>
  intro i out hi ho;have g:l[(i:Int).toNat]? =some (l.getD i 0):=by rw[Int.toNat_natCast];simp[List.getD,show i<l.length by omega]
  have hb:∀{β:Type} {f:Int→Option β},(idx l (i:Int)).bind f=f (l.getD i 0):=eQ 0 (by omega);rw[lI,iU,hg,bS,au (by omega),bS,hb,bS,g,bS,drop_eq (by omega),OZ,aU (by omega)];by_cases h:l.getD i 0=0
  ·rw[pd h,ih (i+1) out (by omega) (by omega),if_neg (by omega)]
  ·rw[Hw h,bS,hb,bS,g,bS,iG (by omega) (by omega),if_pos h];simp only;rw[ih (i+1) _ (by omega) (by simp;omega),List.append_assoc];rfl
theorem LB {v:Nat}{aj:List (Option (List Int))}{l:List Int}(hg:ag aj v=some l)(hl:l.length≤1000000):aT v aj=some (OZ 0 l):=by rw[wm,ql];have:=WY hg hl l.length 0 [] (by omega) (by simp);simpa using this
theorem akG (n:Int):∃p,oG n=some p∧Pr p:=by
 have h1:=Int.tmod_lt_of_pos n (show (0:Int)<6 by omega);have h2:=Int.lt_tmod_of_pos n (show (0:Int)<6 by omega);rw[ML,D3];rw[i64_in (n.tmod 6+6) (by omega),bD (by omega)];have h3:=Int.emod_nonneg (n.tmod 6+6) (show (6:Int)≠0 by omega);have h4:=Int.emod_lt_of_pos (n.tmod 6+6) (show (0:Int)<6 by omega);obtain⟨i,hi⟩:=Int.eq_ofNat_of_zero_le h3;rw[hi] at h4 ⊢;have h5:i<6:=by omega
 match i,h5 with
 |0,_=>exact⟨2,rfl,by decide⟩
 |1,_=>exact⟨3,rfl,by decide⟩
 |2,_=>exact⟨5,rfl,by decide⟩
 |3,_=>exact⟨2,rfl,by decide⟩
 |4,_=>exact⟨251,rfl,by decide+kernel⟩
 |5,_=>exact⟨7,rfl,by decide⟩
theorem arU {k p:Int}(hk:0≤k)(hp:2≤p∧p≤251):IntKind.wrap .i64 (k.tmod 2*IntKind.wrap .i64 (p - 2))=(k % 2)*(p - 2)∧0≤(k % 2)*(p - 2)∧(k % 2)*(p - 2)≤251:=by
 have h1:=Int.emod_nonneg k (show (2:Int)≠0 by omega);have h2:=Int.emod_lt_of_pos k (show (0:Int)<2 by omega);have e:k.tmod 2=k % 2:=bD (by omega);rw[e,i64_in (p - 2) (by omega)];rcases (show k % 2=0∨k % 2=1 by omega) with h |h
 ·rw[h,Int.zero_mul];exact⟨by rw[i64_in _ (by omega)],by omega,by omega⟩
 ·rw[h,Int.one_mul];exact⟨by rw[i64_in _ (by omega)],by omega,by omega⟩
def RT (n d:Int):ByteArray:=if d=1 then ib n else (ib n++bs [47])++ib d
def akH (s:ByteArray):ByteArray:=RT (-(mq s).1) (mq s).2
theorem akI {z:Int}(h:nd z≤1000):(ib z).size≤1001:=Nat.le_trans (FQ z) (by omega)
theorem afz:(bs [47]).size=1:=rfl
theorem cbl {a b:Nat}{α:Type}{x y:α}(h:a≤b):(bif Nat.ble a b then x else y)=x:=by rw[Nat.ble_eq_true_of_le h];rfl
theorem apu {n d:Int}(hn:nd n≤1000):nz (WR n d)=some (WR (-n) d):=by have l1:=FT n;rw[GV,Br];simp only[yj];rw[RY (by omega),bS]
theorem amQ {n d:Int}(hn:nd n≤1000)(hd:nd d≤1000)(h0:0<d):ll (WR n d)=some (RT n d):=by
 have l1:=FT n;have l2:=FT d;have l3:=ahk;have s1:=akI hn;have s2:=akI hd;rw[Fg,aad];simp only[yj];rw[ad4 h0,bS,ahj,bS];simp only[yj];rw[kX (by omega) (by omega),bS,FO (by omega),RT];by_cases e:d=1
 ·subst e;rw[if_pos rfl,pd (yi rfl),bS]
 ·have hc:nX d 1≠0:=by unfold nX;split<;>(try split)<;>omega
  rw[if_neg e,Hw hc,bS,cbl (by rw[afz];omega),FO (by omega),bS,cbl (by rw[ByteArray.size_append,afz];omega)]
theorem afA {s:ByteArray}{n d:Int}(h:Rt s n d):akH s=RT (-n) d:=by unfold akH;rw[h.val]
end Go.Proofs.YtofjebmoebhiiaaGreatDoor.Ev
namespace Go.Abs
abbrev arV:Ty:= .st (.pair (.int .i64) (.pair (.str) (.pair (.ref 2) (.unit))))
end Go.Abs
namespace Go.Proofs.YtofjebmoebhiiaaGreatDoor.Ev
open Go.Abs Go.IntWalk
theorem V7:∀(v:List Int) (i:Nat) (x:Int),OZ i (v++[x])=OZ i v++(if x=0 then [] else [(((i+v.length:Nat):Int),(x,()))])
 | [],i,x=>by by_cases h:x=0<;>simp[OZ,h]
 |y::r,i,x=>by
  have e:i+1+r.length=i+(r.length+1):=by omega
  by_cases h:y=0
  ·simp only[List.cons_append,OZ,h,ne_eq,not_true_eq_false,if_false,V7 r (i+1) x,List.length_cons,e]
  ·simp only[List.cons_append,OZ,h,ne_eq,not_false_eq_true,if_true,V7 r (i+1) x,List.length_cons,e]
def dvv (aa:List Cl)(n m j:Nat):List Int:=(List.range m).map fun i=>cf (ck aa ((n - 1 - i:Nat):Int)) ((n - 1 - j:Nat):Int)
def Dv (aa:List Cl)(n m j:Nat):List Tm:=OZ 0 (dvv aa n m j)
def pt (l:List Tm)(r:Int)(m:Nat):List Tm:=if cf l r=0 then [] else [((m:Int),(cf l r,()))]
theorem amR (aa:List Cl)(n m j:Nat):Dv aa n (m+1) j=Dv aa n m j++pt (ck aa ((n - 1 - m:Nat):Int)) ((n - 1 - j:Nat):Int) m:=by unfold Dv dvv pt;rw[List.range_succ,List.map_append,List.map_cons,List.map_nil,V7];simp
theorem ahz (aa:List Cl)(n m j:Nat):(Dv aa n m j).length≤m:=by
 have:=VZ (dvv aa n m j) 0;have e:(dvv aa n m j).length=m:=by simp[dvv]
 unfold Dv;omega
theorem apv (r:Int)(m:Nat):pt [] r m=[]:=by unfold pt;rw[IY,if_pos rfl]
theorem V8 {t:Tm}{r:Int}(h:t.1≠r):∀l:List Tm,cf (l++[t]) r=cf l r
 | []=>by rw[List.nil_append,tl,if_neg h]
 |x::l=>by rw[List.cons_append,tl,tl,V8 h l]
theorem afB {t:Tm}:∀(l:List Tm) (lo:Int),Sr lo (l++[t])→cf l t.1=0∧cf (l++[t]) t.1=t.2.1
 | [],lo,h=>⟨rfl,by rw[List.nil_append,tl,if_pos rfl]⟩
 |x::l,lo,h=>by have h2:Sr x.1 (l++[t]):=h.2;have hlt:=h2.mem t (by simp);rw[List.cons_append,tl,tl,if_neg (by omega),if_neg (by omega)];exact afB l x.1 h2
theorem Sr.left {b:List Tm}:∀{a:List Tm} {lo:Int},Sr lo (a++b)→Sr lo a
 | [],_,_=>trivial
 |_::_,_,h=>⟨h.1,Sr.left h.2⟩
theorem Yh {l:List Tm}{i:Nat}(h:i<l.length):l.take (i+1)=l.take i++[l.getD i wM]:=by rw[List.take_add_one,List.getElem?_eq_getElem h];simp[List.getD,h]
theorem amS {l:List Tm}{i:Nat}(hs:Sr (-1) l)(h:i<l.length):cf (l.take i) (l.getD i wM).1=0∧cf (l.take (i+1)) (l.getD i wM).1=(l.getD i wM).2.1∧∀r,(l.getD i wM).1≠r→cf (l.take (i+1)) r=cf (l.take i) r:=by
 have h2:Sr (-1) (l.take (i+1)):=by have h3:=hs;rw[←List.take_append_drop (i+1) l] at h3;exact Sr.left h3
 rw[Yh h] at h2 ⊢;obtain⟨h4,h5⟩:=afB _ _ h2;exact⟨h4,h5,fun r hr=>V8 hr _⟩
abbrev CR:=Int×ByteArray×Nat×Unit
abbrev Jz:CR:=(0,(ByteArray.empty,(0,())))
theorem kZ {α:Type}(d:α){l:List α}{k j:Nat}{v:α}:(l.set k v).getD j d=if k=j∧k<l.length then v else l.getD j d:=by
 by_cases h:k=j
 ·subst h;by_cases h2:k<l.length<;>simp[List.getD,h2]
 ·simp[List.getD,h]
theorem HD {α:Type}(xs:List (Option (List α)))(m:Nat):(cw xs m).length=xs.length:=by cases m<;>simp[cw]
theorem Yi {α:Type}{xs:List (Option (List α))}{m r:Nat}{l:List α}{o:Option (List α)}(h:ag xs r=some l)(hne:r=m→r=0):ag (cw xs m++[o]) r=some l:=by
 cases r with
 |zero=>exact h
 |succ r=>
  have axZ:r+1≠m:=fun e=>by have:=hne e;omega
  have hx:xs[r]? =some (some l):=by
   have h':(match xs[r]? with |some o=>o |none=>none)=some l:=h;cases hr:xs[r]? with
   |none=>rw[hr] at h';cases h'
   |some o=>rw[hr] at h';simp only at h';rw[h']
  have hlt:r<xs.length:=(List.getElem?_eq_some_iff.1 hx).1;have hk:(cw xs m)[r]? =some (some l):=by
   cases m with
   |zero=>exact hx
   |succ m=>show (xs.set m none)[r]? =_;rw[List.getElem?_set_ne (by omega)];exact hx
  show (match (cw xs m++[o])[r]? with |some o=>o |none=>none)=some l;rw[List.getElem?_append_left (by rw[HD];exact hlt),hk]
theorem WZ {α:Type}{xs:List (Option (List α))}{m:Nat}{l:List α}:ag (cw xs m++[some l]) ((cw xs m).length+1)=some l:=gY
structure DS (n:Nat) (ds:Nat→Int×ByteArray) (rs:List CR) (hp2:List (Option (List Tm))) (L:Nat→List Tm):Prop where
 len:rs.length=n
 get:∀j,j<n→ag hp2 (rs.getD j Jz).2.2.1=some (L j)
 inj:∀i j,i<n→j<n→i≠j→(rs.getD i Jz).2.2.1=(rs.getD j Jz).2.2.1→(rs.getD i Jz).2.2.1=0
 lt:∀j,j<n→(rs.getD j Jz).2.2.1≤hp2.length
 ds:∀j,j<n→(rs.getD j Jz).1=(ds j).1∧(rs.getD j Jz).2.1=(ds j).2
theorem DS.congr {n:Nat}{ds:Nat→Int×ByteArray}{rs:List CR}{hp2:List (Option (List Tm))}{L L':Nat→List Tm}(h:DS n ds rs hp2 L)(e:∀j,j<n→L j=L' j):DS n ds rs hp2 L':=
 ⟨h.len,fun j hj=>by rw[h.get j hj,e j hj],h.inj,h.lt,h.ds⟩
theorem DS.step {n:Nat}{ds:Nat→Int×ByteArray}{rs:List CR}{hp2:List (Option (List Tm))}{L:Nat→List Tm}(h:DS n ds rs hp2 L){j:Nat}(hj:j<n){x:Tm}:
  DS n ds (rs.set j ((rs.getD j Jz).1,((rs.getD j Jz).2.1,((cw hp2 (rs.getD j Jz).2.2.1).length+1,())))) (cw hp2 (rs.getD j Jz).2.2.1++[some (L j++[x])]) (fun i=>if i=j then L j++[x] else L i):=by
 have hl:=h.len;have nw:∀i,(rs.set j ((rs.getD j Jz).1,((rs.getD j Jz).2.1,((cw hp2 (rs.getD j Jz).2.2.1).length+1,())))).getD i Jz=if i=j then ((rs.getD j Jz).1,((rs.getD j Jz).2.1,((cw hp2 (rs.getD j Jz).2.2.1).length+1,()))) else rs.getD i Jz:=fun i=>by
  rw[kZ];by_cases e:i=j
  ·subst e;rw[if_pos ⟨rfl,by omega⟩,if_pos rfl]
  ·rw[if_neg (fun h=>e h.1.symm),if_neg e]
 refine⟨by rw[List.length_set];exact hl,fun i hi=> ?_,fun a b ha hb hab=> ?_,fun i hi=> ?_,fun i hi=> ?_⟩
 ·rw[nw];by_cases e:i=j
  ·subst e;rw[if_pos rfl];simp only[if_true];exact WZ
  ·rw[if_neg e];simp only[if_neg e];exact Yi (h.get i hi) fun h2=>h.inj i j hi hj e h2
 ·rw[nw,nw];by_cases ea:a=j
  ·subst ea;rw[if_pos rfl,if_neg (Ne.symm hab)];intro e2;have:=h.lt b hb;simp only at e2;rw[HD] at e2;omega
  ·rw[if_neg ea];by_cases eb:b=j
   ·subst eb;rw[if_pos rfl];intro e2;have:=h.lt a ha;simp only at e2;rw[HD] at e2;omega
   ·rw[if_neg eb];exact h.inj a b ha hb hab
 ·rw[nw,List.length_append,HD];by_cases e:i=j
  ·rw[if_pos e];simp
  ·rw[if_neg e];exact Nat.le_succ_of_le (h.lt i hi)
 ·rw[nw];by_cases e:i=j
  ·subst e;rw[if_pos rfl];exact h.ds i hi
  ·rw[if_neg e];exact h.ds i hi
theorem amT (af:List aQ)(y:Tm):snap af tTm (flat tTm y)=some (y,[]):=by obtain⟨a,b,u⟩:=y;rfl
theorem amU {af:List aQ}{hp2:List (Option (List Tm))}(h2:af[2]? =some ⟨44,tTm,0,true,hp2⟩){r:CR}{l:List Tm}(h:ag hp2 r.2.2.1=some l):snap af tCl (flat arV r)=some ((r.1,(r.2.1,(l,()))),[]):=by
 obtain⟨a,b,m,u⟩:=r;simp only at h ⊢;have e:snap af (.slice tTm) [⟨.ref 2,m⟩]=some (l,[]):=by
  unfold snap HO;simp only;rw[h2];simp only;cases m with
  |zero=>
   have:l=[]:=by simpa [ag] using h.symm
   subst this;rfl
  |succ k=>have hb:Nat.beq (k+1) 0=false:=rfl;rw[hb,h];simp only[cond_false,Option.bind_some];rw[Bf (g:=fun x:Tm=>x) l (fun y _=>by rw[amT])];simp
 show snap af (.pair (.int .i64) (.pair .str (.pair (.slice tTm) .unit))) [⟨.int .i64,a⟩,⟨.str,b⟩,⟨.ref 2,m⟩]=_;unfold snap;rw[show snap af (.int .i64) [⟨.int .i64,a⟩,⟨.str,b⟩,⟨.ref 2,m⟩]=some (a,[⟨.str,b⟩,⟨.ref 2,m⟩]) from rfl];simp only;unfold snap;rw[show snap af .str [⟨.str,b⟩,⟨.ref 2,m⟩]=some (b,[⟨.ref 2,m⟩]) from rfl];simp only;unfold snap;rw[e];rfl
theorem aeg {af:List aQ}{hp1:List (Option (List CR))}{hp2:List (Option (List Tm))}(h1:af[1]? =some ⟨42,arV,0,true,hp1⟩)(h2:af[2]? =some ⟨44,tTm,0,true,hp2⟩){p:Int}{n:Nat}{rs:List CR}(hg:ag hp1 n=some rs){g:CR→List Tm}(hr:∀r∈rs,ag hp2 r.2.2.1=some (g r)):
  typed af tCh (.rv (.agg [⟨.int .i64,p⟩,⟨.ref 1,n⟩]))=some (p,(rs.map fun r=>(r.1,(r.2.1,(g r,()))),())):=by
 unfold typed;simp only;have e:snap af (.slice tCl) [⟨.ref 1,n⟩]=some (rs.map fun r=>(r.1,(r.2.1,(g r,()))),[]):=by
  unfold snap HO;simp only;rw[h1];simp only;cases n with
  |zero=>
   have:rs=[]:=by simpa [ag] using hg.symm
   subst this;rfl
  |succ k=>have hb:Nat.beq (k+1) 0=false:=rfl;rw[hb,hg];simp only[cond_false,Option.bind_some];rw[Bf (g:=fun r:CR=>(r.1,(r.2.1,(g r,())))) rs (fun y hy=>by rw[amU h2 (hr y hy)])];simp
 unfold wO;rw[show snap af (.pair (.int .i64) (.pair (.slice tCl) (.unit))) [⟨.int .i64,p⟩,⟨.ref 1,n⟩]=some ((p,(rs.map fun r=>(r.1,(r.2.1,(g r,()))),())),[]) from by
  unfold snap;rw[show snap af (.int .i64) [⟨.int .i64,p⟩,⟨.ref 1,n⟩]=some (p,[⟨.ref 1,n⟩]) from rfl];simp only;unfold snap;rw[e];rfl]
end Go.Proofs.YtofjebmoebhiiaaGreatDoor.Ev
