/- YtofjebmoebhiiaaGreatDoorZe: a part of the proof (PA, PS, PT ..). No condition. -/
import Derived.Test.YtofjebmoebhiiaaGreatDoorZd
import Derived.IntWalk
import Derived.Laws.Bits64
set_option linter.unusedVariables false
set_option linter.unusedSimpArgs false
set_option maxRecDepth 100000
set_option exponentiation.threshold 2000
namespace Go.Abs
theorem zu {a b:Int}(h:a<b):decide (a<b)=true:=decide_eq_true h
theorem xq {a b:Int}(h:¬a<b):decide (a<b)=false:=decide_eq_false h
theorem anA {a b:Int}(h:a≤b):decide (a≤b)=true:=decide_eq_true h
theorem ag9 {a b:Int}(h:¬a≤b):decide (a≤b)=false:=decide_eq_false h
theorem aha {a b:Int}(h:a>b):decide (a>b)=true:=decide_eq_true h
theorem akn {a b:Int}(h:¬a>b):decide (a>b)=false:=decide_eq_false h
theorem acO {a b:Int}(h:a≥b):decide (a≥b)=true:=decide_eq_true h
theorem Zq {a b:Int}(h:¬a≥b):decide (a≥b)=false:=decide_eq_false h
theorem acP {a b:Int}(h:a=b):(a==b)=true:=beq_iff_eq.2 h
theorem JL {a b:Int}(h:¬a=b):(a==b)=false:=by simpa using h
theorem ahb {a b:Int}(h:¬a=b):(a != b)=true:=by simpa [bne] using h
theorem ahc {a b:Int}(h:a=b):(a != b)=false:=by simp[bne,h]
theorem qR {xs:List Int}{i:Int}(h0:0≤i)(h:i<xs.length):idx xs i=some (xs.getD i.toNat 0):=by
 obtain⟨n,rfl⟩:=Int.eq_ofNat_of_zero_le h0
 show xs[n]? =_
 have:n<xs.length:=by omega
 simp[List.getD,this]
theorem TD {xs:List Int}{k:Nat}(h:k<xs.length):xs[k]? =some (xs.getD k 0):=by simp[List.getD,h]
theorem acQ {α:Type}(d:α){xs:List α}{i:Int}(h0:0≤i)(h:i<xs.length):idx xs i=some (xs.getD i.toNat d):=by
 obtain⟨n,rfl⟩:=Int.eq_ofNat_of_zero_le h0
 show xs[n]? =_
 have:n<xs.length:=by omega
 simp[List.getD,this]
theorem RI {b s n m:Nat}(h0:0<s)(h:(n+m)*b≤140737488355328):aD b s n m=true:=by
 unfold aD
 rw[Bool.and_eq_true]
 exact⟨Nat.ble_eq_true_of_le h0,Nat.ble_eq_true_of_le h⟩
theorem OC {b:Nat}{l c:Int}(h0:0≤l)(h1:l≤c)(h2:(b:Int)*c≤140737488355328):ir b l c=true:=by
 unfold ir
 simp[h0,h1,h2]
theorem acR {n:Nat}{l h:Int}(h0:0≤l)(h1:l≤h)(h2:h≤n):c6 n l h=true:=by
 unfold c6
 simp[h0,h1,h2]
theorem anB {a b:Nat}(h:a≤b):Nat.ble a b=true:=Nat.ble_eq_true_of_le h
def val (B:Int):List Int→Int
 | []=>0
 |x::xs=>x+B*val B xs
def gO (B:Int)(d:List Int):Prop:=∀x∈d,0≤x∧x<B
theorem gO.nil {B:Int}:gO B []:=fun x h=>by cases h
theorem gO.cons {B x:Int}{d:List Int}(h0:0≤x)(h1:x<B)(h:gO B d):gO B (x::d):=fun y hy=>by
 rcases List.mem_cons.1 hy with rfl |hy
 ·exact⟨h0,h1⟩
 ·exact h y hy
theorem gO.head {B x:Int}{d:List Int}(h:gO B (x::d)):0≤x∧x<B:=h x (by simp)
theorem gO.tail {B x:Int}{d:List Int}(h:gO B (x::d)):gO B d:=fun y hy=>h y (by simp[hy])
theorem gO.append {B:Int}{d e:List Int}(h1:gO B d)(h2:gO B e):gO B (d++e):=fun y hy=>by
 rcases List.mem_append.1 hy with hy |hy
 ·exact h1 y hy
 ·exact h2 y hy
theorem gO.left {B:Int}{d e:List Int}(h:gO B (d++e)):gO B d:=fun y hy=>h y (by simp[hy])
theorem gO.right {B:Int}{d e:List Int}(h:gO B (d++e)):gO B e:=fun y hy=>h y (by simp[hy])
theorem gO.drop {B:Int}{d:List Int}(h:gO B d)(k:Nat):gO B (d.drop k):=fun y hy=>h y (List.mem_of_mem_drop hy)
theorem gO.take {B:Int}{d:List Int}(h:gO B d)(k:Nat):gO B (d.take k):=fun y hy=>h y (List.mem_of_mem_take hy)
theorem gO.getD {B:Int}{d:List Int}(h:gO B d)(hB:0<B)(k:Nat):0≤d.getD k 0∧d.getD k 0<B:=by
 by_cases hk:k<d.length
 ·have:d.getD k 0=d[k]:=by simp[List.getD,hk]
  rw[this];exact h _ (List.getElem_mem hk)
 ·have:d.getD k 0=0:=by
   have h':d[k]? =none:=List.getElem?_eq_none (by omega)
   simp[List.getD,h']
  rw[this];exact⟨by omega,hB⟩
theorem gO.replicate {B:Int}(hB:0<B)(n:Nat):gO B (List.replicate n 0):=fun y hy=>by
 obtain⟨_,rfl⟩:=List.mem_replicate.1 hy
 exact⟨by omega,hB⟩
theorem gO.set {B x:Int}{d:List Int}(h:gO B d)(h0:0≤x)(h1:x<B)(k:Nat):gO B (d.set k x):=fun y hy=>by
 rcases List.mem_or_eq_of_mem_set hy with hy |rfl
 ·exact h y hy
 ·exact⟨h0,h1⟩
theorem kj {B:Int}(hB:0≤B):∀{d:List Int},gO B d→0≤val B d
 | [],_=>by simp[val]
 |x::d,h=>by
  have h1:=h.head.1
  have h2:=kj hB h.tail
  have:=Int.mul_nonneg hB h2
  simp only[val];omega
theorem fj (B:Int):∀(d e:List Int),val B (d++e)=val B d+B^d.length*val B e
 | [],e=>by simp[val]
 |x::d,e=>by
  simp only[List.cons_append,val,fj B d e,List.length_cons,Int.pow_succ,Int.mul_add]
  rw[←Int.mul_assoc,Int.mul_comm B (B^d.length)]
  omega
theorem LU (B:Int)(n:Nat):val B (List.replicate n 0)=0:=by
 induction n with
 |zero=>rfl
 |succ n ih=>rw[List.replicate_succ,val,ih];simp
theorem Ac {B:Int}(hB:0<B):∀{d:List Int},gO B d→val B d<B^d.length
 | [],_=>by simp[val]
 |x::d,h=>by
  have h1:=h.head.2
  have h2:=Ac hB h.tail
  have h3:B*(val B d+1)≤B*B^d.length:=Int.mul_le_mul_of_nonneg_left (by omega) (by omega)
  simp only[val,List.length_cons,Int.pow_succ]
  rw[Int.mul_comm (B^d.length) B]
  rw[Int.mul_add] at h3
  omega
def na:List Int→List Int
 | []=>[]
 |x::xs=>match na xs with
  | []=>if x=0 then [] else [x]
  |y::ys=>x::y::ys
theorem zv:∀d:List Int,na (d++[0])=na d
 | []=>rfl
 |x::d=>by simp only[List.cons_append,na,zv d]
theorem CY {y:Int}(hy:y≠0):∀d:List Int,na (d++[y])=d++[y]
 | []=>by simp[na,hy]
 |x::d=>by
  simp only[List.cons_append,na,CY hy d]
  cases d<;>rfl
theorem Bc:∀d:List Int,(na d).length≤d.length
 | []=>Nat.le_refl _
 |x::d=>by
  have:=Bc d
  simp only[na]
  split
  ·split<;>simp
  ·rename_i y ys h
   rw[h] at this
   simp at this ⊢;omega
def Ug (B:Nat)(n:Nat):List Int:=if h:n=0∨B≤1 then [] else ((n % B:Nat):Int)::Ug B (n / B)
termination_by n
decreasing_by exact Nat.div_lt_self (by omega) (by omega)
theorem dV (B:Nat):Ug B 0=[]:=by rw[Ug];simp
theorem yE {B n:Nat}(hB:1<B)(hn:0<n):Ug B n=((n % B:Nat):Int)::Ug B (n / B):=by
 rw[Ug,dif_neg (by omega)]
theorem lV {B n:Nat}(hB:1<B):Ug B n=[]↔n=0:=by
 constructor
 ·intro h
  by_cases hn:n=0
  ·exact hn
  ·rw[yE hB (by omega)] at h;cases h
 ·rintro rfl;exact dV B
theorem Xh {B:Nat}(hB:1<B):∀n,gO B (Ug B n):=by
 intro n
 induction n using Nat.strongRecOn with
 |ind n ih=>
  by_cases hn:n=0
  ·subst hn;rw[dV];exact gO.nil
  ·rw[yE hB (by omega)]
   have:=Nat.mod_lt n (show B>0 by omega)
   exact gO.cons (by omega) (by omega) (ih _ (Nat.div_lt_self (by omega) hB))
theorem Xi {B:Nat}(hB:1<B):∀n,val B (Ug B n)=n:=by
 intro n
 induction n using Nat.strongRecOn with
 |ind n ih=>
  by_cases hn:n=0
  ·subst hn;rw[dV];rfl
  ·rw[yE hB (by omega),val,ih _ (Nat.div_lt_self (by omega) hB)]
   have:=Nat.mod_add_div n B
   omega
theorem FY {B:Nat}(hB:1<B):∀d:List Int,gO B d→na d=Ug B (val B d).toNat
 | [],_=>by simp[na,val,dV]
 |x::d,h=>by
  have ih:=FY hB d h.tail
  have hx:=h.head
  have hv:=kj (B:=B) (by omega) h.tail
  obtain⟨v,hv'⟩:=Int.eq_ofNat_of_zero_le hv
  obtain⟨a,rfl⟩:=Int.eq_ofNat_of_zero_le hx.1
  have hab:a<B:=by omega
  simp only[na,val,hv']
  rw[hv'] at ih
  have e:((a:Int)+(B:Int)*(v:Int)).toNat=a+B*v:=by
   rw[←Int.natCast_mul, ←Int.natCast_add];exact Int.toNat_natCast _
  rw[e]
  simp only[Int.toNat_natCast] at ih
  by_cases hv0:v=0
  ·subst hv0
   rw[dV] at ih
   rw[ih]
   simp only
   by_cases ha:a=0
   ·subst ha;simp[dV]
   ·rw[yE hB (by omega)]
    have h1:(a+B*0) % B=a:=by simp[Nat.mod_eq_of_lt hab]
    have h2:(a+B*0) / B=0:=by simp[Nat.div_eq_of_lt hab]
    rw[h1,h2,dV,if_neg (by omega)]
  ·have hpos:0<a+B*v:=by
    have:0<B*v:=Nat.mul_pos (by omega) (by omega)
    omega
   rw[yE hB hpos]
   have h1:(a+B*v) % B=a:=by rw[Nat.add_mul_mod_self_left,Nat.mod_eq_of_lt hab]
   have h2:(a+B*v) / B=v:=by rw[Nat.add_mul_div_left _ _ (by omega:0<B),Nat.div_eq_of_lt hab];omega
   rw[h1,h2,ih]
   have hne:Ug B v≠ []:=fun e=>hv0 ((lV hB).1 e)
   split
   ·rename_i e;exact absurd e hne
   ·rename_i y ys e;rw[e]
theorem abe {B:Nat}(hB:1<B){d:List Int}(h:gO B d)(ht:na d=d):d=Ug B (val B d).toNat:=by
 rw[←FY hB d h,ht]
theorem OD {B:Nat}(hB:1<B)(n:Nat):na (Ug B n)=Ug B n:=by
 rw[FY hB _ (Xh hB n),Xi hB];rfl
theorem aK {B:Nat}(hB:1<B):∀(k n:Nat),(Ug B n).length≤k↔n<B^k
 |0,n=>by
  rw[Nat.pow_zero]
  constructor
  ·intro h
   have:=(lV (n:=n) hB).1 (List.length_eq_zero_iff.1 (Nat.le_zero.1 h))
   omega
  ·intro h
   have:n=0:=by omega
   subst this;simp[dV]
 |k+1,n=>by
  by_cases hn:n=0
  ·subst hn
   simp only[dV,List.length_nil]
   exact⟨fun _=>Nat.pow_pos (by omega),fun _=>by omega⟩
  ·rw[yE hB (by omega),List.length_cons]
   have:=aK hB k (n / B)
   rw[Nat.pow_succ, ←Nat.div_lt_iff_lt_mul (by omega)]
   omega
theorem fK {B:Nat}(hB:1<B)(k n:Nat):k<(Ug B n).length↔B^k≤n:=by
 have:=aK hB k n
 omega
theorem QW {B:Nat}(hB:1<B){n:Nat}:∀{d:List Int} {y:Int},Ug B n=d++[y]→y≠0:=by
 intro d y h hy
 subst hy
 have h1:=OD hB n
 rw[h,zv] at h1
 have h2:=Bc d
 rw[h1] at h2
 simp at h2
 omega
theorem rD (l:List Int)(k j:Nat):(l.drop k).getD j 0=l.getD (k+j) 0:=by simp[List.getD,List.getElem?_drop]
theorem drop_eq {l:List Int}{k:Nat}(h:k<l.length):l.drop k=l.getD k 0::l.drop (k+1):=by
 rw[List.drop_eq_getElem_cons h]
 simp[List.getD,h]
theorem drop_nil {l:List Int}{k:Nat}(h:l.length≤k):l.drop k=[]:=List.drop_eq_nil_of_le h
theorem getD_none {l:List Int}{k:Nat}(h:l.length≤k):l.getD k 0=0:=by
 have h':l[k]? =none:=List.getElem?_eq_none (by omega)
 simp[List.getD,h']
theorem anC {α:Type}(d:List α)(h:Int):cut d 0 h=d.take h.toNat:=by simp[cut]
end Go.Abs
namespace Go.Abs
theorem bD {a b:Int}(h:0≤a):a.tmod b=a % b:=Int.tmod_eq_emod_of_nonneg h
theorem mu {a b:Int}(h:0≤a):a.tdiv b=a / b:=Int.tdiv_eq_ediv_of_nonneg h
theorem du {l:List Int}{k:Nat}(h:k<l.length):l.take (k+1)=l.take k++[l.getD k 0]:=by
 rw[List.take_add_one]
 simp[List.getD,h]
def lW (x y:Int):Int:=if x<y then -1 else if y<x then 1 else 0
theorem mv {x y:Int}(h:x<y):lW x y= -1:=by unfold lW;rw[if_pos h]
theorem oH {x y:Int}(h:y<x):lW x y=1:=by unfold lW;rw[if_neg (by omega),if_pos h]
theorem wD {x y:Int}(h:x=y):lW x y=0:=by unfold lW;rw[if_neg (by omega),if_neg (by omega)]
theorem M9 {x y:Int}:lW x y<0↔x<y:=by
 unfold lW
 by_cases h1:x<y
 ·rw[if_pos h1];omega
 ·rw[if_neg h1];split<;>omega
theorem Xj {B:Int}(hB:0<B){d e:List Int}{x y:Int}(hd:gO B d)(he:gO B e)(hl:d.length=e.length)(h:x<y):val B (d++[x])<val B (e++[y]):=by
 rw[fj,fj]
 have h1:=Ac hB hd
 have h2:=kj (by omega) he
 rw[hl] at h1 ⊢
 have h3:B^e.length*(x+1)≤B^e.length*y:=Int.mul_le_mul_of_nonneg_left (by omega) (Int.pow_nonneg (by omega))
 rw[Int.mul_add] at h3
 simp only[val]
 simp only[Int.mul_zero,Int.add_zero] at*
 omega
end Go.Abs
namespace Go.Abs
section
variable {α β:Type}{x y:α}{a b:Int}
theorem cT (x y:α):(bif true then x else y)=x:=(cond_true x y).trans (Eq.refl x)
theorem cF (x y:α):(bif false then x else y)=y:=(cond_false x y).trans (Eq.refl y)
theorem bS (z:α)(f:α→Option β):(some z).bind f=f z:=(Option.bind_some z f).trans (Eq.refl _)
theorem c_t {c:Bool}(h:c=true):(bif c then x else y)=x:=by rw[h];exact cT _ _
theorem c_f {c:Bool}(h:c=false):(bif c then x else y)=y:=by rw[h];exact cF _ _
theorem aq (h:a<b):(bif decide (a<b) then x else y)=x:=c_t (zu h)
theorem ak (h:¬a<b):(bif decide (a<b) then x else y)=y:=c_f (xq h)
theorem LV (h:a≤b):(bif decide (a≤b) then x else y)=x:=c_t (anA h)
theorem QX (h:¬a≤b):(bif decide (a≤b) then x else y)=y:=c_f (ag9 h)
theorem ch (h:a>b):(bif decide (a>b) then x else y)=x:=c_t (aha h)
theorem cp (h:¬a>b):(bif decide (a>b) then x else y)=y:=c_f (akn h)
theorem tb (h:a≥b):(bif decide (a≥b) then x else y)=x:=c_t (acO h)
theorem qS (h:¬a≥b):(bif decide (a≥b) then x else y)=y:=c_f (Zq h)
theorem lH (h:a=b):(bif a==b then x else y)=x:=c_t (acP h)
theorem gz (h:¬a=b):(bif a==b then x else y)=y:=c_f (JL h)
theorem lI (h:¬a=b):(bif !(a==b) then x else y)=x:=c_t (by rw[JL h];exact Eq.refl _)
theorem A4 (h:¬a=b):(bif a != b then x else y)=x:=c_t (ahb h)
theorem lJ (h:a=b):(bif a != b then x else y)=y:=c_f (ahc h)
theorem jb {p s n m:Nat}(h0:0<s)(h:(n+m)*p≤140737488355328):(bif aD p s n m then x else y)=x:=c_t (RI h0 h)
theorem OE {p:Nat}{l c:Int}(h0:0≤l)(h1:l≤c)(h2:(p:Int)*c≤140737488355328):(bif ir p l c then x else y)=x:=c_t (OC h0 h1 h2)
theorem FZ {n:Nat}{l h:Int}(h0:0≤l)(h1:l≤h)(h2:h≤n):(bif c6 n l h then x else y)=x:=c_t (acR h0 h1 h2)
theorem apK {m n:Nat}(h:m≤n):(bif Nat.ble m n then x else y)=x:=c_t (anB h)
theorem gN {xs:List Int}{i:Int}{f:Int→Option β}(h0:0≤i)(h:i<xs.length):(idx xs i).bind f=f (xs.getD i.toNat 0):=by rw[qR h0 h];exact bS _ _
theorem wM {xs:List Int}{k:Nat}{f:Int→Option β}(h:k<xs.length):(xs[k]?).bind f=f (xs.getD k 0):=by rw[TD h];exact bS _ _
end
end Go.Abs
namespace Go.Abs
theorem aL (s:ByteArray):(bytesOf s).length=s.size:=by
 rw[bytesOf,List.length_map,Array.length_toList];rfl
theorem lX (s:ByteArray):gO 256 (bytesOf s):=fun x hx=>by
 simp only[bytesOf,List.mem_map] at hx
 obtain⟨b,_,rfl⟩:=hx
 have:=b.toNat_lt
 omega
theorem yF (s:ByteArray)(i:Int):zE s i=idx (bytesOf s) i:=by
 cases i with
 |ofNat n=>
  show (s[n]?).map _=(bytesOf s)[n]?
  simp only[bytesOf,List.getElem?_map,Array.getElem?_toList]
  rfl
 |negSucc n=>rfl
theorem gA (s:ByteArray)(l h:Nat):bytesOf (s.extract l h)=((bytesOf s).take h).drop l:=by
 simp only[bytesOf,ByteArray.data_extract,Array.toList_extract,List.extract_eq_take_drop]
 rw[←List.map_take, ←List.map_drop,List.drop_take]
theorem jH {s t:ByteArray}(h:bytesOf s=bytesOf t):s=t:=by
 apply ByteArray.ext
 apply Array.ext'
 refine(List.map_inj_right fun a b hab=> ?_).1 h
 have h2:a.toNat=b.toNat:=Int.ofNat.inj hab
 exact UInt8.toNat_inj.1 h2
theorem tc {xs:List Int}(h:gO 256 xs):bytesOf (strOf xs)=xs:=by
 simp only[bytesOf,strOf,List.map_map]
 conv=>rhs;rw[←List.map_id xs]
 apply List.map_congr_left
 intro x hx
 have:=h x hx
 simp only[Function.comp,id,UInt8.toNat_ofNat']
 omega
theorem UI (s:ByteArray):strOf (bytesOf s)=s:=jH (tc (lX s))
theorem Zr (s:ByteArray):∀(n i:Nat) (r:List UInt8),s.size - i=n→ByteArray.toList.loop s i r=r.reverse++s.data.toList.drop i:=by
 intro n
 induction n with
 |zero=>
  intro i r h
  rw[ByteArray.toList.loop,if_neg (by omega)]
  rw[List.drop_eq_nil_of_le (by simp;exact(show s.data.size≤i by have:= @ByteArray.size_data s;omega))];simp
 |succ n ih=>
  intro i r h
  have hi:i<s.size:=by omega
  have hi':i<s.data.toList.length:=by simp;exact(show i<s.data.size by have:= @ByteArray.size_data s;omega)
  rw[ByteArray.toList.loop,if_pos hi,ih (i+1) _ (by omega)]
  rw[List.drop_eq_getElem_cons hi']
  simp
  have:s.get! i=s.data[i]'(by simpa using hi'):=by
   simp only[ByteArray.get!]
   exact getElem!_pos _ _ _
  exact this
theorem toList_eq (s:ByteArray):s.toList=s.data.toList:=by
 rw[ByteArray.toList,Zr s _ 0 [] rfl];simp
theorem Xk (s t:ByteArray):(s.toList==t.toList)=decide (bytesOf s=bytesOf t):=by
 rw[toList_eq,toList_eq]
 by_cases h:s=t
 ·subst h;simp
 ·have h1:¬bytesOf s=bytesOf t:=fun e=>h (jH e)
  have h2:¬s.data.toList=t.data.toList:=fun e=>h (ByteArray.ext (Array.ext' e))
  rw[decide_eq_false h1]
  simpa using h2
theorem TE (s t:ByteArray):(s.toList==t.toList)=decide (s=t):=by
 rw[Xk]
 exact decide_eq_decide.2 ⟨jH,fun h=>by rw[h]⟩
theorem UJ:bytesOf ByteArray.empty=[]:=rfl
theorem wE (s t:ByteArray):bytesOf (s++t)=bytesOf s++bytesOf t:=by
 simp only[bytesOf]
 rw[←List.map_append]
 congr 1
end Go.Abs
namespace Go.Abs
abbrev dX (n:Nat):List Int:=Ug 10 n
abbrev VX (d:List Int):Int:=val 10 d
abbrev DX (d:List Int):Prop:=gO 10 d
theorem Ha (n:Nat):DX (dX n):=Xh (B:=10) (by omega) n
theorem JM (n:Nat):VX (dX n)=n:=Xi (B:=10) (by omega) n
theorem TF {d:List Int}(h:DX d):na d=dX (VX d).toNat:=FY (B:=10) (by omega) d h
theorem Ko {d:List Int}(h:DX d):0≤VX d:=kj (by omega) h
theorem Hb (n:Nat):((10^n:Nat):Int)=(10:Int)^n:=by
 rw[Int.natCast_pow];rfl
theorem OF {k n:Nat}(h:k≤n):(10:Int)^k≤10^n:=by
 have h1:=Nat.pow_le_pow_right (show 10>0 by omega) h
 rw[←Hb, ←Hb]
 exact Int.ofNat_le.2 h1
def Gc (d:List Int):List Int:=d.map (· +48)
def kl (n:Nat):List Int:=if n=0 then [48] else (Gc (dX n)).reverse
def qT (z:Int):List Int:=(if z<0 then [45] else [])++kl z.natAbs
def fL (z:Int):ByteArray:=strOf (qT z)
theorem oI (n:Nat):∀c∈kl n,48≤c∧c≤57:=by
 intro c hc
 unfold kl at hc
 split at hc
 ·simp at hc;omega
 ·rw[List.mem_reverse] at hc
  obtain⟨y,hy,rfl⟩:=List.mem_map.1 hc
  have:=Ha n y hy
  omega
theorem abf (z:Int):gO 256 (qT z):=fun c hc=>by
 unfold qT at hc
 rcases List.mem_append.1 hc with h |h
 ·split at h
  ·simp at h;omega
  ·cases h
 ·have:=oI _ c h
  omega
theorem dn (z:Int):bytesOf (fL z)=qT z:=tc (abf z)
theorem Xl (n:Nat):kl n≠ []:=by
 unfold kl
 split
 ·simp
 ·rename_i h
  intro e
  have h1:Gc (dX n)=[]:=by simpa using e
  have h2:dX n=[]:=by simpa [Gc] using h1
  exact h ((lV (B:=10) (by omega)).1 h2)
theorem qU (n:Nat):(kl n).length=max 1 (dX n).length:=by
 unfold kl
 split
 ·rename_i h;subst h;rw[dX,dV];rfl
 ·rename_i h
  have:(dX n).length≠0:=fun e=>h ((lV (B:=10) (by omega)).1 (List.length_eq_zero_iff.1 e))
  simp[Gc];omega
theorem aeu (n:Nat):(kl n).head?=some 48↔n=0:=by
 unfold kl
 split
 ·rename_i h;simp[h]
 ·rename_i h
  have hne:dX n≠ []:=fun e=>h ((lV (B:=10) (by omega)).1 e)
  constructor
  ·intro e
   exfalso
   rw[List.head?_reverse] at e
   have h1:dX n=(dX n).dropLast++[(dX n).getLast hne]:=(List.dropLast_concat_getLast hne).symm
   have h2:=QW (B:=10) (by omega) h1
   rw[Gc,List.getLast?_map,List.getLast?_eq_some_getLast hne] at e
   simp at e
   omega
  ·intro e;exact absurd e h
def jc (l:List Int):Int:=l.foldl (fun x c=>10*x+(c - 48)) 0
theorem Kp:∀(l:List Int) (x:Int),l.foldl (fun x c=>10*x+(c - 48)) x=x*10^l.length+jc l
 | [],x=>by simp[jc]
 |c::l,x=>by
  simp only[List.foldl_cons,jc]
  rw[Kp l (10*x+(c - 48)),Kp l (10*0+(c - 48)),List.length_cons,Int.pow_succ,Int.add_mul]
  have e1:10*x*10^l.length=x*(10^l.length*10):=by rw[Int.mul_comm 10 x,Int.mul_assoc,Int.mul_comm 10]
  rw[e1];simp only[Int.mul_zero,Int.zero_add];omega
theorem D7 (l m:List Int):jc (l++m)=jc l*10^m.length+jc m:=by
 rw[jc,List.foldl_append,Kp]
 rfl
theorem yd:∀(d:List Int),jc (Gc d).reverse=VX d
 | []=>rfl
 |x::d=>by
  simp only[Gc,List.map_cons,List.reverse_cons]
  rw[D7]
  have:=yd d
  rw[Gc] at this
  rw[this]
  simp[jc,VX,val];omega
theorem F0 (n:Nat):jc (kl n)=n:=by
 unfold kl
 split
 ·rename_i h;subst h;rfl
 ·rw[yd,JM]
theorem zw:∀(l:List Int),(∀c∈l,48≤c∧c≤57)→0≤jc l∧jc l<10^l.length
 | [],_=>by simp[jc]
 |c::l,h=>by
  have h1:=h c (by simp)
  have h2:=zw l (fun x hx=>h x (by simp[hx]))
  have h3:jc (c::l)=(c - 48)*10^l.length+jc l:=by
   have:=Kp l (10*0+(c - 48))
   simpa [jc] using this
  rw[h3,List.length_cons,Int.pow_succ]
  have hp:(0:Int)<10^l.length:=Int.pow_pos (by omega)
  have h4:0≤(c - 48)*10^l.length:=Int.mul_nonneg (by omega) (by omega)
  have h5:(c - 48)*10^l.length≤9*10^l.length:=Int.mul_le_mul_of_nonneg_right (by omega) (by omega)
  omega
def RJ (c:Int):Bool:=decide (48≤c)&&decide (c≤57)
theorem yI (c:Int):RJ c=true↔48≤c∧c≤57:=by simp[RJ]
theorem aev {l:List Int}(h:∀c∈l,48≤c∧c≤57)(hne:l≠ [])(h0:l.head?=some 48→l=[48]):l=kl (jc l).toNat:=by
 by_cases hz:l.head?=some 48
 ·rw[h0 hz];rfl
 · -- Kh digits from Kh lowest one on
   have hD:DX (l.map (· - 48)).reverse:=fun x hx=>by
    rw[List.mem_reverse] at hx
    obtain⟨c,hc,rfl⟩:=List.mem_map.1 hx
    have:=h c hc
    omega
   have anD:Gc (l.map (· - 48)).reverse=l.reverse:=by
    simp only[Gc, ←List.map_reverse,List.map_map]
    conv=>rhs;rw[←List.map_id l.reverse]
    apply List.map_congr_left
    intro c _
    simp only[Function.comp,id];omega
   have hv:VX (l.map (· - 48)).reverse=jc l:=by rw[←yd,anD,List.reverse_reverse]
   have anE:na (l.map (· - 48)).reverse=(l.map (· - 48)).reverse:=by
    cases l with
    |nil=>exact absurd rfl hne
    |cons c l=>
     simp only[List.map_cons,List.reverse_cons]
     exact CY (fun e=>hz (by simp;omega)) _
   have hu:=abe (B:=10) (by omega) hD anE
   rw[show val ((10:Nat):Int) (l.map (· - 48)).reverse=jc l from hv] at hu
   have hnz:(jc l).toNat≠0:=fun e=>by
    rw[e,dV] at hu
    exact hne (by simpa using hu)
   unfold kl
   rw[if_neg hnz,dX, ←hu,anD,List.reverse_reverse]
theorem Zs {m n:Nat}(h:kl m=kl n):m=n:=by
 have h1:=F0 m
 rw[h,F0 n] at h1
 omega
theorem ahe {x y:Int}(h:qT x=qT y):x=y:=by
 unfold qT at h
 have key:∀(m n:Nat),([45]:List Int)++kl m≠ []++kl n:=fun m n e=>by
  have:(45:Int)∈kl n:=by
   rw[List.nil_append] at e
   rw[←e];simp
  have:=oI n _ this
  omega
 split at h<;>split at h
 ·have:=Zs (List.append_cancel_left h);omega
 ·exact absurd h (key _ _)
 ·exact absurd h.symm (key _ _)
 ·have:=Zs (List.append_cancel_left h);omega
theorem ajh {x y:Int}(h:fL x=fL y):x=y:=ahe (by rw[←dn, ←dn,h])
theorem abg {x y:Int}:fL x=fL y↔x=y:=⟨ajh,fun h=>by rw[h]⟩
def iS (l:List Int):Bool:=l.head?==some 45
def bl (l:List Int):List Int:=if l.head?=some 45 then l.tail else l
def fU (l:List Int):Bool:=
 (bl l).all RJ&& !((bl l).isEmpty)&&(!((bl l).head?==some 48)||((bl l).length==1&& !(iS l)))
def numOf (l:List Int):Int:=if iS l then -jc (bl l) else jc (bl l)
theorem QY (z:Int):fU (qT z)=true∧numOf (qT z)=z:=by
 have hr:=oI z.natAbs
 have hne:=Xl z.natAbs
 have hh:=aeu z.natAbs
 by_cases h:z<0
 ·have hb:bl (qT z)=kl z.natAbs:=by simp[bl,qT,h]
  have hm:iS (qT z)=true:=by simp[iS,qT,h]
  have hz:¬(kl z.natAbs).head?=some 48:=fun e=>by have:=hh.1 e;omega
  refine⟨?_, ?_⟩
  ·unfold fU
   rw[hb,hm]
   have h1:(kl z.natAbs).all RJ=true:=List.all_eq_true.2 fun c hc=>(yI c).2 (hr c hc)
   have h2:(kl z.natAbs).isEmpty=false:=by simpa using hne
   have h3:((kl z.natAbs).head?==some 48)=false:=by simpa using hz
   rw[h1,h2,h3];rfl
  ·unfold numOf
   rw[hb,hm,F0];simp;omega
 ·have hb':(qT z).head?≠some 45:=by
   simp only[qT,h,if_false,List.nil_append]
   intro e
   have:(45:Int)∈kl z.natAbs:=List.mem_of_mem_head? (by rw[e];rfl)
   have:=hr _ this
   omega
  have hb:bl (qT z)=kl z.natAbs:=by
   unfold bl;rw[if_neg hb'];simp[qT,h]
  have hm:iS (qT z)=false:=by simpa [iS] using hb'
  refine⟨?_, ?_⟩
  ·unfold fU
   rw[hb,hm]
   have h1:(kl z.natAbs).all RJ=true:=List.all_eq_true.2 fun c hc=>(yI c).2 (hr c hc)
   have h2:(kl z.natAbs).isEmpty=false:=by simpa using hne
   rw[h1,h2]
   by_cases h3:(kl z.natAbs).head?=some 48
   ·have:z.natAbs=0:=hh.1 h3
    rw[this];rfl
   ·have h4:((kl z.natAbs).head?==some 48)=false:=by simpa using h3
    rw[h4];rfl
  ·unfold numOf
   rw[hb,hm,F0];simp;omega
theorem TG {l:List Int}(h:fU l=true):l=qT (numOf l):=by
 unfold fU at h
 simp only[Bool.and_eq_true,Bool.or_eq_true,Bool.not_eq_true',List.isEmpty_eq_false_iff] at h
 obtain⟨⟨h1,h2⟩,h3⟩:=h
 have hr:∀c∈bl l,48≤c∧c≤57:=fun c hc=>(yI c).1 (List.all_eq_true.1 h1 c hc)
 have h0:(bl l).head?=some 48→bl l=[48]∧iS l=false:=fun e=>by
  rcases h3 with h3 |h3
  ·rw[e] at h3;cases h3
  ·refine⟨?_,h3.2⟩
   cases hb:bl l with
   |nil=>exact absurd hb h2
   |cons c r=>
    rw[hb] at e h3
    simp at e h3
    rw[e,h3.1]
 have hn:=aev hr h2 (fun e=>(h0 e).1)
 have hb:=zw _ hr
 by_cases hm:l.head?=some 45
 ·have hm':iS l=true:=by simpa [iS] using hm
  have hnz:jc (bl l)≠0:=fun e=>by
   rw[e] at hn
   have:(bl l).head?=some 48:=by rw[hn];rfl
   have:=(h0 this).2
   rw[hm'] at this;cases this
  have hl:l=45::bl l:=by
   cases l with
   |nil=>cases hm
   |cons c r=>simp at hm;subst hm;simp[bl]
  unfold numOf qT
  rw[if_pos hm',if_pos (by omega)]
  conv=>lhs;rw[hl,hn]
  have:(-jc (bl l)).natAbs=(jc (bl l)).toNat:=by omega
  rw[this];rfl
 ·have hm':iS l=false:=by simpa [iS] using hm
  have hl:bl l=l:=by unfold bl;rw[if_neg hm]
  unfold numOf qT
  rw[hm',hl]
  rw[hl] at hn hb
  simp only[Bool.false_eq_true,if_false]
  rw[if_neg (by omega),List.nil_append]
  have:(jc l).natAbs=(jc l).toNat:=by omega
  rw[this];exact hn
def nd (z:Int):Nat:=(kl z.natAbs).length
theorem jS (z:Int)(k:Nat)(hk:1≤k):nd z≤k↔z.natAbs<10^k:=by
 unfold nd
 rw[qU]
 have:=aK (B:=10) (by omega) k z.natAbs
 simp only[dX]
 rw[←this]
 omega
theorem TH (z:Int):nd (-z)=nd z:=by unfold nd;rw[Int.natAbs_neg]
theorem Zt (z:Int):(fL z).size=nd z+(if z<0 then 1 else 0):=by
 rw[←aL,dn]
 unfold qT nd
 split<;>simp<;>omega
end Go.Abs
namespace Go.Abs
def EP:List Int→List Int→Int
 |x::a,y::b=>if x<y then -1 else if x>y then 1 else EP a b
 |_,_=>0
def nb (a b:List Int):Int:=if a.length≠b.length then (if a.length<b.length then -1 else 1) else EP a b
theorem VS:∀a:List Int,EP a a=0
 | []=>rfl
 |x::a=>by rw[EP,if_neg (by omega),if_neg (by omega),VS a]
theorem acS:∀{a b:List Int},a.length=b.length→EP a b=0→a=b
 | [],[],_,_=>rfl
 | [],_::_,h,_=>by simp at h
 |_::_,[],h,_=>by simp at h
 |x::a,y::b,h,e=>by
  rw[EP] at e
  split at e
  ·cases e
  ·split at e
   ·cases e
   ·rename_i h1 h2
    rw[acS (by simpa using h) e,show x=y by omega]
theorem Zu:∀(a b:List Int),EP b a= -(EP a b)
 | [],[]=>rfl
 | [],_::_=>rfl
 |_::_,[]=>rfl
 |x::a,y::b=>by
  have ih:=Zu a b
  by_cases h:x<y
  ·have h1:¬y<x:=by omega
   simp[EP,h,h1]
  ·by_cases h2:y<x
   ·simp[EP,h,h2]
   ·simp[EP,h,h2,ih]
theorem TI:∀(a b:List Int),EP a b= -1∨EP a b=0∨EP a b=1
 | [],[]=> .inr (.inl rfl)
 | [],_::_=> .inr (.inl rfl)
 |_::_,[]=> .inr (.inl rfl)
 |x::a,y::b=>by
  rw[EP]
  split
  ·exact .inl rfl
  ·split
   ·exact .inr (.inr rfl)
   ·exact TI a b
theorem TJ:∀{a b c:List Int},a.length=b.length→b.length=c.length→EP a b<0→EP b c<0→EP a c<0
 | [],[],_,_,_,h,_=>by cases h
 |x::a,y::b,z::c,h1,h2,h3,h4=>by
  rw[EP] at h3 h4 ⊢
  by_cases e:x<y
  ·by_cases f:y<z
   ·rw[if_pos (by omega)];decide
   ·rw[if_neg f] at h4
    by_cases g:y>z
    ·rw[if_pos g] at h4;cases h4
    ·rw[if_pos (by omega)];decide
  ·rw[if_neg e] at h3
   by_cases g:x>y
   ·rw[if_pos g] at h3;cases h3
   ·rw[if_neg g] at h3
    by_cases f:y<z
    ·rw[if_pos (by omega)];decide
    ·rw[if_neg f] at h4
     by_cases k:y>z
     ·rw[if_pos k] at h4;cases h4
     ·rw[if_neg k] at h4
      rw[if_neg (by omega),if_neg (by omega)]
      exact TJ (by simpa using h1) (by simpa using h2) h3 h4
theorem F1 (a:List Int):nb a a=0:=by unfold nb;rw[if_neg (by simp),VS]
theorem Hc {a b:List Int}:nb a b=0↔a=b:=by
 constructor
 ·intro h
  unfold nb at h
  split at h
  ·split at h<;>cases h
  ·rename_i h1
   exact acS (by omega) h
 ·rintro rfl;exact F1 a
theorem TK (a b:List Int):nb b a= -(nb a b):=by
 unfold nb
 by_cases h:a.length=b.length
 ·simp[h,Zu a b]
 ·have h':¬b.length=a.length:=fun e=>h e.symm
  by_cases h2:a.length<b.length
  ·have h3:¬b.length<a.length:=by omega
   simp[h,h',h2,h3]
  ·have h3:b.length<a.length:=by omega
   simp[h,h',h2,h3]
theorem abh (a b:List Int):nb a b= -1∨nb a b=0∨nb a b=1:=by
 unfold nb
 split
 ·split
  ·exact .inl rfl
  ·exact .inr (.inr rfl)
 ·exact TI a b
theorem Na {a b c:List Int}(h1:nb a b<0)(h2:nb b c<0):nb a c<0:=by
 unfold nb at*
 by_cases e:a.length=b.length
 ·rw[if_neg (by omega)] at h1
  by_cases f:b.length=c.length
  ·rw[if_neg (by omega)] at h2 ⊢
   exact TJ e f h1 h2
  ·rw[if_pos (by omega)] at h2 ⊢
   by_cases g:b.length<c.length
   ·rw[if_pos (by omega)];decide
   ·rw[if_neg g] at h2;cases h2
 ·rw[if_pos (by omega)] at h1
  by_cases g:a.length<b.length
  ·by_cases f:b.length=c.length
   ·rw[if_pos (by omega),if_pos (by omega)];decide
   ·rw[if_pos (by omega)] at h2
    by_cases k:b.length<c.length
    ·rw[if_pos (by omega),if_pos (by omega)];decide
    ·rw[if_neg k] at h2;cases h2
  ·rw[if_neg g] at h1;cases h1
abbrev Asc (l:List (List Int)):Prop:=l.Pairwise fun a b=>nb a b<0
def zx (s:List Int)(all:List (List Int)):List (List Int)→Bool→List (List Int)→List (List Int)
 | [],d,out=>if d then out else out++[s]
 |x::r,d,out=>if nb s x=0 then all else if nb s x<0∧d=false then zx s all r true (out++[s]++[x]) else zx s all r d (out++[x])
def wN (l:List (List Int))(s:List Int):List (List Int):=zx s l l false []
theorem TL {s:List Int}{all:List (List Int)}:∀(l out:List (List Int)),(∀x∈l,nb s x<0)→zx s all l true out=out++l
 | [],out,_=>by simp[zx]
 |x::r,out,h=>by
  have:=h x List.mem_cons_self
  rw[zx,if_neg (by omega),if_neg (by simp),TL r _ fun y hy=>h y (List.mem_cons_of_mem _ hy)]
  simp
theorem Nb {s:List Int}:∀(l out:List (List Int)),Asc (out++l)→(∀x∈out,nb x s<0)→Asc (zx s (out++l) l false out)∧∀t,t∈zx s (out++l) l false out↔t=s∨t∈out++l
 | [],out,h,hs=>by
   have e:zx s (out++[]) [] false out=out++[s]:=by simp[zx]
   rw[e]
   refine⟨?_,fun t=>by simp[or_comm]⟩
   rw[List.append_nil] at h
   exact List.pairwise_append.2 ⟨h,by simp,fun a ha b hb=>by simp only[List.mem_singleton] at hb;subst hb;exact hs a ha⟩
 |x::r,out,h,hs=>by
  obtain⟨p1,p2,p3⟩:=List.pairwise_append.1 h
  have p4:=List.pairwise_cons.1 p2
  rw[zx]
  by_cases e:nb s x=0
  ·rw[if_pos e]
   have:=Hc.1 e
   subst this
   exact⟨h,fun t=>by simp only[List.mem_append,List.mem_cons];constructor<;>intro h<;>rcases h with h |h<;>simp[h]⟩
  ·rw[if_neg e]
   by_cases f:nb s x<0
   ·rw[if_pos ⟨f,rfl⟩,TL _ _ fun y hy=>Na f (p4.1 y hy)]
    have eq1:out++[s]++[x]++r=out++(s::x::r):=by simp
    rw[eq1]
    refine⟨List.pairwise_append.2 ⟨p1,List.pairwise_cons.2 ⟨fun y hy=> ?_,p2⟩,fun a ha b hb=> ?_⟩,fun t=>by simp only[List.mem_append,List.mem_cons];constructor<;>intro h<;>rcases h with h |h |h |h<;>simp[h]⟩
    ·rcases List.mem_cons.1 hy with rfl |hy
     ·exact f
     ·exact Na f (p4.1 y hy)
    ·rcases List.mem_cons.1 hb with rfl |hb
     ·exact hs a ha
     ·exact p3 a ha b hb
   ·rw[if_neg fun g=>f g.1]
    have g:nb x s<0:=by
     have:=TK s x
     rcases abh s x with h1 |h1 |h1<;>omega
    have eq1:out++x::r=(out++[x])++r:=by simp
    have ih:=Nb r (out++[x]) (by rw[←eq1];exact h) (fun y hy=>by
     rcases List.mem_append.1 hy with hy |hy
     ·exact hs y hy
     ·simp only[List.mem_singleton] at hy;subst hy;exact g)
    rw[eq1]
    exact ih
theorem Zv {l:List (List Int)}(h:Asc l)(s:List Int):Asc (wN l s):=(Nb l [] h (fun x hx=>by cases hx)).1
theorem Zw {l:List (List Int)}(h:Asc l){s t:List Int}:t∈wN l s↔t=s∨t∈l:=(Nb l [] h (fun x hx=>by cases hx)).2 t
def Ad:List Int→Nat→List Int
 | [],_=>[]
 |x::r,m=>if m % 2=1 then x::Ad r (m / 2) else Ad r (m / 2)
theorem TM:∀(s:List Int) (m:Nat),(Ad s m).Sublist s
 | [],_=>List.Sublist.slnil
 |x::r,m=>by
  rw[Ad]
  split
  ·exact(TM r _).cons_cons x
  ·exact(TM r _).cons x
theorem Xm:∀{t s:List Int},t.Sublist s→∃m,m<2^s.length∧Ad s m=t
 | [],[],_=>⟨0,by simp,rfl⟩
 |t,x::r,h=>by
  have h2:(2:Nat)^(x::r).length=2*2^r.length:=by rw[List.length_cons,Nat.pow_succ,Nat.mul_comm]
  cases h with
  |cons _ h=>
   obtain⟨m,h1,e⟩:=Xm h
   refine⟨2*m,by omega, ?_⟩
   rw[Ad,if_neg (by omega),show 2*m / 2=m by omega,e]
  |cons_cons _ h=>
   obtain⟨m,h1,e⟩:=Xm h
   refine⟨2*m+1,by omega, ?_⟩
   rw[Ad,if_pos (by omega),show (2*m+1) / 2=m by omega,e]
theorem Zx:∀{s:List Int} {m:Nat},m<2^s.length→Ad s m=[]→m=0
 | [],m,h,_=>by simp at h;exact h
 |x::r,m,h,e=>by
  have h2:(2:Nat)^(x::r).length=2*2^r.length:=by rw[List.length_cons,Nat.pow_succ,Nat.mul_comm]
  rw[Ad] at e
  split at e
  ·cases e
  ·have:=Zx (s:=r) (m:=m / 2) (by omega) e
   omega
def tn (s:List Int):Nat→Nat→List (List Int)→List (List Int)
 |0,_,out=>out
 |q+1,m,out=>tn s q (m+1) (wN out (Ad s m))
def ju (s:List Int):List (List Int):=tn s (2^s.length - 1) 1 []
theorem OG {s:List Int}:∀(q m:Nat) (out:List (List Int)),Asc out→Asc (tn s q m out)∧∀t,t∈tn s q m out↔t∈out∨∃k,m≤k∧k<m+q∧t=Ad s k
 |0,m,out,h=>⟨h,fun t=>by simp only[tn];exact⟨.inl,fun h=>h.elim id fun⟨k,h1,h2,_⟩=>by omega⟩⟩
 |q+1,m,out,h=>by
  obtain⟨h1,h2⟩:=OG q (m+1) (wN out (Ad s m)) (Zv h _)
  refine⟨h1,fun t=> ?_⟩
  rw[tn,h2,Zw h]
  constructor
  ·rintro ((rfl |h) | ⟨k,h3,h4,h5⟩)
   ·exact .inr ⟨m,by omega,by omega,rfl⟩
   ·exact .inl h
   ·exact .inr ⟨k,by omega,by omega,h5⟩
  ·rintro (h | ⟨k,h3,h4,h5⟩)
   ·exact .inl (.inr h)
   ·by_cases e:k=m
    ·subst e;exact .inl (.inl h5)
    ·exact .inr ⟨k,by omega,by omega,h5⟩
theorem TN {s t:List Int}:t∈ju s↔t≠ []∧t.Sublist s:=by
 have h0:0<2^s.length:=Nat.pow_pos (by omega)
 unfold ju
 rw[(OG _ _ [] List.Pairwise.nil).2]
 constructor
 ·rintro (h | ⟨k,h1,h2,rfl⟩)
  ·cases h
  ·exact⟨fun e=>by have:=Zx (by omega) e;omega,TM s k⟩
 ·rintro ⟨h1,h2⟩
  obtain⟨m,h3,h4⟩:=Xm h2
  refine .inr ⟨m, ?_,by omega,h4.symm⟩
  have:m≠0:=fun e=>by
   subst e
   have hz:∀s:List Int,Ad s 0=[]:=fun s=>by
    induction s with
    |nil=>rfl
    |cons x r ih=>rw[Ad,if_neg (by decide)];exact ih
   rw[hz] at h4
   exact h1 h4.symm
  omega
def Hd (l:List (List Int)):List (List Int):=l.foldl (fun out s=>(ju s).foldl wN out) []
theorem Zy:∀(f out:List (List Int)),Asc out→Asc (f.foldl wN out)∧∀t,t∈f.foldl wN out↔t∈out∨t∈f
 | [],out,h=>⟨h,fun t=>by simp⟩
 |s::f,out,h=>by
  obtain⟨h1,h2⟩:=Zy f (wN out s) (Zv h s)
  refine⟨h1,fun t=> ?_⟩
  rw[List.foldl_cons,h2,Zw h,List.mem_cons]
  constructor
  ·rintro ((h |h) |h)<;>simp[h]
  ·rintro (h |h |h)<;>simp[h]
theorem JN:∀(l out:List (List Int)),Asc out→Asc (l.foldl (fun out s=>(ju s).foldl wN out) out)∧∀t,t∈l.foldl (fun out s=>(ju s).foldl wN out) out↔t∈out∨∃s∈l,t∈ju s
 | [],out,h=>⟨h,fun t=>by simp⟩
 |s::l,out,h=>by
  obtain⟨h1,h2⟩:=Zy (ju s) out h
  obtain⟨h3,h4⟩:=JN l _ h1
  refine⟨h3,fun t=> ?_⟩
  rw[List.foldl_cons,h4,h2]
  constructor
  ·rintro ((h |h) | ⟨u,hu,h⟩)
   ·exact .inl h
   ·exact .inr ⟨s,List.mem_cons_self,h⟩
   ·exact .inr ⟨u,List.mem_cons_of_mem _ hu,h⟩
  ·rintro (h | ⟨u,hu,h⟩)
   ·exact .inl (.inl h)
   ·rcases List.mem_cons.1 hu with rfl |hu
    ·exact .inl (.inr h)
    ·exact .inr ⟨u,hu,h⟩
theorem Zz (l:List (List Int)):Asc (Hd l):=(JN l [] List.Pairwise.nil).1
theorem JO {l:List (List Int)}{t:List Int}:t∈Hd l↔t≠ []∧∃s∈l,t.Sublist s:=by
 unfold Hd
 rw[(JN l [] List.Pairwise.nil).2]
 simp only[List.not_mem_nil,false_or,TN]
 constructor
 ·rintro ⟨s,h1,h2,h3⟩;exact⟨h2,s,h1,h3⟩
 ·rintro ⟨h2,s,h1,h3⟩;exact⟨s,h1,h2,h3⟩
end Go.Abs
namespace Go.Proofs.YtofjebmoebhiiaaGreatDoor.Ev
open Go.Abs Go.IntWalk
abbrev VU (d:List Int):Int:=val 1000000000 d
abbrev DU (d:List Int):Prop:=gO 1000000000 d
abbrev dU (n:Nat):List Int:=Ug 1000000000 n
theorem Ip (n:Nat):DU (dU n):=Xh (B:=1000000000) (by omega) n
theorem JP (n:Nat):VU (dU n)=n:=Xi (B:=1000000000) (by omega) n
theorem acT {d:List Int}(h:DU d):na d=dU (VU d).toNat:=FY (B:=1000000000) (by omega) d h
theorem ye {d:List Int}(h:DU d):0≤VU d:=kj (by omega) h
def W (z:Int):Bool×List Int×Unit:=(decide (z<0),dU z.natAbs,())
theorem aex:∀(n:Nat) (d:List Int),d.length=n→n≤1000000000000000→nr d=some (na d):=by
 intro n
 induction n with
 |zero=>
  intro d hd hn
  have:d=[]:=List.length_eq_zero_iff.1 hd
  subst this
  rw[BU,yt];rfl
 |succ n ih=>
  intro d hd hn
  obtain⟨d',y,rfl⟩:∃d' y,d=d'++[y]:=by
   have hne:d≠ []:=fun e=>by rw[e] at hd;cases hd
   exact⟨d.dropLast,d.getLast hne,(List.dropLast_concat_getLast hne).symm⟩
  have hl:d'.length=n:=by simpa using hd
  have hy:(d'++[y]).getD d'.length 0=y:=by simp[List.getD]
  have ht:(d'++[y]).take d'.length=d':=by simp
  rw[BU,yt]
  simp only[List.length_append,List.length_cons,List.length_nil]
  simp (disch:=omega) only[i64_in,aha,cond_true,acR,anC]
  rw[qR (by omega) (by simp;omega)]
  have e:(((d'.length+(0+1):Nat):Int) - 1).toNat=d'.length:=by omega
  rw[e,hy,ht]
  simp only[Option.bind_some]
  by_cases h0:y=0
  ·subst h0
   rw[zv,ih d' hl (by omega)];rfl
  ·rw[JL h0,CY h0];rfl
theorem D8 {d:List Int}(h:d.length≤1000000000000000):mF d=some (na d):=by
 rw[QL,My];exact aex _ d rfl h
theorem yJ {neg:Bool}{d:List Int}(hd:DU d)(h:d.length≤1000000000000000):iW neg d=some (W (bif neg then -VU d else VU d)):=by
 rw[LF,GS,D8 h,acT hd]
 have hv:=ye hd
 obtain⟨v,hv'⟩:=Int.eq_ofNat_of_zero_le hv
 rw[hv']
 simp only[Option.bind_some,Int.toNat_natCast]
 have hl:(0<(dU v).length)↔0<v:=by
  have:=fK (B:=1000000000) (by omega) 0 v
  rw[Nat.pow_zero] at this
  exact this
 cases neg with
 |true=>
  have e:decide (((dU v).length:Int)>0)=decide (-(v:Int)<0):=decide_eq_decide.2 ⟨fun h=>by have:=hl.1 (by omega);omega,fun h=>by have:=hl.2 (by omega);omega⟩
  simp only[cond_true,W,Int.natAbs_neg,Int.natAbs_natCast,e]
 |false=>
  simp only[cond_false,W,Int.natAbs_natCast]
  rw[xq (by omega)]
theorem aey {a b:List Int}(ha:DU a)(hb:DU b)(hl:a.length=b.length)(hl':a.length≤1000000000000):∀(k:Nat),k≤a.length→
  nq a b ((k:Int) - 1)=some (lW (VU (a.take k)) (VU (b.take k))):=by
 intro k
 induction k with
 |zero=>
  intro hk
  rw[BR,yr]
  simp (disch:=omega) only[Zq,cond_false]
  simp[lW]
 |succ k ih=>
  intro hk
  rw[BR,yr]
  have e:((k+1:Nat):Int) - 1=k:=by omega
  rw[e,du (show k<a.length by omega),du (show k<b.length by omega)]
  simp (disch:=omega) only[acO,cond_true,qR,Option.bind_some,Int.toNat_natCast,i64_in]
  have hta:(a.take k).length=(b.take k).length:=by simp;omega
  by_cases h:a.getD k 0=b.getD k 0
  ·rw[ahc h,ih (by omega)]
   simp only[cond_false,VU,fj,hta,h]
   generalize (1000000000:Int)^(b.take k).length*val 1000000000 [b.getD k 0]=z
   by_cases h1:val 1000000000 (a.take k)<val 1000000000 (b.take k)
   ·rw[mv h1,mv (by omega)]
   ·by_cases h2:val 1000000000 (b.take k)<val 1000000000 (a.take k)
    ·rw[oH h2,oH (by omega)]
    ·rw[wD (by omega),wD (by omega)]
  ·rw[ahb h]
   simp only[cond_true]
   by_cases h1:a.getD k 0<b.getD k 0
   ·rw[zu h1]
    rw[mv (Xj (by omega) (ha.take k) (hb.take k) hta h1)]
    rfl
   ·rw[xq h1]
    rw[oH (Xj (by omega) (hb.take k) (ha.take k) hta.symm (by omega))]
    rfl
theorem JQ {m n:Nat}(hm:(dU m).length≤1000000000000)(hn:(dU n).length≤1000000000000):yY (dU m) (dU n)=some (lW m n):=by
 rw[QJ,Mv]
 by_cases h:(dU m).length=(dU n).length
 ·have:=aey (Ip m) (Ip n) h hm (dU m).length (Nat.le_refl _)
  rw[ahc (by omega)]
  simp (disch:=omega) only[cond_false,i64_in]
  rw[this,h,List.take_length]
  rw[←h,List.take_length,JP,JP]
 ·rw[ahb (by omega)]
  have l1:=(aK (B:=1000000000) (by omega) (dU m).length m).1 (Nat.le_refl _)
  have l2:=(aK (B:=1000000000) (by omega) (dU n).length n).1 (Nat.le_refl _)
  simp only[cond_true]
  by_cases h1:(dU m).length<(dU n).length
  ·rw[zu (by omega)]
   have:=(fK (B:=1000000000) (by omega) (dU m).length n).1 h1
   rw[mv (by omega)];rfl
  ·rw[xq (by omega)]
   have:=(fK (B:=1000000000) (by omega) (dU n).length m).1 (show (dU n).length<(dU m).length by omega)
   rw[oH (by omega)];rfl
theorem ahf {m n:Nat}(h:m≤n):(dU m).length≤(dU n).length:=by
 have l2:=(aK (B:=1000000000) (by omega) (dU n).length n).1 (Nat.le_refl _)
 exact(aK (B:=1000000000) (by omega) (dU n).length m).2 (by omega)
end Go.Proofs.YtofjebmoebhiiaaGreatDoor.Ev
namespace Go.Proofs.YtofjebmoebhiiaaGreatDoor.Ev
open Go.Abs Go.IntWalk
def Ln (z:Int):Nat:=(dU z.natAbs).length
theorem F2 (z:Int)(k:Nat):Ln z≤k↔z.natAbs<1000000000^k:=aK (B:=1000000000) (by omega) k z.natAbs
theorem acU (z:Int):z.natAbs<1000000000^Ln z:=(F2 z _).1 (Nat.le_refl _)
theorem aji {x y:Int}(h:x.natAbs≤y.natAbs):Ln x≤Ln y:=ahf h
theorem ahg (x y:Int):Ln (x*y)≤Ln x+Ln y:=by
 rw[F2,Int.natAbs_mul,Nat.pow_add]
 have h1:=acU x
 have h2:=acU y
 exact Nat.mul_lt_mul'' h1 h2
theorem wF (z:Int):((W z).1,((W z).2.1,()))=W z:=rfl
theorem W_1 (z:Int):(W z).1=decide (z<0):=rfl
theorem W_2 (z:Int):(W z).2.1=dU z.natAbs:=rfl
theorem oJ (z:Int):(dU z.natAbs).length=Ln z:=rfl
theorem P3 {x:Int}(hx:Ln x≤100000000000):oY (W x)=some (W (-x)):=by
 rw[Fo,zU]
 simp only[W_1,W_2]
 rw[yJ (Ip _) (show (dU x.natAbs).length≤_ by rw[oJ];omega),JP]
 by_cases h:x<0
 ·rw[zu h]
  have:(bif !true then -(x.natAbs:Int) else (x.natAbs:Int))= -x:=by simp only[Bool.not_true,cond_false];omega
  rw[this];rfl
 ·rw[xq h]
  have:(bif !false then -(x.natAbs:Int) else (x.natAbs:Int))= -x:=by simp only[Bool.not_false,cond_true];omega
  rw[this];rfl
theorem ahh (x:Int):((W x).2.1.length:Int)=(Ln x:Int):=rfl
theorem zy (x:Int):Ln x=0↔x=0:=by
 have:=F2 x 0
 rw[Nat.pow_zero] at this
 omega
def abi (x:Int):Int:=if x<0 then -1 else if 0<x then 1 else 0
theorem wG (x:Int):iB (W x)=some (abi x):=by
 rw[DF,xS,ahh,W_1]
 have h0:=zy x
 unfold abi
 by_cases hz:x=0
 ·rw[acP (by omega)];simp[hz]
 ·rw[JL (by omega)]
  simp only[cond_false]
  by_cases h:x<0
  ·rw[zu h,if_pos h];rfl
  ·rw[xq h,if_neg h,if_pos (by omega)];rfl
theorem jT {x y:Int}(hx:Ln x≤100000000000)(hy:Ln y≤100000000000):fJ (W x) (W y)=some (lW x y):=by
 rw[Fl,zQ]
 simp only[W_1,W_2]
 rw[JQ (show (dU x.natAbs).length≤_ by rw[oJ];omega) (show (dU y.natAbs).length≤_ by rw[oJ];omega),
  JQ (show (dU y.natAbs).length≤_ by rw[oJ];omega) (show (dU x.natAbs).length≤_ by rw[oJ];omega)]
 simp only[Option.bind_some]
 by_cases h1:x<0<;>by_cases h2:y<0
 ·rw[zu h1,zu h2]
  simp only[beq_self_eq_true,Bool.not_true,cond_false,cond_true,Option.some.injEq]
  unfold lW
  by_cases h3:x<y
  ·rw[if_pos h3,if_pos (by omega)]
  ·rw[if_neg h3,if_neg (by omega)]
   by_cases h4:y<x
   ·rw[if_pos h4,if_pos (by omega)]
   ·rw[if_neg h4,if_neg (by omega)]
 ·rw[zu h1,xq h2,mv (x:=x) (y:=y) (by omega)];rfl
 ·rw[xq h1,zu h2,oH (x:=x) (y:=y) (by omega)];rfl
 ·rw[xq h1,xq h2]
  simp only[beq_self_eq_true,Bool.not_true,cond_false,Option.some.injEq]
  unfold lW
  by_cases h3:x<y
  ·rw[if_pos h3,if_pos (by omega)]
  ·rw[if_neg h3,if_neg (by omega)]
   by_cases h4:y<x
   ·rw[if_pos h4,if_pos (by omega)]
   ·rw[if_neg h4,if_neg (by omega)]
theorem acV (neg:Bool)(t:Bool)(t2:List Int):∀(n:Nat) (u:Nat) (d:List Int),u<1000000000^n→u<18446744073709551616→d.length+n≤1000→um u neg d t t2=some (neg,(d++dU u,())):=by
 intro n
 induction n with
 |zero=>
  intro u d hu hu' hd
  have:u=0:=by rw[Nat.pow_zero] at hu;omega
  subst this
  rw[GQ,DD]
  simp[dU,dV]
 |succ n ih=>
  intro u d hu hu' hd
  rw[GQ,DD]
  by_cases h0:u=0
  ·subst h0;simp[dU,dV]
  ·have ht:([(u:Int) % 1000000000]:List Int).length=1:=rfl
   simp (disch:=omega) only[aha,cond_true,bD,u32_in,u64_quo,ht,RI]
   have e1:((u:Int) / 1000000000)=((u / 1000000000:Nat):Int):=by omega
   have e2:((u:Int) % 1000000000)=((u % 1000000000:Nat):Int):=by omega
   rw[Nat.pow_succ] at hu
   rw[e1,e2,ih (u / 1000000000) _ (by omega) (by omega) (by simp;omega)]
   rw[show dU u=_ from yE (B:=1000000000) (by omega) (by omega)]
   simp
theorem VT {n:Int}(h0: -9223372036854775808≤n)(h1:n≤9223372036854775807):xJ n=some (W n):=by
 rw[VQ,Tl]
 by_cases h:n<0
 ·have e1:IntKind.wrap .u64 n=n+18446744073709551616:=by rw[IntKind.wrap_u64];omega
  have e2:IntKind.wrap .u64 (0 - (n+18446744073709551616))=(n.natAbs:Int):=by rw[IntKind.wrap_u64];omega
  rw[zu h,e1,e2,acV _ _ _ 3 n.natAbs [] (by omega) (by omega) (by simp)]
  simp[W,h]
 ·have e1:IntKind.wrap .u64 n=(n.natAbs:Int):=by rw[IntKind.wrap_u64];omega
  rw[xq h,e1,acV _ _ _ 3 n.natAbs [] (by omega) (by omega) (by simp)]
  simp[W,h]
end Go.Proofs.YtofjebmoebhiiaaGreatDoor.Ev
namespace Go.Abs
theorem CZ {l:List Int}{n:Nat}{v:Int}(h:n<l.length):(l.set n v).take (n+1)=l.take n++[v]:=by
 rw[du (by simpa using h),List.take_set_of_le (Nat.le_refl n)]
 simp[List.getD,h]
theorem set_drop {l:List Int}{n:Nat}{v:Int}:(l.set n v).drop (n+1)=l.drop (n+1):=by
 rw[List.drop_set_of_lt (by omega)]
theorem TO (l:List Int)(k:Nat):l=l.take k++l.drop k:=(List.take_append_drop k l).symm
theorem JR (n j:Nat):(List.replicate n (0:Int)).getD j 0=0:=by
 by_cases h:j<n
 ·simp only[List.getD,List.getElem?_replicate,if_pos h];rfl
 ·exact getD_none (by simp;omega)
theorem aez {x y:Int}(hx:0≤x∧x<1000000000)(hy:0≤y∧y<1000000000):0≤x*y∧x*y≤999999998000000001:=by
 have h1:=Int.mul_nonneg hx.1 hy.1
 have h2:x*y≤999999999*y:=Int.mul_le_mul_of_nonneg_right (by omega) hy.1
 exact⟨h1,by omega⟩
end Go.Abs
namespace Go.Proofs.YtofjebmoebhiiaaGreatDoor.Ev
open Go.Abs Go.IntWalk
def amL:List Int→Int→List Int→Int→List Int
 | [],x,o::os,c=>c::os
 | [],x,[],c=>[]
 |y::ys,x,o::os,c=>(x*y+o+c) % 1000000000::amL ys x os ((x*y+o+c) / 1000000000)
 |y::ys,x,[],c=>[]
def mlL:List Int→List Int→List Int→List Int
 | [],b,o=>o
 |x::xs,b,o=>match amL b x o 0 with
  | []=>[]
  |h::t=>h::mlL xs b t
theorem Nc:∀(b:List Int) (x:Int) (o:List Int) (c:Int),b.length<o.length→(amL b x o c).length=o.length
 | [],x,[],c,h=>by simp at h
 | [],x,o::os,c,h=>by simp[amL]
 |y::ys,x,[],c,h=>by simp at h
 |y::ys,x,o::os,c,h=>by simp only[amL,List.length_cons];rw[Nc ys x os _ (by simpa using h)]
theorem Xn:∀(b:List Int) (x:Int) (o:List Int) (c:Int),b.length<o.length→DU b→DU o→0≤x∧x<1000000000→0≤c∧c<1000000000→o.getD b.length 0=0→
  VU (amL b x o c)=VU o+x*VU b+c∧DU (amL b x o c)∧(amL b x o c).drop (b.length+1)=o.drop (b.length+1)
 | [],x,[],c,h,hb,ho,hx,hc,hz=>by simp at h
 | [],x,o::os,c,h,hb,ho,hx,hc,hz=>by
   have:o=0:=by simpa using hz
   subst this
   simp only[amL]
   exact⟨by simp[VU,val];omega,gO.cons hc.1 hc.2 ho.tail,by simp⟩
 |y::ys,x,[],c,h,hb,ho,hx,hc,hz=>by simp at h
 |y::ys,x,o::os,c,h,hb,ho,hx,hc,hz=>by
  have hy:=hb.head
  have hoo:=ho.head
  have hm:=aez hx hy
  obtain⟨e1,e2,e3⟩:=Xn ys x os ((x*y+o+c) / 1000000000) (by simpa using h) hb.tail ho.tail hx (by omega) (by simpa using hz)
  simp only[amL]
  refine⟨?_,gO.cons (by omega) (by omega) e2,by simpa using e3⟩
  simp only[VU,val] at e1 ⊢
  have e4:x*(y+1000000000*val 1000000000 ys)=x*y+1000000000*(x*val 1000000000 ys):=by rw[Int.mul_add,Int.mul_left_comm]
  rw[e1,e4]
  omega
theorem acX:∀(a b o:List Int),o.length=a.length+b.length→DU a→DU b→DU o→(∀j,b.length≤j→o.getD j 0=0)→
  VU (mlL a b o)=VU o+VU a*VU b∧DU (mlL a b o)∧(mlL a b o).length=o.length
 | [],b,o,hl,ha,hb,ho,hz=>by simp[mlL,VU,val];exact ho
 |x::xs,b,o,hl,ha,hb,ho,hz=>by
  have hlt:b.length<o.length:=by simp at hl;omega
  obtain⟨e1,e2,e3⟩:=Xn b x o 0 hlt hb ho ha.head ⟨by omega,by omega⟩ (hz _ (Nat.le_refl _))
  have e4:=Nc b x o 0 hlt
  simp only[mlL]
  split
  ·rename_i e;rw[e] at e4;simp at e4;omega
  ·rename_i h t e
   rw[e] at e1 e2 e3 e4
   obtain⟨f1,f2,f3⟩:=acX xs b t (by simp at hl e4;omega) ha.tail hb e2.tail (fun j hj=>by
    have h5:(h::t).drop (b.length+1)=t.drop b.length:=rfl
    have h6:t.getD j 0=(t.drop b.length).getD (j - b.length) 0:=by rw[rD];congr 1;omega
    rw[h6, ←h5,e3,rD]
    exact hz _ (by omega))
   refine⟨?_,gO.cons e2.head.1 e2.head.2 f2,by simp[f3] at e4 ⊢;omega⟩
   simp only[VU,val] at e1 f1 ⊢
   rw[f1,Int.add_mul,Int.mul_assoc]
   omega
theorem aeA {a b:List Int}{sa sb:Bool}{t8:List Int}{t7:Bool}{x:Int}{i:Nat}(hb:DU b)(hx:0≤x∧x<1000000000)(hi:i<a.length)(hl:a.length≤1000000000000)(hl':b.length≤1000000000000):
  ∀(m k:Nat) (c:Int) (out:List Int),m+k=b.length→out.length=a.length+b.length→DU out→0≤c∧c<1000000000→
  fA i x c a a.length i b b.length k out sa a sb b t7 t8=da a a.length (i+1) (out.take (i+k)++amL (b.drop k) x (out.drop (i+k)) c) sa a sb b t7 t8:=by
 intro m
 induction m with
 |zero=>
  intro k c out hk ho hd hc
  have hk':k=b.length:=by omega
  subst hk'
  rw[rZ,nD]
  simp (disch:=omega) only[xq,cond_false,i64_in,u32_in]
  rw[qR (by omega) (by omega),TD (show ((i:Int)+b.length).toNat<out.length by omega)]
  have e:((i:Int)+b.length).toNat=i+b.length:=by omega
  simp only[Option.bind_some,e]
  rw[drop_nil (Nat.le_refl _),drop_eq (show i+b.length<out.length by omega)]
  simp only[amL]
  congr 1
  conv=>lhs;rw[TO (out.set (i+b.length) c) (i+b.length+1)]
  rw[CZ (by omega),set_drop]
  simp
 |succ m ih=>
  intro k c out hk ho hd hc
  have hy:=hb.getD (by omega) k
  have hoo:=hd.getD (by omega) (i+k)
  have hm:=aez hx hy
  rw[rZ,nD]
  have e:((i:Int)+k).toNat=i+k:=by omega
  simp (disch:=omega) only[zu,cond_true,i64_in,qR,TD,Option.bind_some,u64_in,Int.toNat_natCast,e]
  simp (disch:=omega) only[u64_in,u64_quo,bD,u32_in]
  have tu:=fun c out=>ih (k+1) c out (by omega)
  simp only[Int.natCast_add,Int.natCast_one] at tu
  rw[tu _ _ (by simp[ho]) (hd.set (by omega) (by omega) _) (by omega)]
  congr 1
  rw[drop_eq (show k<b.length by omega),drop_eq (show i+k<out.length by omega)]
  simp only[amL]
  rw[show i+(k+1)=i+k+1 by omega,CZ (by omega),set_drop]
  have e2:c+(x*b.getD k 0+out.getD (i+k) 0)=x*b.getD k 0+out.getD (i+k) 0+c:=by omega
  rw[e2]
  simp
theorem aeB {a b:List Int}{sa sb:Bool}{t8:List Int}{t7:Bool}(ha:DU a)(hb:DU b)(hl:a.length≤1000000000000)(hl':b.length≤1000000000000):
  ∀(m i:Nat) (out:List Int),m+i=a.length→out.length=a.length+b.length→DU out→(∀j,b.length≤j→(out.drop i).getD j 0=0)→
  da a a.length i out sa a sb b t7 t8=iW (!(sa==sb)) (out.take i++mlL (a.drop i) b (out.drop i)):=by
 intro m
 induction m with
 |zero=>
  intro i out hi ho hd hz
  have hi':i=a.length:=by omega
  rw[rY,nC]
  simp (disch:=omega) only[xq,cond_false,drop_nil,mlL,List.take_append_drop]
  cases iW (!(sa==sb)) out<;>rfl
 |succ m ih=>
  intro i out hi ho hd hz
  have hx:=ha.getD (by omega) i
  rw[rY,nC]
  simp (disch:=omega) only[zu,cond_true,qR,Option.bind_some,Int.toNat_natCast]
  have hI:=aeA (a:=a) (sa:=sa) (sb:=sb) (t7:=t7) (t8:=t8) (i:=i) hb hx (by omega) hl hl' b.length 0 0 out (by omega) ho hd ⟨by omega,by omega⟩
  simp only[Int.natCast_zero] at hI
  rw[hI]
  have hlen:(out.drop (i+0)).length=a.length - i+b.length:=by simp;omega
  have hlt:b.length<(out.drop (i+0)).length:=by omega
  obtain⟨e1,e2,e3⟩:=Xn b (a.getD i 0) (out.drop (i+0)) 0 hlt hb (hd.drop _) hx ⟨by omega,by omega⟩ (hz _ (Nat.le_refl _))
  have e4:=Nc b (a.getD i 0) (out.drop (i+0)) 0 hlt
  have tu:=fun out=>ih (i+1) out (by omega)
  simp only[Int.natCast_add,Int.natCast_one] at tu
  rw[drop_eq (show i<a.length by omega)]
  simp only[mlL,List.drop_zero,Nat.add_zero,Int.natCast_zero] at*
  cases hA:amL b (a.getD i 0) (out.drop i) 0 with
  |nil=>rw[hA] at e4;simp at e4;omega
  |cons h t=>
   rw[hA] at e2 e3 e4
   have htl:(out.take i).length=i:=by simp;omega
   have h7:(out.take i++h::t).drop (i+1)=t:=by
    rw[List.drop_append,htl]
    have:(out.take i).drop (i+1)=[]:=drop_nil (by omega)
    rw[this];simp
   have h8:(out.take i++h::t).take (i+1)=out.take i++[h]:=by
    rw[List.take_append,htl]
    have:(out.take i).take (i+1)=out.take i:=List.take_of_length_le (by omega)
    rw[this];simp
   rw[tu _ (by simp[ho] at e4 ⊢;omega) ((hd.take _).append e2) (fun j hj=>by
    rw[h7]
    have h5:(h::t).drop (b.length+1)=t.drop b.length:=rfl
    have h6:t.getD j 0=(t.drop b.length).getD (j - b.length) 0:=by rw[rD];congr 1;omega
    rw[h6, ←h5,e3,rD]
    exact hz _ (by omega)),h7,h8]
   simp
theorem F3 {x y:Int}(hx:Ln x≤100000000000)(hy:Ln y≤100000000000):o5 (W x) (W y)=some (W (x*y)):=by
 rw[Fq,zX]
 simp only[W_1,W_2,oJ]
 simp (disch:=omega) only[i64_in,OC,cond_true]
 have apL:(((Ln x:Nat):Int)+(Ln y:Nat)).toNat=Ln x+Ln y:=by omega
 rw[apL]
 have ha:=Ip x.natAbs
 have hb:=Ip y.natAbs
 have h1:=aeB (sa:=decide (x<0)) (sb:=decide (y<0)) (t7:=false) (t8:=[]) ha hb (by rw[oJ];omega) (by rw[oJ];omega) (Ln x) 0 (List.replicate (Ln x+Ln y) 0) (by rw[oJ];omega)
  (by rw[List.length_replicate,oJ,oJ]) (gO.replicate (by omega) _) (fun j hj=>by
   rw[rD]
   exact JR _ _)
 rw[oJ] at h1
 have h2:da (dU x.natAbs) (Ln x) 0 (List.replicate (Ln x+Ln y) 0) (decide (x<0)) (dU x.natAbs) (decide (y<0)) (dU y.natAbs) false []=_:=h1
 rw[h2]
 obtain⟨e1,e2,e3⟩:=acX (dU x.natAbs) (dU y.natAbs) (List.replicate (Ln x+Ln y) 0) (by rw[List.length_replicate,oJ,oJ]) ha hb (gO.replicate (by omega) _) (fun j hj=>by
   exact JR _ _)
 simp only[List.take_zero,List.nil_append,List.drop_zero]
 rw[yJ e2 (by rw[e3,List.length_replicate];omega),e1,JP,JP]
 simp only[VU,LU,Int.zero_add]
 have key:(bif !(decide (x<0)==decide (y<0)) then -((x.natAbs:Int)*(y.natAbs:Int)) else ((x.natAbs:Int)*(y.natAbs:Int)))=x*y:=by
  by_cases h1:x<0<;>by_cases h2:y<0
  ·rw[zu h1,zu h2]
   have e1:(x.natAbs:Int)= -x:=by omega
   have e2:(y.natAbs:Int)= -y:=by omega
   rw[e1,e2];simp[Int.neg_mul,Int.mul_neg]
  ·rw[zu h1,xq h2]
   have e1:(x.natAbs:Int)= -x:=by omega
   have e2:(y.natAbs:Int)=y:=by omega
   rw[e1,e2];simp[Int.neg_mul,Int.mul_neg]
  ·rw[xq h1,zu h2]
   have e1:(x.natAbs:Int)=x:=by omega
   have e2:(y.natAbs:Int)= -y:=by omega
   rw[e1,e2];simp[Int.neg_mul,Int.mul_neg]
  ·rw[xq h1,xq h2]
   have e1:(x.natAbs:Int)=x:=by omega
   have e2:(y.natAbs:Int)=y:=by omega
   rw[e1,e2];simp[Int.neg_mul,Int.mul_neg]
 rw[key]
def Rv:List Int→Int→Int→List Int
 | [],k,c=>[c]
 |x::xs,k,c=>(c+x*k) % 1000000000::Rv xs k ((c+x*k) / 1000000000)
theorem Xo:∀(a:List Int) (k c:Int),DU a→0≤k∧k<1000000000→0≤c∧c<1000000000→VU (Rv a k c)=VU a*k+c∧DU (Rv a k c)∧(Rv a k c).length=a.length+1
 | [],k,c,ha,hk,hc=>by
   simp only[Rv]
   exact⟨by simp[VU,val],gO.cons hc.1 hc.2 gO.nil,rfl⟩
 |x::xs,k,c,ha,hk,hc=>by
  have hm:=aez ha.head hk
  obtain⟨e1,e2,e3⟩:=Xo xs k ((c+x*k) / 1000000000) ha.tail hk (by omega)
  simp only[Rv]
  refine⟨?_,gO.cons (by omega) (by omega) e2,by simp[e3]⟩
  simp only[VU,val] at e1 ⊢
  rw[e1,Int.add_mul,Int.mul_assoc]
  omega
theorem ZA {a:List Int}{k:Int}(ha:DU a)(hk:0≤k∧k<1000000000)(hl:a.length≤1000000000000):∀(m i:Nat) (c:Int) (out:List Int),m+i=a.length→out.length=i→0≤c∧c<1000000000→
  jE k c a a.length i out=some (out++Rv (a.drop i) k c):=by
 intro m
 induction m with
 |zero=>
  intro i c out hi ho hc
  rw[xW,tk]
  simp (disch:=omega) only[xq,cond_false,RI,cond_true,drop_nil,Rv,u32_in]
 |succ m ih=>
  intro i c out hi ho hc
  have hx:=ha.getD (by omega) i
  have hm:=aez hx hk
  rw[xW,tk]
  simp (disch:=omega) only[zu,cond_true,qR,Option.bind_some,Int.toNat_natCast,u64_in]
  simp (disch:=omega) only[u64_in,bD,u64_quo,RI,cond_true,i64_in,u32_in]
  have tu:=fun c out=>ih (i+1) c out (by omega)
  simp only[Int.natCast_add,Int.natCast_one] at tu
  rw[tu _ _ (by simp;omega) (by omega),drop_eq (show i<a.length by omega)]
  simp[Rv]
theorem LW {a:List Int}{k:Int}(ha:DU a)(hk:0≤k∧k<1000000000)(hl:a.length≤1000000000000):xL a k=some (Rv a k 0):=by
 rw[LG,GU]
 simp (disch:=omega) only[i64_in,OC,cond_true]
 have:=ZA ha hk hl a.length 0 0 [] (by omega) rfl ⟨by omega,by omega⟩
 simpa using this
def Dg (b:Int):List Int→List Int×Int
 | []=>([],0)
 |x::xs=>((((Dg b xs).2*1000000000+x) / b)::(Dg b xs).1,((Dg b xs).2*1000000000+x) % b)
theorem OH {b:Int}(hb:0<b∧b<1000000000):∀(a:List Int),DU a→VU a=VU (Dg b a).1*b+(Dg b a).2∧0≤(Dg b a).2∧(Dg b a).2<b∧DU (Dg b a).1∧(Dg b a).1.length=a.length
 | [],ha=>⟨by simp[Dg,VU,val],by simp[Dg],by simp[Dg];omega,gO.nil,rfl⟩
 |x::xs,ha=>by
  have hx:=ha.head
  obtain⟨e1,e2,e3,e4,e5⟩:=OH hb xs ha.tail
  have hd:=Int.mul_ediv_add_emod ((Dg b xs).2*1000000000+x) b
  have hlt:=Int.emod_lt_of_pos ((Dg b xs).2*1000000000+x) hb.1
  have hnn:=Int.emod_nonneg ((Dg b xs).2*1000000000+x) (show b≠0 by omega)
  have hq0:0≤((Dg b xs).2*1000000000+x) / b:=Int.ediv_nonneg (by omega) (by omega)
  have hq1:((Dg b xs).2*1000000000+x) / b<1000000000:=Int.ediv_lt_of_lt_mul hb.1 (by omega)
  simp only[Dg]
  refine⟨?_,hnn,hlt,gO.cons hq0 hq1 e4,by simp[e5]⟩
  simp only[VU,val] at e1 ⊢
  have e7:(((Dg b xs).2*1000000000+x) / b+1000000000*val 1000000000 (Dg b xs).1)*b=b*(((Dg b xs).2*1000000000+x) / b)+1000000000*(val 1000000000 (Dg b xs).1*b):=by
   rw[Int.add_mul,Int.mul_assoc,Int.mul_comm (_ / b) b]
  rw[e1,e7]
  omega
theorem abj {a:List Int}{b:Int}(ha:DU a)(hb:0<b∧b<1000000000)(hl:a.length≤1000000000000):∀(k:Nat) (out:List Int),k≤a.length→out.length=a.length→out.drop k=(Dg b (a.drop k)).1→
  lq a b (Dg b (a.drop k)).2 ((k:Int) - 1) out=some (Dg b a):=by
 intro k
 induction k with
 |zero=>
  intro out hk ho hd
  rw[zY,vA]
  obtain⟨e1,e2,e3,e4,e5⟩:=OH hb a ha
  simp only[List.drop_zero] at hd ⊢
  simp (disch:=omega) only[Zq,cond_false,u32_in]
  rw[hd]
 |succ k ih=>
  intro out hk ho hd
  obtain⟨e1,e2,e3,e4,e5⟩:=OH hb (a.drop (k+1)) (ha.drop _)
  have hx:=ha.getD (by omega) k
  have hq0:0≤((Dg b (a.drop (k+1))).2*1000000000+a.getD k 0) / b:=Int.ediv_nonneg (by omega) (by omega)
  have hq1:((Dg b (a.drop (k+1))).2*1000000000+a.getD k 0) / b<1000000000:=Int.ediv_lt_of_lt_mul hb.1 (by omega)
  rw[zY,vA]
  have e:((k+1:Nat):Int) - 1=k:=by omega
  rw[e]
  simp (disch:=omega) only[acO,cond_true,qR,TD,Option.bind_some,Int.toNat_natCast,u64_in]
  simp (disch:=omega) only[u64_in,u64_quo,bD,JL,cond_false,u32_in,i64_in]
  have h1:Dg b (a.drop k)=((((Dg b (a.drop (k+1))).2*1000000000+a.getD k 0) / b)::(Dg b (a.drop (k+1))).1,((Dg b (a.drop (k+1))).2*1000000000+a.getD k 0) % b):=by
   rw[drop_eq (show k<a.length by omega)];rfl
  have h2:=ih (out.set k (((Dg b (a.drop (k+1))).2*1000000000+a.getD k 0) / b)) (by omega) (by simpa using ho) (by
   rw[h1,drop_eq (by simp;omega),set_drop,hd]
   simp[List.getD,show k<out.length by omega])
  rw[h1] at h2
  exact h2
theorem OI {a:List Int}{b:Int}(ha:DU a)(hb:0<b∧b<1000000000)(hl:a.length≤1000000000000):uq a b=some (Dg b a):=by
 rw[N8,I9]
 simp (disch:=omega) only[i64_in,OC,cond_true,Int.toNat_natCast]
 have:=abj ha hb hl a.length (List.replicate a.length 0) (Nat.le_refl _) (by simp) (by rw[drop_nil (Nat.le_refl _),drop_nil (by simp)];rfl)
 rw[drop_nil (Nat.le_refl _)] at this
 exact this
end Go.Proofs.YtofjebmoebhiiaaGreatDoor.Ev
namespace Go.Abs
section
variable {P V R vl wl v1 v2 u1 u2 u3 g rest:Int}
theorem ahi (hP:0<P)(hvl:vl<P)(hwl:0≤wl)(hV:V=vl+P*(v2+1000000000*v1))(hR:R=wl+P*(u3+1000000000*(u2+1000000000*u1)))
  (h2:v2<1000000000) (h3:0≤u3) (h4:0≤u2) (hlt:R<V*1000000000):u1≤v1:=by
 by_cases h:u1≤v1
 ·exact h
 ·exfalso
  have e1:P*(v1+1)≤P*u1:=Int.mul_le_mul_of_nonneg_left (by omega) (by omega)
  have e2:P*(v2+1)≤P*1000000000:=Int.mul_le_mul_of_nonneg_left (by omega) (by omega)
  have e3:0≤P*u3:=Int.mul_nonneg (by omega) h3
  have e4:0≤P*u2:=Int.mul_nonneg (by omega) h4
  simp only[Int.mul_add,Int.mul_one,Int.mul_left_comm P 1000000000] at hV hR e1 e2
  omega
theorem alF (hP:0<P)(hV0:0<V)(hvl:0≤vl)(hwl:wl<P)(hV:V=vl+P*(v2+1000000000*v1))(hR:R=wl+P*(u3+1000000000*(u2+1000000000*u1)))
  (hg:0≤g) (ht:u1*1000000000+u2=g*v1+rest) (hlt:R<V*1000000000) (h:g≥1000000000∨g*v2>rest*1000000000+u3):R<g*V:=by
 rcases h with h |h
 ·have e1:V*1000000000≤V*g:=Int.mul_le_mul_of_nonneg_left h (by omega)
  rw[Int.mul_comm V g] at e1
  omega
 ·have e1:0≤g*vl:=Int.mul_nonneg hg hvl
  have e2:P*(rest*1000000000+u3+1)≤P*(g*v2):=Int.mul_le_mul_of_nonneg_left (by omega) (by omega)
  have e3:P*(u1*1000000000+u2)=P*(g*v1+rest):=by rw[ht]
  have e4:g*V=g*vl+(P*(g*v2)+1000000000*(P*(g*v1))):=by
   rw[hV,Int.mul_add,Int.mul_left_comm g P,Int.mul_add g,Int.mul_left_comm g 1000000000,Int.mul_add P,Int.mul_left_comm P 1000000000]
  simp only[Int.mul_add,Int.mul_one, ←Int.mul_assoc,Int.mul_left_comm P 1000000000] at e2 e3 hR e4
  simp only[Int.mul_assoc,Int.mul_comm _ (1000000000:Int),Int.mul_left_comm _ (1000000000:Int)] at e2 e3 hR e4 ⊢
  omega
theorem ajk {G:Int}(hP:0<P)(hvl:0≤vl)(hwl:wl<P)(hV:V=vl+P*(v2+1000000000*v1))(hR:R=wl+P*(u3+1000000000*(u2+1000000000*u1)))
  (Ur:0≤v2) (hu3:u3<1000000000) (hG:0≤G) (ht:u1*1000000000+u2+1≤G*v1):R<G*V:=by
 have h2:=Int.mul_le_mul_of_nonneg_left ht (show (0:Int)≤P by omega)
 have h3:0≤G*vl:=Int.mul_nonneg hG hvl
 have h4:0≤P*(G*v2):=Int.mul_nonneg (by omega) (Int.mul_nonneg hG Ur)
 have h5:G*V=G*vl+(P*(G*v2)+1000000000*(P*(G*v1))):=by
  rw[hV,Int.mul_add,Int.mul_left_comm G P,Int.mul_add G,Int.mul_left_comm G 1000000000,Int.mul_add P,Int.mul_left_comm P 1000000000]
 have h6:P*(u3+1)≤P*1000000000:=Int.mul_le_mul_of_nonneg_left (by omega) (by omega)
 simp only[Int.mul_add,Int.mul_one, ←Int.mul_assoc,Int.mul_left_comm P 1000000000] at h2 h6 h4 hR h5
 simp only[Int.mul_assoc,Int.mul_comm _ (1000000000:Int),Int.mul_left_comm _ (1000000000:Int)] at h2 h6 h4 hR h5 ⊢
 omega
theorem ahj (hP:0<P)(WL:1≤v1)(Ur:0≤v2)(ZB:0≤vl)(hvl:vl<P)(hwl:0≤wl)(hV:V=vl+P*(v2+1000000000*v1))(hR:R=wl+P*(u3+1000000000*(u2+1000000000*u1)))
  (hg:0≤g) (hg':g≤999999999) (ht:u1*1000000000+u2=g*v1+rest) (h:g*v2≤rest*1000000000+u3):g*V<R+V:=by
 have e1:g*vl≤999999999*vl:=Int.mul_le_mul_of_nonneg_right hg' ZB
 have e2:P*(g*v2)≤P*(rest*1000000000+u3):=Int.mul_le_mul_of_nonneg_left h (by omega)
 have e3:P*(u1*1000000000+u2)=P*(g*v1+rest):=by rw[ht]
 have e4:g*V=g*vl+(P*(g*v2)+1000000000*(P*(g*v1))):=by
  rw[hV,Int.mul_add,Int.mul_left_comm g P,Int.mul_add g,Int.mul_left_comm g 1000000000,Int.mul_add P,Int.mul_left_comm P 1000000000]
 have e5:P*1≤P*v1:=Int.mul_le_mul_of_nonneg_left WL (by omega)
 have e6:0≤P*v2:=Int.mul_nonneg (by omega) Ur
 simp only[Int.mul_add,Int.mul_one, ←Int.mul_assoc,Int.mul_left_comm P 1000000000] at e2 e3 hR e4 hV e5
 simp only[Int.mul_assoc,Int.mul_comm _ (1000000000:Int),Int.mul_left_comm _ (1000000000:Int)] at e2 e3 hR e4 hV ⊢
 omega
end
def P4 (g:Int):List Int→List Int→Int→List Int×Int
 |us,[],b=>(us,b)
 | [],_::_,b=>([],b)
 |u::us,v::vs,b=>
  if u - b - g*v % 1000000000<0 then
   if u - b - g*v % 1000000000+1000000000<0 then
    ((u - b - g*v % 1000000000+2000000000)::(P4 g us vs (g*v / 1000000000+2)).1,(P4 g us vs (g*v / 1000000000+2)).2)
   else ((u - b - g*v % 1000000000+1000000000)::(P4 g us vs (g*v / 1000000000+1)).1,(P4 g us vs (g*v / 1000000000+1)).2)
  else ((u - b - g*v % 1000000000)::(P4 g us vs (g*v / 1000000000)).1,(P4 g us vs (g*v / 1000000000)).2)
def Xp:List Int→List Int→Int→List Int×Int
 |us,[],c=>(us,c)
 | [],_::_,c=>([],c)
 |u::us,v::vs,c=>((u+v+c) % 1000000000::(Xp us vs ((u+v+c) / 1000000000)).1,(Xp us vs ((u+v+c) / 1000000000)).2)
theorem ZC {g:Int}(hg:0≤g∧g<1000000000):∀(us vs:List Int) (hs:List Int) (b:Int),us.length=vs.length→gO 1000000000 us→gO 1000000000 vs→0≤b∧b≤1000000000→
  ∃r b',P4 g (us++hs) vs b=(r++hs,b')∧val 1000000000 us - b - g*val 1000000000 vs=val 1000000000 r - 1000000000^vs.length*b'∧gO 1000000000 r∧r.length=us.length∧0≤b'∧b'≤1000000000
 | [],[],hs,b,hl,hu,hv,hb=>⟨[],b,by simp[P4],by simp[val],gO.nil,rfl,hb⟩
 | [],_::_,hs,b,hl,hu,hv,hb=>by simp at hl
 |_::_,[],hs,b,hl,hu,hv,hb=>by simp at hl
 |u::us,v::vs,hs,b,hl,hu,hv,hb=>by
  have h1:=hu.head
  have h2:=hv.head
  have hm:=aez hg h2
  have ih:=fun b' hb'=>ZC hg us vs hs b' (by simpa using hl) hu.tail hv.tail hb'
  have fin:∀(y c b':Int) (r:List Int),u - b - g*v=y - 1000000000*c→0≤y∧y<1000000000→
    val 1000000000 us - c - g*val 1000000000 vs=val 1000000000 r - 1000000000^vs.length*b'→
    val 1000000000 (u::us) - b - g*val 1000000000 (v::vs)=val 1000000000 (y::r) - 1000000000^(v::vs).length*b':=fun y c b' r e1 hy e2=>by
   simp only[val,List.length_cons,Int.pow_succ]
   have e3:g*(v+1000000000*val 1000000000 vs)=g*v+1000000000*(g*val 1000000000 vs):=by rw[Int.mul_add,Int.mul_left_comm]
   have e4:(1000000000:Int)^vs.length*1000000000*b'=1000000000*(1000000000^vs.length*b'):=by rw[Int.mul_comm ((1000000000:Int)^vs.length),Int.mul_assoc]
   rw[e3,e4]
   omega
  simp only[List.cons_append,P4]
  split
  ·split
   ·obtain⟨r,b',e1,e2,e3,e4,e5⟩:=ih (g*v / 1000000000+2) (by omega)
    refine⟨(u - b - g*v % 1000000000+2000000000)::r,b',by rw[e1];rfl,fin _ _ _ _ (by omega) (by omega) e2,gO.cons (by omega) (by omega) e3,by simp[e4],e5⟩
   ·obtain⟨r,b',e1,e2,e3,e4,e5⟩:=ih (g*v / 1000000000+1) (by omega)
    refine⟨(u - b - g*v % 1000000000+1000000000)::r,b',by rw[e1];rfl,fin _ _ _ _ (by omega) (by omega) e2,gO.cons (by omega) (by omega) e3,by simp[e4],e5⟩
  ·obtain⟨r,b',e1,e2,e3,e4,e5⟩:=ih (g*v / 1000000000) (by omega)
   refine⟨(u - b - g*v % 1000000000)::r,b',by rw[e1];rfl,fin _ _ _ _ (by omega) (by omega) e2,gO.cons (by omega) (by omega) e3,by simp[e4],e5⟩
theorem ZD:∀(us vs:List Int) (hs:List Int) (c:Int),us.length=vs.length→gO 1000000000 us→gO 1000000000 vs→0≤c∧c≤1→
  ∃r c',Xp (us++hs) vs c=(r++hs,c')∧val 1000000000 us+val 1000000000 vs+c=val 1000000000 r+1000000000^vs.length*c'∧gO 1000000000 r∧r.length=us.length∧0≤c'∧c'≤1
 | [],[],hs,c,hl,hu,hv,hc=>⟨[],c,by simp[Xp],by simp[val],gO.nil,rfl,hc⟩
 | [],_::_,hs,c,hl,hu,hv,hc=>by simp at hl
 |_::_,[],hs,c,hl,hu,hv,hc=>by simp at hl
 |u::us,v::vs,hs,c,hl,hu,hv,hc=>by
  have h1:=hu.head
  have h2:=hv.head
  obtain⟨r,c',e1,e2,e3,e4,e5⟩:=ZD us vs hs ((u+v+c) / 1000000000) (by simpa using hl) hu.tail hv.tail (by omega)
  refine⟨(u+v+c) % 1000000000::r,c',by simp only[List.cons_append,Xp];rw[e1], ?_,gO.cons (by omega) (by omega) e3,by simp[e4],e5⟩
  simp only[val,List.length_cons,Int.pow_succ]
  have e6:(1000000000:Int)^vs.length*1000000000*c'=1000000000*(1000000000^vs.length*c'):=by rw[Int.mul_comm ((1000000000:Int)^vs.length),Int.mul_assoc]
  rw[e6]
  omega
end Go.Abs
namespace Go.Proofs.YtofjebmoebhiiaaGreatDoor.Ev
open Go.Abs Go.IntWalk
section
variable {k:Int}{v:List Int}{n j:Nat}{q u:List Int}
theorem Xq {P V R vl wl v1 v2 u1 u2 u3:Int}(hP:0<P)(ZB:0≤vl)(hvl:vl<P)(aeC:0≤wl)(hwl:wl<P)(hV:V=vl+P*(v2+1000000000*v1))(hR:R=wl+P*(u3+1000000000*(u2+1000000000*u1)))
  (WL:500000000≤v1∧v1<1000000000) (Ur:0≤v2∧v2<1000000000) (hu1:0≤u1∧u1<1000000000) (hu2:0≤u2∧u2<1000000000) (hu3:0≤u3∧u3<1000000000) (hlt:R<V*1000000000)
  (hn:2≤n) (Xr:v.length=n) (hun:j+n<u.length) (hul:u.length≤1000000000000)
  (gv1:v.getD (n - 1) 0=v1) (gv2:v.getD (n - 2) 0=v2) (gu3:u.getD (j+n - 2) 0=u3):∀(g:Nat) (rest:Int),u1*1000000000+u2=g*v1+rest→0≤rest→rest<1000000000→R<(g+1)*V→
  ∃g':Int,0≤g'∧g'≤999999999∧R<(g'+1)*V∧g'*V<R+V∧jD k v n j g rest q u=gv k v n j g' 0 n 0 q u:=by
 have apP:=ahi hP hvl aeC hV hR Ur.2 hu3.1 hu2.1 hlt
 have ZE:0<V:=by
  have e5:P*1≤P*v1:=Int.mul_le_mul_of_nonneg_left (by omega) (by omega)
  have e6:0≤P*v2:=Int.mul_nonneg (by omega) Ur.1
  simp only[Int.mul_add,Int.mul_one,Int.mul_left_comm P 1000000000] at hV e5
  omega
 have hR0:0≤R:=by
  have e3:0≤P*(u3+1000000000*(u2+1000000000*u1)):=Int.mul_nonneg (by omega) (by omega)
  omega
 intro g
 induction g with
 |zero=>
  intro rest ht h0 h1 hb
  have hz:(0:Int)*v2≤rest*1000000000+u3:=by rw[Int.zero_mul];omega
  refine⟨0,by omega,by omega,by simpa using hb,by simp;omega, ?_⟩
  rw[BY,yx]
  have e1:((n:Int) - 2).toNat=n - 2:=by omega
  have e2:((j:Int)+n - 2).toNat=j+n - 2:=by omega
  simp (disch:=omega) only[Zq,cond_false,i64_in,qR,TD,Option.bind_some,e1,e2,gv2,gu3,Int.natCast_zero,Int.zero_mul,u64_in,akn]
 |succ g ih=>
  intro rest ht h0 h1 hb
  have hgb:(g:Int)+1≤1000000001:=by
   -- g v1 is at most Kh two top digits
   have h5:(g+1:Nat)*v1≤v1*1000000000+999999999:=by
    have:u1*1000000000≤v1*1000000000:=by omega
    omega
   by_cases hc:(g:Int)+1≤1000000001
   ·exact hc
   ·have h6:(1000000002:Int)*v1≤(g+1:Nat)*v1:=Int.mul_le_mul_of_nonneg_right (by omega) (by omega)
    omega
  have e1:((n:Int) - 2).toNat=n - 2:=by omega
  have e1':((n:Int) - 1).toNat=n - 1:=by omega
  have e2:((j:Int)+n - 2).toNat=j+n - 2:=by omega
  have egc:((g+1:Nat):Int)=(g:Int)+1:=by omega
  have alG:(g:Int)+1 - 1=g:=by omega
  rw[egc] at ht hb ⊢
  have aq8:0≤((g:Int)+1)*v2∧((g:Int)+1)*v2≤1000000001*999999999:=by
   refine⟨Int.mul_nonneg (by omega) Ur.1, ?_⟩
   have h7:((g:Int)+1)*v2≤1000000001*v2:=Int.mul_le_mul_of_nonneg_right hgb Ur.1
   omega
  have anH:((g:Int)+1≥1000000000∨((g:Int)+1)*v2>rest*1000000000+u3)→R<((g:Int)+1)*V:=
   alF hP ZE ZB hwl hV hR (by omega) ht hlt
  -- one step down
  have ZF:R<((g:Int)+1)*V→∃g':Int,0≤g'∧g'≤999999999∧R<(g'+1)*V∧g'*V<R+V∧
    (bif decide (rest+v1≥1000000000) then gv k v n j g 0 n 0 q u else jD k v n j g (rest+v1) q u)=gv k v n j g' 0 n 0 q u:=fun hR'=>by
   have ht':u1*1000000000+u2=g*v1+(rest+v1):=by rw[ht,Int.add_mul];omega
   by_cases hbr:rest+v1≥1000000000
   ·have hg9:(g:Int)≤999999999:=by
     by_cases hc:(g:Int)≤999999999
     ·exact hc
     ·exfalso
      have h6:(1000000000:Int)*v1≤(g:Int)*v1:=Int.mul_le_mul_of_nonneg_right (by omega) (by omega)
      have:u1*1000000000≤v1*1000000000:=by omega
      omega
    have hle:(g:Int)*v2≤(rest+v1)*1000000000+u3:=by
     have h7:(g:Int)*v2≤999999999*v2:=Int.mul_le_mul_of_nonneg_right hg9 Ur.1
     omega
    refine⟨g,by omega,hg9,hR',ahj hP (by omega) Ur.1 ZB hvl aeC hV hR (by omega) hg9 ht' hle, ?_⟩
    rw[acO hbr,cond_true]
   ·obtain⟨g',h1',h2',h3',h4',h5'⟩:=ih (rest+v1) ht' (by omega) (by omega) hR'
    refine⟨g',h1',h2',h3',h4', ?_⟩
    rw[Zq hbr,cond_false];exact h5'
  rw[BY,yx]
  by_cases hge:(g:Int)+1≥1000000000
  ·obtain⟨g',h1',h2',h3',h4',h5'⟩:=ZF (anH (.inl hge))
   refine⟨g',h1',h2',h3',h4', ?_⟩
   rw[←h5',tb hge]
   simp (disch:=omega) only[i64_in,gN,e1',gv1,u64_in,alG]
  ·by_cases hgt:((g:Int)+1)*v2>rest*1000000000+u3
   ·obtain⟨g',h1',h2',h3',h4',h5'⟩:=ZF (anH (.inr hgt))
    refine⟨g',h1',h2',h3',h4', ?_⟩
    rw[←h5',qS hge]
    simp (disch:=omega) only[i64_in,gN,wM,e1,e1',e2,gv1,gv2,gu3,u64_in,alG,ch]
   ·refine⟨(g:Int)+1,by omega,by omega,hb,ahj hP (by omega) Ur.1 ZB hvl aeC hV hR (by omega) (by omega) ht (by omega), ?_⟩
    rw[qS hge]
    simp (disch:=omega) only[i64_in,gN,wM,e1,e1',e2,gv1,gv2,gu3,u64_in,alG,cp]
end
end Go.Proofs.YtofjebmoebhiiaaGreatDoor.Ev
namespace Go.Abs
theorem aeD {l:List Int}{m:Nat}(h:m+2<l.length):val 1000000000 (l.take (m+3))=val 1000000000 (l.take m)+1000000000^m*(l.getD m 0+1000000000*(l.getD (m+1) 0+1000000000*l.getD (m+2) 0)):=by
 rw[du (show m+2<l.length by omega),du (show m+1<l.length by omega),du (show m<l.length by omega),List.append_assoc,List.append_assoc,fj]
 have:(l.take m).length=m:=by simp;omega
 rw[this]
 simp[val]
theorem aeE {l:List Int}{m:Nat}(h:m+1<l.length):val 1000000000 (l.take (m+2))=val 1000000000 (l.take m)+1000000000^m*(l.getD m 0+1000000000*l.getD (m+1) 0):=by
 rw[du (show m+1<l.length by omega),du (show m<l.length by omega),List.append_assoc,fj]
 have:(l.take m).length=m:=by simp;omega
 rw[this]
 simp[val]
end Go.Abs
namespace Go.Proofs.YtofjebmoebhiiaaGreatDoor.Ev
open Go.Abs Go.IntWalk
section
variable {k:Int}{v:List Int}{n j:Nat}
theorem Xs {g:Int}(hg:0≤g∧g<1000000000)(hv:DU v)(Xr:v.length=n):∀(m i:Nat) (b:Int) (u q:List Int),m+i=n→0≤b∧b≤1000000000→DU u→j+n<u.length→u.length≤1000000000000→
  gv k v n j g b n i q u=gv k v n j g (P4 g (u.drop (j+i)) (v.drop i) b).2 n n q (u.take (j+i)++(P4 g (u.drop (j+i)) (v.drop i) b).1):=by
 intro m
 induction m with
 |zero=>
  intro i b u q hi hb hu hju hul
  have:i=n:=by omega
  subst this
  have h1:v.drop i=[]:=drop_nil (by omega)
  have h2:∀(us:List Int),P4 g us [] b=(us,b):=fun us=>by cases us<;>rfl
  rw[h1,h2]
  simp only[List.take_append_drop]
 |succ m ih=>
  intro i b u q hi hb hu hju hul
  have hx:=hu.getD (by omega) (j+i)
  have hy:=hv.getD (by omega) i
  have hm:=aez hg hy
  have e1:((i:Int)+(j:Int)).toNat=j+i:=by omega
  rw[BZ,yy]
  have tu:=fun b u q=>ih (i+1) b u q (by omega)
  simp only[Int.natCast_add,Int.natCast_one] at tu
  simp (disch:=omega) only[aq,i64_in,gN,wM,e1,Int.toNat_natCast]
  simp (disch:=omega) only[i64_in,bD,mu]
  rw[drop_eq (show i<v.length by omega),drop_eq (show j+i<u.length by omega)]
  simp only[P4]
  by_cases h1:u.getD (j+i) 0 - b - g*v.getD i 0 % 1000000000<0
  ·rw[aq h1,if_pos h1]
   by_cases h2:u.getD (j+i) 0 - b - g*v.getD i 0 % 1000000000+1000000000<0
   ·rw[if_pos h2]
    simp (disch:=omega) only[i64_in,aq,gN,wM,e1,u32_in]
    rw[tu _ _ _ (by omega) (hu.set (by omega) (by omega) _) (by simpa using hju) (by simpa using hul)]
    rw[show j+(i+1)=j+i+1 by omega,CZ (by omega),set_drop]
    have e2:g*v.getD i 0 / 1000000000+1+1=g*v.getD i 0 / 1000000000+2:=by omega
    have e3:u.getD (j+i) 0 - b - g*v.getD i 0 % 1000000000+1000000000+1000000000=u.getD (j+i) 0 - b - g*v.getD i 0 % 1000000000+2000000000:=by omega
    rw[e2,e3]
    simp only[List.append_assoc,List.singleton_append]
   ·rw[if_neg h2]
    simp (disch:=omega) only[i64_in,ak,gN,wM,e1,u32_in]
    rw[tu _ _ _ (by omega) (hu.set (by omega) (by omega) _) (by simpa using hju) (by simpa using hul)]
    rw[show j+(i+1)=j+i+1 by omega,CZ (by omega),set_drop]
    simp only[List.append_assoc,List.singleton_append]
  ·rw[ak h1,if_neg h1]
   simp (disch:=omega) only[i64_in,ak,gN,wM,e1,u32_in]
   rw[tu _ _ _ (by omega) (hu.set (by omega) (by omega) _) (by simpa using hju) (by simpa using hul)]
   rw[show j+(i+1)=j+i+1 by omega,CZ (by omega),set_drop]
   simp only[List.append_assoc,List.singleton_append]
theorem Xt {g x:Int}(hv:DU v)(Xr:v.length=n):∀(m i:Nat) (c:Int) (u q:List Int),m+i=n→0≤c∧c≤1→DU u→j+n<u.length→u.length≤1000000000000→
  lr k v n j g x c n i q u=lr k v n j g x (Xp (u.drop (j+i)) (v.drop i) c).2 n n q (u.take (j+i)++(Xp (u.drop (j+i)) (v.drop i) c).1):=by
 intro m
 induction m with
 |zero=>
  intro i b u q hi hb hu hju hul
  have:i=n:=by omega
  subst this
  have h1:v.drop i=[]:=drop_nil (by omega)
  have h2:∀(us:List Int),Xp us [] b=(us,b):=fun us=>by cases us<;>rfl
  rw[h1,h2]
  simp only[List.take_append_drop]
 |succ m ih=>
  intro i c u q hi hc hu hju hul
  have hx:=hu.getD (by omega) (j+i)
  have hy:=hv.getD (by omega) i
  have e1:((i:Int)+(j:Int)).toNat=j+i:=by omega
  rw[B0,yz]
  have tu:=fun b u q=>ih (i+1) b u q (by omega)
  simp only[Int.natCast_add,Int.natCast_one] at tu
  simp (disch:=omega) only[aq,i64_in,gN,wM,e1,Int.toNat_natCast,u32_in]
  simp (disch:=omega) only[u32_in,bD,mu]
  rw[drop_eq (show i<v.length by omega),drop_eq (show j+i<u.length by omega)]
  simp only[Xp]
  rw[tu _ _ _ (by omega) (hu.set (by omega) (by omega) _) (by simpa using hju) (by simpa using hul)]
  rw[show j+(i+1)=j+i+1 by omega,CZ (by omega),set_drop]
  simp only[List.append_assoc,List.singleton_append]
set_option maxHeartbeats 2000000 in
theorem aeF (hv:DU v)(Xr:v.length=n)(hn:2≤n)(WL:500000000≤v.getD (n - 1) 0){u q:List Int}(hu:DU u)(hju:j+n<u.length)(hul:u.length≤1000000000000)(hq:j<q.length)(hql:q.length≤1000000000000)
  (hlt:VU ((u.drop j).take (n+1))<VU v*1000000000):
  ∃u',eM k v n j q u=eM k v n ((j:Int) - 1) (q.set j (VU ((u.drop j).take (n+1)) / VU v)) u'∧u'.length=u.length∧DU u'∧u'.take j=u.take j∧VU ((u'.drop j).take n)=VU ((u.drop j).take (n+1)) % VU v:=by
 obtain⟨m,rfl⟩:∃m,n=m+2:=⟨n - 2,by omega⟩
 -- Kh digits
 have Xu:(u.drop j).length=u.length - j:=by simp
 have hR:=aeD (l:=u.drop j) (m:=m) (by rw[Xu];omega)
 have hV:=aeE (l:=v) (m:=m) (by omega)
 rw[show v.take (m+2)=v from List.take_of_length_le (by omega)] at hV
 simp only[rD] at hR
 have hP:(0:Int)<1000000000^m:=Int.pow_pos (by omega)
 have aeC:=kj (B:=1000000000) (by omega) ((hu.drop j).take m)
 have hwl:=Ac (B:=1000000000) (by omega) ((hu.drop j).take m)
 have ZB:=kj (B:=1000000000) (by omega) (hv.take m)
 have hvl:=Ac (B:=1000000000) (by omega) (hv.take m)
 rw[show ((u.drop j).take m).length=m by rw[List.length_take,Xu];omega] at hwl
 rw[show (v.take m).length=m by rw[List.length_take];omega] at hvl
 have b1:=hv.getD (by omega) (m+1)
 have b2:=hv.getD (by omega) m
 have c1:=hu.getD (by omega) (j+(m+2))
 have c2:=hu.getD (by omega) (j+(m+1))
 have c3:=hu.getD (by omega) (j+m)
 have apS:500000000≤v.getD (m+1) 0:=WL
 have apP:=ahi hP hvl aeC hV hR b2.2 c3.1 c2.1 hlt
 have ZE:0<VU v:=by
  have e5:(1000000000:Int)^m*1≤1000000000^m*v.getD (m+1) 0:=Int.mul_le_mul_of_nonneg_left (by omega) (by omega)
  have e6:0≤(1000000000:Int)^m*v.getD m 0:=Int.mul_nonneg (by omega) b2.1
  have hV':VU v=_:=hV
  simp only[Int.mul_add,Int.mul_one,Int.mul_left_comm ((1000000000:Int)^m) 1000000000] at hV' e5
  omega
 -- Kh first anI
 have anJ:0≤u.getD (j+(m+2)) 0*1000000000+u.getD (j+(m+1)) 0:=by omega
 obtain⟨g0,hg0⟩:∃g0:Nat,(u.getD (j+(m+2)) 0*1000000000+u.getD (j+(m+1)) 0) / v.getD (m+1) 0=g0:=Int.eq_ofNat_of_zero_le (Int.ediv_nonneg anJ (by omega))
 have hdm:=Int.mul_ediv_add_emod (u.getD (j+(m+2)) 0*1000000000+u.getD (j+(m+1)) 0) (v.getD (m+1) 0)
 have Yw:=Int.emod_nonneg (u.getD (j+(m+2)) 0*1000000000+u.getD (j+(m+1)) 0) (show v.getD (m+1) 0≠0 by omega)
 have O8:=Int.emod_lt_of_pos (u.getD (j+(m+2)) 0*1000000000+u.getD (j+(m+1)) 0) (show 0<v.getD (m+1) 0 by omega)
 rw[hg0,Int.mul_comm] at hdm
 have alH:val 1000000000 (List.take (m+3) (List.drop j u))<((g0:Int)+1)*VU v:=by
  -- Kh two top digits are less apU (g0+1) v1
  refine ajk hP ZB hwl hV hR b2.1 c3.2 (by omega) ?_
  rw[Int.add_mul];omega
 obtain⟨g,hg1,hg2,hg3,hg4,hL1⟩:=Xq (k:=k) (q:=q) hP ZB hvl aeC hwl hV hR ⟨apS,b1.2⟩ b2 c1 c2 c3 hlt hn Xr hju hul rfl rfl rfl g0 _ hdm.symm Yw (by omega) alH
 change VU ((u.drop j).take (m+2+1))<(g+1)*VU v at hg3
 change g*VU v<VU ((u.drop j).take (m+2+1))+VU v at hg4
 -- Kh walk as far as Kh ZG
 have hgb:(g0:Int)≤1000000001:=by
  by_cases hc:(g0:Int)≤1000000001
  ·exact hc
  ·exfalso
   have h6:(1000000002:Int)*v.getD (m+1) 0≤(g0:Int)*v.getD (m+1) 0:=Int.mul_le_mul_of_nonneg_right (by omega) (by omega)
   omega
 have w1:eM k v ((m+2:Nat):Int) j q u=jD k v ((m+2:Nat):Int) j g0 ((u.getD (j+(m+2)) 0*1000000000+u.getD (j+(m+1)) 0) % v.getD (m+1) 0) q u:=by
  rw[BW,yv]
  have e1:((j:Int)+((m+2:Nat):Int)).toNat=j+(m+2):=by omega
  have e2:((j:Int)+((m+2:Nat):Int) - 1).toNat=j+(m+1):=by omega
  have e3:(((m+2:Nat):Int) - 1).toNat=m+1:=by omega
  simp (disch:=omega) only[tb,i64_in,gN,wM,e1,e2,e3,u64_in,gz,lI]
  simp (disch:=omega) only[u64_in,gz,lI,bD,mu,hg0]
 -- Kh ZG
 have X3:((u.drop j).take (m+2)).length=v.length:=by rw[List.length_take,Xu];omega
 have anK:u.drop j=(u.drop j).take (m+2)++(u.getD (j+(m+2)) 0::u.drop (j+(m+2)+1)):=by
  conv=>lhs;rw[TO (u.drop j) (m+2)]
  rw[List.drop_drop,drop_eq (show j+(m+2)<u.length by omega)]
 obtain⟨r,b',hs1,hs2,hs3,hs4,hs5⟩:=ZC (g:=g) ⟨hg1,by omega⟩ ((u.drop j).take (m+2)) v (u.getD (j+(m+2)) 0::u.drop (j+(m+2)+1)) 0 X3 ((hu.drop j).take _) hv ⟨by omega,by omega⟩
 have w2:=Xs (k:=k) (j:=j) (g:=g) ⟨hg1,by omega⟩ hv Xr (m+2) 0 0 u q (by omega) ⟨by omega,by omega⟩ hu hju hul
 simp only[Nat.add_zero,List.drop_zero,Int.natCast_zero] at w2
 rw[anK,hs1] at w2
 have hRw:VU ((u.drop j).take (m+2+1))=VU ((u.drop j).take (m+2))+1000000000^(m+2)*u.getD (j+(m+2)) 0:=by
  rw[du (show m+2<(u.drop j).length by rw[Xu];omega),VU,fj,rD,X3,Xr]
  simp[val]
 have akq:=Ac (B:=1000000000) (by omega) hs3
 have anM:=kj (B:=1000000000) (by omega) hs3
 have akr:=Ac (B:=1000000000) (by omega) hv
 rw[hs4,X3,Xr] at akq
 rw[Xr] at akr hs2
 change VU ((u.drop j).take (m+2)) - 0 - g*VU v=VU r - 1000000000^(m+2)*b' at hs2
 change VU r<_ at akq
 change 0≤VU r at anM
 change VU v<_ at akr
 have hjl:(u.take j).length=j:=by simp;omega
 have hu1:DU (u.take j++(r++u.getD (j+(m+2)) 0::u.drop (j+(m+2)+1))):=(hu.take j).append (hs3.append (gO.cons c1.1 c1.2 (hu.drop _)))
 have anN:(u.take j++(r++u.getD (j+(m+2)) 0::u.drop (j+(m+2)+1))).length=u.length:=by
  simp[hs4,X3,Xr];omega
 have hx1:(u.take j++(r++u.getD (j+(m+2)) 0::u.drop (j+(m+2)+1))).getD (j+(m+2)) 0=u.getD (j+(m+2)) 0:=by
  have hrl:r.length=m+2:=by rw[hs4,X3,Xr]
  rw[List.getD,List.getElem?_append_right (by omega),List.getElem?_append_right (by omega)]
  simp[hjl,hrl]
 have je:∀(r:List Int) (y:Int),r.length=m+2→(u.take j++(r++u.getD (j+(m+2)) 0::u.drop (j+(m+2)+1))).set (j+(m+2)) y=u.take j++(r++y::u.drop (j+(m+2)+1)):=fun r y hrl=>by
  rw[List.set_append_right _ _ (by omega),List.set_append_right _ _ (by omega)]
  simp[hjl,hrl]
 have hdt:∀(r:List Int) (y:Int),r.length=m+2→((u.take j++(r++y::u.drop (j+(m+2)+1))).drop j).take (m+2)=r:=fun r y hrl=>by
  have h1:(u.take j++(r++y::u.drop (j+(m+2)+1))).drop j=r++y::u.drop (j+(m+2)+1):=List.drop_left' hjl
  rw[h1];exact List.take_left' hrl
 have htk:∀(l:List Int),(u.take j++l).take j=u.take j:=fun l=>List.take_left' hjl
 have e1:((j:Int)+((m+2:Nat):Int)).toNat=j+(m+2):=by omega
 have hPn:(0:Int)<1000000000^(m+2):=Int.pow_pos (by omega)
 have Ue:VU ((u.drop j).take (m+2+1)) - g*VU v=VU r+1000000000^(m+2)*(u.getD (j+(m+2)) 0 - b'):=by
  rw[hRw,Int.mul_sub]
  omega
 rw[w1,hL1,w2,BZ,yy]
 by_cases hneg:u.getD (j+(m+2)) 0 - b'<0
 · -- one too many
   have anO:VU ((u.drop j).take (m+2+1))<g*VU v:=by
    have h1:(1000000000:Int)^(m+2)*(u.getD (j+(m+2)) 0 - b'+1)≤1000000000^(m+2)*0:=Int.mul_le_mul_of_nonneg_left (by omega) (by omega)
    rw[Int.mul_add,Int.mul_zero,Int.mul_one] at h1
    omega
   have arc:1≤g:=by
    by_cases hc:1≤g
    ·exact hc
    ·exfalso
     have:g=0:=by omega
     subst this
     have:=ye ((hu.drop j).take (m+2+1))
     rw[Int.zero_mul] at anO
     omega
   have hq:VU ((u.drop j).take (m+2+1)) / VU v=g - 1∧VU ((u.drop j).take (m+2+1)) % VU v=VU ((u.drop j).take (m+2+1)) - (g - 1)*VU v:=by
    have h1:(g - 1)*VU v=g*VU v - VU v:=by rw[Int.sub_mul,Int.one_mul]
    have h2:VU ((u.drop j).take (m+2+1))=(VU ((u.drop j).take (m+2+1)) - (g - 1)*VU v)+VU v*(g - 1):=by rw[Int.mul_comm (VU v)];omega
    have h3:0≤VU ((u.drop j).take (m+2+1)) - (g - 1)*VU v:=by rw[h1];omega
    have h4:VU ((u.drop j).take (m+2+1)) - (g - 1)*VU v<VU v:=by rw[h1];omega
    constructor
    ·rw[h2,Int.add_mul_ediv_left _ _ (by omega),Int.ediv_eq_zero_of_lt h3 h4];omega
    ·conv=>lhs;rw[h2]
     rw[Int.add_mul_emod_self_left,Int.emod_eq_of_lt h3 h4]
   obtain⟨r2,cc,ha1,ha2,ha3,ha4,ha5⟩:=ZD r v (u.getD (j+(m+2)) 0::u.drop (j+(m+2)+1)) 0 (by rw[hs4,X3]) hs3 hv ⟨by omega,by omega⟩
   have w3:=Xt (k:=k) (j:=j) (g:=g - 1) (x:=u.getD (j+(m+2)) 0 - b') hv Xr (m+2) 0 0 _ q (by omega) ⟨by omega,by omega⟩ hu1 (by rw[anN];exact hju) (by rw[anN];exact hul)
   have hdj:(u.take j++(r++u.getD (j+(m+2)) 0::u.drop (j+(m+2)+1))).drop j=r++u.getD (j+(m+2)) 0::u.drop (j+(m+2)+1):=List.drop_left' hjl
   simp only[Nat.add_zero,List.drop_zero,Int.natCast_zero] at w3
   rw[hdj,ha1,htk] at w3
   have ahl:r2.length=m+2:=by rw[ha4,hs4,X3,Xr]
   have hu2:DU (u.take j++(r2++u.getD (j+(m+2)) 0::u.drop (j+(m+2)+1))):=(hu.take j).append (ha3.append (gO.cons c1.1 c1.2 (hu.drop _)))
   have as3:(u.take j++(r2++u.getD (j+(m+2)) 0::u.drop (j+(m+2)+1))).length=u.length:=by
    simp[ahl];omega
   refine⟨u.take j++(r2++0::u.drop (j+(m+2)+1)), ?_,by simp[ahl];omega,(hu.take j).append (ha3.append (gO.cons (by omega) (by omega) (hu.drop _))),htk _, ?_⟩
   ·simp (disch:=omega) only[ak,i64_in,gN,wM,e1,hx1]
    simp (disch:=omega) only[aq,i64_in,u64_in]
    rw[w3,B0,yz,hq.1]
    simp (disch:=omega) only[ak,i64_in,gN,wM,e1,u32_in,je r2 0 ahl,Int.toNat_natCast]
   ·rw[hdt r2 0 ahl,hq.2]
    -- Kh carry takes Kh missing unit
    have ahm:=Ac (B:=1000000000) (by omega) ha3
    have alI:=kj (B:=1000000000) (by omega) ha3
    rw[ahl] at ahm
    rw[Xr] at ha2
    change VU r+VU v+0=VU r2+1000000000^(m+2)*cc at ha2
    change VU r2<_ at ahm
    change 0≤VU r2 at alI
    have h1:VU ((u.drop j).take (m+2+1)) - (g - 1)*VU v=VU r2+1000000000^(m+2)*(u.getD (j+(m+2)) 0 - b'+cc):=by
     rw[Int.sub_mul,Int.one_mul,Int.mul_add]
     omega
    have h3:0≤VU ((u.drop j).take (m+2+1)) - (g - 1)*VU v:=by rw[Int.sub_mul,Int.one_mul];omega
    have h4:VU ((u.drop j).take (m+2+1)) - (g - 1)*VU v<VU v:=by rw[Int.sub_mul,Int.one_mul];omega
    have h5:u.getD (j+(m+2)) 0 - b'+cc=0:=by
     by_cases hp:u.getD (j+(m+2)) 0 - b'+cc≥1
     ·exfalso
      have:=Int.mul_le_mul_of_nonneg_left hp (show (0:Int)≤1000000000^(m+2) by omega)
      rw[Int.mul_one] at this
      omega
     ·by_cases hm:u.getD (j+(m+2)) 0 - b'+cc≤ -1
      ·exfalso
       have:=Int.mul_le_mul_of_nonneg_left hm (show (0:Int)≤1000000000^(m+2) by omega)
       rw[Int.mul_neg,Int.mul_one] at this
       omega
      ·omega
    rw[h1,h5];simp
 · -- as4 right
   have ard:g*VU v≤VU ((u.drop j).take (m+2+1)):=by
    have h1:(0:Int)≤1000000000^(m+2)*(u.getD (j+(m+2)) 0 - b'):=Int.mul_nonneg (by omega) (by omega)
    omega
   have h3:VU ((u.drop j).take (m+2+1)) - g*VU v<VU v:=by
    have:((g:Int)+1)*VU v=g*VU v+VU v:=by rw[Int.add_mul,Int.one_mul]
    rw[this] at hg3
    omega
   have hq:VU ((u.drop j).take (m+2+1)) / VU v=g∧VU ((u.drop j).take (m+2+1)) % VU v=VU ((u.drop j).take (m+2+1)) - g*VU v:=by
    have h2:VU ((u.drop j).take (m+2+1))=(VU ((u.drop j).take (m+2+1)) - g*VU v)+VU v*g:=by rw[Int.mul_comm (VU v)];omega
    constructor
    ·rw[h2,Int.add_mul_ediv_left _ _ (by omega),Int.ediv_eq_zero_of_lt (by omega) h3];omega
    ·conv=>lhs;rw[h2]
     rw[Int.add_mul_emod_self_left,Int.emod_eq_of_lt (by omega) h3]
   have hrl:r.length=m+2:=by rw[hs4,X3,Xr]
   have h5:u.getD (j+(m+2)) 0 - b'=0:=by
    by_cases hp:u.getD (j+(m+2)) 0 - b'≥1
    ·exfalso
     have:=Int.mul_le_mul_of_nonneg_left hp (show (0:Int)≤1000000000^(m+2) by omega)
     rw[Int.mul_one] at this
     omega
    ·omega
   refine⟨u.take j++(r++0::u.drop (j+(m+2)+1)), ?_,by simp[hrl];omega,(hu.take j).append (hs3.append (gO.cons (by omega) (by omega) (hu.drop _))),htk _, ?_⟩
   ·rw[hq.1]
    simp (disch:=omega) only[ak,i64_in,gN,wM,e1,hx1]
    simp (disch:=omega) only[ak,i64_in,gN,wM,e1,u32_in,je r 0 hrl,Int.toNat_natCast]
   ·rw[hdt r 0 hrl,hq.2,Ue,h5];simp
end
end Go.Proofs.YtofjebmoebhiiaaGreatDoor.Ev
namespace Go.Abs
theorem F4 (l:List Int){m:Nat}(h:m<l.length):val 1000000000 (l.take (m+1))=val 1000000000 (l.take m)+1000000000^m*l.getD m 0:=by
 rw[du h,fj]
 have:(l.take m).length=m:=by simp;omega
 rw[this]
 simp[val]
theorem aeG {b k:Int}(hb:1≤b)(hb':b<1000000000)(hk:k=1000000000 / (b+1)):1≤k∧k*(b+1)≤1000000000∧500000000≤k*b∧k≤500000000:=by
 have h1:=Int.mul_ediv_add_emod 1000000000 (b+1)
 have h2:=Int.emod_nonneg 1000000000 (show b+1≠0 by omega)
 have h3:=Int.emod_lt_of_pos 1000000000 (show 0<b+1 by omega)
 rw[←hk,Int.mul_comm] at h1
 have hk1:1≤k:=by
  by_cases hc:1≤k
  ·exact hc
  ·exfalso
   have:k*(b+1)≤0*(b+1):=Int.mul_le_mul_of_nonneg_right (by omega) (by omega)
   rw[Int.zero_mul] at this
   omega
 have e1:k*(b+1)=k*b+k:=by rw[Int.mul_add,Int.mul_one]
 have e5:k*2≤k*(b+1):=Int.mul_le_mul_of_nonneg_left (by omega) (by omega)
 refine⟨hk1,by omega, ?_,by omega⟩
 by_cases hk2:k=1
 ·subst hk2;omega
 ·have e2:0≤(k - 2)*(b+1 - 2):=Int.mul_nonneg (by omega) (by omega)
  have e3:(k - 2)*(b+1 - 2)=k*b - k - 2*b+2:=by
   rw[show b+1 - 2=b - 1 by omega,Int.sub_mul,Int.mul_sub,Int.mul_sub]
   omega
  omega
end Go.Abs
namespace Go.Proofs.YtofjebmoebhiiaaGreatDoor.Ev
open Go.Abs Go.IntWalk
section
variable {k:Int}{v:List Int}{n:Nat}
theorem abk (hv:DU v)(Xr:v.length=n)(hn:2≤n)(WL:500000000≤v.getD (n - 1) 0):∀(J:Nat) (q u:List Int),DU q→DU u→J≤q.length→J+n≤u.length→u.length≤1000000000000→q.length≤1000000000000→VU ((u.drop J).take n)<VU v→
  ∃q' u',eM k v n ((J:Int) - 1) q u=eM k v n (-1) q' u'∧q'.length=q.length∧DU q'∧u'.length=u.length∧DU u'∧q'.drop J=q.drop J∧
   VU (u.take J)+1000000000^J*VU ((u.drop J).take n)=VU v*VU (q'.take J)+VU (u'.take n)∧VU (u'.take n)<VU v:=by
 intro J
 induction J with
 |zero=>
  intro q u hq hu h1 h2 h3 h4 hx
  refine⟨q,u,rfl,rfl,hq,rfl,hu,rfl, ?_,by simpa using hx⟩
  simp[VU,val]
 |succ J ih=>
  intro q u hq hu h1 h2 h3 h4 hx
  have hw:(u.drop J).take (n+1)=u.getD J 0::(u.drop (J+1)).take n:=by
   rw[drop_eq (show J<u.length by omega),List.take_succ_cons]
  have hd:=hu.getD (by omega) J
  have hRv:VU ((u.drop J).take (n+1))=u.getD J 0+1000000000*VU ((u.drop (J+1)).take n):=by rw[hw];rfl
  have hXn:=ye ((hu.drop (J+1)).take n)
  have apW:VU ((u.drop J).take (n+1))<VU v*1000000000:=by rw[hRv];omega
  obtain⟨u1,s1,s2,s3,s4,s5⟩:=aeF (k:=k) hv Xr hn WL hu (show J+n<u.length by omega) h3 (show J<q.length by omega) h4 apW
  have ZE:0<VU v:=by omega
  have apX:0≤VU ((u.drop J).take (n+1)):=by omega
  have q0:0≤VU ((u.drop J).take (n+1)) / VU v:=Int.ediv_nonneg apX (by omega)
  have q1:VU ((u.drop J).take (n+1)) / VU v<1000000000:=Int.ediv_lt_of_lt_mul ZE (by rw[Int.mul_comm];omega)
  obtain⟨q',u',t1,t2,t3,t4,t5,t6,t7,t8⟩:=ih (q.set J (VU ((u.drop J).take (n+1)) / VU v)) u1 (hq.set q0 q1 _) s3 (by simp;omega) (by omega) (by omega) (by simpa using h4) (by rw[s5];exact Int.emod_lt_of_pos _ ZE)
  have hJq:J<q'.length:=by rw[t2];simp;omega
  have hqJ:q'.getD J 0=VU ((u.drop J).take (n+1)) / VU v:=by
   have e:(q'.drop J).getD 0 0=((q.set J (VU ((u.drop J).take (n+1)) / VU v)).drop J).getD 0 0:=by rw[t6]
   rw[rD,rD,Nat.add_zero] at e
   rw[e]
   simp[List.getD,show J<q.length by omega]
  refine⟨q',u', ?_,by rw[t2];simp,t3,by rw[t4,s2],t5, ?_, ?_,t8⟩
  ·rw[show ((J+1:Nat):Int) - 1=J by omega,s1,t1]
  ·have e:(q'.drop J).drop 1=((q.set J (VU ((u.drop J).take (n+1)) / VU v)).drop J).drop 1:=by rw[t6]
   rw[List.drop_drop,List.drop_drop,set_drop] at e
   exact e
  ·have e1:=F4 u (show J<u.length by omega)
   have e2:=F4 q' hJq
   have e3:=Int.mul_ediv_add_emod (VU ((u.drop J).take (n+1))) (VU v)
   rw[s4,s5] at t7
   rw[hqJ] at e2
   change VU (u.take (J+1))=VU (u.take J)+1000000000^J*u.getD J 0 at e1
   change VU (q'.take (J+1))=VU (q'.take J)+1000000000^J*(VU ((u.drop J).take (n+1)) / VU v) at e2
   have e4:(1000000000:Int)^J*VU ((u.drop J).take (n+1))=1000000000^J*u.getD J 0+1000000000^(J+1)*VU ((u.drop (J+1)).take n):=by
    rw[hRv,Int.mul_add,Int.pow_succ,Int.mul_assoc]
   have e5:VU v*VU (q'.take (J+1))=VU v*VU (q'.take J)+1000000000^J*(VU v*(VU ((u.drop J).take (n+1)) / VU v)):=by
    rw[e2,Int.mul_add,Int.mul_left_comm]
   have e6:(1000000000:Int)^J*VU ((u.drop J).take (n+1))=1000000000^J*(VU v*(VU ((u.drop J).take (n+1)) / VU v))+1000000000^J*(VU ((u.drop J).take (n+1)) % VU v):=by
    rw[←Int.mul_add,e3]
   omega
end
theorem VV {N:Nat}{n:Nat}(hl:(dU N).length=n+1){x:Int}(h:x*1000000000^n≤N):x≤(dU N).getD n 0:=by
 have h1:=F4 (dU N) (show n<(dU N).length by omega)
 rw[List.take_of_length_le (by omega)] at h1
 have h2:=Ac (B:=1000000000) (by omega) ((Ip N).take n)
 rw[show ((dU N).take n).length=n by rw[List.length_take];omega] at h2
 have h3:=JP N
 rw[VU] at h3
 by_cases hc:x≤(dU N).getD n 0
 ·exact hc
 ·exfalso
  have h4:(1000000000:Int)^n*((dU N).getD n 0+1)≤1000000000^n*x:=Int.mul_le_mul_of_nonneg_left (by omega) (Int.pow_nonneg (by omega))
  rw[Int.mul_add,Int.mul_one,Int.mul_comm _ x] at h4
  omega
theorem ofNat_pow (n:Nat):((1000000000^n:Nat):Int)=(1000000000:Int)^n:=by
 rw[Int.natCast_pow];rfl
theorem ZH {A B:Nat}(hl:(dU A).length≤100000000000)(hB:2≤(dU B).length)(hAB:B≤A):
  ∃q r,E9 (dU A) (dU B)=some (q,r)∧DU q∧DU r∧VU q=((A / B:Nat):Int)∧VU r=((A % B:Nat):Int)∧q.length≤(dU A).length∧r.length≤(dU A).length:=by
 obtain⟨n,hn⟩:∃n,(dU B).length=n+1:=⟨(dU B).length - 1,by omega⟩
 have anP:0<B:=by
  by_cases h:B=0
  ·subst h;rw[show dU 0=[] from dV _] at hB;simp at hB
  ·omega
 have as8:=ahf hAB
 have hdA:=Ip A
 have hdB:=Ip B
 -- Kh top digit of Kh ajl
 have anR:(1000000000^n:Nat)≤B:=(fK (B:=1000000000) (by omega) n B).1 (show n<(dU B).length by omega)
 have ht1:1≤(dU B).getD n 0:=VV hn (by rw[Int.one_mul, ←ofNat_pow];omega)
 have ht2:=hdB.getD (by omega) n
 obtain⟨k,hk⟩:∃k,k=(1000000000:Int) / ((dU B).getD n 0+1):=⟨_,rfl⟩
 obtain⟨hk1,hk2,hk3,hk4⟩:=aeG ht1 ht2.2 hk
 obtain⟨K,rfl⟩:=Int.eq_ofNat_of_zero_le (show 0≤k by omega)
 -- Kh scaled numbers
 obtain⟨u1,u2,u3⟩:=Xo (dU A) K 0 hdA ⟨by omega,by omega⟩ ⟨by omega,by omega⟩
 obtain⟨w1,w2,w3⟩:=Xo (dU B) K 0 hdB ⟨by omega,by omega⟩ ⟨by omega,by omega⟩
 rw[JP,Int.add_zero] at u1 w1
 have hv:na (Rv (dU B) K 0)=dU (B*K):=by
  rw[acT w2,w1, ←Int.natCast_mul,Int.toNat_natCast]
 -- its length
 have ajm:=F4 (dU B) (show n<(dU B).length by omega)
 rw[List.take_of_length_le (by omega)] at ajm
 have anS:=Ac (B:=1000000000) (by omega) (hdB.take n)
 have ari:=kj (B:=1000000000) (by omega) (hdB.take n)
 rw[show ((dU B).take n).length=n by rw[List.length_take];omega] at anS
 have hVB:=JP B
 rw[VU] at hVB
 have hPn:(0:Int)<1000000000^n:=Int.pow_pos (by omega)
 have hBK:B*K<1000000000^(n+1):=by
  have h1:(B:Int)*K≤(1000000000^n*((dU B).getD n 0+1) - 1)*K:=Int.mul_le_mul_of_nonneg_right (by rw[Int.mul_add,Int.mul_one];omega) (by omega)
  have h2:(1000000000:Int)^n*(K*((dU B).getD n 0+1))≤1000000000^n*1000000000:=Int.mul_le_mul_of_nonneg_left hk2 (by omega)
  rw[Int.sub_mul,Int.one_mul,Int.mul_assoc,Int.mul_comm ((dU B).getD n 0+1) (K:Int)] at h1
  have h3:=ofNat_pow (n+1)
  rw[Int.pow_succ] at h3
  have h4:((B*K:Nat):Int)=(B:Int)*K:=Int.natCast_mul _ _
  omega
 have apY:1000000000^n≤B*K:=Nat.le_trans anR (Nat.le_mul_of_pos_right _ (by omega))
 have hvl:(dU (B*K)).length=n+1:=by
  have h1:=(aK (B:=1000000000) (by omega) (n+1) (B*K)).2 hBK
  have h2:=(fK (B:=1000000000) (by omega) n (B*K)).2 apY
  show (Ug 1000000000 (B*K)).length=n+1
  omega
 have WL:500000000≤(dU (B*K)).getD (n+1 - 1) 0:=by
  refine VV (N:=B*K) hvl ?_
  have h1:(K*(dU B).getD n 0)*1000000000^n≤(B:Int)*K:=by
   have h2:1000000000^n*(dU B).getD n 0*K≤(B:Int)*K:=Int.mul_le_mul_of_nonneg_right (by omega) (by omega)
   rw[Int.mul_comm (K*_),Int.mul_comm (K:Int), ←Int.mul_assoc]
   exact h2
  have h3:500000000*(1000000000:Int)^n≤(K*(dU B).getD n 0)*1000000000^n:=Int.mul_le_mul_of_nonneg_right hk3 (by omega)
  rw[Int.natCast_mul]
  omega
 have hvD:=Ip (B*K)
 have hVv:VU (dU (B*K))=(B:Int)*K:=by rw[JP,Int.natCast_mul]
 -- Kh loop
 have hul:(Rv (dU A) K 0).length=(dU A).length+1:=u3
 obtain⟨J,hJ⟩:∃J,(dU A).length+1=J+(n+1):=⟨(dU A).length - n,by omega⟩
 have hstart:VU (((Rv (dU A) K 0).drop J).take (n+1))<VU (dU (B*K)):=by
  rw[List.take_of_length_le (by rw[List.length_drop];omega),hVv]
  have h1:=fj 1000000000 ((Rv (dU A) K 0).take J) ((Rv (dU A) K 0).drop J)
  rw[List.take_append_drop,show ((Rv (dU A) K 0).take J).length=J by rw[List.length_take];omega] at h1
  have h2:=ye (u2.take J)
  have h3:=u1
  rw[VU] at h3 h2
  -- a<U^la
  have h4:A<1000000000^(dU A).length:=(aK (B:=1000000000) (by omega) _ A).1 (Nat.le_refl _)
  rw[show (dU A).length=J+n by omega,Nat.pow_add] at h4
  have h5:((1000000000^J*1000000000^n:Nat):Int)=(1000000000:Int)^J*1000000000^n:=by rw[Int.natCast_mul,ofNat_pow,ofNat_pow]
  have hPJ:(0:Int)<1000000000^J:=Int.pow_pos (by omega)
  have h6:(A:Int)*K<(1000000000^J*1000000000^n)*K:=Int.mul_lt_mul_of_pos_right (by omega) (by omega)
  have h7:(1000000000:Int)^n*K≤(B:Int)*K:=Int.mul_le_mul_of_nonneg_right (by rw[←ofNat_pow];omega) (by omega)
  have h8:(1000000000:Int)^J*val 1000000000 ((Rv (dU A) K 0).drop J)<1000000000^J*(1000000000^n*K):=by
   rw[←Int.mul_assoc];omega
  have h9:=Int.lt_of_mul_lt_mul_left h8 (by omega)
  show val 1000000000 ((Rv (dU A) K 0).drop J)<_
  omega
 obtain⟨q',u',t1,t2,t3,t4,t5,t6,t7,t8⟩:=abk (k:=K) hvD hvl (by omega) WL J (List.replicate J 0) (Rv (dU A) K 0) (gO.replicate (by omega) _) u2 (by simp) (by omega) (by omega) (by simp;omega) hstart
 rw[List.length_replicate] at t2
 have htq:q'.take J=q':=List.take_of_length_le (by omega)
 rw[htq,hVv] at t7
 have hU0:VU ((Rv (dU A) K 0).take J)+1000000000^J*VU (((Rv (dU A) K 0).drop J).take (n+1))=(A:Int)*K:=by
  rw[List.take_of_length_le (l:=(Rv (dU A) K 0).drop J) (by rw[List.length_drop];omega), ←u1]
  have h1:=fj 1000000000 ((Rv (dU A) K 0).take J) ((Rv (dU A) K 0).drop J)
  rw[List.take_append_drop,show ((Rv (dU A) K 0).take J).length=J by rw[List.length_take];omega] at h1
  exact h1.symm
 rw[hU0] at t7
 -- Kh rest is anT
 have hsu:=t5.take (n+1)
 have hshort:=OI (b:=(K:Int)) hsu ⟨by omega,by omega⟩ (by rw[List.length_take];omega)
 obtain⟨s1,s2,s3,s4,s5⟩:=OH (b:=(K:Int)) ⟨by omega,by omega⟩ _ hsu
 have hQ0:=ye t3
 have Yw:=ye s4
 have arj:(0:Int)<K:=by omega
 -- A=B q+r
 have hAq:(A:Int)=B*VU q'+VU (Dg K (u'.take (n+1))).1:=by
  have h1:((A:Int) - B*VU q' - VU (Dg K (u'.take (n+1))).1)*K=(Dg K (u'.take (n+1))).2:=by
   rw[Int.sub_mul,Int.sub_mul]
   have:(B:Int)*VU q'*K=B*K*VU q':=by rw[Int.mul_assoc,Int.mul_comm (VU q'), ←Int.mul_assoc]
   rw[this]
   omega
  have h2:(A:Int) - B*VU q' - VU (Dg K (u'.take (n+1))).1=0:=by
   by_cases hp:(A:Int) - B*VU q' - VU (Dg K (u'.take (n+1))).1≥1
   ·exfalso
    have:=Int.mul_le_mul_of_nonneg_right hp (show (0:Int)≤K by omega)
    rw[Int.one_mul] at this
    omega
   ·by_cases hm:(A:Int) - B*VU q' - VU (Dg K (u'.take (n+1))).1≤ -1
    ·exfalso
     have:=Int.mul_le_mul_of_nonneg_right hm (show (0:Int)≤K by omega)
     rw[Int.neg_mul,Int.one_mul] at this
     omega
    ·omega
  omega
 have hrB:VU (Dg K (u'.take (n+1))).1<B:=by
  have h1:VU (Dg K (u'.take (n+1))).1*K<(B:Int)*K:=by rw[hVv] at t8;omega
  exact Int.lt_of_mul_lt_mul_right h1 (by omega)
 obtain⟨Q,hQ⟩:=Int.eq_ofNat_of_zero_le hQ0
 obtain⟨r,hr⟩:=Int.eq_ofNat_of_zero_le Yw
 rw[hQ,hr] at hAq
 rw[hr] at hrB
 have hAN:A=B*Q+r:=by
  have:((B*Q+r:Nat):Int)=(B:Int)*Q+r:=by rw[Int.natCast_add,Int.natCast_mul]
  omega
 have hq1:A / B=Q:=by rw[hAN,Nat.mul_add_div anP,Nat.div_eq_of_lt (by omega)];omega
 have O8:A % B=r:=by rw[hAN,Nat.mul_add_mod,Nat.mod_eq_of_lt (by omega)]
 refine⟨q',(Dg K (u'.take (n+1))).1, ?_,t3,s4,by rw[hQ,hq1],by rw[hr,O8],by omega,by rw[s5,List.length_take];omega⟩
 -- Kh walk
 rw[QM,Mz]
 have e1:(((dU B).length:Int) - 1).toNat=n:=by omega
 simp (disch:=omega) only[i64_in,gN,e1,u64_in,gz,lI,mu]
 rw[←hk]
 simp (disch:=omega) only[u64_in,u32_in]
 rw[LW hdA ⟨by omega,by omega⟩ (by omega),bS,LW hdB ⟨by omega,by omega⟩ (by omega),bS,D8 (by omega),bS,hv]
 simp (disch:=omega) only[i64_in,OE,hul,hvl]
 have e2:((((dU A).length+1:Nat):Int) - ((n+1:Nat):Int)).toNat=J:=by omega
 have e3:(((dU A).length+1:Nat):Int) - ((n+1:Nat):Int) - 1=(J:Int) - 1:=by omega
 rw[e2,e3,t1,BW,yv]
 simp (disch:=omega) only[qS,FZ,Int.toNat_natCast]
 rw[hshort,bS]
end Go.Proofs.YtofjebmoebhiiaaGreatDoor.Ev
namespace Go.Proofs.YtofjebmoebhiiaaGreatDoor.Ev
open Go.Abs Go.IntWalk
theorem Xv {A B:Nat}(hl:(dU A).length≤100000000000)(hl':(dU B).length≤100000000000)(hB:0<B):
  ∃q r,xK (dU A) (dU B)=some (q,r)∧DU q∧DU r∧VU q=((A / B:Nat):Int)∧VU r=((A % B:Nat):Int)∧q.length≤1000000000000∧r.length≤1000000000000:=by
 rw[N7,I7,JQ (by omega) (by omega),bS]
 by_cases h:A<B
 ·rw[mv (by omega),aq (by omega)]
  refine⟨[],dU A,rfl,gO.nil,Ip A, ?_, ?_,by simp,by omega⟩
  ·rw[Nat.div_eq_of_lt h];rfl
  ·rw[Nat.mod_eq_of_lt h,JP]
 ·have hc:¬lW (A:Int) B<0:=by unfold lW;rw[if_neg (by omega)];split<;>omega
  rw[ak hc]
  by_cases h1:(dU B).length=1
  ·rw[lH (by omega)]
   have hd:=(Ip B).getD (by omega) 0
   have hBv:(dU B).getD 0 0=B:=by
    have h2:=JP B
    cases hb:dU B with
    |nil=>rw[hb] at h1;simp at h1
    |cons x xs=>
     rw[hb] at h1 h2
     have:xs=[]:=by simpa using h1
     subst this
     simpa [VU,val] using h2
   rw[hBv] at hd
   obtain⟨s1,s2,s3,s4,s5⟩:=OH (b:=(B:Int)) ⟨by omega,hd.2⟩ (dU A) (Ip A)
   have ht:na [(Dg (B:Int) (dU A)).2]=dU (Dg (B:Int) (dU A)).2.toNat:=by
    have:DU [(Dg (B:Int) (dU A)).2]:=gO.cons s2 (by omega) gO.nil
    rw[acT this]
    simp[VU,val]
   simp (disch:=omega) only[gN,Int.toNat_zero,hBv]
   rw[OI (Ip A) ⟨by omega,hd.2⟩ (by omega),bS,D8 (by simp),bS,ht]
   obtain⟨r,hr⟩:=Int.eq_ofNat_of_zero_le s2
   obtain⟨Q,hQ⟩:=Int.eq_ofNat_of_zero_le (ye s4)
   rw[JP,hQ,hr] at s1
   rw[hr] at s3
   have hAN:A=B*Q+r:=by
    have:((B*Q+r:Nat):Int)=(B:Int)*Q+r:=by rw[Int.natCast_add,Int.natCast_mul]
    rw[Int.mul_comm] at s1
    omega
   have hq1:A / B=Q:=by rw[hAN,Nat.mul_add_div hB,Nat.div_eq_of_lt (by omega)];omega
   have O8:A % B=r:=by rw[hAN,Nat.mul_add_mod,Nat.mod_eq_of_lt (by omega)]
   refine⟨_,_,rfl,s4,Ip _,by rw[hQ,hq1],by rw[JP,hr,O8];rfl,by omega, ?_⟩
   rw[hr,Int.toNat_natCast]
   have:=(aK (B:=1000000000) (by omega) 1 r).2 (by omega)
   show (Ug 1000000000 r).length≤_
   omega
  ·rw[gz (by omega)]
   have hne:(dU B).length≠0:=fun e=>by
    have:=(lV (B:=1000000000) (n:=B) (by omega)).1 (List.length_eq_zero_iff.1 e)
    omega
   obtain⟨q,r,e1,e2,e3,e4,e5,e6,e7⟩:=ZH (A:=A) (B:=B) hl (by omega) (by omega)
   rw[e1,bS]
   exact⟨q,r,rfl,e2,e3,e4,e5,by omega,by omega⟩
theorem abl:∀(y x:Nat),ln x y=some ((Nat.gcd x y:Nat):Int):=by
 intro y
 induction y using Nat.strongRecOn with
 |ind y ih=>
  intro x
  rw[Hv,BS]
  by_cases h:y=0
  ·subst h;rw[cp (by omega),Nat.gcd_zero_right]
  ·have e:(x:Int).tmod y=((x % y:Nat):Int):=by rw[bD (by omega),Int.natCast_emod]
   rw[ch (by omega),lI (by omega),e,ih _ (Nat.mod_lt _ (by omega)),Nat.gcd_comm y, ←Nat.gcd_rec,Nat.gcd_comm]
theorem VW {d:List Int}(hd:DU d)(hl:d.length≤2):E8 d=some (VU d):=by
 rw[QK,Mw]
 match d,hd,hl with
 | [],hd,hl=>
   simp (disch:=omega) only[List.length_nil,i64_in]
   rw[j9,jF,qS (by omega)];rfl
 | [x],hd,hl=>
   have hx:=hd.head
   simp only[List.length_singleton]
   rw[i64_in _ (by omega),j9,jF,tb (by omega),gN (by omega) (by simp)]
   have e:([x]:List Int).getD (((1:Nat):Int) - 1).toNat 0=x:=rfl
   rw[e]
   simp (disch:=omega) only[i64_in]
   rw[j9,jF,qS (by omega)]
   simp[VU,val]
 | [x,y],hd,hl=>
   have hx:=hd.head
   have hy:=hd.tail.head
   simp only[List.length_cons,List.length_nil]
   rw[i64_in _ (by omega),j9,jF,tb (by omega),gN (by omega) (by simp)]
   have e:([x,y]:List Int).getD (((0+1+1:Nat):Int) - 1).toNat 0=y:=rfl
   rw[e]
   simp (disch:=omega) only[i64_in]
   rw[j9,jF,tb (by omega),gN (by omega) (by simp)]
   have e:([x,y]:List Int).getD (((0+1+1:Nat):Int) - 1 - 1).toNat 0=x:=rfl
   rw[e]
   simp (disch:=omega) only[i64_in]
   rw[j9,jF,qS (by omega)]
   simp[VU,val]
   omega
 |_::_::_::_,hd,hl=>simp at hl
theorem ahn {t:Bool}{t2:List Int}:∀(B A:Nat),(dU A).length≤10000000000→(dU B).length≤10000000000→ee (dU A) (dU B) t t2=some (W ((Nat.gcd A B:Nat):Int)):=by
 intro B
 induction B using Nat.strongRecOn with
 |ind B ih=>
  intro A hA hB
  rw[Ak,tA]
  by_cases h:B=0
  ·subst h
   rw[show dU 0=[] from dV _,cp (by simp),Nat.gcd_zero_right]
   simp[W]
  ·have hne:(dU B).length≠0:=fun e=>by
    have:=(lV (B:=1000000000) (n:=B) (by omega)).1 (List.length_eq_zero_iff.1 e)
    omega
   rw[ch (by omega)]
   -- Kh step by a amA
   have ZF:(xK (dU A) (dU B)).bind (fun r6=>(mF r6.2).bind fun r7=>ee (dU B) r7 t t2)=some (W ((Nat.gcd A B:Nat):Int)):=by
    obtain⟨q,r,e1,e2,e3,e4,e5,e6,e7⟩:=Xv (A:=A) (B:=B) (by omega) (by omega) (by omega)
    have hmod:=Nat.mod_lt A (show B>0 by omega)
    have hm:=ahf (show A % B≤B by omega)
    rw[e1,bS,D8 (show r.length≤_ by omega),bS,acT e3,e5,Int.toNat_natCast,ih _ hmod B hB (by omega)]
    rw[Nat.gcd_comm B, ←Nat.gcd_rec,Nat.gcd_comm]
   by_cases ha:(dU A).length≤2
   ·rw[LV (by omega)]
    by_cases hb:(dU B).length≤2
    ·rw[LV (by omega),VW (Ip A) ha,bS,VW (Ip B) hb,bS,JP,JP,N6,I6,abl,bS]
     have h1:=(aK (B:=1000000000) (by omega) 2 B).1 hb
     have h2:=Nat.gcd_le_right A (show 0<B by omega)
     rw[VT (by omega) (by omega),bS,wF]
    ·rw[QX (by omega)];exact ZF
   ·rw[QX (by omega)];exact ZF
theorem F5 {x y:Int}(hx:Ln x≤10000000000)(hy:Ln y≤10000000000):oX (W x) (W y)=some (W ((Int.gcd x y:Nat):Int)):=by
 rw[Fm,zS,W_2,W_2,ahn _ _ hx hy]
 rfl
end Go.Proofs.YtofjebmoebhiiaaGreatDoor.Ev
namespace Go.Proofs.YtofjebmoebhiiaaGreatDoor.Ev
open Go.Abs Go.IntWalk
theorem take_one {l:List Int}:l.take 1=[45]↔l.head?=some 45:=by
 cases l<;>simp
theorem Xw (s:ByteArray):iJ s (bs [45])=some (strOf (bl (bytesOf s)),iS (bytesOf s)):=by
 have h45:bytesOf (bs [45])=[45]:=rfl
 have hsz:(bs [45]).size=1:=rfl
 have hlen:=aL s
 rw[y6,sc,sT,mM,sU,mN,hsz]
 by_cases h0:1≤s.size
 ·rw[tb (by omega),FZ (by omega) (by omega) (by omega),bS,Xk,h45,gA]
  have e1:((0:Int)).toNat=0:=rfl
  have e2:(((1:Nat):Int)).toNat=1:=rfl
  rw[e1,e2,List.drop_zero]
  by_cases hm:(bytesOf s).head?=some 45
  ·have hd:decide ((bytesOf s).take 1=[45])=true:=decide_eq_true (take_one.2 hm)
   rw[hd]
   simp only[Bool.not_true,cF]
   rw[FZ (by omega) (by omega) (by omega),bS]
   have hb:bl (bytesOf s)=(bytesOf s).tail:=by unfold bl;rw[if_pos hm]
   have hm':iS (bytesOf s)=true:=by simpa [iS] using hm
   have hx:s.extract 1 ((s.size:Nat):Int).toNat=strOf (bl (bytesOf s)):=by
    apply jH
    rw[gA,hb,tc (fun x hx=>lX s x (List.mem_of_mem_tail hx)),Int.toNat_natCast, ←hlen,List.take_length]
    simp
   rw[hm',hx]
  ·have hd:decide ((bytesOf s).take 1=[45])=false:=decide_eq_false (fun e=>hm (take_one.1 e))
   rw[hd]
   simp only[Bool.not_false,cT]
   rw[bS]
   have hb:bl (bytesOf s)=bytesOf s:=by unfold bl;rw[if_neg hm]
   have hm':iS (bytesOf s)=false:=by simpa [iS] using hm
   rw[hb,hm',UI]
 ·have he:bytesOf s=[]:=List.length_eq_zero_iff.1 (by omega)
  rw[qS (by omega),bS]
  simp only[Bool.not_false,cT]
  rw[bS]
  have:s=strOf (bl (bytesOf s)):=by
   apply jH
   rw[he,tc]
   ·rfl
   ·rw[show bl ([]:List Int)=[] from rfl];exact gO.nil
  rw[←this,he];rfl
theorem abm {s:ByteArray}{neg:Bool}{e:Int}{t4:Bool}{t5:List Int}{c:List Int}(hc:gO 256 c)(hl:c.length≤9):∀(m k:Nat) (x:Int) (d:List Int),m+k=c.length→x=jc (c.take k)→(∀b∈c.take k,48≤b∧b≤57)→d.length≤100000000000000 / 5→
  np s neg e x c c.length k d t4 t5=bif c.all RJ then jB s neg (IntKind.wrap .i64 (e - 9)) (d++[jc c]) t4 t5 else some ((false,[],()),false):=by
 intro m
 induction m with
 |zero=>
  intro k x d hk hx hd Xu
  have hk':k=c.length:=by omega
  subst hk'
  rw[List.take_length] at hx hd
  have ha:c.all RJ=true:=List.all_eq_true.2 fun b hb=>(yI b).2 (hd b hb)
  rw[BQ,yp,ak (by omega),jb (by omega) (by omega),ha,cT,hx]
 |succ m ih=>
  intro k x d hk hx hd Xu
  have hkl:k<c.length:=by omega
  have hb:=hc.getD (by omega) k
  have hxb:=zw (c.take k) hd
  rw[show (c.take k).length=k by rw[List.length_take];omega] at hxb
  have atl:(10:Int)^k≤10^8:=OF (by omega)
  rw[BQ,yp,aq (by omega),gN (by omega) (by omega),Int.toNat_natCast]
  by_cases h1:c.getD k 0<48
  ·have ha:c.all RJ=false:=by
    rw[List.all_eq_false]
    refine⟨c.getD k 0, ?_,by rw[yI];omega⟩
    simp only[List.getD,hkl,List.getElem?_eq_getElem,Option.getD_some]
    exact List.getElem_mem hkl
   rw[aq h1,ha,cF]
  ·by_cases h2:c.getD k 0>57
   ·have ha:c.all RJ=false:=by
     rw[List.all_eq_false]
     refine⟨c.getD k 0, ?_,by rw[yI];omega⟩
     simp only[List.getD,hkl,List.getElem?_eq_getElem,Option.getD_some]
     exact List.getElem_mem hkl
    rw[ak h1,ch h2,ha,cF]
   ·rw[ak h1,cp h2]
    simp (disch:=omega) only[u8_in,u32_in,i64_in]
    have tu:=fun x d=>ih (k+1) x d (by omega)
    simp only[Int.natCast_add,Int.natCast_one] at tu
    rw[tu]
    ·rw[du hkl,D7, ←hx]
     simp[jc];omega
    ·rw[du hkl]
     intro b hb'
     rcases List.mem_append.1 hb' with h |h
     ·exact hd b h
     ·simp only[List.mem_singleton] at h;subst h;omega
    ·exact Xu
theorem abn {s:ByteArray}{neg:Bool}{t4:Bool}{t5:List Int}(hs:s.size≤140737488355328):∀(m e:Nat) (d:List Int),e≤m→e≤s.size→DU d→d.length*9+e≤140737488355328+9→
  jB s neg e d t4 t5=bif ((bytesOf s).take e).all RJ then some (W (bif neg then -(VU d+1000000000^d.length*jc ((bytesOf s).take e)) else (VU d+1000000000^d.length*jc ((bytesOf s).take e))),true) else some ((false,[],()),false):=by
 intro m
 induction m using Nat.strongRecOn with
 |ind m ih=>
  intro e d hm he hd Xu
  have hbl:=aL s
  rw[BP,yo]
  by_cases h0:e=0
  ·subst h0
   rw[cp (by omega),yJ hd (by omega),bS]
   simp only[List.take_zero,List.all_nil,cT,jc,List.foldl_nil,Int.mul_zero,Int.add_zero]
   try rfl
  ·rw[ch (by omega)]
   -- Kh aoM begin
   obtain⟨b,hb⟩:∃b:Nat,b=e - 9:=⟨_,rfl⟩
   have e0:(bif decide (IntKind.wrap .i64 ((e:Int) - 9)>0) then IntKind.wrap .i64 ((e:Int) - 9) else 0)=(b:Int):=by
    rw[i64_in _ (by omega)]
    by_cases h:(e:Int) - 9>0
    ·rw[ch h];omega
    ·rw[cp h];omega
   rw[e0]
   have hx:bytesOf (s.extract b e)=((bytesOf s).take e).drop b:=gA s b e
   have hxl:(bytesOf (s.extract b e)).length=e - b:=by rw[hx];simp;omega
   have hxs:(s.extract b e).size≤140737488355328:=by rw[←aL,hxl];omega
   simp only[Int.toNat_natCast]
   rw[FZ (by omega) (by omega) (by omega),apK hxs]
   have hI:=abm (s:=s) (neg:=neg) (e:=(e:Int)) (t4:=t4) (t5:=t5) (c:=bytesOf (s.extract b e)) (lX _) (by omega) (e - b) 0 0 d (by omega) (by simp[jc]) (by simp) (by omega)
   simp only[Int.natCast_zero] at hI
   rw[hI,hx,i64_in _ (by omega)]
   have P5:(bytesOf s).take e=(bytesOf s).take b++((bytesOf s).take e).drop b:=by
    conv=>lhs;rw[TO ((bytesOf s).take e) b]
    rw[List.take_take,Nat.min_eq_left (by omega)]
   cases hca:(((bytesOf s).take e).drop b).all RJ with
   |false=>
    have:((bytesOf s).take e).all RJ=false:=by rw[P5,List.all_append,hca,Bool.and_false]
    rw[this,cF,cF]
   |true=>
    rw[cT]
    have hcd:∀x∈((bytesOf s).take e).drop b,48≤x∧x≤57:=fun x hx=>(yI x).1 (List.all_eq_true.1 hca x hx)
    have hcb:=zw _ hcd
    have hcl:(((bytesOf s).take e).drop b).length=e - b:=by rw[←hx,hxl]
    rw[hcl] at hcb
    have hpw:(10:Int)^(e - b)≤10^9:=OF (by omega)
    have hd':DU (d++[jc (((bytesOf s).take e).drop b)]):=hd.append (gO.cons hcb.1 (by omega) gO.nil)
    have hVd:VU (d++[jc (((bytesOf s).take e).drop b)])=VU d+1000000000^d.length*jc (((bytesOf s).take e).drop b):=by
     rw[VU,fj];simp[val]
    by_cases h9:9≤e
    ·have e1:(e:Int) - 9=(b:Int):=by omega
     rw[e1,ih b (by omega) b _ (Nat.le_refl _) (by omega) hd' (by simp;omega),hVd]
     have h4:((bytesOf s).take e).all RJ=((bytesOf s).take b).all RJ:=by
      conv=>lhs;rw[P5]
      rw[List.all_append,hca,Bool.and_true]
     have h5:jc ((bytesOf s).take e)=jc ((bytesOf s).take b)*1000000000+jc (((bytesOf s).take e).drop b):=by
      conv=>lhs;rw[P5]
      rw[D7,hcl,show e - b=9 by omega]
      rfl
     have h6:VU d+1000000000^d.length*jc (((bytesOf s).take e).drop b)+1000000000^(d++[jc (((bytesOf s).take e).drop b)]).length*jc ((bytesOf s).take b)
       =VU d+1000000000^d.length*jc ((bytesOf s).take e):=by
      rw[h5,List.length_append,List.length_singleton,Int.pow_succ,Int.mul_add,Int.mul_assoc,Int.mul_comm (1000000000:Int) (jc _)]
      omega
     rw[h4,h6]
    · -- Kh last chunk
      have hb0:b=0:=by omega
      subst hb0
      rw[BP,yo,cp (by omega),yJ hd' (by simp;omega),bS,hVd]
      rw[List.drop_zero] at hca ⊢
      rw[hca,cT]
      try rfl
theorem uY {s:ByteArray}(hs:s.size≤140737488355328):E6 s=bif fU (bytesOf s) then some (W (numOf (bytesOf s)),true) else some ((false,[],()),false):=by
 rw[QH,Mu,Xw,bS]
 have hbody:bytesOf (strOf (bl (bytesOf s)))=bl (bytesOf s):=tc (fun x hx=>lX s x (by
  unfold bl at hx
  split at hx
  ·exact List.mem_of_mem_tail hx
  ·exact hx))
 have hbl:(bl (bytesOf s)).length≤s.size:=by
  rw[←aL]
  unfold bl
  split
  ·simp
  ·exact Nat.le_refl _
 have hsz:(strOf (bl (bytesOf s))).size=(bl (bytesOf s)).length:=by rw[←aL,hbody]
 generalize hB:bl (bytesOf s)=B at*
 generalize hM:iS (bytesOf s)=M at*
 simp only
 rw[Xk,hbody,UJ]
 cases B with
 |nil=>
  have:fU (bytesOf s)=false:=by unfold fU;rw[hB];simp
  rw[this];rfl
 |cons c r=>
  have h1:decide ((c::r:List Int)=[])=false:=by simp
  rw[h1,cF,yF,hbody]
  have h2:idx (c::r) (0:Int)=some c:=rfl
  rw[h2,bS]
  have hout:=abn (s:=strOf (c::r)) (neg:=M) (t4:=false) (t5:=[]) (by rw[hsz];omega) (c::r).length (c::r).length [] (Nat.le_refl _) (by rw[hsz];exact Nat.le_refl _) gO.nil (by simp at hbl ⊢;omega)
  rw[hbody,List.take_length] at hout
  have aa5:jB (strOf (c::r)) M ((c::r).length:Int) [] false []=bif (c::r).all RJ then some (W (numOf (bytesOf s)),true) else some ((false,[],()),false):=by
   rw[hout]
   have:(bif M then -(VU []+1000000000^([]:List Int).length*jc (c::r)) else (VU []+1000000000^([]:List Int).length*jc (c::r)))=numOf (bytesOf s):=by
    unfold numOf
    rw[hB,hM]
    cases M<;>simp[VU,val]
   rw[this]
  have hok:fU (bytesOf s)=((c::r).all RJ&&(!(c==48)||((c::r).length==1&& !M))):=by
   unfold fU
   rw[hB,hM]
   simp
  by_cases hc:c=48
  ·subst hc
   rw[lH rfl]
   rw[hok]
   by_cases hl:r=[]
   ·subst hl
    rw[hsz,cp (by simp)]
    cases M with
    |true=>rfl
    |false=>
     rw[cF,aa5];rfl
   ·have hr:0<r.length:=List.length_pos_iff.2 hl
    rw[hsz,ch (by simp;omega)]
    have h5:((48::r:List Int).length==1)=false:=by simp;exact hl
    rw[h5]
    simp
  ·rw[gz hc,hsz,aa5,hok]
   have:(c==48)=false:=JL hc
   rw[this]
   simp
end Go.Proofs.YtofjebmoebhiiaaGreatDoor.Ev
namespace Go.Abs
theorem ajn {n:Nat}(h:0<n):(dX n).length=(dX (n / 10)).length+1:=by
 rw[dX,yE (by omega) h,List.length_cons]
theorem VY (n c:Nat):(10:Nat)^(9*n+c)=1000000000^n*10^c:=by
 rw[Nat.pow_add,Nat.pow_mul]
def g9:Nat→Int→List Int
 |0,_=>[]
 |k+1,x=>x % 10::g9 k (x / 10)
theorem Kq:∀k x,(g9 k x).length=k
 |0,_=>rfl
 |k+1,x=>by simp[g9,Kq k]
theorem anU:∀k x,DX (g9 k x)
 |0,_=>gO.nil
 |k+1,x=>gO.cons (by omega) (by omega) (anU k _)
theorem aho:∀k (x:Int),0≤x→x<10^k→VX (g9 k x)=x
 |0,x,h0,h1=>by simp at h1;simp[g9,VX,val];omega
 |k+1,x,h0,h1=>by
  rw[Int.pow_succ] at h1
  have ih:=aho k (x / 10) (by omega) (by omega)
  simp only[g9,VX,val] at ih ⊢
  rw[ih];omega
def LZ (d:List Int):List Int:=d.flatMap (g9 9)
theorem OJ:∀d:List Int,(LZ d).length=9*d.length
 | []=>rfl
 |x::d=>by
  have:=OJ d
  simp only[LZ,List.flatMap_cons,List.length_append,Kq,List.length_cons] at this ⊢
  omega
theorem Xx:∀d:List Int,DX (LZ d)
 | []=>gO.nil
 |x::d=>by simp only[LZ,List.flatMap_cons];exact(anU 9 x).append (Xx d)
theorem VZ:∀d:List Int,gO 1000000000 d→VX (LZ d)=val 1000000000 d
 | [],_=>rfl
 |x::d,h=>by
  have ih:=VZ d h.tail
  have hx:=h.head
  simp only[LZ,List.flatMap_cons] at ih ⊢
  rw[VX,fj,Kq]
  have:=aho 9 x hx.1 (by simpa using hx.2)
  rw[VX] at this ih
  rw[this,ih,val]
  rfl
theorem He (d e:List Int):Gc (d++e)=Gc d++Gc e:=by simp[Gc]
theorem qV (d:List Int):(Gc d).length=d.length:=by simp[Gc]
end Go.Abs
namespace Go.Proofs.YtofjebmoebhiiaaGreatDoor.Ev
open Go.Abs Go.IntWalk
theorem ZI:∀(x n:Nat),x<1000000000→n+x≤1000000000000000→dm n x=some (((n+(dX x).length:Nat)):Int):=by
 intro x
 induction x using Nat.strongRecOn with
 |ind x ih=>
  intro n hx hn
  rw[vB,o7]
  by_cases h:x=0
  ·subst h;rw[cp (by omega),show dX 0=[] from dV _];rfl
  ·have e:IntKind.wrap .u32 ((x:Int).tdiv 10)=((x / 10:Nat):Int):=by rw[u32_quo _ _ (by omega)];omega
   have e2:IntKind.wrap .i64 ((n:Int)+1)=((n+1:Nat):Int):=by rw[i64_in _ (by omega)];omega
   rw[ch (by omega),e,e2,ih (x / 10) (Nat.div_lt_self (by omega) (by omega)) (n+1) (by omega) (by omega),ajn (n:=x) (by omega)]
   congr 2;omega
theorem Lm {z:Int}(hz:Ln z≤20000000000000):gY (W z)=some ((dX z.natAbs).length:Int):=by
 rw[Al,tD,ahh]
 by_cases h:z=0
 ·subst h
  have:Ln 0=0:=(zy 0).2 rfl
  rw[this,lH (by omega),show dX (Int.natAbs 0)=[] from dV _];rfl
 ·have hpos:Ln z≠0:=fun e=>h ((zy z).1 e)
  obtain⟨n,hn⟩:∃n,Ln z=n+1:=⟨Ln z - 1,by omega⟩
  have hd:=Ip z.natAbs
  have hl:(dU z.natAbs).length=n+1:=hn
  have ajm:=hd.getD (by omega) n
  rw[gz (by omega)]
  simp only[W_2,oJ]
  have e1:((Ln z:Int) - 1).toNat=n:=by omega
  simp (disch:=omega) only[i64_in,gN,e1,oJ]
  obtain⟨t,ht⟩:=Int.eq_ofNat_of_zero_le ajm.1
  rw[ht] at ajm ⊢
  have e2:(9:Int)*((Ln z:Int) - 1)=((9*n:Nat):Int):=by omega
  rw[e2,ZI t (9*n) (by omega) (by omega)]
  congr 2
  -- Kh number atm aoN two ap0
  have h1:=F4 (dU z.natAbs) (show n<(dU z.natAbs).length by omega)
  rw[List.take_of_length_le (by omega),ht] at h1
  have h2:=Ac (B:=1000000000) (by omega) (hd.take n)
  have h3:=kj (B:=1000000000) (by omega) (hd.take n)
  rw[show ((dU z.natAbs).take n).length=n by rw[List.length_take];omega] at h2
  have h4:=JP z.natAbs
  rw[VU] at h4
  have ht0:0<t:=by
   have hne:dU z.natAbs=(dU z.natAbs).take n++[(t:Int)]:=by
    conv=>lhs;rw[←List.take_of_length_le (l:=dU z.natAbs) (i:=n+1) (by omega)]
    rw[du (by omega),ht]
   have:=QW (B:=1000000000) (by omega) hne
   omega
  have hc:(dX t).length≠0:=fun e=>by
   have:=(lV (B:=10) (n:=t) (by omega)).1 (List.length_eq_zero_iff.1 e)
   omega
  obtain⟨c,hcc⟩:∃c,(dX t).length=c+1:=⟨(dX t).length - 1,by omega⟩
  have h5:=(aK (B:=10) (by omega) (c+1) t).1 (by rw[←hcc];exact Nat.le_refl _)
  have h6:=(fK (B:=10) (by omega) c t).1 (by show c<(dX t).length;omega)
  have h7:z.natAbs<10^(9*n+(c+1)):=by
   rw[VY]
   have:((1000000000:Nat)^n)*(t+1)≤1000000000^n*10^(c+1):=Nat.mul_le_mul_left _ h5
   rw[Nat.mul_add,Nat.mul_one] at this
   have e:=ofNat_pow n
   have e':((1000000000^n*t:Nat):Int)=1000000000^n*(t:Int):=by rw[Int.natCast_mul,e]
   omega
  have h8:10^(9*n+c)≤z.natAbs:=by
   rw[VY]
   have:((1000000000:Nat)^n)*10^c≤1000000000^n*t:=Nat.mul_le_mul_left _ h6
   have e:=ofNat_pow n
   have e':((1000000000^n*t:Nat):Int)=1000000000^n*(t:Int):=by rw[Int.natCast_mul,e]
   omega
  have h9:=(aK (B:=10) (by omega) (9*n+(c+1)) z.natAbs).2 h7
  have h10:=(fK (B:=10) (by omega) (9*n+c) z.natAbs).2 h8
  show 9*n+(dX t).length=(Ug 10 z.natAbs).length
  omega
def V1 (z:Int):Bool:=decide (1000<nd z)
theorem D9 {z:Int}(hz:Ln z≤20000000000000):mI (W z)=some (V1 z):=by
 rw[DI,xV]
 show (gY (W z)).bind _=_
 rw[Lm hz,bS]
 congr 1
 unfold V1 nd
 rw[qU]
 exact decide_eq_decide.2 (by omega)
theorem abo {t:List Int}{t2 t3:Int}{a:Bool}{a2:List Int}:∀(m k:Nat) (x:Int) (out:List Int),m+k=9→0≤x→x<1000000000→out.length+m≤10000000000000→
  eL x t t2 t3 k out a a2=dx t t2 (IntKind.wrap .i64 (t3+1)) (out++Gc (g9 m x)) a a2:=by
 intro m
 induction m with
 |zero=>
  intro k x out hk h0 h1 ho
  rw[qy,mf,ak (by omega)]
  simp[g9,Gc]
 |succ m ih=>
  intro k x out hk h0 h1 ho
  rw[qy,mf,aq (by omega)]
  simp (disch:=omega) only[bD,u32_in,u8_in,u32_quo,jb,i64_in]
  have tu:=fun x out=>ih (k+1) x out (by omega)
  simp only[Int.natCast_add,Int.natCast_one] at tu
  rw[tu _ _ (by omega) (by omega) (by simp;omega)]
  simp only[g9,Gc,List.map_cons,List.append_assoc,List.singleton_append,Int.add_comm (48:Int)]
theorem abp {d:List Int}{a:Bool}{a2:List Int}(hd:DU d)(hl:d.length≤1000000000000):∀(m i:Nat) (out:List Int),m+i=d.length→out.length=9*i→
  dx d d.length i out a a2=dy (out++Gc (LZ (d.drop i))) a a2:=by
 intro m
 induction m with
 |zero=>
  intro i out hi ho
  rw[qx,me,ak (by omega),drop_nil (by omega)]
  simp[LZ,Gc]
 |succ m ih=>
  intro i out hi ho
  have hx:=hd.getD (by omega) i
  rw[qx,me,aq (by omega),gN (by omega) (by omega),Int.toNat_natCast]
  have hI:=abo (t:=d) (t2:=d.length) (t3:=i) (a:=a) (a2:=a2) 9 0 (d.getD i 0) out rfl hx.1 hx.2 (by omega)
  simp only[Int.natCast_zero] at hI
  have tu:=fun out=>ih (i+1) out (by omega)
  simp only[Int.natCast_add,Int.natCast_one] at tu
  rw[hI,i64_in _ (by omega),tu _ (by rw[List.length_append,qV,Kq];omega),drop_eq (show i<d.length by omega)]
  simp only[LZ,List.flatMap_cons,He,List.append_assoc]
theorem ahp:∀(m:Nat) (M A C:List Int),M.length=m→A.length=C.length→(A++M++C).length≤1000000000000000→
  dA A.length ((A.length:Int)+M.length - 1) (A++M++C)=some (strOf (A++M.reverse++C)):=by
 intro m
 induction m using Nat.strongRecOn with
 |ind m ih=>
  intro M A C hm hac hl
  rw[y5,rX]
  by_cases h:M.length≤1
  ·rw[ak (by omega)]
   have:M.reverse=M:=by
    match M,h with
    | [],_=>rfl
    | [x],_=>rfl
    |_::_::_,h=>simp at h
   rw[this]
  ·obtain⟨x,M1,rfl⟩:∃x M1,M=x::M1:=by
    cases M with
    |nil=>simp at h
    |cons x M1=>exact⟨x,M1,rfl⟩
   have hne:M1≠ []:=fun e=>by rw[e] at h;simp at h
   obtain⟨M2,y,rfl⟩:∃M2 y,M1=M2++[y]:=⟨M1.dropLast,M1.getLast hne,(List.dropLast_concat_getLast hne).symm⟩
   have hlen:(A++x::(M2++[y])++C).length=A.length+M2.length+2+C.length:=by simp;omega
   have hM:(x::(M2++[y])).length=M2.length+2:=by simp
   rw[hM]
   rw[hlen] at hl
   have ej:((A.length:Int)+((M2.length+2:Nat):Int) - 1).toNat=A.length+M2.length+1:=by omega
   have hL:A++x::(M2++[y])++C=A++(x::(M2++(y::C))):=by simp
   rw[hL] at hlen ⊢
   have gx:(A++(x::(M2++(y::C)))).getD A.length 0=x:=by simp[List.getD]
   have gy:(A++(x::(M2++(y::C)))).getD (A.length+M2.length+1) 0=y:=by
    rw[List.getD,List.getElem?_append_right (by omega)]
    have:A.length+M2.length+1 - A.length=M2.length+1:=by omega
    rw[this]
    simp
   have s1:(A++(x::(M2++(y::C)))).set A.length y=A++(y::(M2++(y::C))):=by
    rw[List.set_append_right _ _ (by omega)];simp
   have s2:(A++(y::(M2++(y::C)))).set (A.length+M2.length+1) x=(A++[y])++M2++(x::C):=by
    rw[List.set_append_right _ _ (by omega)]
    have:A.length+M2.length+1 - A.length=M2.length+1:=by omega
    rw[this,List.set_cons_succ,List.set_append_right _ _ (by omega)]
    simp
   have Zi:(A++(y::(M2++(y::C)))).length=A.length+M2.length+2+C.length:=by simp;omega
   rw[aq (by omega)]
   simp (disch:=omega) only[gN,wM,ej,Int.toNat_natCast,gx,gy,s1,s2,i64_in]
   have:=ih M2.length (by simp at hm;omega) M2 (A++[y]) (x::C) rfl (by simp;omega) (by simp;omega)
   have e1:((A++[y]).length:Int)=(A.length:Int)+1:=by simp
   rw[e1] at this
   have e2:(A.length:Int)+1+M2.length - 1=(A.length:Int)+((M2.length+2:Nat):Int) - 1 - 1:=by omega
   rw[e2] at this
   rw[this]
   simp
theorem V2 (o:List Int)(hl:o.length≤1000000000000000):dA 0 ((o.length:Int) - 1) o=some (strOf o.reverse):=by
 have:=ahp o.length o [] [] rfl rfl (by simpa using hl)
 simpa using this
theorem abq {a:Bool}{a2:List Int}:∀(n:Nat) (ds:List Int),ds.length=n→n≤100000000000000→DX ds→VX ds≠0→
  dy (Gc ds) a a2=some (strOf ((if a then [45] else [])++(Gc (na ds)).reverse)):=by
 intro n
 induction n with
 |zero=>
  intro ds hn _ _ hv
  have:ds=[]:=List.length_eq_zero_iff.1 hn
  subst this
  exact absurd rfl hv
 |succ n ih=>
  intro ds hn hl hd hv
  have hne:ds≠ []:=fun e=>by rw[e] at hn;cases hn
  obtain⟨d',y,rfl⟩:∃d' y,ds=d'++[y]:=⟨ds.dropLast,ds.getLast hne,(List.dropLast_concat_getLast hne).symm⟩
  have hn':d'.length=n:=by simpa using hn
  have hy:=hd.right.head
  rw[He,y4,rW]
  have hcl:(Gc d'++Gc [y]).length=d'.length+1:=by simp[qV]
  have e1:(((d'.length+1:Nat):Int) - 1).toNat=d'.length:=by omega
  have g1:(Gc d'++Gc [y]).getD d'.length 0=y+48:=by
   rw[List.getD,List.getElem?_append_right (by rw[qV];omega),qV]
   simp[Gc]
  simp (disch:=omega) only[hcl,i64_in,gN,wM,e1,g1]
  by_cases h0:y=0
  ·subst h0
   have hv':VX d'≠0:=fun e=>hv (by rw[VX,fj,show val 10 d'=0 from e];simp[val])
   have ht:(Gc d'++Gc [0]).take d'.length=Gc d':=List.take_left' (qV _)
   rw[lH (by omega),FZ (by omega) (by omega) (by omega),ht,ih d' hn' (by omega) hd.left hv',zv]
  ·rw[gz (by omega),CY h0, ←He]
   have ap2:(Gc (d'++[y])).length=d'.length+1:=by simp[qV]
   cases a with
   |true=>
    rw[cT,jb (by omega) (by omega)]
    have e5:IntKind.wrap .i64 (((Gc (d'++[y])++[45]).length:Int) - 1)=((Gc (d'++[y])++[45]).length:Int) - 1:=i64_in _ (by simp[qV];omega)
    rw[e5,V2 _ (by simp[qV];omega)]
    simp
   |false=>
    rw[cF]
    have:=V2 (Gc (d'++[y])) (by omega)
    rw[ap2] at this
    rw[this]
    simp
theorem Ea {z:Int}(hz:Ln z≤10000000000):mE (W z)=some (fL z):=by
 rw[DG,xT,ahh,W_1,W_2]
 by_cases h:z=0
 ·subst h
  have:Ln 0=0:=(zy 0).2 rfl
  rw[this,lH (by omega)]
  rfl
 ·have hpos:Ln z≠0:=fun e=>h ((zy z).1 e)
  rw[gz (by omega)]
  simp (disch:=omega) only[i64_in,OE]
  have hd:=Ip z.natAbs
  have h1:=abp (a:=decide (z<0)) (a2:=dU z.natAbs) hd (by rw[oJ];omega) (dU z.natAbs).length 0 [] (by omega) rfl
  simp only[Int.natCast_zero,List.drop_zero,List.nil_append,oJ] at h1
  have hv:VX (LZ (dU z.natAbs))=z.natAbs:=by rw[VZ _ hd];exact JP _
  rw[h1,abq _ _ rfl (by rw[OJ,oJ];omega) (Xx _) (by rw[hv];omega),TF (Xx _),hv,Int.toNat_natCast]
  unfold fL qT kl
  rw[if_neg (show ¬z.natAbs=0 by omega)]
  congr 3
  by_cases h2:z<0<;>simp[h2]
end Go.Proofs.YtofjebmoebhiiaaGreatDoor.Ev
namespace Go.Proofs.YtofjebmoebhiiaaGreatDoor.Ev
open Go.Abs Go.IntWalk
theorem ahq {z:Int}{k:Nat}(h:nd z≤k):Ln z≤k / 9+1:=by
 rw[F2]
 have h1:=(jS z (k+1) (by omega)).1 (by omega)
 have h2:10^(k+1)≤10^(9*(k / 9+1)):=Nat.pow_le_pow_right (by omega) (by omega)
 rw[Nat.pow_mul] at h2
 exact Nat.lt_of_lt_of_le h1 h2
def Sm (z:Int):Prop:=nd z≤1000
instance (z:Int):Decidable (Sm z):=inferInstanceAs (Decidable (nd z≤1000))
theorem Sm.Ln {z:Int}(h:Sm z):Ln z≤112:=ahq h
theorem abr (z:Int):Sm z↔z.natAbs<10^1000:=jS z 1000 (by omega)
theorem Sm.mono {x y:Int}(h:Sm y)(hxy:x.natAbs≤y.natAbs):Sm x:=(abr x).2 (Nat.lt_of_le_of_lt hxy ((abr y).1 h))
theorem Sm.neg {x:Int}(h:Sm x):Sm (-x):=h.mono (by omega)
def wH (s:ByteArray):Prop:=s.size≤140737488355328
section
variable {a b:ByteArray}{x y:Int}(ha:wH a)(hb:wH b)(hx:Sm x)(hy:Sm y)
include hx hy
end
section
variable {x:Int}(hx:Sm x)
include hx
end
section
variable {a b:ByteArray}(ha:wH a)(hb:wH b)
include ha
include hb
end
end Go.Proofs.YtofjebmoebhiiaaGreatDoor.Ev
namespace Go.Proofs.YtofjebmoebhiiaaGreatDoor.Ev
open Go.Abs Go.IntWalk
theorem abt:∀(n:Nat) (d:List Int),d.length=n→n≤1000000000000000→dM d=some (na d):=by
 intro n
 induction n with
 |zero=>
  intro d hd hn
  have:d=[]:=List.length_eq_zero_iff.1 hd
  subst this
  rw[pe,lC];rfl
 |succ n ih=>
  intro d hd hn
  obtain⟨d',y,rfl⟩:∃d' y,d=d'++[y]:=by
   have hne:d≠ []:=fun e=>by rw[e] at hd;cases hd
   exact⟨d.dropLast,d.getLast hne,(List.dropLast_concat_getLast hne).symm⟩
  have hl:d'.length=n:=by simpa using hd
  have hy:(d'++[y]).getD d'.length 0=y:=by simp[List.getD]
  have ht:(d'++[y]).take d'.length=d':=by simp
  rw[pe,lC]
  simp only[List.length_append,List.length_cons,List.length_nil]
  simp (disch:=omega) only[i64_in,ch,FZ,anC]
  rw[qR (by omega) (by simp;omega)]
  have e:(((d'.length+(0+1):Nat):Int) - 1).toNat=d'.length:=by omega
  rw[e,hy,ht,bS]
  by_cases h0:y=0
  ·subst h0
   rw[zv,ih d' hl (by omega),lH rfl]
  ·rw[gz h0,CY h0]
theorem JS {d:List Int}(h:d.length≤1000000000000000):bb d=some (na d):=by
 rw[B6,vI];exact abt _ d rfl h
theorem abu {d:List Int}(hd:DX d)(hl:d.length≤100000000000000):∀(k:Nat) (out:List Int),k≤d.length→out.length+k≤1000000000000000 / 10→
  dI d ((k:Int) - 1) out=some (strOf (out++(Gc (d.take k)).reverse)):=by
 intro k
 induction k with
 |zero=>
  intro out hk ho
  rw[pc,lz,qS (by omega)]
  simp[Gc]
 |succ k ih=>
  intro out hk ho
  have hx:=hd.getD (by omega) k
  have e:((k+1:Nat):Int) - 1=k:=by omega
  rw[pc,lz,e,tb (by omega),gN (by omega) (by omega),Int.toNat_natCast]
  simp (disch:=omega) only[i64_in,u8_in,jb]
  rw[ih _ (by omega) (by simp;omega),du (show k<d.length by omega),He]
  simp[Gc,Int.add_comm]
theorem wI {minus:Bool}{d:List Int}(hd:DX d)(hl:d.length≤10000000000000):al minus d=some (fL (if minus then -VX d else VX d)):=by
 obtain⟨v,hv⟩:=Int.eq_ofNat_of_zero_le (Ko hd)
 rw[B3,vF,JS (by omega),bS,TF hd,hv,Int.toNat_natCast]
 have hlen:=Bc d
 rw[TF hd,hv,Int.toNat_natCast] at hlen
 by_cases h0:v=0
 ·subst h0
  rw[show dX 0=[] from dV _,lH (by rfl)]
  cases minus<;>rfl
 ·have hne:(dX v).length≠0:=fun e=>h0 ((lV (B:=10) (by omega)).1 (List.length_eq_zero_iff.1 e))
  rw[gz (by omega)]
  have hw:=abu (Ha v) (by omega) (dX v).length
  have e5:IntKind.wrap .i64 (((dX v).length:Int) - 1)=((dX v).length:Int) - 1:=i64_in _ (by omega)
  cases minus with
  |true=>
   rw[cT,jb (by omega) (by omega),e5,hw _ (Nat.le_refl _) (by simp;omega),List.take_length]
   unfold fL qT kl
   simp only[if_true]
   rw[if_pos (by omega),if_neg (by omega)]
   have:(-(v:Int)).natAbs=v:=by omega
   rw[this]
   simp
  |false=>
   rw[cF,e5,hw _ (Nat.le_refl _) (by simp;omega),List.take_length]
   unfold fL qT kl
   simp only[Bool.false_eq_true,if_false]
   rw[if_neg (by omega),if_neg (by omega)]
   simp
def Nd (k:Nat)(z:Int):Prop:=z.natAbs<10^k
theorem Nd.mono {k l:Nat}{z:Int}(h:Nd k z)(hkl:k≤l):Nd l z:=Nat.lt_of_lt_of_le h (Nat.pow_le_pow_right (by omega) hkl)
theorem Nd.add {k l:Nat}{x y:Int}(hx:Nd k x)(hy:Nd l y):Nd (max k l+1) (x+y):=by
 have h1:=hx.mono (Nat.le_max_left k l)
 have h2:=hy.mono (Nat.le_max_right k l)
 unfold Nd at*
 rw[Nat.pow_succ]
 omega
theorem Nd.neg {k:Nat}{x:Int}(hx:Nd k x):Nd k (-x):=by unfold Nd at*;omega
theorem Nd.sub {k l:Nat}{x y:Int}(hx:Nd k x)(hy:Nd l y):Nd (max k l+1) (x - y):=hx.add hy.neg
theorem Nd.mul {k l:Nat}{x y:Int}(hx:Nd k x)(hy:Nd l y):Nd (k+l) (x*y):=by
 unfold Nd at*
 rw[Int.natAbs_mul,Nat.pow_add]
 exact Nat.mul_lt_mul'' hx hy
theorem Nd.Sm {k:Nat}{x:Int}(hx:Nd k x)(hk:k≤1000):Sm x:=(abr x).2 (hx.mono hk)
theorem Nd.le {k:Nat}{x y:Int}(hy:Nd k y)(h:x.natAbs≤y.natAbs):Nd k x:=Nat.lt_of_le_of_lt h hy
end Go.Proofs.YtofjebmoebhiiaaGreatDoor.Ev
namespace Go.Proofs.YtofjebmoebhiiaaGreatDoor.Ev
open Go.Abs Go.IntWalk
theorem Kr (x y:Int):((fL x).toList==(fL y).toList)=decide (x=y):=by
 rw[TE]
 exact decide_eq_decide.2 abg
theorem V3 {x y:Int}(h:x=y):((fL x).toList==(fL y).toList)=true:=by rw[Kr];exact decide_eq_true h
theorem V4 {x y:Int}(h:¬x=y):((fL x).toList==(fL y).toList)=false:=by rw[Kr];exact decide_eq_false h
theorem ahr {l:List Nat}{z:Int}(h:fU (bytesOf (bs l))=true)(hz:numOf (bytesOf (bs l))=z):bs l=fL z:=
 jH (by rw[dn, ←hz];exact TG h)
theorem anV:bs [48]=fL 0:=ahr rfl rfl
theorem ap3:bs [49]=fL 1:=ahr rfl rfl
section
variable {x y:Int}(hx:Sm x)(hy:Sm y)
include hx hy
end
end Go.Proofs.YtofjebmoebhiiaaGreatDoor.Ev
namespace Go.Proofs.YtofjebmoebhiiaaGreatDoor.Ev
open Go.Abs
end Go.Proofs.YtofjebmoebhiiaaGreatDoor.Ev
namespace Go.Abs
def P6 (l:List Int):List Int:=((l.filter (fun c=>c != 45)).reverse).map (· - 48)
theorem QZ (l m:List Int):P6 (l++m)=P6 m++P6 l:=by simp[P6]
theorem anW {c:Int}(h:¬c=45):([c]:List Int).filter (fun c=>c != 45)=[c]:=by simp[List.filter_cons,h]
theorem anX {c:Int}(h:¬c=45):P6 [c]=[c - 48]:=by simp[P6,List.filter_cons,h]
theorem Eb (n:Nat):(kl n).filter (fun c=>c != 45)=kl n:=by
 apply List.filter_eq_self.2
 intro c hc
 have:=oI n c hc
 simp;omega
theorem aeH (n:Nat):na (P6 (kl n))=dX n:=by
 unfold P6
 rw[Eb]
 unfold kl
 split
 ·rename_i h;subst h;rw[dX,dV];rfl
 ·rw[List.reverse_reverse]
  have:(Gc (dX n)).map (· - 48)=dX n:=by
   simp only[Gc,List.map_map]
   conv=>rhs;rw[←List.map_id (dX n)]
   apply List.map_congr_left
   intro c _
   simp only[Function.comp,id];omega
  rw[this]
  exact OD (B:=10) (by omega) n
theorem aeI (z:Int):na (P6 (qT z))=dX z.natAbs:=by
 unfold qT
 rw[QZ]
 have:P6 (if z<0 then [45] else [])=[]:=by split<;>rfl
 rw[this,List.append_nil,aeH]
theorem L0 (z:Int):(dX z.natAbs).length≤nd z:=by unfold nd;rw[qU];omega
theorem V5 {m n:Nat}(h:m≤n):(dX m).length≤(dX n).length:=by
 have l2:=(aK (B:=10) (by omega) (dX n).length n).1 (Nat.le_refl _)
 exact(aK (B:=10) (by omega) (dX n).length m).2 (by omega)
theorem OK {x y:Int}(h:x.natAbs≤y.natAbs):nd x≤nd y:=by
 unfold nd;rw[qU,qU]
 have:=V5 h
 omega
theorem abv (z:Int):1≤nd z:=by unfold nd;rw[qU];omega
theorem ahs (z:Int):z.natAbs<10^nd z:=(jS z _ (abv z)).1 (Nat.le_refl _)
theorem aht (x y:Int):nd (x*y)≤nd x+nd y:=by
 rw[jS _ _ (by have:=abv x;omega),Int.natAbs_mul,Nat.pow_add]
 exact Nat.mul_lt_mul'' (ahs x) (ahs y)
theorem JT {x:Int}(h:x.natAbs<10):nd x=1:=by
 have h1:=(jS x 1 (by omega)).2 (by omega)
 have:=abv x
 omega
def Bd (z:Int):Prop:=nd z≤100000
end Go.Abs
namespace Go.Proofs.YtofjebmoebhiiaaGreatDoor.Ev
open Go.Abs Go.IntWalk
theorem Xy {s:ByteArray}{minus:Bool}(hs:s.size≤100000000000):∀(k:Nat) (d:List Int),k≤s.size→d.length+k≤1000000000000→
  cP s minus ((k:Int) - 1) d=some (minus,na (d++P6 ((bytesOf s).take k))):=by
 intro k
 induction k with
 |zero=>
  intro d hk hd
  rw[mO,jh,qS (by omega),JS (by omega),bS]
  simp[P6]
 |succ k ih=>
  intro d hk hd
  have hb:=(lX s).getD (by omega) k
  have hl:=aL s
  have e:((k+1:Nat):Int) - 1=k:=by omega
  rw[mO,jh,e,tb (by omega),yF,qR (by omega) (by omega),bS,Int.toNat_natCast,du (show k<(bytesOf s).length by omega),QZ]
  by_cases h:(bytesOf s).getD k 0=45
  ·rw[lJ h,i64_in _ (by omega),ih d (by omega) (by omega)]
   have:P6 [(bytesOf s).getD k 0]=[]:=by rw[h];rfl
   rw[this,List.nil_append]
  ·rw[A4 h,bS]
   simp (disch:=omega) only[i64_in,jb]
   rw[ih _ (by omega) (by simp;omega)]
   rw[anX h,List.append_assoc]
theorem TP (z:Int):(fL z).size>0∧(bytesOf (fL z)).getD 0 0=(if z<0 then 45 else (kl z.natAbs).getD 0 0):=by
 have hn:=Xl z.natAbs
 constructor
 ·rw[←aL,dn]
  unfold qT
  have:0<(kl z.natAbs).length:=List.length_pos_iff.2 hn
  simp;omega
 ·rw[dn]
  unfold qT
  split<;>rfl
theorem abw (n:Nat):(kl n).getD 0 0≠45:=by
 have hn:=Xl n
 have h1:=oI n
 cases h:kl n with
 |nil=>exact absurd h hn
 |cons c r=>
  rw[h] at h1
  have:=h1 c (by simp)
  simp;omega
theorem V6 (z:Int):((bytesOf (fL z)).getD 0 0==45)=decide (z<0):=by
 rw[(TP z).2]
 by_cases h:z<0
 ·rw[if_pos h,decide_eq_true h];rfl
 ·rw[if_neg h,decide_eq_false h]
  exact JL (abw _)
theorem uZ (z:Int):(fL z).size≤nd z+1:=by rw[Zt];split<;>omega
theorem lY {z:Int}(hz:Bd z):ao (fL z)=some (decide (z<0),dX z.natAbs):=by
 have h1:=(TP z).1
 have hsz:=uZ z
 unfold Bd at hz
 have hl:=aL (fL z)
 rw[za,sf,ch (by omega),yF,qR (by omega) (by omega),bS]
 have e0:(0:Int).toNat=0:=rfl
 rw[e0,V6,i64_in _ (by omega),Xy (by omega) _ [] (Nat.le_refl _) (by simp;omega),List.nil_append, ←hl,List.take_length,dn,aeI]
theorem TQ {s:ByteArray}(hs:wH s):eN s=some ((bl (bytesOf s)).length:Int):=by
 have hl:=aL s
 unfold wH at hs
 rw[zc,si]
 by_cases h:s.size>0
 ·rw[ch (by omega),yF,qR (by omega) (by omega),bS]
  have e0:(0:Int).toNat=0:=rfl
  rw[e0]
  cases hb:bytesOf s with
  |nil=>rw[hb] at hl;simp at hl;omega
  |cons c r=>
   rw[hb] at hl
   have:(c::r).getD 0 0=c:=rfl
   rw[this]
   by_cases hc:c=45
   ·subst hc
    rw[lH rfl,i64_in _ (by omega)]
    have:bl (45::r)=r:=by simp[bl]
    rw[this]
    simp at hl
    congr 1;omega
   ·rw[gz hc]
    have:bl (c::r)=c::r:=by unfold bl;rw[if_neg (by simp;exact hc)]
    rw[this,hl]
 ·have hb:bytesOf s=[]:=List.length_eq_zero_iff.1 (by omega)
  rw[cp (by omega),hb]
  have:s.size=0:=by omega
  rw[this];rfl
theorem ahu {s:ByteArray}(hs:wH s):iX s=some (decide ((bl (bytesOf s)).length>1000)):=by
 rw[B4,vG,TQ hs,bS]
 congr 1
 exact decide_eq_decide.2 (by omega)
theorem ahv (z:Int):bl (bytesOf (fL z))=kl z.natAbs:=by
 rw[dn]
 unfold bl qT
 by_cases h:z<0
 ·simp[h]
 ·have:(kl z.natAbs).head?≠some 45:=by
   intro e
   have:(45:Int)∈kl z.natAbs:=List.mem_of_mem_head? (by rw[e];rfl)
   have:=oI _ _ this
   omega
  simp[h,this]
theorem ZJ {s:ByteArray}(hs:s.size≤140737488355328):∀(m k:Nat),m+k=s.size→cB s k=some (((bytesOf s).drop k).all RJ):=by
 intro m
 have hl:=aL s
 induction m with
 |zero=>
  intro k hk
  rw[nM,kz,ak (by omega),drop_nil (by omega)];rfl
 |succ m ih=>
  intro k hk
  have hb:=(lX s).getD (by omega) k
  have tu:=ih (k+1) (by omega)
  simp only[Int.natCast_add,Int.natCast_one] at tu
  rw[nM,kz,aq (by omega),yF,qR (by omega) (by omega),bS,Int.toNat_natCast,drop_eq (show k<(bytesOf s).length by omega),List.all_cons,bS]
  by_cases h1:(bytesOf s).getD k 0<48
  ·have:RJ ((bytesOf s).getD k 0)=false:=by
    cases hd:RJ ((bytesOf s).getD k 0) with
    |false=>rfl
    |true=>have:=(yI _).1 hd;omega
   rw[aq h1,this];rfl
  ·rw[ak h1]
   by_cases h2:(bytesOf s).getD k 0>57
   ·have:RJ ((bytesOf s).getD k 0)=false:=by
     cases hd:RJ ((bytesOf s).getD k 0) with
     |false=>rfl
     |true=>have:=(yI _).1 hd;omega
    rw[ch h2,this];rfl
   ·rw[cp h2,(yI _).2 (by omega),Bool.true_and,i64_in _ (by omega),tu]
theorem P7 {s:ByteArray}(hs:wH s):jQ s=some (fU (bytesOf s)):=by
 have hl:=aL s
 unfold wH at hs
 have akt:∀t:ByteArray,t.size≤140737488355328→cB t 0=some ((bytesOf t).all RJ):=fun t ht=>by
  have:=ZJ ht t.size 0 (by omega)
  simpa using this
 rw[An,tG]
 have e0:(0:Int).toNat=0:=rfl
 by_cases h:s.size>0
 ·rw[ch (by omega),yF,qR (by omega) (by omega),bS,e0]
  cases hb:bytesOf s with
  |nil=>rw[hb] at hl;simp at hl;omega
  |cons c r=>
   rw[hb] at hl
   have hgc:(c::r).getD 0 0=c:=rfl
   rw[hgc]
   by_cases hc:c=45
   ·subst hc
    have hbo:bl (45::r)=r:=by simp[bl]
    have hmo:iS (45::r)=true:=rfl
    have e1:(1:Int).toNat=1:=rfl
    have hx:bytesOf (s.extract 1 s.size)=r:=by
     rw[gA,hb, ←hl,List.take_length];rfl
    have hxs:(s.extract 1 s.size).size=r.length:=by rw[←aL,hx]
    have hrl:r.length+1=s.size:=by simpa using hl
    rw[lH rfl,FZ (by omega) (by omega) (by omega)]
    simp only[e1,Int.toNat_natCast]
    have hok:fU (45::r)=(r.all RJ&& !r.isEmpty&&(!(r.head?==some 48)||(r.length==1&&false))):=by
     unfold fU;rw[hbo,hmo];rfl
    rw[hxs,hok]
    cases r with
    |nil=>
     simp only[List.length_nil]
     rw[cp (by omega),lH (by rfl)]
     try rfl
    |cons c2 r2=>
     rw[ch (by simp),yF,hx]
     have hi:idx (c2::r2) (0:Int)=some c2:=rfl
     rw[hi,bS]
     by_cases h48:c2=48
     ·subst h48
      rw[lH rfl]
      simp
     ·rw[gz h48,gz (by simp;omega),bS,gz h48,akt _ (by rw[hxs];omega),hx]
      have:(some c2==some 48)=false:=by simpa using h48
      simp[this,h48]
   ·have hbo:bl (c::r)=c::r:=by unfold bl;rw[if_neg (by simp;exact hc)]
    have hmo:iS (c::r)=false:=by simpa [iS] using hc
    have hok:fU (c::r)=((c::r).all RJ&&(!(c==48)||(c::r).length==1)):=by
     unfold fU;rw[hbo,hmo];simp
    rw[gz hc,gz (by omega),bS,akt _ hs,hb,hok]
    by_cases h48:c=48
    ·subst h48
     rw[lH rfl]
     cases r with
     |nil=>rw[cp (by rw[←hl];simp)];rfl
     |cons c2 r2=>rw[ch (by rw[←hl];simp;omega)];simp
    ·rw[gz h48]
     have:(c==48)=false:=JL h48
     simp[this]
 ·have hb:bytesOf s=[]:=List.length_eq_zero_iff.1 (by omega)
  rw[cp (by omega),lH (by omega),hb];rfl
theorem abx:∀(k u:Nat) (d:List Int),u<10^k→u≤9223372036854775807→d.length+k≤1000→cS u d=(al false (d++dX u)).bind fun r=>some r:=by
 intro k
 induction k with
 |zero=>
  intro u d hu hu' hd
  have:u=0:=by rw[Nat.pow_zero] at hu;omega
  subst this
  rw[mQ,jl,cp (by omega),show dX 0=[] from dV _,List.append_nil]
 |succ k ih=>
  intro u d hu hu' hd
  rw[mQ,jl]
  by_cases h0:u=0
  ·subst h0
   rw[cp (by omega),show dX 0=[] from dV _,List.append_nil]
  ·rw[ch (by omega),jb (by omega) (by omega),i64_quo _ _ (by omega),bD (by omega)]
   have e1:((u:Int) / 10)=((u / 10:Nat):Int):=by omega
   have e2:((u:Int) % 10)=((u % 10:Nat):Int):=by omega
   rw[Nat.pow_succ] at hu
   rw[e1,e2,ih (u / 10) _ (by omega) (by omega) (by simp;omega),show dX u=_ from yE (B:=10) (by omega) (by omega)]
   simp
theorem aby:∀(k u:Nat) (d:List Int),u<10^k→u≤9223372036854775807→d.length+k≤1000→cR u d=(al true (d++dX u)).bind fun r=>some r:=by
 intro k
 induction k with
 |zero=>
  intro u d hu hu' hd
  have:u=0:=by rw[Nat.pow_zero] at hu;omega
  subst this
  rw[mP,ji,cp (by omega),show dX 0=[] from dV _,List.append_nil]
 |succ k ih=>
  intro u d hu hu' hd
  rw[mP,ji]
  by_cases h0:u=0
  ·subst h0
   rw[cp (by omega),show dX 0=[] from dV _,List.append_nil]
  ·rw[ch (by omega),jb (by omega) (by omega),i64_quo _ _ (by omega),bD (by omega)]
   have e1:((u:Int) / 10)=((u / 10:Nat):Int):=by omega
   have e2:((u:Int) % 10)=((u % 10:Nat):Int):=by omega
   rw[Nat.pow_succ] at hu
   rw[e1,e2,ih (u / 10) _ (by omega) (by omega) (by simp;omega),show dX u=_ from yE (B:=10) (by omega) (by omega)]
   simp
theorem lZ {n:Int}(h0: -9223372036854775808≤n)(h1:n≤9223372036854775807):bC n=some (fL n):=by
 rw[zb,sg]
 by_cases h:n<0
 ·obtain⟨u,hu⟩:∃u:Nat,(u:Int)= -n:=⟨n.natAbs,by omega⟩
  have hm:n.tmod 10= -((u % 10:Nat):Int):=by
   have:n= -(u:Int):=by omega
   rw[this,Int.neg_tmod,bD (by omega)];omega
  have hq:n.tdiv 10= -((u / 10:Nat):Int):=by
   have:n= -(u:Int):=by omega
   rw[this,Int.neg_tdiv,mu (by omega)];omega
  have e1:IntKind.wrap .i64 (0 - n.tmod 10)=((u % 10:Nat):Int):=by rw[hm,i64_in _ (by omega)];omega
  have e2:IntKind.wrap .i64 (n.tdiv 10)= -((u / 10:Nat):Int):=by rw[hq,i64_in _ (by omega)]
  have e3:IntKind.wrap .i64 (0 - -((u / 10:Nat):Int))=((u / 10:Nat):Int):=by rw[i64_in _ (by omega)];omega
  have hl:([((u % 10:Nat):Int)]:List Int).length=1:=rfl
  rw[aq h]
  simp only[e1,e2,e3]
  rw[jb (by omega) (by first |omega | (rw[hl];omega)),List.nil_append,aby 19 (u / 10) _ (by omega) (by omega) (by simp)]
  have hd:DX ([((u % 10:Nat):Int)]++dX (u / 10)):=(gO.cons (by omega) (by omega) gO.nil).append (Ha _)
  have hv:VX ([((u % 10:Nat):Int)]++dX (u / 10))=u:=by
   have:=JM (u / 10)
   simp only[VX,List.singleton_append,val] at this ⊢
   rw[this];omega
  have hlen:(dX (u / 10)).length≤19:=(aK (B:=10) (by omega) 19 (u / 10)).2 (by omega)
  rw[wI hd (by simp;omega),bS,hv]
  congr 2
  rw[if_pos rfl];omega
 ·obtain⟨u,rfl⟩:=Int.eq_ofNat_of_zero_le (show 0≤n by omega)
  have hlen:(dX u).length≤19:=(aK (B:=10) (by omega) 19 u).2 (by omega)
  rw[ak h,abx 19 u [] (by omega) (by omega) (by simp),List.nil_append,wI (Ha u) (by omega),bS,JM]
  rfl
theorem ZK {z:Int}(hz:nd z≤9):∀(m k:Nat) (n:Int),m+k=(fL z).size→n=jc (((bytesOf (fL z)).take k).filter (fun c=>c != 45))→
  dj (fL z) n k=some (z,true):=by
 intro m
 have hsz:=uZ z
 have hl:=aL (fL z)
 have hh:=TP z
 induction m with
 |zero=>
  intro k n hk hn
  have hk':k=(bytesOf (fL z)).length:=by omega
  rw[hk',List.take_length] at hn
  have hf:(bytesOf (fL z)).filter (fun c=>c != 45)=kl z.natAbs:=by
   rw[dn]
   unfold qT
   rw[List.filter_append,Eb]
   split<;>rfl
  rw[hf,F0] at hn
  have e0:(0:Int).toNat=0:=rfl
  rw[nN,kA,ak (by omega),ch (by omega),yF,qR (by omega) (by omega),bS,e0,V6]
  have hzb:z.natAbs<10^9:=(jS z 9 (by omega)).1 hz
  by_cases h:z<0
  ·rw[decide_eq_true h,cT,i64_in _ (by omega)]
   congr 2;omega
  ·rw[decide_eq_false h,cF]
   congr 2;omega
 |succ m ih=>
  intro k n hk hn
  have hkl:k<(bytesOf (fL z)).length:=by omega
  have hb:=(lX (fL z)).getD (by omega) k
  have tu:=fun n=>ih (k+1) n (by omega)
  simp only[Int.natCast_add,Int.natCast_one] at tu
  rw[nN,kA,aq (by omega),yF,qR (by omega) (by omega),bS,Int.toNat_natCast]
  -- all aoO but Kh sign are digits
  have hmem:∀c∈(bytesOf (fL z)).filter (fun c=>c != 45),48≤c∧c≤57:=by
   rw[dn]
   unfold qT
   rw[List.filter_append,Eb]
   intro c hc
   rcases List.mem_append.1 hc with h |h
   ·exfalso
    split at h
    ·simp at h
    ·cases h
   ·exact oI _ c h
  have hlen:(((bytesOf (fL z)).take k).filter (fun c=>c != 45)).length≤9:=by
   have h1:(((bytesOf (fL z)).take k).filter (fun c=>c != 45)).length≤((bytesOf (fL z)).filter (fun c=>c != 45)).length:=
    ((List.take_sublist k (bytesOf (fL z))).filter _).length_le
   have h2:(bytesOf (fL z)).filter (fun c=>c != 45)=kl z.natAbs:=by
    rw[dn]
    unfold qT
    rw[List.filter_append,Eb]
    split<;>rfl
   rw[h2] at h1
   unfold nd at hz
   omega
  have hnb:=zw (((bytesOf (fL z)).take k).filter (fun c=>c != 45)) (fun c hc=>hmem c (((List.take_sublist k _).filter _).subset hc))
  have hp:=OF hlen
  rw[←hn] at hnb
  have hts:(bytesOf (fL z)).take (k+1)=(bytesOf (fL z)).take k++[(bytesOf (fL z)).getD k 0]:=du hkl
  by_cases h:(bytesOf (fL z)).getD k 0=45
  ·rw[lJ h,i64_in _ (by omega),tu n (by rw[hts,List.filter_append,h];simpa using hn)]
  ·rw[A4 h,bS]
   simp (disch:=omega) only[i64_in]
   rw[tu]
   rw[hts,List.filter_append,anW h,D7, ←hn]
   simp only[jc,List.foldl_cons,List.foldl_nil,List.length_singleton,Int.mul_zero,Int.zero_add,Int.pow_one]
   omega
theorem Bg {z:Int}(hz:Bd z):db (fL z)=some (if nd z≤9 then (z,true) else (0,false)):=by
 unfold Bd at hz
 have alH:wH (fL z):=by unfold wH;have:=uZ z;omega
 rw[Ao,tH,TQ alH,bS,ahv]
 have e:(kl z.natAbs).length=nd z:=rfl
 rw[e]
 by_cases h:nd z≤9
 ·rw[cp (by omega),if_pos h]
  have:=ZK h (fL z).size 0 0 (by omega) (by simp[jc])
  simpa using this
 ·rw[ch (by omega),if_neg h]
end Go.Proofs.YtofjebmoebhiiaaGreatDoor.Ev
namespace Go.Proofs.YtofjebmoebhiiaaGreatDoor.Ev
open Go.Abs Go.IntWalk
theorem abz {a b:List Int}(ha:DX a)(hb:DX b)(hl:a.length=b.length)(hl':a.length≤1000000000000):∀(k:Nat),k≤a.length→
  dL a b ((k:Int) - 1)=some (lW (VX (a.take k)) (VX (b.take k))):=by
 intro k
 induction k with
 |zero=>
  intro hk
  rw[pd,lB]
  simp (disch:=omega) only[qS]
  simp[lW]
 |succ k ih=>
  intro hk
  have e:((k+1:Nat):Int) - 1=k:=by omega
  rw[pd,lB,e,du (show k<a.length by omega),du (show k<b.length by omega)]
  simp (disch:=omega) only[tb,gN,Int.toNat_natCast,i64_in]
  have hta:(a.take k).length=(b.take k).length:=by simp;omega
  by_cases h1:a.getD k 0<b.getD k 0
  ·rw[aq h1,mv (Xj (by omega) (ha.take k) (hb.take k) hta h1)]
  ·rw[ak h1]
   by_cases h2:a.getD k 0>b.getD k 0
   ·rw[ch h2,oH (Xj (by omega) (hb.take k) (ha.take k) hta.symm h2)]
   ·have h:a.getD k 0=b.getD k 0:=by omega
    rw[cp h2,ih (by omega)]
    simp only[VX,fj,hta,h]
    generalize (10:Int)^(b.take k).length*val 10 [b.getD k 0]=z
    by_cases h1:val 10 (a.take k)<val 10 (b.take k)
    ·rw[mv h1,mv (by omega)]
    ·by_cases h2:val 10 (b.take k)<val 10 (a.take k)
     ·rw[oH h2,oH (by omega)]
     ·rw[wD (by omega),wD (by omega)]
theorem OL {m n:Nat}(hm:(dX m).length≤1000000000000)(hn:(dX n).length≤1000000000000):c8 (dX m) (dX n)=some (lW m n):=by
 rw[B5,vH]
 by_cases h:(dX m).length=(dX n).length
 ·have:=abz (Ha m) (Ha n) h hm (dX m).length (Nat.le_refl _)
  rw[lJ (by omega)]
  simp (disch:=omega) only[i64_in]
  rw[this,List.take_length]
  rw[h,List.take_length,JM,JM]
 ·rw[A4 (by omega)]
  have l1:=(aK (B:=10) (by omega) (dX m).length m).1 (Nat.le_refl _)
  have l2:=(aK (B:=10) (by omega) (dX n).length n).1 (Nat.le_refl _)
  by_cases h1:(dX m).length<(dX n).length
  ·rw[aq (by omega)]
   have:=(fK (B:=10) (by omega) (dX m).length n).1 h1
   rw[mv (by omega)]
  ·rw[ak (by omega)]
   have:=(fK (B:=10) (by omega) (dX n).length m).1 (show (dX n).length<(dX m).length by omega)
   rw[oH (by omega)]
def ZL:List Int→List Int→Int→List Int
 | [],[],c=>if c>0 then [c % 10] else []
 |x::xs,[],c=>(c+x) % 10::ZL xs [] ((c+x) / 10)
 | [],y::ys,c=>(c+y) % 10::ZL [] ys ((c+y) / 10)
 |x::xs,y::ys,c=>(c+x+y) % 10::ZL xs ys ((c+x+y) / 10)
theorem aeJ {a b:List Int}(ha:DX a)(hb:DX b)(hl:a.length≤1000000000000)(hl':b.length≤1000000000000):∀(m k:Nat) (c:Int) (out:List Int),m+k=max a.length b.length→out.length=k→0≤c∧c≤1→
  eO a b c k out=some (out++ZL (a.drop k) (b.drop k) c):=by
 intro m
 induction m with
 |zero=>
  intro k c out hk ho hc
  have hka:a.length≤k:=by omega
  have hkb:b.length≤k:=by omega
  rw[drop_nil hka,drop_nil hkb,lD,i6]
  rw[ak (by omega),ak (by omega)]
  by_cases h:c>0
  ·have hc1:c=1:=by omega
   subst hc1
   simp (disch:=omega) only[ch,ak,jb,bD,mu,i64_in]
   rw[lD,i6]
   simp (disch:=omega) only[ak,cp]
   simp[ZL]
  ·rw[cp h]
   have:c=0:=by omega
   subst this
   simp[ZL]
 |succ m ih=>
  intro k c out hk ho hc
  have hx:=ha.getD (by omega) k
  have hy:=hb.getD (by omega) k
  have tu:=fun c out=>ih (k+1) c out (by omega)
  simp only[Int.natCast_add,Int.natCast_one] at tu
  rw[lD,i6]
  by_cases hka:k<a.length
  ·by_cases hkb:k<b.length
   ·rw[drop_eq hka,drop_eq hkb]
    simp (disch:=omega) only[aq,gN,Int.toNat_natCast,i64_in,bD,mu,jb]
    rw[tu _ _ (by simp;omega) (by omega)]
    simp[ZL]
   ·have hd:b.drop (k+1)=[]:=drop_nil (by omega)
    rw[drop_eq hka,drop_nil (show b.length≤k by omega)]
    simp (disch:=omega) only[aq,ak,gN,Int.toNat_natCast,i64_in,bD,mu,jb]
    rw[tu _ _ (by simp;omega) (by omega),hd]
    simp[ZL]
  ·have hkb:k<b.length:=by omega
   have hd:a.drop (k+1)=[]:=drop_nil (by omega)
   rw[drop_eq hkb,drop_nil (show a.length≤k by omega)]
   simp (disch:=omega) only[aq,ak,gN,Int.toNat_natCast,i64_in,bD,mu,jb]
   rw[tu _ _ (by simp;omega) (by omega),hd]
   simp[ZL]
theorem RK:∀(a b:List Int) (c:Int),DX a→DX b→0≤c∧c≤1→VX (ZL a b c)=VX a+VX b+c∧DX (ZL a b c)∧(ZL a b c).length≤max a.length b.length+1
 | [],[],c,ha,hb,hc=>by
   simp only[ZL]
   split
   ·exact⟨by simp[VX,val];omega,gO.cons (by omega) (by omega) gO.nil,by simp⟩
   ·exact⟨by simp[VX,val];omega,gO.nil,by simp⟩
 |x::xs,[],c,ha,hb,hc=>by
  have hx:=ha.head
  obtain⟨e1,e2,e3⟩:=RK xs [] ((c+x) / 10) ha.tail gO.nil (by omega)
  simp only[ZL]
  refine⟨?_,gO.cons (by omega) (by omega) e2,by simp at e3 ⊢;omega⟩
  simp only[VX,val] at e1 ⊢
  rw[e1];omega
 | [],y::ys,c,ha,hb,hc=>by
   have hy:=hb.head
   obtain⟨e1,e2,e3⟩:=RK [] ys ((c+y) / 10) gO.nil hb.tail (by omega)
   simp only[ZL]
   refine⟨?_,gO.cons (by omega) (by omega) e2,by simp at e3 ⊢;omega⟩
   simp only[VX,val] at e1 ⊢
   rw[e1];omega
 |x::xs,y::ys,c,ha,hb,hc=>by
  have hx:=ha.head
  have hy:=hb.head
  obtain⟨e1,e2,e3⟩:=RK xs ys ((c+x+y) / 10) ha.tail hb.tail (by omega)
  simp only[ZL]
  refine⟨?_,gO.cons (by omega) (by omega) e2,by simp at e3 ⊢;omega⟩
  simp only[VX,val] at e1 ⊢
  rw[e1];omega
theorem ajo {a b:List Int}(ha:DX a)(hb:DX b)(hl:a.length≤1000000000000)(hl':b.length≤1000000000000):
  ∃r,iD a b=some r∧VX r=VX a+VX b∧DX r∧r.length≤max a.length b.length+1:=by
 obtain⟨e1,e2,e3⟩:=RK a b 0 ha hb ⟨by omega,by omega⟩
 have:=aeJ ha hb hl hl' (max a.length b.length) 0 0 [] (by omega) rfl ⟨by omega,by omega⟩
 refine⟨ZL a b 0, ?_,by omega,e2,e3⟩
 rw[DK,xX]
 simpa using this
def V7:List Int→List Int→Int→List Int
 | [],_,_=>[]
 |x::xs,[],c=>if x - c<0 then (x - c+10)::V7 xs [] 1 else (x - c)::V7 xs [] 0
 |x::xs,y::ys,c=>if x - c - y<0 then (x - c - y+10)::V7 xs ys 1 else (x - c - y)::V7 xs ys 0
theorem abA {a b:List Int}(ha:DX a)(hb:DX b)(hl:a.length≤1000000000000):∀(m k:Nat) (c:Int) (out:List Int),m+k=a.length→out.length=k→0≤c∧c≤1→
  bw a b c k out=(bb (out++V7 (a.drop k) (b.drop k) c)).bind fun r=>some r:=by
 intro m
 induction m with
 |zero=>
  intro k c out hk ho hc
  rw[jm,fQ,ak (by omega),drop_nil (show a.length≤k by omega)]
  simp[V7]
 |succ m ih=>
  intro k c out hk ho hc
  have hx:=ha.getD (by omega) k
  have hy:=hb.getD (by omega) k
  have tu:=fun c out=>ih (k+1) c out (by omega)
  simp only[Int.natCast_add,Int.natCast_one] at tu
  rw[jm,fQ,aq (by omega),gN (by omega) (by omega),Int.toNat_natCast,drop_eq (show k<a.length by omega)]
  have hl1:∀z:Int,([z]:List Int).length=1:=fun z=>rfl
  by_cases hkb:k<b.length
  ·rw[drop_eq hkb,aq (by omega),gN (by omega) (by omega),Int.toNat_natCast]
   simp (disch:=omega) only[i64_in,hl1]
   by_cases h:a.getD k 0 - c - b.getD k 0<0
   ·rw[aq h,jb (by omega) (by omega),tu _ _ (by simp;omega) ⟨by omega,by omega⟩]
    simp only[V7,if_pos h];simp
   ·rw[ak h,jb (by omega) (by omega),tu _ _ (by simp;omega) ⟨by omega,by omega⟩]
    simp only[V7,if_neg h];simp
  ·have hd:b.drop (k+1)=[]:=drop_nil (by omega)
   rw[drop_nil (show b.length≤k by omega),ak (by omega)]
   simp (disch:=omega) only[i64_in]
   by_cases h:a.getD k 0 - c<0
   ·rw[aq h,jb (by omega) (by omega),tu _ _ (by simp;omega) ⟨by omega,by omega⟩,hd]
    simp only[V7,if_pos h];simp
   ·rw[ak h,jb (by omega) (by omega),tu _ _ (by simp;omega) ⟨by omega,by omega⟩,hd]
    simp only[V7,if_neg h];simp
theorem RL:∀(a b:List Int) (c:Int),b.length≤a.length→DX a→DX b→0≤c∧c≤1→
  ∃c',0≤c'∧VX (V7 a b c)=VX a - VX b - c+c'*10^a.length∧DX (V7 a b c)∧(V7 a b c).length=a.length
 | [],[],c,hl,ha,hb,hc=>⟨c,hc.1,by simp[V7,VX,val];omega,gO.nil,rfl⟩
 | [],y::ys,c,hl,ha,hb,hc=>by simp at hl
 |x::xs,[],c,hl,ha,hb,hc=>by
  have hx:=ha.head
  have key:∀d:Int,(0≤d∧d≤1)→∃c',0≤c'∧VX (V7 xs [] d)=VX xs - d+c'*10^xs.length∧DX (V7 xs [] d)∧(V7 xs [] d).length=xs.length:=fun d hd=>by
   obtain⟨c',h2,h3,h4,h5⟩:=RL xs [] d (by simp) ha.tail gO.nil hd
   exact⟨c',h2,by simpa [VX,val] using h3,h4,h5⟩
  simp only[V7]
  split
  ·obtain⟨c',h2,h3,h4,h5⟩:=key 1 ⟨by omega,by omega⟩
   refine⟨c',h2, ?_,gO.cons (by omega) (by omega) h4,by simp[h5]⟩
   simp only[VX,val,List.length_cons,Int.pow_succ] at h3 ⊢
   rw[←Int.mul_assoc,h3];omega
  ·obtain⟨c',h2,h3,h4,h5⟩:=key 0 ⟨by omega,by omega⟩
   refine⟨c',h2, ?_,gO.cons (by omega) (by omega) h4,by simp[h5]⟩
   simp only[VX,val,List.length_cons,Int.pow_succ] at h3 ⊢
   rw[←Int.mul_assoc,h3];omega
 |x::xs,y::ys,c,hl,ha,hb,hc=>by
  have hx:=ha.head
  have hy:=hb.head
  simp only[V7]
  split
  ·obtain⟨c',h2,h3,h4,h5⟩:=RL xs ys 1 (by simp at hl;omega) ha.tail hb.tail ⟨by omega,by omega⟩
   refine⟨c',h2, ?_,gO.cons (by omega) (by omega) h4,by simp[h5]⟩
   simp only[VX,val,List.length_cons,Int.pow_succ] at h3 ⊢
   rw[←Int.mul_assoc,h3];omega
  ·obtain⟨c',h2,h3,h4,h5⟩:=RL xs ys 0 (by simp at hl;omega) ha.tail hb.tail ⟨by omega,by omega⟩
   refine⟨c',h2, ?_,gO.cons (by omega) (by omega) h4,by simp[h5]⟩
   simp only[VX,val,List.length_cons,Int.pow_succ] at h3 ⊢
   rw[←Int.mul_assoc,h3];omega
theorem ZM {m n:Nat}(hl:(dX m).length≤1000000000000)(h:n≤m):aU (dX m) (dX n)=some (dX (m - n)):=by
 have ha:=Ha m
 have hb:=Ha n
 obtain⟨c',h1,h2,h3,h4⟩:=RL (dX m) (dX n) 0 (V5 h) ha hb ⟨by omega,by omega⟩
 have hv:VX (V7 (dX m) (dX n) 0)=((m - n:Nat):Int):=by
  have h5:=Ac (B:=10) (by omega) h3
  rw[h4] at h5
  change VX _<_ at h5
  rw[JM,JM] at h2
  by_cases hc:c'=0
  ·subst hc;simp at h2;omega
  ·exfalso
   have hp:(0:Int)≤10^(dX m).length:=Int.pow_nonneg (by omega)
   have h8:1*(10:Int)^(dX m).length≤c'*10^(dX m).length:=Int.mul_le_mul_of_nonneg_right (by omega) hp
   rw[Int.one_mul] at h8
   omega
 have:=abA ha hb hl (dX m).length 0 0 [] (by omega) rfl ⟨by omega,by omega⟩
 simp only[Int.natCast_zero,List.drop_zero,List.nil_append] at this
 rw[sW,mT,this,JS (by omega),bS,TF h3,hv,Int.toNat_natCast]
theorem aeK {m n:Nat}{s:Bool}(hm:(dX m).length≤1000000000000)(hn:(dX n).length≤1000000000000):
  ((iD (dX m) (dX n)).bind fun r5=>(al s r5).bind fun r6=>some r6)=some (fL (if s then -((m:Int)+n) else (m:Int)+n)):=by
 obtain⟨r,e1,e2,e3,e4⟩:=ajo (Ha m) (Ha n) hm hn
 rw[e1,bS,wI e3 (by omega),bS,e2,JM,JM]
theorem TR {m n:Nat}{s:Bool}(hm:(dX m).length≤1000000000000)(h:n≤m):
  ((aU (dX m) (dX n)).bind fun r5=>(al s r5).bind fun r6=>some r6)=some (fL (if s then -((m:Int) - n) else (m:Int) - n)):=by
 have:=V5 (show m - n≤m by omega)
 rw[ZM hm h,bS,wI (Ha _) (by omega),bS,JM]
 have:((m - n:Nat):Int)=(m:Int) - n:=by omega
 rw[this]
theorem ZN {x y:Int}(hx:Bd x)(hy:Bd y):gw (fL x) (fL y)=some (fL (x+y)):=by
 have hlx:=L0 x
 have hly:=L0 y
 rw[B7,vM,Bg hx,bS,Bg hy,bS]
 unfold Bd at hx hy
 -- Kh P8 way
 have P8:((ao (fL x)).bind fun r3=>(ao (fL y)).bind fun r4=>
   bif (r3.1==r4.1) then
    (iD r3.2 r4.2).bind fun r5=>(al r3.1 r5).bind fun r6=>some r6
   else
    (c8 r3.2 r4.2).bind fun r7=>
    bif (decide (r7<(0:Int))) then
     (aU r4.2 r3.2).bind fun r8=>(al r4.1 r8).bind fun r9=>some r9
    else
     (aU r3.2 r4.2).bind fun Np=>(al r3.1 Np).bind fun r11=>some r11)=some (fL (x+y)):=by
  rw[lY hx,bS,lY hy,bS]
  simp only
  by_cases hs:(x<0↔y<0)
  ·have:(decide (x<0)==decide (y<0))=true:=beq_iff_eq.2 (decide_eq_decide.2 hs)
   rw[this,cT,aeK (by omega) (by omega)]
   congr 2
   by_cases h:x<0
   ·rw[decide_eq_true h,if_pos rfl];omega
   ·rw[decide_eq_false h,if_neg (by simp)];omega
  ·have:(decide (x<0)==decide (y<0))=false:=by simpa using hs
   rw[this,cF,OL (by omega) (by omega),bS]
   by_cases hc:x.natAbs<y.natAbs
   ·rw[aq (M9.2 (by omega)),TR (by omega) (by omega)]
    congr 2
    by_cases h:y<0
    ·rw[decide_eq_true h,if_pos rfl];omega
    ·rw[decide_eq_false h,if_neg (by simp)];omega
   ·rw[ak (fun e=>by have:=M9.1 e;omega),TR (by omega) (by omega)]
    congr 2
    by_cases h:x<0
    ·rw[decide_eq_true h,if_pos rfl];omega
    ·rw[decide_eq_false h,if_neg (by simp)];omega
 by_cases h1:nd x≤9
 ·rw[if_pos h1]
  simp only[cT]
  by_cases h2:nd y≤9
  ·rw[if_pos h2]
   simp only[cT]
   have b1:=(jS x 9 (by omega)).1 h1
   have b2:=(jS y 9 (by omega)).1 h2
   rw[i64_in _ (by omega),lZ (by omega) (by omega),bS]
  ·rw[if_neg h2]
   simp only[cF]
   exact P8
 ·rw[if_neg h1]
  simp only[cF]
  exact P8
theorem Xz {x:Int}(hx:Bd x):df (fL x)=some (fL (-x)):=by
 have hlx:=L0 x
 rw[vE,o9,lY hx,bS]
 unfold Bd at hx
 rw[wI (Ha _) (by omega),bS,JM]
 congr 2
 by_cases h:x<0
 ·rw[decide_eq_true h,if_neg (by simp)];omega
 ·rw[decide_eq_false h,if_pos (by rfl)];omega
theorem aeL {x y:Int}(hx:Bd x)(hy:Bd y):jR (fL x) (fL y)=some (fL (x - y)):=by
 rw[Ap,tI,Xz hy,bS,ZN hx (by unfold Bd at*;rw[TH];exact hy),bS]
 rfl
theorem OM {x:Int}(hx:Bd x):gq (fL x)=some (fL x.natAbs):=by
 have hlx:=L0 x
 rw[vL,pg,lY hx,bS]
 unfold Bd at hx
 rw[wI (Ha _) (by omega),bS,JM]
 rfl
theorem JU {x y:Int}(hx:Bd x)(hy:Bd y):bF (fL x) (fL y)=some (lW x y):=by
 have hlx:=L0 x
 have hly:=L0 y
 rw[wY,qz,lY hx,bS,lY hy,bS]
 unfold Bd at hx hy
 simp only
 rw[OL (by omega) (by omega),OL (by omega) (by omega),bS,bS]
 rcases (show x<y∨x=y∨y<x by omega) with h |h |h
 all_goals
  by_cases h1:x<0<;>by_cases h2:y<0
  all_goals simp only[h1,h2,decide_true,decide_false,beq_self_eq_true,Bool.not_true,Bool.not_false,cT,cF,show (true==false)=false from rfl,show (false==true)=false from rfl,Option.some.injEq]
  all_goals unfold lW
  all_goals (repeat' split)<;>omega
def pmL:List Int→Int→List Int→List Int
 | [],x,os=>os
 |y::ys,x,o::os=>(o+x*y)::pmL ys x os
 |_::_,_,[]=>[]
def ptL:List Int→List Int→List Int→List Int
 | [],b,o=>o
 |x::xs,b,o=>match pmL b x o with
  | []=>[]
  |h::t=>h::ptL xs b t
def Q0:List Int→List Int
 | []=>[]
 | [o]=>[o]
 |o::p::r=>o % 10::Q0 ((p+o / 10)::r)
termination_by l=>l.length
theorem Nf:∀(b:List Int) (x:Int) (o:List Int),b.length≤o.length→(pmL b x o).length=o.length
 | [],x,o,h=>by simp[pmL]
 |y::ys,x,[],h=>by simp at h
 |y::ys,x,o::os,h=>by simp only[pmL,List.length_cons];rw[Nf ys x os (by simpa using h)]
theorem acY:∀(b:List Int) (x:Int) (o:List Int),b.length≤o.length→VX (pmL b x o)=VX o+x*VX b
 | [],x,o,h=>by simp[pmL,VX,val]
 |y::ys,x,[],h=>by simp at h
 |y::ys,x,o::os,h=>by
  have ih:=acY ys x os (by simpa using h)
  simp only[pmL,VX,val] at ih ⊢
  have e:x*(y+10*val 10 ys)=x*y+10*(x*val 10 ys):=by rw[Int.mul_add,Int.mul_left_comm]
  rw[ih,e];omega
def Dh (M:Int)(l:List Int):Prop:=∀x∈l,0≤x∧x≤M
theorem Dh.mono {M M':Int}{l:List Int}(h:Dh M l)(hM:M≤M'):Dh M' l:=fun x hx=>by have:=h x hx;omega
theorem Dh.getD {M:Int}{l:List Int}(h:Dh M l)(hM:0≤M)(k:Nat):0≤l.getD k 0∧l.getD k 0≤M:=by
 by_cases hk:k<l.length
 ·have:l.getD k 0=l[k]:=by simp[List.getD,hk]
  rw[this];exact h _ (List.getElem_mem hk)
 ·rw[getD_none (by omega)];omega
theorem Dh.take {M:Int}{l:List Int}(h:Dh M l)(k:Nat):Dh M (l.take k):=fun x hx=>h x (List.mem_of_mem_take hx)
theorem Dh.drop {M:Int}{l:List Int}(h:Dh M l)(k:Nat):Dh M (l.drop k):=fun x hx=>h x (List.mem_of_mem_drop hx)
theorem Dh.append {M:Int}{l m:List Int}(h:Dh M l)(h':Dh M m):Dh M (l++m):=fun x hx=>by
 rcases List.mem_append.1 hx with hx |hx
 ·exact h x hx
 ·exact h' x hx
theorem ZO {M x:Int}(hx:0≤x∧x≤9):∀(b o:List Int),DX b→Dh M o→Dh (M+81) (pmL b x o)
 | [],o,hb,ho=>ho.mono (by omega)
 |y::ys,[],hb,ho=>fun z hz=>by cases hz
 |y::ys,o::os,hb,ho=>by
  have hy:=hb.head
  have h1:=Int.mul_nonneg hx.1 hy.1
  have h2:x*y≤9*y:=Int.mul_le_mul_of_nonneg_right hx.2 hy.1
  have h3:=ho o (by simp)
  have ih:=ZO hx ys os hb.tail (fun z hz=>ho z (by simp[hz]))
  intro z hz
  simp only[pmL,List.mem_cons] at hz
  rcases hz with rfl |hz
  ·omega
  ·exact ih z hz
theorem XA {p q:Bool}{x y:List Int}{i:Nat}(hy:DX y)(hx:0≤x.getD i 0∧x.getD i 0≤9)(hi:i<x.length)(hlx:x.length≤10000000)(hly:y.length≤10000000):
  ∀(m k:Nat) (M:Int) (out:List Int),m+k=y.length→out.length=x.length+y.length+1→Dh M out→0≤M→M+81*m≤1000000000000000→
  dg p x q y i k out=bq p x q y (i+1) (out.take (i+k)++pmL (y.drop k) (x.getD i 0) (out.drop (i+k))):=by
 intro m
 induction m with
 |zero=>
  intro k M out hk ho hu h0 hM
  rw[nI,kv,ak (by omega),drop_nil (show y.length≤k by omega),i64_in _ (by omega)]
  simp[pmL]
 |succ m ih=>
  intro k M out hk ho hu h0 hM
  have hyk:=hy.getD (by omega) k
  have hok:=hu.getD h0 (i+k)
  have h1:=Int.mul_nonneg hx.1 hyk.1
  have h2:x.getD i 0*y.getD k 0≤9*y.getD k 0:=Int.mul_le_mul_of_nonneg_right hx.2 hyk.1
  have e1:((i:Int)+k).toNat=i+k:=by omega
  have tu:=fun M out=>ih (k+1) M out (by omega)
  simp only[Int.natCast_add,Int.natCast_one] at tu
  rw[nI,kv]
  simp (disch:=omega) only[aq,i64_in,gN,wM,e1,Int.toNat_natCast]
  have je:Dh (M+81) (out.set (i+k) (out.getD (i+k) 0+x.getD i 0*y.getD k 0)):=fun z hz=>by
   rcases List.mem_or_eq_of_mem_set hz with hz |rfl
   ·have:=hu z hz;omega
   ·omega
  rw[tu (M+81) _ (by simp[ho]) je (by omega) (by omega),drop_eq (show k<y.length by omega),drop_eq (show i+k<out.length by omega)]
  simp only[pmL]
  rw[show i+(k+1)=i+k+1 by omega,CZ (by omega),set_drop]
  simp
theorem acZ:∀(a b o:List Int),o.length=a.length+b.length+1→DX a→VX (ptL a b o)=VX o+VX a*VX b∧(ptL a b o).length=o.length
 | [],b,o,hl,ha=>by simp[ptL,VX,val]
 |x::xs,b,o,hl,ha=>by
  have hlen:=Nf b x o (by simp at hl;omega)
  have hval:=acY b x o (by simp at hl;omega)
  simp only[ptL]
  split
  ·rename_i e;rw[e] at hlen;simp at hlen hl;omega
  ·rename_i h t e
   rw[e] at hlen hval
   obtain⟨f1,f2⟩:=acZ xs b t (by simp at hl hlen;omega) ha.tail
   refine⟨?_,by simp[f2] at hlen ⊢;omega⟩
   simp only[VX,val] at hval f1 ⊢
   rw[f1,Int.add_mul,Int.mul_assoc]
   omega
theorem XB {p q:Bool}{x y:List Int}(hxd:DX x)(hy:DX y)(hlx:x.length≤10000000)(hly:y.length≤10000000):
  ∀(m i:Nat) (out:List Int),m+i=x.length→out.length=x.length+y.length+1→Dh (81*i) out→
  ∃o',bq p x q y i out=cA p q 0 o'∧o'=out.take i++ptL (x.drop i) y (out.drop i)∧Dh 1000000000000 o':=by
 intro m
 induction m with
 |zero=>
  intro i out hi ho hu
  refine⟨out, ?_, ?_,hu.mono (by omega)⟩
  ·rw[nH,ku,ak (by omega)]
  ·rw[drop_nil (show x.length≤i by omega)];simp[ptL]
 |succ m ih=>
  intro i out hi ho hu
  have hx:=hxd.getD (by omega) i
  have hI:=XA (p:=p) (q:=q) (i:=i) hy ⟨hx.1,by omega⟩ (by omega) hlx hly y.length 0 (81*i) out (by omega) ho hu (by omega) (by omega)
  simp only[Int.natCast_zero,Nat.add_zero,List.drop_zero] at hI
  rw[nH,ku,aq (by omega),hI]
  have tu:=fun out=>ih (i+1) out (by omega)
  simp only[Int.natCast_add,Int.natCast_one] at tu
  have ahw:=Nf y (x.getD i 0) (out.drop i) (by rw[List.length_drop];omega)
  have hup:Dh (81*((i:Int)+1)) (out.take i++pmL y (x.getD i 0) (out.drop i)):=((hu.take i).mono (by omega)).append ((ZO ⟨hx.1,by omega⟩ y (out.drop i) hy (hu.drop i)).mono (by omega))
  obtain⟨o',e1,e2,e3⟩:=tu (out.take i++pmL y (x.getD i 0) (out.drop i)) (by rw[List.length_append,ahw,List.length_take,List.length_drop];omega) hup
  refine⟨o',e1, ?_,e3⟩
  rw[e2,drop_eq (show i<x.length by omega)]
  simp only[ptL]
  cases hp:pmL y (x.getD i 0) (out.drop i) with
  |nil=>rw[hp] at ahw;simp at ahw;omega
  |cons h t=>
   have htl:(out.take i).length=i:=by simp;omega
   have h7:(out.take i++h::t).drop (i+1)=t:=by
    rw[List.drop_append,htl]
    have:(out.take i).drop (i+1)=[]:=drop_nil (by omega)
    rw[this];simp
   have h8:(out.take i++h::t).take (i+1)=out.take i++[h]:=by
    rw[List.take_append,htl]
    have:(out.take i).take (i+1)=out.take i:=List.take_of_length_le (by omega)
    rw[this];simp
   rw[h7,h8];simp
theorem ac0 (o:Int):Q0 [o]=[o]:=by rw[Q0]
theorem ac1 (o p:Int)(r:List Int):Q0 (o::p::r)=o % 10::Q0 ((p+o / 10)::r):=by rw[Q0]
theorem ac2:∀(n:Nat) (l:List Int),l.length=n→(∀x∈l,0≤x)→VX (Q0 l)=VX l∧(Q0 l).length=l.length∧(∀x∈Q0 l,0≤x)∧DX (Q0 l).dropLast
 |0,l,hl,h=>by
  have:l=[]:=List.length_eq_zero_iff.1 hl
  subst this
  rw[Q0];exact⟨rfl,rfl,h,gO.nil⟩
 |1,l,hl,h=>by
  obtain⟨o,rfl⟩:∃o,l=[o]:=by
   cases l with
   |nil=>cases hl
   |cons o r=>exact⟨o,by have:r=[]:=List.length_eq_zero_iff.1 (by simpa using hl);rw[this]⟩
  rw[ac0];exact⟨rfl,rfl,h,gO.nil⟩
 |n+2,l,hl,h=>by
  match l,hl,h with
  |o::q::r,hl,h=>
   have h1:=h o (by simp)
   have h2:=h q (by simp)
   obtain⟨e1,e2,e3,e4⟩:=ac2 (n+1) ((q+o / 10)::r) (by simpa using hl) (fun x hx=>by
    rcases List.mem_cons.1 hx with rfl |hx
    ·omega
    ·exact h x (by simp[hx]))
   rw[ac1]
   refine⟨?_,by simp[e2], ?_, ?_⟩
   ·simp only[VX,val] at e1 ⊢
    rw[e1];omega
   ·intro x hx
    rcases List.mem_cons.1 hx with rfl |hx
    ·omega
    ·exact e3 x hx
   ·have hne:Q0 ((q+o / 10)::r)≠ []:=fun e=>by rw[e] at e2;simp at e2
    rw[List.dropLast_cons_of_ne_nil hne]
    exact gO.cons (by omega) (by omega) e4
theorem XC {p q:Bool}:∀(n:Nat) (A l:List Int),l.length=n+1→(A++l).length≤100000000→(∀x∈l,0≤x)→(∀x∈l.tail,x≤1000000000000)→l.getD 0 0≤2000000000000→
  cA p q A.length (A++l)=(al (!(p==q)) (A++Q0 l)).bind fun r=>some r:=by
 intro n
 induction n with
 |zero=>
  intro A l hl hlen h0 h1 h2
  obtain⟨o,rfl⟩:∃o,l=[o]:=by
   cases l with
   |nil=>cases hl
   |cons o r=>exact⟨o,by have:r=[]:=List.length_eq_zero_iff.1 (by simpa using hl);rw[this]⟩
  have af8:(A++[o]).length=A.length+1:=by simp
  rw[nJ,ky,i64_in _ (by omega),ak (by omega),ac0]
 |succ n ih=>
  intro A l hl hlen h0 h1 h2
  match l,hl,hlen,h0,h1,h2 with
  |o::t::r,hl,hlen,h0,h1,h2=>
   have ho:=h0 o (by simp)
   have ht:=h0 t (by simp)
   have ht1:=h1 t (by simp)
   have ho1:o≤2000000000000:=h2
   have af8:(A++o::t::r).length=A.length+r.length+2:=by simp;omega
   have e1:((A.length:Int)+1).toNat=A.length+1:=by omega
   have g0:(A++o::t::r).getD A.length 0=o:=by simp[List.getD]
   have g1:(A++o::t::r).getD (A.length+1) 0=t:=by
    rw[List.getD,List.getElem?_append_right (by omega),show A.length+1 - A.length=1 by omega];rfl
   have s1:∀z,(A++o::t::r).set (A.length+1) z=A++o::z::r:=fun z=>by
    rw[List.set_append_right _ _ (by omega),show A.length+1 - A.length=1 by omega];rfl
   have s2:∀z w,(A++o::z::r).set A.length w=A++w::z::r:=fun z w=>by
    rw[List.set_append_right _ _ (by omega),show A.length - A.length=0 by omega];rfl
   have Zi:∀z,(A++o::z::r).length=A.length+r.length+2:=fun z=>by simp;omega
   have g2:∀z,(A++o::z::r).getD A.length 0=o:=fun z=>by simp[List.getD]
   rw[nJ,ky]
   simp (disch:=omega) only[i64_in,aq,gN,wM,e1,g0,g1,s1,Int.toNat_natCast,mu,bD]
   have hl2:=Zi (t+o / 10)
   simp (disch:=omega) only[gN,wM,g2,s2,Int.toNat_natCast,bD]
   have:=ih (A++[o % 10]) ((t+o / 10)::r) (by simpa using hl) (by simp at hlen ⊢;omega) (fun x hx=>by
    rcases List.mem_cons.1 hx with rfl |hx
    ·omega
    ·exact h0 x (by simp[hx])) (fun x hx=>h1 x (by simp at hx ⊢;exact .inr hx)) (by show t+o / 10≤_;omega)
   have e3:((A++[o % 10]).length:Int)=(A.length:Int)+1:=by simp
   rw[e3] at this
   simp only[List.append_assoc,List.singleton_append] at this
   rw[ac1]
   exact this
theorem ZP {m n:Nat}{s t:Bool}(hm:(dX m).length≤10000000)(hn:(dX n).length≤10000000):
  bq s (dX m) t (dX n) 0 (List.replicate ((dX m).length+(dX n).length+1) 0)=some (fL (if s=t then (m:Int)*n else -((m:Int)*n))):=by
 have hdm:=Ha m
 have hdn:=Ha n
 obtain⟨o',e1,e2,e3⟩:=XB (p:=s) (q:=t) hdm hdn hm hn (dX m).length 0 (List.replicate ((dX m).length+(dX n).length+1) 0) (by omega) (by simp) (fun x hx=>by
  obtain⟨_,rfl⟩:=List.mem_replicate.1 hx;omega)
 simp only[Int.natCast_zero,List.take_zero,List.nil_append,List.drop_zero] at e1 e2
 obtain⟨v1,v2⟩:=acZ (dX m) (dX n) (List.replicate ((dX m).length+(dX n).length+1) 0) (by simp) hdm
 rw[←e2,List.length_replicate] at v2
 rw[←e2,JM,JM] at v1
 simp only[VX,LU,Int.zero_add] at v1
 have hnn:∀x∈o',0≤x:=fun x hx=>(e3 x hx).1
 obtain⟨c1,c2,c3,c4⟩:=ac2 _ o' rfl hnn
 have hc:=XC (p:=s) (q:=t) ((dX m).length+(dX n).length) [] o' (by omega) (by simp;omega) hnn (fun x hx=>(e3 x (List.mem_of_mem_tail hx)).2) (by have:=(e3.getD (by omega) 0).2;omega)
 simp only[List.nil_append,List.length_nil,Int.natCast_zero] at hc
 rw[e1,hc]
 -- Kh last entry is a digit,too
 have hne:Q0 o'≠ []:=fun e=>by rw[e] at c2;simp at c2;omega
 have P5:Q0 o'=(Q0 o').dropLast++[(Q0 o').getLast hne]:=(List.dropLast_concat_getLast hne).symm
 have hvs:VX (Q0 o')=VX (Q0 o').dropLast+10^(Q0 o').dropLast.length*(Q0 o').getLast hne:=by
  conv=>lhs;rw[P5]
  rw[VX,fj];simp[val]
 have Xu:(Q0 o').dropLast.length=(dX m).length+(dX n).length:=by rw[List.length_dropLast,c2,v2];omega
 have anS:=Ko c4
 have anY:=c3 _ (List.getLast_mem hne)
 have alJ:(Q0 o').getLast hne<10:=by
  by_cases hcc:(Q0 o').getLast hne<10
  ·exact hcc
  ·exfalso
   have h1:=(aK (B:=10) (by omega) (dX m).length m).1 (Nat.le_refl _)
   have h2:=(aK (B:=10) (by omega) (dX n).length n).1 (Nat.le_refl _)
   have h3:m*n<10^(dX m).length*10^(dX n).length:=Nat.mul_lt_mul'' h1 h2
   rw[←Nat.pow_add] at h3
   have h4:((m*n:Nat):Int)<((10^((dX m).length+(dX n).length):Nat):Int):=Int.ofNat_lt.2 h3
   rw[Hb,Int.natCast_mul] at h4
   have h5:(10:Int)^((dX m).length+(dX n).length)*1≤10^((dX m).length+(dX n).length)*(Q0 o').getLast hne:=Int.mul_le_mul_of_nonneg_left (by omega) (Int.pow_nonneg (by omega))
   rw[Xu] at hvs
   rw[c1] at hvs
   change VX o'=_ at v1
   omega
 have hD:DX (Q0 o'):=by
  rw[P5]
  exact c4.append (gO.cons anY alJ gO.nil)
 rw[wI hD (by rw[c2,v2];omega),bS,c1]
 change VX o'=_ at v1
 rw[v1]
 congr 2
 cases s<;>cases t<;>simp
theorem V8 {x y:Int}(hx:Bd x)(hy:Bd y):fz (fL x) (fL y)=some (fL (x*y)):=by
 have hlx:=L0 x
 have hly:=L0 y
 rw[Am,tF,Bg hx,bS,Bg hy,bS]
 unfold Bd at hx hy
 have P8:((ao (fL x)).bind fun r3=>(ao (fL y)).bind fun r4=>
   bif (ir 8 (IntKind.wrap .i64 ((IntKind.wrap .i64 ((r3.2.length:Int)+(r4.2.length:Int)))+(1:Int))) (IntKind.wrap .i64 ((IntKind.wrap .i64 ((r3.2.length:Int)+(r4.2.length:Int)))+(1:Int)))) then
   bq r3.1 r3.2 r4.1 r4.2 (0:Int) (List.replicate (IntKind.wrap .i64 ((IntKind.wrap .i64 ((r3.2.length:Int)+(r4.2.length:Int)))+(1:Int))).toNat (0:Int))
   else none)=some (fL (x*y)):=by
  rw[lY hx,bS,lY hy,bS]
  simp only
  simp (disch:=omega) only[i64_in,OE]
  have e1:(((dX x.natAbs).length:Int)+(dX y.natAbs).length+1).toNat=(dX x.natAbs).length+(dX y.natAbs).length+1:=by omega
  rw[e1,ZP (by omega) (by omega)]
  congr 2
  by_cases h1:x<0<;>by_cases h2:y<0
  ·have a1:(x.natAbs:Int)= -x:=by omega
   have a2:(y.natAbs:Int)= -y:=by omega
   rw[decide_eq_true h1,decide_eq_true h2,if_pos rfl,a1,a2];simp[Int.neg_mul,Int.mul_neg]
  ·have a1:(x.natAbs:Int)= -x:=by omega
   have a2:(y.natAbs:Int)=y:=by omega
   rw[decide_eq_true h1,decide_eq_false h2,if_neg (by simp),a1,a2];simp[Int.neg_mul,Int.mul_neg]
  ·have a1:(x.natAbs:Int)=x:=by omega
   have a2:(y.natAbs:Int)= -y:=by omega
   rw[decide_eq_false h1,decide_eq_true h2,if_neg (by simp),a1,a2];simp[Int.neg_mul,Int.mul_neg]
  ·have a1:(x.natAbs:Int)=x:=by omega
   have a2:(y.natAbs:Int)=y:=by omega
   rw[decide_eq_false h1,decide_eq_false h2,if_pos rfl,a1,a2]
 by_cases h1:nd x≤9
 ·rw[if_pos h1]
  simp only[cT]
  by_cases h2:nd y≤9
  ·rw[if_pos h2]
   simp only[cT]
   have b1:=(jS x 9 (by omega)).1 h1
   have b2:=(jS y 9 (by omega)).1 h2
   have b3:(x*y).natAbs<10^9*10^9:=by rw[Int.natAbs_mul];exact Nat.mul_lt_mul'' b1 b2
   rw[i64_in _ (by omega),lZ (by omega) (by omega),bS]
  ·rw[if_neg h2]
   simp only[cF]
   exact P8
 ·rw[if_neg h1]
  simp only[cF]
  exact P8
end Go.Proofs.YtofjebmoebhiiaaGreatDoor.Ev
namespace Go.Abs
theorem ahx {x y:Int}(hy:y≠0){Q R:Int}(hQ:Q=((x.natAbs / y.natAbs:Nat):Int))(hR:R=((x.natAbs % y.natAbs:Nat):Int)):
  (x.fdiv y=if (x<0↔y<0) then Q else if R=0 then -Q else -Q - 1)∧
  (x.fmod y=if (x<0↔y<0) then (if x<0 then -R else R) else if R=0 then 0 else (if x<0 then -R else R)+y):=by
 have hdm:=Nat.div_add_mod x.natAbs y.natAbs
 have hlt:=Nat.mod_lt x.natAbs (show y.natAbs>0 by omega)
 obtain⟨A,hA⟩:∃A,A=x.natAbs:=⟨_,rfl⟩
 obtain⟨B,hB⟩:∃B,B=y.natAbs:=⟨_,rfl⟩
 rw[←hA, ←hB] at hdm hlt hQ hR
 have atq:(B:Int)*Q+R=A:=by rw[hQ,hR, ←Int.natCast_mul, ←Int.natCast_add,hdm]
 have hR0:0≤R:=by rw[hR];exact Int.natCast_nonneg _
 have hRB:R<B:=by rw[hR];exact Int.ofNat_lt.2 hlt
 by_cases h1:x<0<;>by_cases h2:y<0
 ·have hx':x= -(A:Int):=by omega
  have hy':y= -(B:Int):=by omega
  have hu:=(Int.fdiv_fmod_unique' (a:=x) (b:=y) (r:= -R) (q:=Q) h2).2 ⟨by rw[hx',hy',Int.neg_mul];omega,by omega,by omega⟩
  rw[hu.1,hu.2]
  simp[h1,h2]
 ·have hx':x= -(A:Int):=by omega
  have hy':y=(B:Int):=by omega
  by_cases hz:R=0
  ·have hu:=(Int.fdiv_fmod_unique (a:=x) (b:=y) (r:= -R) (q:= -Q) (by omega)).2 ⟨by rw[hx',hy',Int.mul_neg];omega,by omega,by omega⟩
   rw[hu.1,hu.2]
   simp[h1,h2,hz]
  ·have hu:=(Int.fdiv_fmod_unique (a:=x) (b:=y) (r:= -R+y) (q:= -Q - 1) (by omega)).2 ⟨by rw[hx',hy',Int.mul_sub,Int.mul_neg];omega,by omega,by omega⟩
   rw[hu.1,hu.2]
   simp[h1,h2,hz]
 ·have hx':x=(A:Int):=by omega
  have hy':y= -(B:Int):=by omega
  by_cases hz:R=0
  ·have hu:=(Int.fdiv_fmod_unique' (a:=x) (b:=y) (r:=R) (q:= -Q) (by omega)).2 ⟨by rw[hx',hy',Int.neg_mul_neg];omega,by omega,by omega⟩
   rw[hu.1,hu.2]
   simp[h1,h2,hz]
  ·have hu:=(Int.fdiv_fmod_unique' (a:=x) (b:=y) (r:=R+y) (q:= -Q - 1) (by omega)).2 ⟨by rw[hx',hy',Int.mul_sub,Int.neg_mul_neg];omega,by omega,by omega⟩
   rw[hu.1,hu.2]
   simp[h1,h2,hz]
 ·have hx':x=(A:Int):=by omega
  have hy':y=(B:Int):=by omega
  have hu:=(Int.fdiv_fmod_unique (a:=x) (b:=y) (r:=R) (q:=Q) (by omega)).2 ⟨by rw[hx',hy'];omega,by omega,by omega⟩
  rw[hu.1,hu.2]
  simp[h1,h2]
end Go.Abs
namespace Go.Proofs.YtofjebmoebhiiaaGreatDoor.Ev
open Go.Abs Go.IntWalk
section
variable {b:ByteArray}{p s:Bool}
theorem anZ {x:List Int}{B:Nat}(hB:0<B)(hBl:(dX B).length≤10000000){i:Int}{q:List Int}(hq:q.length≤10000000):∀(S k:Nat),(dX S).length≤10000001→k+S / B≤1000→
  b8 b p x s (dX B) (dX S) i k q=bh b p x s (dX B) (dX (S % B)) (IntKind.wrap .i64 (i - 1)) (q++[((k+S / B:Nat):Int)]):=by
 intro S
 induction S using Nat.strongRecOn with
 |ind S ih=>
  intro k hS hk
  rw[rM,lU,OL (by omega) (by omega),bS]
  by_cases h:B≤S
  ·have hc:lW (S:Int) B≥0:=by
    by_cases hh:lW (S:Int) B≥0
    ·exact hh
    ·have:=M9.1 (show lW (S:Int) B<0 by omega)
     omega
   have e1:=Nat.mod_eq_sub_mod h
   have e2:S / B=(S - B) / B+1:=Nat.div_eq_sub_div hB h
   obtain⟨D,hD⟩:∃D,(S - B) / B=D:=⟨_,rfl⟩
   rw[e2,hD] at hk
   rw[tb hc,ZM (by omega) h,bS,i64_in _ (by omega)]
   have:=ih (S - B) (by omega) (k+1) (by have:=V5 (show S - B≤S by omega);omega) (by rw[hD];omega)
   simp only[Int.natCast_add,Int.natCast_one] at this
   rw[this, ←e1,e2]
   congr 3
   omega
  ·have hc:¬lW (S:Int) B≥0:=by rw[mv (by omega)];omega
   rw[qS hc,jb (by omega) (by omega),Nat.mod_eq_of_lt (by omega),Nat.div_eq_of_lt (by omega),Nat.add_zero]
theorem an0 {x:List Int}(hx:DX x){B:Nat}(hB:0<B)(hBl:(dX B).length≤10000000)(hxl:x.length≤10000000):∀(k:Nat) (R:Nat) (q:List Int),k≤x.length→R<B→q.length+k≤10000000→DX q→
  VX (x.drop k)=B*VX q.reverse+R→
  ∃q' R',bh b p x s (dX B) (dX R) ((k:Int) - 1) q=aF b p s (dX R') 0 q'∧R'<B∧DX q'∧VX x=B*VX q'.reverse+R'∧q'.length≤10000000:=by
 intro k
 induction k with
 |zero=>
  intro R q hk hR hql hq hv
  refine⟨q,R, ?_,hR,hq,by simpa using hv,by omega⟩
  rw[kT,ig,qS (by omega)]
 |succ k ih=>
  intro R q hk hR hql hq hv
  have hxk:=hx.getD (by omega) k
  have hRl:=V5 (show R≤B by omega)
  have e:((k+1:Nat):Int) - 1=k:=by omega
  obtain⟨c,hc⟩:=Int.eq_ofNat_of_zero_le hxk.1
  rw[hc] at hxk
  have hDc:DX ([(c:Int)]++dX R):=(gO.cons hxk.1 hxk.2 gO.nil).append (Ha R)
  have hVc:VX ([(c:Int)]++dX R)=((c+10*R:Nat):Int):=by
   have:=JM R
   simp only[VX,List.singleton_append,val] at this ⊢
   rw[this];omega
  have hlen:(dX (c+10*R)).length≤10000001:=by
   have h1:=Bc ([(c:Int)]++dX R)
   rw[TF hDc,hVc,Int.toNat_natCast] at h1
   simp at h1
   show (dX (c+10*R)).length≤_
   omega
  have hdiv:(c+10*R) / B<10:=by
   rw[Nat.div_lt_iff_lt_mul hB]
   omega
  have hmod:=Nat.mod_lt (c+10*R) hB
  have hdm:=Nat.div_add_mod (c+10*R) B
  rw[kT,ig,e,tb (by omega),gN (by omega) (by omega),Int.toNat_natCast,hc,jb (by omega) (by omega),JS (by simp;omega),bS,TF hDc,hVc,Int.toNat_natCast]
  have h1:=anZ (b:=b) (p:=p) (s:=s) (x:=x) hB hBl (i:=k) (q:=q) (by omega) (c+10*R) 0 hlen (by omega)
  simp only[Int.natCast_zero,Nat.zero_add] at h1
  rw[h1,i64_in _ (by omega)]
  refine ih _ _ (by omega) hmod (by simp;omega) (hq.append (gO.cons (Int.natCast_nonneg _) (Int.ofNat_lt.2 hdiv) gO.nil)) ?_
  rw[drop_eq (show k<x.length by omega),hc,List.reverse_append,List.reverse_singleton,List.singleton_append]
  simp only[VX,val] at hv ⊢
  rw[hv]
  have h2:((B*((c+10*R) / B)+(c+10*R) % B:Nat):Int)=((c+10*R:Nat):Int):=by rw[hdm]
  rw[Int.natCast_add,Int.natCast_mul] at h2
  have h3:(B:Int)*(((c+10*R) / B:Nat)+10*val 10 q.reverse)=B*((c+10*R) / B:Nat)+10*(B*val 10 q.reverse):=by rw[Int.mul_add,Int.mul_left_comm]
  rw[h3]
  omega
theorem alK {r:List Int}:∀(m:Nat) (M A C:List Int),M.length=m→A.length=C.length→(A++M++C).length≤1000000000→
  aF b p s r A.length (A++M++C)=aF b p s r (((A++M++C).length:Int) / 2) (A++M.reverse++C):=by
 intro m
 induction m using Nat.strongRecOn with
 |ind m ih=>
  intro M A C hm hac hl
  by_cases h:M.length≤1
  ·have hrev:M.reverse=M:=by
    match M,h with
    | [],_=>rfl
    | [x],_=>rfl
    |_::_::_,h=>simp at h
   have:((A++M++C).length:Int) / 2=A.length:=by simp;omega
   rw[hrev,this]
  ·obtain⟨x,M1,rfl⟩:∃x M1,M=x::M1:=by
    cases M with
    |nil=>simp at h
    |cons x M1=>exact⟨x,M1,rfl⟩
   have hne:M1≠ []:=fun e=>by rw[e] at h;simp at h
   obtain⟨M2,y,rfl⟩:∃M2 y,M1=M2++[y]:=⟨M1.dropLast,M1.getLast hne,(List.dropLast_concat_getLast hne).symm⟩
   have hlen:(A++x::(M2++[y])++C).length=A.length+M2.length+2+C.length:=by simp;omega
   rw[hlen] at hl
   have hL:A++x::(M2++[y])++C=A++(x::(M2++(y::C))):=by simp
   have hR:A++(x::(M2++[y])).reverse++C=(A++[y])++M2.reverse++(x::C):=by simp
   have an1:((A++[y])++M2++(x::C)).length=A.length+M2.length+2+C.length:=by simp;omega
   have W0:=ih M2.length (by simp at hm;omega) M2 (A++[y]) (x::C) rfl (by simp;omega) (by omega)
   have e1:((A++[y]).length:Int)=(A.length:Int)+1:=by simp
   rw[e1,an1] at W0
   rw[hlen,hR, ←W0,hL]
   rw[hL] at hlen
   have gx:(A++(x::(M2++(y::C)))).getD A.length 0=x:=by simp[List.getD]
   have gy:(A++(x::(M2++(y::C)))).getD (A.length+M2.length+1) 0=y:=by
    rw[List.getD,List.getElem?_append_right (by omega)]
    have:A.length+M2.length+1 - A.length=M2.length+1:=by omega
    rw[this]
    simp
   have s1:(A++(x::(M2++(y::C)))).set A.length y=A++(y::(M2++(y::C))):=by
    rw[List.set_append_right _ _ (by omega)];simp
   have s2:(A++(y::(M2++(y::C)))).set (A.length+M2.length+1) x=(A++[y])++M2++(x::C):=by
    rw[List.set_append_right _ _ (by omega)]
    have:A.length+M2.length+1 - A.length=M2.length+1:=by omega
    rw[this,List.set_cons_succ,List.set_append_right _ _ (by omega)]
    simp
   have Zi:(A++(y::(M2++(y::C)))).length=A.length+M2.length+2+C.length:=by simp;omega
   have ej:(((A.length+M2.length+2+C.length:Nat):Int) - 1 - A.length).toNat=A.length+M2.length+1:=by omega
   rw[kU,ik]
   simp only[hlen]
   rw[mu (by omega)]
   simp (disch:=omega) only[aq,i64_in,gN,wM,ej,Int.toNat_natCast,gx,gy,s1,s2]
theorem ajp {r q:List Int}(hl:q.length≤1000000000):aF b p s r 0 q=aF b p s r ((q.length:Int) / 2) q.reverse:=by
 have:=alK (b:=b) (p:=p) (s:=s) (r:=r) q.length q [] [] rfl rfl (by simpa using hl)
 simpa using this
end
theorem XD {x y:Int}(hx:Bd x)(hy:Bd y)(hy0:y≠0):dk (fL x) (fL y)=some (fL (x.fdiv y),fL (x.fmod y)):=by
 have hlx:=L0 x
 have hly:=L0 y
 obtain⟨fq,fr⟩:=ahx (x:=x) (y:=y) hy0 rfl rfl
 have hdm:=Nat.div_add_mod x.natAbs y.natAbs
 have hlt:=Nat.mod_lt x.natAbs (show y.natAbs>0 by omega)
 have hbx:=hx
 have hby:=hy
 rw[vK,pf,Bg hx,bS,Bg hy,bS]
 unfold Bd at hx hy
 -- Kh P8 way
 have P8:((ao (fL x)).bind fun r9=>(ao (fL y)).bind fun Np=>
   let Uv:Int:=(IntKind.wrap .i64 ((Np.2.length:Int) - (1:Int)))
   let e12:Int:=(bif decide (Uv>(0:Int)) then Uv else (0:Int))
   let W7:Int:=(bif decide ((IntKind.wrap .i64 ((r9.2.length:Int) - e12))>(0:Int)) then (IntKind.wrap .i64 ((r9.2.length:Int) - e12)) else (0:Int))
   bif (c6 r9.2.length W7 (r9.2.length:Int)) then
   bif (aD 8 1 0 (cut r9.2 W7 (r9.2.length:Int)).length) then
   let e14:List Int:=(([]:List Int)++(cut r9.2 W7 (r9.2.length:Int)))
   (bb e14).bind fun r15=>
   bh (fL y) r9.1 r9.2 Np.1 Np.2 r15 (IntKind.wrap .i64 (W7 - (1:Int))) ([]:List Int)
   else none
   else none)=some (fL (x.fdiv y),fL (x.fmod y)):=by
  rw[lY hbx,bS,lY hby,bS]
  simp only
  obtain⟨LX,hLX⟩:∃LX,LX=(dX x.natAbs).length:=⟨_,rfl⟩
  obtain⟨LY,hLY⟩:∃LY,LY=(dX y.natAbs).length:=⟨_,rfl⟩
  have att:0<LY:=by
   have:(dX y.natAbs).length≠0:=fun e=>by
    have:=(lV (B:=10) (n:=y.natAbs) (by omega)).1 (List.length_eq_zero_iff.1 e)
    omega
   omega
  obtain⟨st,hst⟩:∃st:Nat,st=LX - (LY - 1):=⟨_,rfl⟩
  rw[←hLX, ←hLY]
  have Uv:IntKind.wrap .i64 ((LY:Int) - 1)=((LY - 1:Nat):Int):=by rw[i64_in _ (by omega)];omega
  have e12:(bif decide (((LY - 1:Nat):Int)>0) then ((LY - 1:Nat):Int) else 0)=((LY - 1:Nat):Int):=by
   by_cases h:((LY - 1:Nat):Int)>0
   ·rw[ch h]
   ·rw[cp h];omega
  have W7:(bif decide (IntKind.wrap .i64 ((LX:Int) - ((LY - 1:Nat):Int))>0) then IntKind.wrap .i64 ((LX:Int) - ((LY - 1:Nat):Int)) else 0)=(st:Int):=by
   rw[i64_in _ (by omega)]
   by_cases h:(LX:Int) - ((LY - 1:Nat):Int)>0
   ·rw[ch h];omega
   ·rw[cp h];omega
  have ahy:cut (dX x.natAbs) (st:Int) (LX:Int)=(dX x.natAbs).drop st:=by
   unfold cut
   rw[Int.toNat_natCast,Int.toNat_natCast,hLX,List.take_length]
  simp only[Uv,e12,W7,ahy]
  have Xu:((dX x.natAbs).drop st).length=LX - st:=by rw[List.length_drop,hLX]
  have hDd:=(Ha x.natAbs).drop st
  obtain⟨R0,hR0⟩:=Int.eq_ofNat_of_zero_le (Ko hDd)
  rw[FZ (by omega) (by omega) (by omega),jb (by omega) (by omega),List.nil_append,JS (by omega),bS,TF hDd,hR0,Int.toNat_natCast,i64_in _ (by omega)]
  -- Kh first digits are less apU Kh ajl
  have ap7:R0<y.natAbs:=by
   have h1:VX ((dX x.natAbs).drop st)<10^((dX x.natAbs).drop st).length:=Ac (B:=10) (by omega) hDd
   have h2:=OF (show ((dX x.natAbs).drop st).length≤LY - 1 by omega)
   have h3:=(fK (B:=10) (by omega) (LY - 1) y.natAbs).1 (by show LY - 1<(dX y.natAbs).length;omega)
   have h4:((10^(LY - 1):Nat):Int)≤(y.natAbs:Int):=Int.ofNat_le.2 h3
   rw[Hb] at h4
   omega
  obtain⟨q',R',w1,w2,w3,w4,w5⟩:=an0 (b:=fL y) (p:=decide (x<0)) (s:=decide (y<0)) (Ha x.natAbs) (B:=y.natAbs) (by omega) (by omega) (by omega) st R0 [] (by omega) ap7 (by simp;omega) gO.nil (by rw[hR0];simp[VX,val])
  have hq0:=Ko (show DX q'.reverse from fun z hz=>w3 z (List.mem_reverse.1 hz))
  obtain⟨Q,hQ⟩:=Int.eq_ofNat_of_zero_le hq0
  rw[JM,hQ] at w4
  have hAN:x.natAbs=y.natAbs*Q+R':=by
   have:((y.natAbs*Q+R':Nat):Int)=(y.natAbs:Int)*Q+R':=by rw[Int.natCast_add,Int.natCast_mul]
   omega
  have hq1:x.natAbs / y.natAbs=Q:=by rw[hAN,Nat.mul_add_div (by omega),Nat.div_eq_of_lt w2];omega
  have O8:x.natAbs % y.natAbs=R':=by rw[hAN,Nat.mul_add_mod,Nat.mod_eq_of_lt w2]
  rw[hq1,O8] at fq
  rw[O8] at fr
  have atu:=V5 (show R'≤y.natAbs by omega)
  rw[w1,ajp (by omega),kU,ik]
  have hql:(q'.reverse).length=q'.length:=by simp
  rw[hql,mu (by omega)]
  simp (disch:=omega) only[i64_in,ak]
  have hD':DX q'.reverse:=fun z hz=>w3 z (List.mem_reverse.1 hz)
  rw[wI hD' (by rw[hql];omega),bS,wI (Ha R') (by omega),bS,hQ,JM,anV]
  have ap8:nd (Q:Int)≤100000:=by
   have:Q≤x.natAbs:=by rw[←hq1];exact Nat.div_le_self _ _
   have:=OK (x:=(Q:Int)) (y:=x) (by omega)
   omega
  have an2:nd (R':Int)≤100000:=by
   have:=OK (x:=(R':Int)) (y:=y) (by omega)
   omega
  have b1:Bd 1:=by unfold Bd;rw[JT (by decide)];omega
  by_cases hs:(x<0↔y<0)
  ·have hd:(decide (x<0)==decide (y<0))=true:=beq_iff_eq.2 (decide_eq_decide.2 hs)
   rw[if_pos hs] at fq fr
   rw[hd,Bool.not_true,fq,fr]
   simp only[Bool.false_eq_true,if_false,cF,decide_eq_true_eq]
   cases ((fL (if x<0 then -(R':Int) else (R':Int))).toList==(fL 0).toList)<;>rfl
  ·have hd:(decide (x<0)==decide (y<0))=false:=by
    cases hh:(decide (x<0)==decide (y<0)) with
    |false=>rfl
    |true=>exact absurd (decide_eq_decide.1 (beq_iff_eq.1 hh)) hs
   rw[if_neg hs] at fq fr
   rw[hd,Bool.not_false,fq,fr]
   simp only[if_true,cT,decide_eq_true_eq]
   by_cases hz:R'=0
   ·subst hz
    have:(if x<0 then -((0:Nat):Int) else ((0:Nat):Int))=0:=by split<;>rfl
    rw[this,V3 rfl,Bool.not_true,cF,if_pos (by rfl),if_pos (by rfl)]
   ·have h1:¬(if x<0 then -(R':Int) else (R':Int))=0:=by split<;>omega
    rw[V4 h1,Bool.not_false,cT,if_neg (show ¬((R':Nat):Int)=0 by omega),if_neg (show ¬((R':Nat):Int)=0 by omega),ap3,aeL (by unfold Bd;rw[TH];exact ap8) b1,bS,ZN (by
     unfold Bd
     split
     ·rw[TH];exact an2
     ·exact an2) hby,bS]
 by_cases h1:nd x≤9
 ·rw[if_pos h1]
  simp only[cT]
  by_cases h2:nd y≤9
  ·rw[if_pos h2]
   simp only[cT]
   have c1:=(jS x 9 (by omega)).1 h1
   have c2:=(jS y 9 (by omega)).1 h2
   have ap9:=Nat.div_le_self x.natAbs y.natAbs
   -- truncated an3 by Kh absolute values
   have eq1:x.tdiv y=if (x<0↔y<0) then ((x.natAbs / y.natAbs:Nat):Int) else -((x.natAbs / y.natAbs:Nat):Int):=by
    by_cases a:x<0<;>by_cases b:y<0
    ·have hx':x= -(x.natAbs:Int):=by omega
     have hy':y= -(y.natAbs:Int):=by omega
     rw[if_pos (by simp[a,b])]
     conv=>lhs;rw[hx',hy']
     rw[Int.neg_tdiv,Int.tdiv_neg,Int.neg_neg,mu (by omega),Int.natCast_ediv]
    ·have hx':x= -(x.natAbs:Int):=by omega
     have hy':y=(y.natAbs:Int):=by omega
     rw[if_neg (by simp[a,b])]
     conv=>lhs;rw[hx',hy']
     rw[Int.neg_tdiv,mu (by omega),Int.natCast_ediv]
    ·have hx':x=(x.natAbs:Int):=by omega
     have hy':y= -(y.natAbs:Int):=by omega
     rw[if_neg (by simp[a,b])]
     conv=>lhs;rw[hx',hy']
     rw[Int.tdiv_neg,mu (by omega),Int.natCast_ediv]
    ·have hx':x=(x.natAbs:Int):=by omega
     have hy':y=(y.natAbs:Int):=by omega
     rw[if_pos (by simp[a,b])]
     conv=>lhs;rw[hx',hy']
     rw[mu (by omega),Int.natCast_ediv]
   have eq2:x.tmod y=if x<0 then -((x.natAbs % y.natAbs:Nat):Int) else ((x.natAbs % y.natAbs:Nat):Int):=by
    have key:x.tmod y=x.tmod (y.natAbs:Int):=by
     by_cases b:y<0
     ·have hy':y= -(y.natAbs:Int):=by omega
      conv=>lhs;rw[hy']
      rw[Int.tmod_neg]
     ·have hy':y=(y.natAbs:Int):=by omega
      conv=>lhs;rw[hy']
    rw[key]
    by_cases a:x<0
    ·have hx':x= -(x.natAbs:Int):=by omega
     rw[if_pos a]
     conv=>lhs;rw[hx']
     rw[Int.neg_tmod,bD (by omega),Int.natCast_emod]
    ·have hx':x=(x.natAbs:Int):=by omega
     rw[if_neg a]
     conv=>lhs;rw[hx']
     rw[bD (by omega),Int.natCast_emod]
   obtain⟨Q,hQ⟩:∃Q,Q=x.natAbs / y.natAbs:=⟨_,rfl⟩
   obtain⟨R,hR⟩:∃R,R=x.natAbs % y.natAbs:=⟨_,rfl⟩
   rw[lI hy0,lI hy0,eq1,eq2,fq,fr]
   rw[←hQ, ←hR] at hdm
   rw[←hR] at hlt
   rw[←hQ] at ap9
   rw[←hQ, ←hR]
   clear hQ hR fq fr eq1 eq2
   by_cases hz:R=0
   ·subst hz
    have e0:(if x<0 then -((0:Nat):Int) else ((0:Nat):Int))=0:=by split<;>rfl
    rw[e0,lJ rfl]
    by_cases hs:(x<0↔y<0)
    ·rw[if_pos hs,if_pos hs,if_pos hs,i64_in _ (by omega),lZ (by omega) (by omega),bS,lZ (by omega) (by omega),bS]
    ·rw[if_neg hs,if_neg hs,if_neg hs,if_pos (by rfl),if_pos (by rfl),i64_in _ (by omega),lZ (by omega) (by omega),bS,lZ (by omega) (by omega),bS]
   ·have Yw:¬(if x<0 then -(R:Int) else (R:Int))=0:=by split<;>omega
    rw[A4 Yw]
    have hsg:(decide ((if x<0 then -(R:Int) else (R:Int))<0))=decide (x<0):=decide_eq_decide.2 (by split<;>omega)
    rw[hsg]
    by_cases hs:(x<0↔y<0)
    ·have hd:(decide (x<0)==decide (y<0))=true:=beq_iff_eq.2 (decide_eq_decide.2 hs)
     rw[hd,Bool.not_true,cF,if_pos hs,if_pos hs,if_pos hs,i64_in _ (by omega),lZ (by omega) (by omega),bS,lZ (by split<;>omega) (by split<;>omega),bS]
    ·have hd:(decide (x<0)==decide (y<0))=false:=by
      cases hh:(decide (x<0)==decide (y<0)) with
      |false=>rfl
      |true=>exact absurd (decide_eq_decide.1 (beq_iff_eq.1 hh)) hs
     rw[hd,Bool.not_false,cT,if_neg hs,if_neg hs,if_neg hs,if_neg (show ¬((R:Nat):Int)=0 by omega),if_neg (show ¬((R:Nat):Int)=0 by omega)]
     have w1:IntKind.wrap .i64 (-(Q:Int))= -(Q:Int):=i64_in _ (by omega)
     have w2:IntKind.wrap .i64 (-(Q:Int) - 1)= -(Q:Int) - 1:=i64_in _ (by omega)
     have w3:IntKind.wrap .i64 ((if x<0 then -(R:Int) else (R:Int))+y)=(if x<0 then -(R:Int) else (R:Int))+y:=i64_in _ (by split<;>omega)
     simp only[w1,w2,w3]
     rw[lZ (by omega) (by omega),bS,lZ (by split<;>omega) (by split<;>omega),bS]
  ·rw[if_neg h2]
   simp only[cF]
   exact P8
 ·rw[if_neg h1]
  simp only[cF]
  exact P8
end Go.Proofs.YtofjebmoebhiiaaGreatDoor.Ev
namespace Go.Proofs.YtofjebmoebhiiaaGreatDoor.Ev
open Go.Abs Go.IntWalk
theorem Sm.Bd {z:Int}(h:Sm z):Bd z:=by unfold Sm at h;unfold Go.Abs.Bd;omega
theorem C0 {z:Int}{k:Nat}(h:nd z≤k)(hk:k≤100000):Bd z:=by unfold Bd;omega
theorem ahz {z:Int}(h:z.natAbs<10):Bd z:=C0 (Nat.le_of_eq (JT h)) (by omega)
theorem UK:∀(y x:Nat),Bd x→Bd y→cn (fL x) (fL y)=some (fL ((Nat.gcd x y:Nat):Int)):=by
 intro y
 induction y using Nat.strongRecOn with
 |ind y ih=>
  intro x hx hy
  rw[sV,mR,anV]
  by_cases h:y=0
  ·subst h
   rw[V3 (by rfl),Bool.not_true,cF,Nat.gcd_zero_right]
  ·have e:(x:Int).fmod y=((x % y:Nat):Int):=by rw[Int.fmod_eq_emod_of_nonneg _ (by omega),Int.natCast_emod]
   have hlt:=Nat.mod_lt x (show y>0 by omega)
   rw[V4 (by omega),Bool.not_false,cT,XD hx hy (by omega),bS,e,ih _ hlt y hy (C0 (OK (x:=((x % y:Nat):Int)) (y:=(y:Int)) (by simp;omega)) hy),Nat.gcd_comm y, ←Nat.gcd_rec,Nat.gcd_comm]
theorem ZQ {x y:Int}(hx:Bd x)(hy:Bd y):dK (fL x) (fL y)=some (fL ((Int.gcd x y:Nat):Int)):=by
 rw[w6,qA,OM hx,bS,OM hy,bS,UK y.natAbs x.natAbs (C0 (OK (y:=x) (by simp)) hx) (C0 (OK (y:=y) (by simp)) hy)]
 rfl
section
variable {x y:Int}(hx:Sm x)(hy:Sm y)
include hx hy
end
section
variable {x:Int}(hx:Sm x)
include hx
end
end Go.Proofs.YtofjebmoebhiiaaGreatDoor.Ev
namespace Go.Proofs.YtofjebmoebhiiaaGreatDoor.Ev
open Go.Abs Go.IntWalk
def fs:List Int→Option Nat
 | []=>none
 |x::r=>if x=47 then some 0 else (fs r).map (· +1)
theorem akw:∀{l:List Int} {k:Nat},fs l=some k→k<l.length
 |x::r,k,h=>by
  simp only[fs] at h
  split at h
  ·cases h;simp
  ·cases hr:fs r with
   |none=>rw[hr] at h;cases h
   |some j=>rw[hr] at h;cases h;have:=akw hr;simp;omega
theorem ac3:∀(l:List UInt8) (i:Nat),Ux 47 i l=match fs (l.map fun b=>(b.toNat:Int)) with
  |none=> -1
  |some k=>((i+k:Nat):Int)
 | [],i=>rfl
 |x::r,i=>by
  simp only[Ux,List.map_cons,fs]
  by_cases h:(x.toNat:Int)=47
  ·rw[acP h,cT,if_pos h];rfl
  ·rw[JL h,cF,if_neg h,ac3 r (i+1)]
   cases fs (r.map fun b=>(b.toNat:Int)) with
   |none=>rfl
   |some k=>show ((i+1+k:Nat):Int)=((i+(k+1):Nat):Int);congr 1;omega
theorem XE (s:ByteArray):eS s 47=some (match fs (bytesOf s) with
  |none=> -1
  |some k=>((k:Nat):Int)):=by
 have h:eS s 47=(bif decide ((0:Int)≤47)&&decide ((47:Int)<256) then some (Ux 47 0 s.data.toList) else none):=GI T B (Go.Abs.look fns) 165 (s,47)
 rw[h]
 have e:(decide ((0:Int)≤47)&&decide ((47:Int)<256))=true:=rfl
 rw[e,cT,ac3]
 unfold bytesOf
 cases fs (s.data.toList.map fun b=>(b.toNat:Int)) with
 |none=>rfl
 |some k=>simp
theorem alL:bytesOf (bs [47])=[47]:=rfl
theorem ahA {s:ByteArray}(hs:s.size≤100000):uk s (bs [47])=some (match fs (bytesOf s) with
  |none=>(s,ByteArray.empty,false)
  |some k=>(s.extract 0 k,s.extract (k+1) s.size,true)):=by
 have hi:iM s (bs [47])=some (match fs (bytesOf s) with
  |none=> -1
  |some k=>((k:Nat):Int)):=by
  rw[y7,se]
  have e1:((bs [47]).size:Int)=1:=rfl
  rw[e1,gz (by omega),TE, ]
  by_cases hq:bs [47]=s
  ·subst hq
   rw[decide_eq_true rfl,cT,alL]
   rfl
  ·rw[decide_eq_false hq,cF,lH rfl]
   have e2:zE (bs [47]) 0=some 47:=rfl
   rw[e2,bS,XE,bS]
 rw[Jb,EC,B1,vC,hi,bS]
 cases hf:fs (bytesOf s) with
 |none=>simp only;rw[qS (by omega),bS]
 |some k=>
  have hk:=akw hf
  rw[aL] at hk
  simp only
  have e1:((bs [47]).size:Int)=1:=rfl
  rw[e1,tb (by omega),FZ (by omega) (by omega) (by omega),i64_in _ (by omega),FZ (by omega) (by omega) (by omega),bS]
  have e2:((k:Int)+1).toNat=k+1:=by omega
  have e3:((k:Int)).toNat=k:=by omega
  have e4:((s.size:Int)).toNat=s.size:=by omega
  rw[e2,e3,e4]
  rfl
theorem abB {s:ByteArray}(hs:s.size≤100000):∀(m i:Nat),m+i=s.size→de s i=some (match fs ((bytesOf s).drop i) with
  |none=>(s,bs [49],false)
  |some k=>(s.extract 0 (i+k),s.extract (i+k+1) s.size,true)):=by
 intro m
 induction m with
 |zero=>
  intro i hi
  have hl:=aL s
  rw[nO,kD,ak (by omega),List.drop_eq_nil_of_le (by omega)]
  rfl
 |succ m ih=>
  intro i hi
  have hl:=aL s
  have hd:(bytesOf s).drop i=(bytesOf s).getD i 0::(bytesOf s).drop (i+1):=drop_eq (by omega)
  rw[nO,kD,aq (by omega),yF,gN (by omega) (by omega),hd]
  have e0:((i:Int)).toNat=i:=by omega
  simp only[e0,fs]
  by_cases hc:(bytesOf s).getD i 0=47
  ·rw[lH hc,FZ (by omega) (by omega) (by omega),i64_in _ (by omega),FZ (by omega) (by omega) (by omega),if_pos hc]
   have e2:((i:Int)+1).toNat=i+1:=by omega
   have e4:((s.size:Int)).toNat=s.size:=by omega
   rw[e2,e4]
   rfl
  ·have e1:(i:Int)+1=((i+1:Nat):Int):=by omega
   rw[gz hc,i64_in _ (by omega),e1,ih (i+1) (by omega),if_neg hc]
   cases fs ((bytesOf s).drop (i+1)) with
   |none=>rfl
   |some k=>
    show some (s.extract 0 (i+1+k),s.extract (i+1+k+1) s.size,true)=some (s.extract 0 (i+(k+1)),s.extract (i+(k+1)+1) s.size,true)
    have e:i+1+k=i+(k+1):=by omega
    rw[e]
theorem TS {s:ByteArray}(hs:s.size≤100000):cG s=some (match fs (bytesOf s) with
  |none=>(s,bs [49],false)
  |some k=>(s.extract 0 k,s.extract (k+1) s.size,true)):=by
 rw[Ar,tK]
 have:=abB hs s.size 0 (by omega)
 simp only[List.drop_zero,Nat.zero_add] at this
 exact this
theorem u5 {s:ByteArray}(h:fU (bytesOf s)=true):s=fL (numOf (bytesOf s)):=jH (by rw[dn];exact TG h)
theorem TT (z:Int):fU (bytesOf (fL z))=true:=by rw[dn];exact(QY z).1
theorem Ks (z:Int):numOf (bytesOf (fL z))=z:=by rw[dn];exact(QY z).2
theorem wJ (z:Int):nd z≤(fL z).size:=by rw[Zt];omega
theorem Ec (z:Int):Ln z≤nd z:=by
 rw[F2]
 have h1:1≤nd z:=by
  have:=qU z.natAbs
  unfold nd;omega
 have h:=(jS z (nd z) h1).1 (Nat.le_refl _)
 exact Nat.lt_of_lt_of_le h (Nat.pow_le_pow_left (by omega) _)
inductive Rt:ByteArray→Int→Int→Prop
 |whole (n:Int):Rt (fL n) n 1
 |UL {s:ByteArray} {k:Nat} {n d:Int} (hk:fs (bytesOf s)=some k) (h1:s.extract 0 k=fL n) (h2:s.extract (k+1) s.size=fL d) (hn:n≠0) (hd:2≤d) (hg:Int.gcd n d=1):Rt s n d
def u6 (s:ByteArray):Bool:=match fs (bytesOf s) with
 |none=>fU (bytesOf s)
 |some k=>fU (bytesOf (s.extract 0 k))&&fU (bytesOf (s.extract (k+1) s.size))&& !(numOf (bytesOf (s.extract 0 k))==0)&&decide (2≤numOf (bytesOf (s.extract (k+1) s.size)))&&(Int.gcd (numOf (bytesOf (s.extract 0 k))) (numOf (bytesOf (s.extract (k+1) s.size)))==1)
theorem aeM {l:List Int}(h:∀x∈l,x≠47):fs l=none:=by
 induction l with
 |nil=>rfl
 |cons x r ih=>simp only[fs];rw[if_neg (h x (by simp)),ih fun y hy=>h y (by simp[hy])];rfl
theorem XF (z:Int):fs (bytesOf (fL z))=none:=by
 rw[dn]
 refine aeM fun x hx=> ?_
 unfold qT at hx
 rcases List.mem_append.1 hx with hx |hx
 ·split at hx
  ·simp at hx;omega
  ·cases hx
 ·have:=oI _ x hx;omega
theorem nc {s:ByteArray}:u6 s=true↔∃n d,Rt s n d:=by
 constructor
 ·intro h
  unfold u6 at h
  cases hf:fs (bytesOf s) with
  |none=>
   rw[hf] at h
   exact⟨numOf (bytesOf s),1,by have:=Rt.whole (numOf (bytesOf s));rw[←u5 h] at this;exact this⟩
  |some k=>
   rw[hf] at h
   simp only[Bool.and_eq_true,decide_eq_true_eq,Bool.not_eq_true',beq_eq_false_iff_ne,beq_iff_eq] at h
   obtain⟨⟨⟨⟨h1,h2⟩,h3⟩,h4⟩,h5⟩:=h
   exact⟨_,_,Rt.UL hf (u5 h1) (u5 h2) h3 h4 h5⟩
 ·rintro ⟨n,d,h⟩
  unfold u6
  cases h with
  |whole=>rw[XF];exact TT _
  |UL hk h1 h2 hn hd hg=>
   rw[hk]
   simp only[h1,h2,TT,Ks,hg,Bool.and_eq_true,decide_eq_true_eq,Bool.not_eq_true',beq_eq_false_iff_ne,beq_iff_eq]
   exact⟨⟨⟨⟨trivial,trivial⟩,hn⟩,hd⟩,trivial⟩
theorem extract_size (s:ByteArray)(a b:Nat):(s.extract a b).size≤s.size:=by
 rw[ByteArray.size_extract];omega
theorem Rt.bounds {s:ByteArray}{n d:Int}(h:Rt s n d)(hs:s.size≤1000):nd n≤1000∧nd d≤1000∧0<d:=by
 cases h with
 |whole=>exact⟨by have:=wJ n;omega,by have:=JT (x:=1) (by decide);omega,by omega⟩
 |UL hk h1 h2 hn hd hg=>
  refine⟨?_, ?_,by omega⟩
  ·have e1:=wJ n;rw[←h1] at e1;exact Nat.le_trans e1 (Nat.le_trans (extract_size s _ _) hs)
  ·have e1:=wJ d;rw[←h2] at e1;exact Nat.le_trans e1 (Nat.le_trans (extract_size s _ _) hs)
def jd (s:ByteArray):Int×Int:=match fs (bytesOf s) with
 |none=>(numOf (bytesOf s),1)
 |some k=>(numOf (bytesOf (s.extract 0 k)),numOf (bytesOf (s.extract (k+1) s.size)))
theorem Rt.val {s:ByteArray}{n d:Int}(h:Rt s n d):jd s=(n,d):=by
 unfold jd
 cases h with
 |whole=>rw[XF,Ks]
 |UL hk h1 h2 hn hd hg=>rw[hk];simp only[h1,h2,Ks]
abbrev WR (n d:Int):(Bool×List Int×Unit)×(Bool×List Int×Unit)×Unit:=(W n,(W d,()))
theorem aeN:xJ 1=some (W 1):=VT (by omega) (by omega)
theorem aeO:Ln 1≤100000000000:=by have:=Ec 1;have:=JT (x:=1) (by decide);omega
theorem P9 {s:ByteArray}{n d:Int}(hs:s.size≤1000)(h:Rt s n d):gr s=some (WR n d,true):=by
 obtain⟨b1,b2,b3⟩:=h.bounds hs
 have l1:=Ec n
 have l2:=Ec d
 rw[BO,yn,ahA (by omega),bS]
 cases h with
 |whole=>
  rw[XF]
  simp only
  rw[uY (by omega),TT,cT,bS,Ks]
  simp only
  rw[Bool.not_true,cF,Bool.not_false,cT,aeN,bS]
 |UL hk h1 h2 hn hd hg=>
  rw[hk]
  simp only
  rw[h1,uY (by have:=wJ n;rw[←h1] at this ⊢;exact Nat.le_trans (extract_size s _ _) (by omega)),TT,cT,bS,Ks]
  simp only
  rw[Bool.not_true,cF,cF,h2,uY (by rw[←h2];exact Nat.le_trans (extract_size s _ _) (by omega)),TT,cT,bS,Ks]
  simp only
  rw[Bool.not_true,cF,wF,wG,bS]
  have hs0:¬abi n=0:=by unfold abi;split<;>(try split)<;>omega
  rw[gz hs0,aeN,bS]
  simp only[wF]
  rw[jT (by omega) aeO,bS,oH (by omega),QX (by omega),F5 (by omega) (by omega),bS,hg,bS]
  simp only[wF]
  have e1:((1:Nat):Int)=1:=rfl
  rw[e1,jT aeO aeO,bS,wD rfl,lJ rfl]
theorem V9 {s:ByteArray}(hs:s.size≤1000)(h:u6 s=false):∃j,gr s=some (j,false):=by
 rw[BO,yn,ahA (by omega),bS]
 unfold u6 at h
 cases hf:fs (bytesOf s) with
 |none=>
  rw[hf] at h
  simp only at h ⊢
  rw[uY (by omega),h,cF,bS]
  simp only
  rw[Bool.not_false,cT,aeN,bS]
  exact⟨_,rfl⟩
 |some k=>
  rw[hf] at h
  simp only at h ⊢
  have q1:=extract_size s 0 k
  have q2:=extract_size s (k+1) s.size
  rw[uY (by omega)]
  by_cases o1:fU (bytesOf (s.extract 0 k))=true
  ·rw[o1,cT,bS]
   simp only
   rw[Bool.not_true,cF,cF,uY (by omega)]
   by_cases o2:fU (bytesOf (s.extract (k+1) s.size))=true
   ·rw[o2,cT,bS]
    simp only
    have s1:=u5 o1
    have s2:=u5 o2
    rw[o1,o2] at h
    generalize numOf (bytesOf (s.extract 0 k))=n at h s1 ⊢
    generalize numOf (bytesOf (s.extract (k+1) s.size))=d at h s2 ⊢
    have b1:=wJ n
    have b2:=wJ d
    rw[←s1] at b1
    rw[←s2] at b2
    have l1:=Ec n
    have l2:=Ec d
    rw[Bool.not_true,cF,wF,wG,bS]
    by_cases hn:n=0
    ·rw[lH (by subst hn;rfl)];exact⟨_,rfl⟩
    ·have hs0:¬abi n=0:=by unfold abi;split<;>(try split)<;>omega
     rw[gz hs0,aeN,bS]
     simp only[wF]
     rw[jT (by omega) aeO,bS]
     by_cases hd:2≤d
     ·rw[oH (by omega),QX (by omega),F5 (by omega) (by omega),bS,bS]
      simp only[wF]
      have hg:¬Int.gcd n d=1:=fun e=>by
       rw[JL hn,e,decide_eq_true hd] at h
       cases h
      have lg:Ln ((Int.gcd n d:Nat):Int)≤Ln n:=aji (by
       have h1:Int.gcd n d ∣ n.natAbs:=Nat.gcd_dvd_left _ _
       simp only[Int.natAbs_natCast]
       exact Nat.le_of_dvd (by omega) h1)
      rw[jT (by omega) aeO,bS,A4 (by unfold lW;split<;>(try split)<;>omega)]
      exact⟨_,rfl⟩
     ·rw[LV (by unfold lW;split<;>(try split)<;>omega)];exact⟨_,rfl⟩
   ·have o2':fU (bytesOf (s.extract (k+1) s.size))=false:=by simpa using o2
    rw[o2',cF,bS]
    simp only
    rw[Bool.not_false,cT]
    exact⟨_,rfl⟩
  ·have o1':fU (bytesOf (s.extract 0 k))=false:=by simpa using o1
   rw[o1',cF,bS]
   simp only
   rw[Bool.not_false,cT,aeN,bS]
   exact⟨_,rfl⟩
theorem ajq {n d:Int}(h1:nd n≤1000)(h2:nd d≤1000):mG (WR n d)=some false:=by
 have l1:=Ec n
 have l2:=Ec d
 have e1:V1 n=false:=by unfold V1;exact decide_eq_false (by omega)
 have e2:V1 d=false:=by unfold V1;exact decide_eq_false (by omega)
 rw[DH,xU]
 simp only[wF]
 rw[D9 (by omega),bS,e1,cF,D9 (by omega),bS,e2]
theorem TV {s:ByteArray}(hs:s.size≤1000):ui s=some (u6 s):=by
 rw[Ja,EB,LH,GV]
 cases h:u6 s with
 |true=>
  obtain⟨n,d,hr⟩:=nc.1 h
  obtain⟨b1,b2,b3⟩:=hr.bounds hs
  rw[P9 hs hr,bS]
  simp only
  rw[cT]
  simp only[wF]
  rw[ajq b1 b2,bS,bS]
  rfl
 |false=>
  obtain⟨j,hj⟩:=V9 hs h
  rw[hj,bS]
  simp only
  rw[cF,bS]
theorem abC {n d:Int}(hd:0<d):jC (WR n d)=some (W d):=by
 rw[Fp,zV]
 simp only[wF]
 rw[wG,bS,gz (by unfold abi;split<;>(try split)<;>omega)]
theorem alM {n d m k:Int}(h1:nd n≤1000)(h2:nd d≤1000)(h3:nd m≤1000)(h4:nd k≤1000)(hd:0<d)(hk:0<k):oW (WR n d) (WR m k)=some (lW (n*k) (m*d)):=by
 have l1:=Ec n
 have l2:=Ec d
 have l3:=Ec m
 have l4:=Ec k
 have l5:=ahg n k
 have l6:=ahg m d
 rw[Fk,zP]
 simp only[wF]
 rw[abC hk,bS]
 simp only[wF]
 rw[F3 (by omega) (by omega),bS,abC hd,bS]
 simp only[wF]
 rw[F3 (by omega) (by omega),bS,jT (by omega) (by omega),bS]
theorem Qa {s:ByteArray}{z:Int}(h:fU (bytesOf s)=true)(e:numOf (bytesOf s)=z):s=fL z:=by rw[←e];exact u5 h
theorem ahB:bs [49]=fL 1:=Qa rfl rfl
theorem an4:bs [50]=fL 2:=Qa rfl rfl
theorem alN:bs [48]=fL 0:=Qa rfl rfl
theorem ajr {s:ByteArray}(hs:s.size≤1000):oZ s=some (u6 s):=by
 rw[Fx,z7,TS (by omega),bS]
 unfold u6
 cases hf:fs (bytesOf s) with
 |none=>
  simp only
  rw[P7 (show wH s by unfold wH;omega),bS]
  cases fU (bytesOf s) with
  |true=>rw[Bool.not_true,cF,Bool.not_false,cT]
  |false=>rw[Bool.not_false,cT]
 |some k=>
  have q1:=extract_size s 0 k
  have q2:=extract_size s (k+1) s.size
  simp only
  rw[P7 (show wH (s.extract 0 k) by unfold wH;omega),bS]
  cases o1:fU (bytesOf (s.extract 0 k)) with
  |false=>rw[Bool.not_false,cT];rfl
  |true=>
   rw[Bool.not_true,cF,cF,P7 (show wH (s.extract (k+1) s.size) by unfold wH;omega),bS]
   cases o2:fU (bytesOf (s.extract (k+1) s.size)) with
   |false=>rw[cF];rfl
   |true=>
    have s1:=u5 o1
    have s2:=u5 o2
    have b1:=wJ (numOf (bytesOf (s.extract 0 k)))
    have b2:=wJ (numOf (bytesOf (s.extract (k+1) s.size)))
    rw[←s1] at b1
    rw[←s2] at b2
    rw[cT]
    generalize numOf (bytesOf (s.extract 0 k))=n at s1 b1 ⊢
    generalize numOf (bytesOf (s.extract (k+1) s.size))=d at s2 b2 ⊢
    rw[s1,s2,alN,ahB,an4,Kr]
    by_cases hn:n=0
    ·rw[decide_eq_true hn,Bool.not_true,cF,acP hn]
     simp
    ·rw[decide_eq_false hn,Bool.not_false,cT,JL hn,JU (C0 (k:=1000) (by omega) (by omega)) (ahz (by decide)),bS]
     by_cases hd:2≤d
     ·rw[tb (by unfold lW;split<;>(try split)<;>omega),ZQ (C0 (k:=1000) (by omega) (by omega)) (C0 (k:=1000) (by omega) (by omega)),bS,Kr,decide_eq_true hd]
      congr 1
      simp only[Bool.not_false,Bool.and_true,Bool.true_and]
      rw[Bool.eq_iff_iff,decide_eq_true_eq,beq_iff_eq]
      omega
     ·rw[qS (by rw[mv (by omega)];omega),decide_eq_false hd]
      simp
theorem aeP (l:List Int):(bl l).length≤l.length:=by
 unfold bl;split
 ·rw[List.length_tail];omega
 ·exact Nat.le_refl _
theorem RM {s:ByteArray}(hs:s.size≤1000):iX s=some false:=by
 rw[ahu (show wH s by unfold wH;omega)]
 have:=aeP (bytesOf s)
 rw[aL] at this
 congr 1
 exact decide_eq_false (by omega)
theorem abD {s:ByteArray}(hs:s.size≤1000):kZ s=some false:=by
 rw[B8,vN,TS (by omega),bS]
 cases hf:fs (bytesOf s) with
 |none=>
  simp only
  have e:(bs [49]).size=1:=rfl
  rw[RM hs,bS,cF,RM (by rw[e];omega),bS]
 |some k=>
  have q1:=extract_size s 0 k
  have q2:=extract_size s (k+1) s.size
  simp only
  rw[RM (by omega),bS,cF,RM (by omega),bS]
theorem Ng {s:ByteArray}(hs:s.size≤1000):c9 s=some (u6 s):=by
 rw[Aq,tJ,abD hs,bS,Bool.not_false,cT,ajr hs,bS]
theorem Rt.split {s:ByteArray}{n d:Int}(h:Rt s n d)(hs:s.size≤1000):∃b,cG s=some (fL n,fL d,b):=by
 rw[TS (by omega)]
 cases h with
 |whole=>rw[XF];exact⟨false,by simp only;rw[ahB]⟩
 |UL hk h1 h2 hn hd hg=>rw[hk];exact⟨true,by simp only[h1,h2]⟩
theorem Rt.ahC {s:ByteArray}{n d:Int}(h:Rt s n d):(s.toList==(bs [105,110,102]).toList)=false:=by
 rw[TE]
 refine decide_eq_false fun e=> ?_
 have h2:=nc.2 ⟨n,d,h⟩
 rw[e] at h2
 exact absurd h2 (by decide)
theorem ON {a b:ByteArray}{n d m k:Int}(h:Rt a n d)(g:Rt b m k)(ha:a.size≤1000)(hb:b.size≤1000):aX a b=some (lW (n*k) (m*d)):=by
 obtain⟨a1,a2,a3⟩:=h.bounds ha
 obtain⟨b1,b2,b3⟩:=g.bounds hb
 obtain⟨x,hx⟩:=h.split ha
 obtain⟨y,hy⟩:=g.split hb
 have p1:=aht n k
 have p2:=aht m d
 rw[w7,qD,h.ahC,cF,cF,g.ahC,cF,hx,bS,hy,bS]
 simp only
 rw[ahB,Kr,Kr]
 have P8:((fz (fL n) (fL k)).bind fun r12=>(fz (fL m) (fL d)).bind fun r13=>(bF r12 r13).bind fun r14=>some r14)=some (lW (n*k) (m*d)):=by
  rw[V8 (C0 (k:=1000) (by omega) (by omega)) (C0 (k:=1000) (by omega) (by omega)),bS,V8 (C0 (k:=1000) (by omega) (by omega)) (C0 (k:=1000) (by omega) (by omega)),bS,JU (C0 (k:=3000) (by omega) (by omega)) (C0 (k:=3000) (by omega) (by omega)),bS]
 by_cases h1:d=1
 ·rw[decide_eq_true h1,cT]
  by_cases h2:k=1
  ·rw[decide_eq_true h2,cT,JU (C0 (k:=1000) (by omega) (by omega)) (C0 (k:=1000) (by omega) (by omega)),bS,h1,h2,Int.mul_one,Int.mul_one]
  ·rw[decide_eq_false h2,cF];exact P8
 ·rw[decide_eq_false h1,cF];exact P8
end Go.Proofs.YtofjebmoebhiiaaGreatDoor.Ev
namespace Go.Abs
abbrev Tm:=Int×Int×Unit
abbrev Tr2:=Int×(Int×Int×Unit)×Unit
theorem ZR {α:Type}{a:α}{r:List α}:idx (a::r) 0=some a:=rfl
theorem aeQ {α:Type}{a:α}{r:List α}{n:Int}(h:n=((a::r).length:Int)):cut (a::r) 1 n=r:=by
 subst h;simp[cut]
theorem cV {α:Type}(d:α){l:List α}{k:Nat}(h:k<l.length):l.drop k=l.getD k d::l.drop (k+1):=by
 rw[List.drop_eq_getElem_cons h]
 simp[List.getD,h]
theorem ac4 {α β:Type}(d:α){xs:List α}{i:Int}{f:α→Option β}(h0:0≤i)(h:i<xs.length):(idx xs i).bind f=f (xs.getD i.toNat d):=by
 rw[acQ d h0 h];exact bS _ _
theorem dD {α β:Type}(d:α){xs:List α}{k:Nat}{f:α→Option β}(h:k<xs.length):(idx xs (k:Int)).bind f=f (xs.getD k d):=by
 rw[acQ d (by omega) (by omega),Int.toNat_natCast];exact bS _ _
def cf:List Tm→Int→Int
 | [],_=>0
 |t::r,i=>if t.1=i then t.2.1 else cf r i
theorem ER (i:Int):cf [] i=0:=rfl
theorem qg (t:Tm)(r:List Tm)(i:Int):cf (t::r) i=if t.1=i then t.2.1 else cf r i:=rfl
def Sr:Int→List Tm→Prop
 |_,[]=>True
 |lo,t::r=>lo<t.1∧Sr t.1 r
theorem Sr.mono {lo lo':Int}{l:List Tm}(h:Sr lo l)(g:lo'≤lo):Sr lo' l:=by
 cases l with
 |nil=>trivial
 |cons t r=>exact⟨by have:=h.1;omega,h.2⟩
theorem Sr.cf0:∀{l:List Tm} {lo i:Int},Sr lo l→i≤lo→cf l i=0
 | [],lo,i,h,hi=>rfl
 |t::r,lo,i,h,hi=>by
  have h1:=h.1
  rw[cf,if_neg (by omega)]
  exact Sr.cf0 h.2 (by omega)
theorem Sr.mem:∀{l:List Tm} {lo:Int},Sr lo l→∀t∈l,lo<t.1
 |u::r,lo,h,t,ht=>by
  rcases List.mem_cons.1 ht with rfl |ht
  ·exact h.1
  ·have:=Sr.mem h.2 t ht;have:=h.1;omega
structure Vc (p n:Int) (l:List Tm):Prop where
 s:Sr (-1) l
 r:∀t∈l,t.1<n∧1≤t.2.1∧t.2.1<p
def Cp (p:Int)(l:List Tm):Prop:=∀t∈l,1≤t.2.1∧t.2.1<p
theorem Vc.c {p n:Int}{l:List Tm}(h:Vc p n l):Cp p l:=fun t ht=>(h.r t ht).2
theorem Vc.nil {p n:Int}:Vc p n []:=⟨trivial,fun t ht=>by cases ht⟩
theorem Vc.mono {p n m:Int}{l:List Tm}(h:Vc p n l)(g:n≤m):Vc p m l:=⟨h.s,fun t ht=>by have:=h.r t ht;omega⟩
theorem JV {p:Int}(hp:0<p):∀{l:List Tm},Cp p l→∀i,0≤cf l i∧cf l i<p
 | [],h,i=>⟨by simp[cf],by simpa [cf] using hp⟩
 |t::r,h,i=>by
  have h1:=h t (by simp)
  have h2:=JV hp (l:=r) (fun u hu=>h u (by simp[hu])) i
  rw[cf];split
  ·omega
  ·exact h2
theorem TW:∀{l:List Tm} {lo:Int},Sr lo l→∀t∈l,cf l t.1=t.2.1
 |u::r,lo,h,t,ht=>by
  rcases List.mem_cons.1 ht with rfl |ht
  ·rw[cf,if_pos rfl]
  ·have:=Sr.mem h.2 t ht
   rw[cf,if_neg (by omega)]
   exact TW h.2 t ht
theorem Wa:∀{l:List Tm} {i:Int},cf l i≠0→∃t∈l,t.1=i
 | [],i,h=>by simp[cf] at h
 |t::r,i,h=>by
  rw[cf] at h
  split at h
  ·rename_i e;exact⟨t,by simp,e⟩
  ·obtain⟨u,hu,e⟩:=Wa h;exact⟨u,by simp[hu],e⟩
theorem Sr.ext:∀{a b:List Tm} {lo p:Int},Sr lo a→Sr lo b→Cp p a→Cp p b→(∀i,cf a i=cf b i)→a=b
 | [],[],_,_,_,_,_,_,_=>rfl
 | [],t::r,lo,p,ha,hb,ca,cb,h=>by
   have:=h t.1;rw[ER,qg,if_pos rfl] at this
   have h1:=cb t (by simp)
   omega
 |t::r,[],lo,p,ha,hb,ca,cb,h=>by
  have:=h t.1;rw[ER,qg,if_pos rfl] at this
  have h1:=ca t (by simp)
  omega
 |t::r,u::s,lo,p,ha,hb,ca,cb,h=>by
  have h1:=ca t (by simp)
  have h2:=cb u (by simp)
  have e:t.1=u.1:=by
   rcases Int.lt_trichotomy t.1 u.1 with hl |hl |hl
   ·have:=h t.1
    rw[cf,if_pos rfl,cf,if_neg (by omega),Sr.cf0 hb.2 (by omega)] at this
    omega
   ·exact hl
   ·have:=h u.1
    rw[cf,if_neg (by omega),Sr.cf0 ha.2 (by omega),cf,if_pos rfl] at this
    omega
  have e2:t.2.1=u.2.1:=by
   have:=h t.1
   rw[cf,if_pos rfl,cf,if_pos e.symm] at this
   exact this
  have e3:r=s:=by
   refine Sr.ext (lo:=t.1) ha.2 (by rw[e];exact hb.2) (fun x hx=>ca x (by simp[hx])) (fun x hx=>cb x (by simp[hx])) fun i=> ?_
   have:=h i
   rw[cf,cf] at this
   by_cases hi:t.1=i
   ·rw[Sr.cf0 ha.2 (by omega),Sr.cf0 hb.2 (by omega)]
   ·rw[if_neg hi,if_neg (by omega)] at this
    exact this
  obtain⟨t1,t2,t3⟩:=t
  obtain⟨u1,u2,u3⟩:=u
  simp only at e e2
  subst e e2 e3
  rfl
def mg:List Tm→List Tm→List Tr2
 | [],[]=>[]
 |a::r,[]=>(a.1,((a.2.1,((0:Int),())),()))::mg r []
 | [],b::s=>(b.1,(((0:Int),(b.2.1,())),()))::mg [] s
 |a::r,b::s=>if a.1<b.1 then (a.1,((a.2.1,((0:Int),())),()))::mg r (b::s)
  else if b.1<a.1 then (b.1,(((0:Int),(b.2.1,())),()))::mg (a::r) s
  else (a.1,((a.2.1,(b.2.1,())),()))::mg r s
termination_by a b=>a.length+b.length
def fl (p k:Int):List Tr2→List Tm
 | []=>[]
 |x::r=>if (x.2.1.1+k*x.2.1.2.1) % p≠0 then (x.1,((x.2.1.1+k*x.2.1.2.1) % p,()))::fl p k r else fl p k r
def C1 (p:Int)(a:List Tm)(k:Int)(b:List Tm):List Tm:=fl p k (mg a b)
theorem OO {p k:Int}{x:Tr2}{r:List Tr2}{lo:Int}(hlo:lo<x.1)(hr:Sr x.1 (fl p k r)):
  Sr lo (fl p k (x::r))∧∀i,cf (fl p k (x::r)) i=if x.1=i then (x.2.1.1+k*x.2.1.2.1) % p else cf (fl p k r) i:=by
 rw[fl]
 split
 ·exact⟨⟨hlo,hr⟩,fun i=>by rw[cf]⟩
 ·rename_i h
  refine⟨hr.mono (by omega),fun i=> ?_⟩
  split
  ·rename_i e;rw[Sr.cf0 hr (by omega)];omega
  ·rfl
theorem ajs {p k:Int}(hp:0<p):∀(a b:List Tm) (lo:Int),Sr lo a→Sr lo b→Cp p a→
  Sr lo (C1 p a k b)∧∀i,cf (C1 p a k b) i=(cf a i+k*cf b i) % p:=by
 intro a b
 induction a,b using mg.induct with
 |case1=>intro lo ha hb ca;exact⟨by unfold C1;rw[mg];trivial,fun i=>by simp[C1,mg,fl,cf]⟩
 |case2 a r ih=>
  intro lo ha hb ca
  obtain⟨h1,h2⟩:=ih a.1 ha.2 trivial fun t ht=>ca t (by simp[ht])
  unfold C1 at h1 h2 ⊢
  rw[mg]
  obtain⟨g1,g2⟩:=OO (p:=p) (k:=k) (x:=(a.1,((a.2.1,((0:Int),())),()))) (lo:=lo) ha.1 h1
  refine⟨g1,fun i=> ?_⟩
  rw[g2,h2,cf]
  simp only[cf,Int.mul_zero,Int.add_zero]
  split<;>rfl
 |case3 b s ih=>
  intro lo ha hb ca
  obtain⟨h1,h2⟩:=ih b.1 trivial hb.2 fun t ht=>ca t ht
  unfold C1 at h1 h2 ⊢
  rw[mg]
  obtain⟨g1,g2⟩:=OO (p:=p) (k:=k) (x:=(b.1,(((0:Int),(b.2.1,())),()))) (lo:=lo) hb.1 h1
  refine⟨g1,fun i=> ?_⟩
  rw[g2,h2]
  simp only[cf,Int.zero_add]
  split<;>rfl
 |case4 a r b s hlt ih=>
  intro lo ha hb ca
  obtain⟨h1,h2⟩:=ih a.1 ha.2 ⟨hlt,hb.2⟩ fun t ht=>ca t (by simp[ht])
  unfold C1 at h1 h2 ⊢
  rw[mg,if_pos hlt]
  obtain⟨g1,g2⟩:=OO (p:=p) (k:=k) (x:=(a.1,((a.2.1,((0:Int),())),()))) (lo:=lo) ha.1 h1
  refine⟨g1,fun i=> ?_⟩
  rw[g2,h2,qg a r i]
  simp only[Int.mul_zero,Int.add_zero]
  split
  ·rename_i e;rw[Sr.cf0 (lo:=a.1) (l:=b::s) ⟨hlt,hb.2⟩ (by omega),Int.mul_zero,Int.add_zero]
  ·rfl
 |case5 a r b s hlt hgt ih=>
  intro lo ha hb ca
  obtain⟨h1,h2⟩:=ih b.1 ⟨hgt,ha.2⟩ hb.2 ca
  unfold C1 at h1 h2 ⊢
  rw[mg,if_neg hlt,if_pos hgt]
  obtain⟨g1,g2⟩:=OO (p:=p) (k:=k) (x:=(b.1,(((0:Int),(b.2.1,())),()))) (lo:=lo) hb.1 h1
  refine⟨g1,fun i=> ?_⟩
  rw[g2,h2,qg b s i]
  simp only[Int.zero_add]
  split
  ·rename_i e;rw[Sr.cf0 (lo:=b.1) (l:=a::r) ⟨hgt,ha.2⟩ (by omega),Int.zero_add]
  ·rfl
 |case6 a r b s hlt hgt ih=>
  intro lo ha hb ca
  have e:a.1=b.1:=by omega
  obtain⟨h1,h2⟩:=ih a.1 ha.2 (by rw[e];exact hb.2) fun t ht=>ca t (by simp[ht])
  unfold C1 at h1 h2 ⊢
  rw[mg,if_neg hlt,if_neg hgt]
  obtain⟨g1,g2⟩:=OO (p:=p) (k:=k) (x:=(a.1,((a.2.1,(b.2.1,())),()))) (lo:=lo) ha.1 h1
  refine⟨g1,fun i=> ?_⟩
  rw[g2,h2,cf,cf, ←e]
  split<;>rfl
theorem abE {p k:Int}(hp:0<p):∀{l:List Tr2} {t:Tm},t∈fl p k l→(1≤t.2.1∧t.2.1<p)∧∃x∈l,x.1=t.1
 |x::r,t,h=>by
  rw[fl] at h
  split at h
  ·rename_i hne
   rcases List.mem_cons.1 h with rfl |h
   ·have h1:=Int.emod_nonneg (x.2.1.1+k*x.2.1.2.1) (show p≠0 by omega)
    have h2:=Int.emod_lt_of_pos (x.2.1.1+k*x.2.1.2.1) hp
    exact⟨⟨by simp only;omega,h2⟩,x,by simp,rfl⟩
   ·obtain⟨h1,y,hy,e⟩:=abE hp h
    exact⟨h1,y,by simp[hy],e⟩
  ·obtain⟨h1,y,hy,e⟩:=abE hp h
   exact⟨h1,y,by simp[hy],e⟩
theorem alO:∀(a b:List Tm) (x:Tr2),x∈mg a b→(∃t∈a,t.1=x.1)∨∃t∈b,t.1=x.1:=by
 intro a b
 induction a,b using mg.induct with
 |case1=>intro x h;rw[mg] at h;cases h
 |case2 a r ih=>
  intro x h
  rw[mg] at h
  rcases List.mem_cons.1 h with rfl |h
  ·exact .inl ⟨a,by simp,rfl⟩
  ·rcases ih x h with ⟨t,ht,e⟩ | ⟨t,ht,e⟩
   ·exact .inl ⟨t,by simp[ht],e⟩
   ·exact .inr ⟨t,ht,e⟩
 |case3 b s ih=>
  intro x h
  rw[mg] at h
  rcases List.mem_cons.1 h with rfl |h
  ·exact .inr ⟨b,by simp,rfl⟩
  ·rcases ih x h with ⟨t,ht,e⟩ | ⟨t,ht,e⟩
   ·exact .inl ⟨t,ht,e⟩
   ·exact .inr ⟨t,by simp[ht],e⟩
 |case4 a r b s hlt ih=>
  intro x h
  rw[mg,if_pos hlt] at h
  rcases List.mem_cons.1 h with rfl |h
  ·exact .inl ⟨a,by simp,rfl⟩
  ·rcases ih x h with ⟨t,ht,e⟩ | ⟨t,ht,e⟩
   ·exact .inl ⟨t,by simp[ht],e⟩
   ·exact .inr ⟨t,ht,e⟩
 |case5 a r b s hlt hgt ih=>
  intro x h
  rw[mg,if_neg hlt,if_pos hgt] at h
  rcases List.mem_cons.1 h with rfl |h
  ·exact .inr ⟨b,by simp,rfl⟩
  ·rcases ih x h with ⟨t,ht,e⟩ | ⟨t,ht,e⟩
   ·exact .inl ⟨t,ht,e⟩
   ·exact .inr ⟨t,by simp[ht],e⟩
 |case6 a r b s hlt hgt ih=>
  intro x h
  rw[mg,if_neg hlt,if_neg hgt] at h
  rcases List.mem_cons.1 h with rfl |h
  ·exact .inl ⟨a,by simp,rfl⟩
  ·rcases ih x h with ⟨t,ht,e⟩ | ⟨t,ht,e⟩
   ·exact .inl ⟨t,by simp[ht],e⟩
   ·exact .inr ⟨t,by simp[ht],e⟩
theorem XG {p k n:Int}(hp:0<p){a b:List Tm}(ha:Vc p n a)(hb:Vc p n b):Vc p n (C1 p a k b)∧∀i,cf (C1 p a k b) i=(cf a i+k*cf b i) % p:=by
 obtain⟨h1,h2⟩:=ajs (k:=k) hp a b (-1) ha.s hb.s ha.c
 refine⟨⟨h1,fun t ht=> ?_⟩,h2⟩
 obtain⟨g1,x,hx,e⟩:=abE hp ht
 refine⟨?_,g1⟩
 rcases alO a b x hx with ⟨u,hu,e'⟩ | ⟨u,hu,e'⟩
 ·have:=(ha.r u hu).1;omega
 ·have:=(hb.r u hu).1;omega
end Go.Abs
namespace Go.Proofs.YtofjebmoebhiiaaGreatDoor.Ev
open Go.Abs Go.IntWalk
theorem F6 {α:Type}(a:α)(r:List α):(((a::r).length:Nat):Int)=(r.length:Int)+1:=by simp
theorem ZS:∀(t t2:List Tm) (trace:List Tr2),dN t t2 trace=some (trace++mg t t2):=by
 intro t t2
 induction t,t2 using mg.induct with
 |case1=>
  intro trace
  rw[dr,cU,List.length_nil,cp (by omega),cp (by omega),mg,List.append_nil]
 |case2 a r ih=>
  intro trace
  rw[dr,cU,List.length_nil,F6]
  rw[ch (by omega),lH (by omega),ZR,bS,bS,FZ (by omega) (by omega) (Int.le_of_eq (F6 _ _).symm),aeQ (F6 _ _).symm,ih,mg,List.append_assoc]
  rfl
 |case3 b s ih=>
  intro trace
  rw[dr,cU,List.length_nil,F6]
  rw[cp (by omega),ch (by omega),gz (by omega),cp (by omega),lH (by omega),ZR,bS,bS,FZ (by omega) (by omega) (Int.le_of_eq (F6 _ _).symm),aeQ (F6 _ _).symm,ih,mg,List.append_assoc]
  rfl
 |case4 a r b s hlt ih=>
  intro trace
  rw[dr,cU,F6,F6]
  rw[ch (by omega),gz (by omega),ch (by omega),ZR,bS,ZR,bS,aq hlt,bS,bS,FZ (by omega) (by omega) (Int.le_of_eq (F6 _ _).symm),aeQ (F6 _ _).symm,ih,mg,if_pos hlt,List.append_assoc]
  rfl
 |case5 a r b s hlt hgt ih=>
  intro trace
  rw[dr,cU,F6,F6]
  rw[ch (by omega),gz (by omega),ch (by omega),ZR,bS,ZR,bS,ak hlt,gz (by omega),bS,bS,aq hgt,bS,bS,FZ (by omega) (by omega) (Int.le_of_eq (F6 _ _).symm),aeQ (F6 _ _).symm,ih,mg,if_neg hlt,if_pos hgt,List.append_assoc]
  rfl
 |case6 a r b s hlt hgt ih=>
  intro trace
  rw[dr,cU,F6,F6]
  rw[ch (by omega),gz (by omega),ch (by omega),ZR,bS,ZR,bS,ak hlt,gz (by omega),bS,bS,ak hgt,bS,bS,bS,FZ (by omega) (by omega) (Int.le_of_eq (F6 _ _).symm),FZ (by omega) (by omega) (Int.le_of_eq (F6 _ _).symm),aeQ (F6 _ _).symm,aeQ (F6 _ _).symm,ih,mg,if_neg hlt,if_neg hgt,List.append_assoc]
  rfl
theorem Qb {p k:Int}(hp:0<p∧p≤251)(hk:0≤k∧k<p):∀(rest:List Tr2) (row:List Tm),(∀x∈rest,(0≤x.2.1.1∧x.2.1.1<p)∧0≤x.2.1.2.1∧x.2.1.2.1<p)→row.length+rest.length≤1000000000→
  iC row p k rest=some (row++fl p k rest)
 | [],row,h,hl=>by
   rw[vw,rA,fl,List.append_nil]
 |x::r,row,h,hl=>by
  obtain⟨⟨h1,h2⟩,h3,h4⟩:=h x (by simp)
  have hm:0≤k*x.2.1.2.1∧k*x.2.1.2.1≤251*251:=⟨Int.mul_nonneg (by omega) (by omega),Int.mul_le_mul (by omega) (by omega) (by omega) (by omega)⟩
  rw[vw,rA]
  simp only
  rw[i64_in (k*x.2.1.2.1) (by omega),i64_in _ (by omega),lI (by omega),bD (by omega),fl]
  by_cases hz:(x.2.1.1+k*x.2.1.2.1) % p=0
  ·rw[lJ hz,if_neg (by omega)]
   exact Qb hp hk r row (fun y hy=>h y (by simp[hy])) (by simp at hl;omega)
  ·rw[A4 hz,if_pos hz,jb (by omega) (by simp at hl;omega),Qb hp hk r _ (fun y hy=>h y (by simp[hy])) (by simp at hl ⊢;omega),List.append_assoc]
   rfl
theorem ahE {p:Int}(hp:0<p):∀(a b:List Tm),Cp p a→Cp p b→∀x∈mg a b,(0≤x.2.1.1∧x.2.1.1<p)∧0≤x.2.1.2.1∧x.2.1.2.1<p:=by
 intro a b
 induction a,b using mg.induct with
 |case1=>intro ha hb x h;rw[mg] at h;cases h
 |case2 a r ih=>
  intro ha hb x h
  rw[mg] at h
  rcases List.mem_cons.1 h with rfl |h
  ·have:=ha a (by simp);simp only;omega
  ·exact ih (fun t ht=>ha t (by simp[ht])) hb x h
 |case3 b s ih=>
  intro ha hb x h
  rw[mg] at h
  rcases List.mem_cons.1 h with rfl |h
  ·have:=hb b (by simp);simp only;omega
  ·exact ih ha (fun t ht=>hb t (by simp[ht])) x h
 |case4 a r b s hlt ih=>
  intro ha hb x h
  rw[mg,if_pos hlt] at h
  rcases List.mem_cons.1 h with rfl |h
  ·have:=ha a (by simp);simp only;omega
  ·exact ih (fun t ht=>ha t (by simp[ht])) hb x h
 |case5 a r b s hlt hgt ih=>
  intro ha hb x h
  rw[mg,if_neg hlt,if_pos hgt] at h
  rcases List.mem_cons.1 h with rfl |h
  ·have:=hb b (by simp);simp only;omega
  ·exact ih ha (fun t ht=>hb t (by simp[ht])) x h
 |case6 a r b s hlt hgt ih=>
  intro ha hb x h
  rw[mg,if_neg hlt,if_neg hgt] at h
  rcases List.mem_cons.1 h with rfl |h
  ·have h1:=ha a (by simp);have h2:=hb b (by simp);simp only;omega
  ·exact ih (fun t ht=>ha t (by simp[ht])) (fun t ht=>hb t (by simp[ht])) x h
theorem aeR:∀(a b:List Tm),(mg a b).length≤a.length+b.length:=by
 intro a b
 induction a,b using mg.induct with
 |case1=>rw[mg];simp
 |case2 a r ih=>rw[mg];simp only[List.length_cons] at ih ⊢;omega
 |case3 b s ih=>rw[mg];simp only[List.length_cons] at ih ⊢;omega
 |case4 a r b s hlt ih=>rw[mg,if_pos hlt];simp only[List.length_cons] at ih ⊢;omega
 |case5 a r b s hlt hgt ih=>rw[mg,if_neg hlt,if_pos hgt];simp only[List.length_cons] at ih ⊢;omega
 |case6 a r b s hlt hgt ih=>rw[mg,if_neg hlt,if_neg hgt];simp only[List.length_cons] at ih ⊢;omega
theorem TX {p k:Int}(hp:0<p∧p≤251)(hk:0≤k∧k<p){a b:List Tm}(ha:Cp p a)(hb:Cp p b)(hl:a.length+b.length≤1000000000):uo p a k b=some (C1 p a k b):=by
 rw[I4,Et,Fh,zN,bS,BL,vx,ZS,bS]
 have:=aeR a b
 rw[List.nil_append,Qb hp hk _ _ (ahE hp.1 a b ha hb) (by simp;omega)]
 rfl
def ob:Option Int→Int→Bool
 |none,_=>false
 |some q,x=>decide (x≤q)
def L3 (p:Int):Option Int→List Tm→Int
 |_,[]=>0
 |q,t::r=>if t.1<0∨t.1≥1024∨t.2.1<1∨t.2.1≥p then 1 else if ob q t.1=true then 6 else L3 p (some t.1) r
abbrev ni:Tm:=(0,(0,()))
def prev (c:List Tm):Nat→Option Int
 |0=>none
 |i+1=>some (c.getD i ni).1
theorem ZT {p:Int}{c:List Tm}(hl:c.length≤1000000000):∀(m i:Nat),m+i=c.length→gu p c c (c.length:Int) i=some (L3 p (prev c i) (c.drop i)):=by
 intro m
 induction m with
 |zero=>intro i hi;rw[tw,qb,ak (by omega),List.drop_eq_nil_of_le (by omega)];rfl
 |succ m ih=>
  intro i hi
  rw[tw,qb,aq (by omega),dD ni (by omega),cV ni (by omega),L3]
  have e1:IntKind.wrap .i64 ((i:Int)+1)=((i+1:Nat):Int):=by rw[i64_in _ (by omega)];omega
  have tu:=ih (i+1) (by omega)
  have ep:prev c (i+1)=some (c.getD i ni).1:=rfl
  rw[ep] at tu
  generalize c.getD i ni=t at tu ⊢
  by_cases h1:t.1<0
  ·rw[aq h1,if_pos (.inl h1)]
  ·rw[ak h1]
   by_cases h2:t.1≥1024
   ·rw[tb h2,if_pos (.inr (.inl h2))]
   ·rw[qS h2]
    by_cases h3:t.2.1<1
    ·rw[aq h3,if_pos (.inr (.inr (.inl h3)))]
    ·rw[ak h3]
     by_cases h4:t.2.1≥p
     ·rw[tb h4,if_pos (.inr (.inr (.inr h4)))]
     ·rw[qS h4,if_neg (by omega),e1,tu]
      cases i with
      |zero=>rw[cp (by omega),if_neg (by intro h;cases h)]
      |succ j=>
       have e2:IntKind.wrap .i64 (((j+1:Nat):Int) - 1)=(j:Int):=by rw[i64_in _ (by omega)];omega
       rw[ch (by omega),e2,dD ni (by omega)]
       by_cases h5:t.1≤(c.getD j ni).1
       ·rw[LV h5,if_pos (show ob (prev c (j+1)) t.1=true from decide_eq_true h5)]
       ·rw[QX h5,if_neg (by intro h;exact h5 (of_decide_eq_true h))]
theorem XI {p:Int}{c:List Tm}(hl:c.length≤1000000000):∀(m i:Nat),m+i=c.length→fx p c i=some (L3 p (prev c i) (c.drop i)):=by
 intro m
 induction m with
 |zero=>intro i hi;rw[uL,oB,ak (by omega),List.drop_eq_nil_of_le (by omega)];rfl
 |succ m ih=>
  intro i hi
  have hb:∀{β:Type} {f:Tm→Option β},(idx c (i:Int)).bind f=f (c.getD i ni):=dD ni (by omega)
  rw[uL,oB,aq (by omega),hb,hb,hb,hb,hb,cV ni (by omega),L3]
  have e1:IntKind.wrap .i64 ((i:Int)+1)=((i+1:Nat):Int):=by rw[i64_in _ (by omega)];omega
  have tu:=ih (i+1) (by omega)
  have ep:prev c (i+1)=some (c.getD i ni).1:=rfl
  rw[ep] at tu
  generalize c.getD i ni=t at tu ⊢
  by_cases h1:t.1<0
  ·rw[aq h1,if_pos (.inl h1)]
  ·rw[ak h1]
   by_cases h2:t.1≥1024
   ·rw[tb h2,if_pos (.inr (.inl h2))]
   ·rw[qS h2]
    by_cases h3:t.2.1<1
    ·rw[aq h3,if_pos (.inr (.inr (.inl h3)))]
    ·rw[ak h3]
     by_cases h4:t.2.1≥p
     ·rw[tb h4,if_pos (.inr (.inr (.inr h4)))]
     ·rw[qS h4,if_neg (by omega),e1,tu]
      cases i with
      |zero=>rw[cp (by omega),if_neg (by intro h;cases h)]
      |succ j=>
       have e2:IntKind.wrap .i64 (((j+1:Nat):Int) - 1)=(j:Int):=by rw[i64_in _ (by omega)];omega
       rw[ch (by omega),e2,dD ni (by omega)]
       by_cases h5:t.1≤(c.getD j ni).1
       ·rw[LV h5,if_pos (show ob (prev c (j+1)) t.1=true from decide_eq_true h5)]
       ·rw[QX h5,if_neg (by intro h;exact h5 (of_decide_eq_true h))]
def TY (p:Int)(c:List Tm):Int:=L3 p none c
theorem abF {p:Int}{c:List Tm}(hl:c.length≤1000000000):p9 p c=some (TY p c):=by
 rw[Jo,AJ]
 exact XI hl c.length 0 (by omega)
theorem ZU {p:Int}:∀{c:List Tm} {q:Option Int},L3 p q c=0→(∀t∈c,0≤t.1∧t.1<1024∧1≤t.2.1∧t.2.1<p)∧Sr (q.getD (-1)) c
 | [],q,h=>⟨fun t ht=>(by cases ht),trivial⟩
 |t::r,q,h=>by
  rw[L3] at h
  split at h
  ·cases h
  ·rename_i h1
   split at h
   ·cases h
   ·rename_i h2
    obtain⟨g1,g2⟩:=ZU h
    refine⟨fun u hu=> ?_, ?_,g2⟩
    ·rcases List.mem_cons.1 hu with rfl |hu
     ·omega
     ·exact g1 u hu
    ·cases q with
     |none=>simp only[Option.getD_none];omega
     |some q=>
      simp only[Option.getD_some]
      have:¬t.1≤q:=fun g=>h2 (decide_eq_true g)
      omega
theorem ZV {p:Int}:∀{c:List Tm} {q:Option Int},(∀t∈c,0≤t.1∧t.1<1024∧1≤t.2.1∧t.2.1<p)→Sr (q.getD (-1)) c→L3 p q c=0
 | [],q,h,g=>rfl
 |t::r,q,h,g=>by
  have h1:=h t (by simp)
  have h2:=g.1
  rw[L3,if_neg (by omega),if_neg (by
   cases q with
   |none=>intro h;cases h
   |some q=>simp only[Option.getD_some] at h2;intro h;have:=of_decide_eq_true h;omega)]
  exact ZV (q:=some t.1) (fun u hu=>h u (by simp[hu])) g.2
theorem F7 {p:Int}{c:List Tm}:TY p c=0↔Vc p 1024 c:=by
 constructor
 ·intro h
  obtain⟨g1,g2⟩:=ZU h
  exact⟨g2,fun t ht=>by have:=g1 t ht;omega⟩
 ·intro h
  refine ZV (fun t ht=> ?_) h.s
  have h1:=h.r t ht
  have h2:=Sr.mem h.s t ht
  omega
end Go.Proofs.YtofjebmoebhiiaaGreatDoor.Ev
namespace Go.Proofs.YtofjebmoebhiiaaGreatDoor.Ev
open Go.Abs Go.IntWalk
def prB (p:Nat):Bool:=Nat.ble 2 p&&Nat.ble p 251&&(List.range 14).all fun d=> !(p % (d+2)==0)||p==d+2
def Pr (p:Int):Prop:=2≤p∧p≤251∧prB p.toNat=true
instance (p:Int):Decidable (Pr p):=by unfold Pr;infer_instance
theorem ac5 {α:Type}{f g:Nat→α}{n:Nat}(h:(List.range n).map f=(List.range n).map g){i:Nat}(hi:i<n):f i=g i:=by
 have:=congrArg (fun l=>l[i]?) h
 simpa [hi] using this
theorem ZW:(List.range 250).map (fun i=>wm 400 ((i+2:Nat):Int))=(List.range 250).map fun i=>some (prB (i+2)):=by kernel_rfl
theorem XJ:(List.range 250).map (fun i=>ua 400 ((i+2:Nat):Int))=(List.range 250).map fun i=>some (prB (i+2)):=by kernel_rfl
theorem ahF {i:Nat}(hi:i<250):decide (Pr ((i+2:Nat):Int))=prB (i+2):=by
 rw[Bool.eq_iff_iff,decide_eq_true_eq]
 unfold Pr
 rw[Int.toNat_natCast]
 exact⟨fun h=>h.2.2,fun h=>⟨by omega,by omega,h⟩⟩
theorem abG {p:Int}(hp:p≤1∨251<p):∀(m t:Nat),m+t=16→jA p t=some false:=by
 intro m
 induction m with
 |zero=>
  intro t ht
  rw[xO,ti,ak (by omega)]
  rcases hp with h |h
  ·rw[cp (by omega)]
  ·rw[ch (by omega),ag9 (by omega)]
 |succ m ih=>
  intro t ht
  have e1:IntKind.wrap .i64 ((t:Int)+1)=((t+1:Nat):Int):=by rw[i64_in _ (by omega)];omega
  rw[xO,ti,aq (by omega),e1,ih (t+1) (by omega)]
  by_cases h:(t:Int)>1
  ·rw[ch h,lI (by omega)]
   cases (p.tmod t==0)<;>cases (p != (t:Int))<;>rfl
  ·rw[cp h]
theorem ES (p:Int):lO p=some (decide (Pr p)):=by
 by_cases h:2≤p∧p≤251
 ·obtain⟨i,hi⟩:=Int.eq_ofNat_of_zero_le (show 0≤p - 2 by omega)
  have e:p=((i+2:Nat):Int):=by omega
  subst e
  have:=ac5 ZW (show i<250 by omega)
  rw[yA] at this
  rw[this,ahF (by omega)]
 ·have hf:decide (Pr p)=false:=decide_eq_false fun g=>h ⟨g.1,g.2.1⟩
  rw[LD,GO,hf]
  exact abG (by omega) 16 0 rfl
theorem Wb (p:Int):ed p=some (decide (Pr p)):=by
 by_cases h:2≤p∧p≤251
 ·obtain⟨i,hi⟩:=Int.eq_ofNat_of_zero_le (show 0≤p - 2 by omega)
  have e:p=((i+2:Nat):Int):=by omega
  subst e
  have:=ac5 XJ (show i<250 by omega)
  rw[AL] at this
  rw[this,ahF (by omega)]
 ·have hf:decide (Pr p)=false:=decide_eq_false fun g=>h ⟨g.1,g.2.1⟩
  rw[AG,tZ,hf,wb,pL]
  by_cases h1:2<p
  ·rw[aq h1,QX (by omega),tb (by omega),ag9 (by omega)]
  ·rw[ak h1,qS (by omega)]
theorem ajt {p a:Int}(hp:2≤p∧p≤251):dW p a=some (a % p):=by
 have h1:=Int.tmod_lt_of_pos a (show 0<p by omega)
 have h2:=Int.lt_tmod_of_pos a (show 0<p by omega)
 rw[BM,vy,lI (by omega),lI (by omega),i64_in _ (by omega),bD (by omega),Int.add_emod_right]
 congr 1
 rw[Int.tmod_def,Int.sub_mul_emod_self_left]
theorem ZX {p:Int}(hp:Pr p)(a:Int):sI p a=some (a % p):=by
 rw[QG,Ms,Tj,PH,ES,bS,decide_eq_true hp,Bool.not_true,cF,bS,lJ rfl,ajt ⟨hp.1,hp.2.1⟩,bS]
def iv (p a:Int):Int:=((a.toNat^(p.toNat - 2) % p.toNat:Nat):Int)
theorem ahG:((List.range 252).all fun p=> !(prB p)||(List.range p).all fun a=>a==0||a*(a^(p - 2) % p) % p==1)=true:=by kernel_rfl
theorem XK {p a:Int}(hp:Pr p)(ha:1≤a∧a<p):a*iv p a % p=1:=by
 obtain⟨h1,h2,h3⟩:=hp
 have h:=List.all_eq_true.1 ahG p.toNat (List.mem_range.2 (by omega))
 rw[h3,Bool.not_true,Bool.false_or] at h
 have h:=List.all_eq_true.1 h a.toNat (List.mem_range.2 (by omega))
 rw[Bool.or_eq_true] at h
 rcases h with h |h
 ·have:=beq_iff_eq.1 h;omega
 ·have h:=beq_iff_eq.1 h
  unfold iv
  have e1:(a.toNat:Int)=a:=by omega
  have e2:(p.toNat:Int)=p:=by omega
  have h':((a.toNat*(a.toNat^(p.toNat - 2) % p.toNat) % p.toNat:Nat):Int)=1:=by rw[h];rfl
  rw[Int.natCast_emod,Int.natCast_mul,e1,e2] at h'
  exact h'
theorem ZY {p a:Int}(hp:Pr p)(ha:1≤a∧a<p):1≤iv p a∧iv p a<p:=by
 have h:=XK hp ha
 obtain⟨h1,h2,h3⟩:=hp
 have h4:iv p a<p:=by
  unfold iv
  have:=Nat.mod_lt (a.toNat^(p.toNat - 2)) (show 0<p.toNat by omega)
  omega
 have h5:0≤iv p a:=by unfold iv;omega
 refine⟨?_,h4⟩
 by_cases h0:iv p a=0
 ·rw[h0,Int.mul_zero,Int.zero_emod] at h;omega
 ·omega
theorem XL {p a:Int}(hp:2≤p∧p≤251)(ha:1≤a∧a<p){w:Int}(hw:1≤w∧w<p)(hm:a*w % p=1)(hu:∀b,1≤b→b<p→a*b % p=1→b=w):∀(m:Nat) (b:Int),1≤b→b≤w→w - b=m→eQ p a b=some w:=by
 intro m
 induction m with
 |zero=>
  intro b h1 h2 h3
  have:b=w:=by omega
  subst this
  have hb:0≤a*b∧a*b≤251*251:=⟨Int.mul_nonneg (by omega) (by omega),Int.mul_le_mul (by omega) (by omega) (by omega) (by omega)⟩
  rw[s0,mX,aq (by omega),lI (by omega),i64_in _ (by omega),bD (by omega),lH hm]
 |succ m ih=>
  intro b h1 h2 h3
  have hb:0≤a*b∧a*b≤251*251:=⟨Int.mul_nonneg (by omega) (by omega),Int.mul_le_mul (by omega) (by omega) (by omega) (by omega)⟩
  rw[s0,mX,aq (by omega),lI (by omega),i64_in (a*b) (by omega),bD (by omega),gz (fun e=>by have:=hu b h1 (by omega) e;omega),i64_in _ (by omega)]
  exact ih (b+1) (by omega) (by omega) (by omega)
theorem aeS {p a b w:Int}(hp:2≤p)(hb:0≤b∧b<p)(hw:0≤w∧w<p)(h1:a*b % p=1)(h2:a*w % p=1):b=w:=by
 have e1:b*(a*w) % p=b:=by
  rw[Int.mul_emod,h2,Int.mul_one,Int.emod_emod_of_dvd _ (Int.dvd_refl p),Int.emod_eq_of_lt hb.1 hb.2]
 have e2:w*(a*b) % p=w:=by
  rw[Int.mul_emod,h1,Int.mul_one,Int.emod_emod_of_dvd _ (Int.dvd_refl p),Int.emod_eq_of_lt hw.1 hw.2]
 have e3:b*(a*w)=w*(a*b):=by
  rw[←Int.mul_assoc,Int.mul_comm b a,Int.mul_assoc,Int.mul_comm b w, ←Int.mul_assoc,Int.mul_comm a w,Int.mul_assoc]
 rw[←e1,e3,e2]
theorem abH {p a:Int}(hp:Pr p)(ha:1≤a∧a<p):nv p a=some (iv p a):=by
 have hr:=ZY hp ha
 rw[Ib,zh]
 refine XL ⟨hp.1,hp.2.1⟩ ha hr (XK hp ha) (fun b h1 h2 h3=>aeS hp.1 (by omega) (by omega) h3 (XK hp ha)) (iv p a - 1).toNat 1 (by omega) (by omega) (by omega)
theorem Ae {p:Int}(hp:Pr p){c:List Tm}(hl:c.length≤1000000000):lj p c=some (TY p c):=by
 rw[Ht,BJ,ES,bS,decide_eq_true hp,Bool.not_true,cF]
 exact ZT hl c.length 0 (by omega)
theorem UM {p k:Int}(hp:Pr p){a b:List Tm}(ha:Vc p 1024 a)(hb:Vc p 1024 b)(hla:a.length≤100000000)(hlb:b.length≤100000000):iV p a k b=some (C1 p a (k % p) b,0):=by
 have h0:∀{x y:List Tm},([x,y]:List (List Tm)).length=2:=rfl
 rw[LC,GN,BK,vv,h0,kr,iG,aq (by omega)]
 have i0:idx ([a,b]:List (List Tm)) 0=some a:=rfl
 have i1:idx ([a,b]:List (List Tm)) 1=some b:=rfl
 have w1:IntKind.wrap .i64 ((0:Int)+1)=1:=rfl
 have w2:IntKind.wrap .i64 ((1:Int)+1)=2:=rfl
 rw[i0,bS,Ae hp (by omega),bS,F7.2 ha,lJ rfl,w1,kr,iG,aq (by omega),i1,bS,Ae hp (by omega),bS,F7.2 hb,lJ rfl,w2,kr,iG,ak (by omega),bS,lJ rfl,ZX hp,bS]
 have h1:=Int.emod_nonneg k (show p≠0 by have:=hp.1;omega)
 have h2:=Int.emod_lt_of_pos k (show 0<p by have:=hp.1;omega)
 rw[TX ⟨by have:=hp.1;omega,hp.2.1⟩ ⟨h1,h2⟩ ha.c hb.c (by omega),bS]
end Go.Proofs.YtofjebmoebhiiaaGreatDoor.Ev
namespace Go.Abs
abbrev Cl:=Int×ByteArray×List Tm×Unit
abbrev fM:Cl:=(0,(ByteArray.empty,([],())))
theorem oR {l:List Int}{k j:Nat}{v:Int}:(l.set k v).getD j 0=if k=j∧k<l.length then v else l.getD j 0:=by
 simp only[List.getD,List.getElem?_set]
 by_cases h:k=j
 ·subst h
  by_cases hk:k<l.length
  ·simp[hk]
  ·simp[hk]
 ·simp[h]
theorem C2 (n j:Nat):(List.replicate n (0:Int)).getD j 0=0:=by
 simp only[List.getD,List.getElem?_replicate];split<;>rfl
structure Vr (n:Nat) (l:List Tm) (v:List Int):Prop where
 len:v.length=n
 at_:∀j:Nat,j<n→v.getD j 0=cf l j
def l9 (out:List Int):List Tm→List Int
 | []=>out
 |t::r=>l9 (out.set t.1.toNat t.2.1) r
theorem Nh:∀(l:List Tm) (out:List Int),(l9 out l).length=out.length
 | [],out=>rfl
 |t::r,out=>by rw[l9,Nh r];simp
theorem TZ {p:Int}:∀{l:List Tm} {lo:Int} {out:List Int} {j:Nat},Sr lo l→ -1≤lo→Cp p l→(∀t∈l,t.1<out.length)→(l9 out l).getD j 0=if cf l j=0 then out.getD j 0 else cf l j
 | [],lo,out,j,h,h0,hc,hn=>by rw[l9,ER,if_pos rfl]
 |t::r,lo,out,j,h,h0,hc,hn=>by
  have h1:=h.1
  have h2:=hn t (by simp)
  have h3:=hc t (by simp)
  rw[l9,TZ (lo:=t.1) (p:=p) h.2 (by omega) (fun u hu=>hc u (by simp[hu])) (fun u hu=>by rw[List.length_set];exact hn u (by simp[hu])),oR,qg]
  by_cases e:t.1=j
  ·rw[if_pos e,Sr.cf0 h.2 (by omega),if_pos rfl,if_pos (by omega),if_neg (by omega)]
  ·rw[if_neg e,if_neg (show ¬(t.1.toNat=j∧t.1.toNat<out.length) by omega)]
def F8 (i:Nat):List Int→List Tm
 | []=>[]
 |x::r=>if x≠0 then ((i:Int),(x,()))::F8 (i+1) r else F8 (i+1) r
theorem ac6:∀{v:List Int} {i:Nat},F8 i v=[]↔∀j:Nat,v.getD j 0=0
 | [],i=>by simp[F8]
 |x::r,i=>by
  rw[F8]
  split
  ·rename_i h
   constructor
   ·intro e;cases e
   ·intro g;exact absurd (g 0) (by simpa using h)
  ·rename_i h
   have h:x=0:=by omega
   rw[ac6]
   constructor
   ·intro g j
    cases j with
    |zero=>simpa using h
    |succ j=>simpa using g j
   ·intro g j;simpa using g (j+1)
theorem abI:∀(v:List Int) (i:Nat) (lo:Int),lo<i→Sr lo (F8 i v)
 | [],i,lo,h=>trivial
 |x::r,i,lo,h=>by
  rw[F8];split
  ·exact⟨h,abI r (i+1) i (by omega)⟩
  ·exact abI r (i+1) lo (by omega)
theorem XM:∀(v:List Int) (i j:Nat),cf (F8 i v) j=if i≤j then v.getD (j - i) 0 else 0
 | [],i,j=>by simp[F8,ER]
 |x::r,i,j=>by
  have ih:=XM r (i+1) j
  rw[F8]
  by_cases hx:x≠0
  ·rw[if_pos hx,qg,ih]
   by_cases e:i=j
   ·subst e;simp
   ·rw[if_neg (by simp only;omega)]
    by_cases h:i≤j
    ·rw[if_pos h,if_pos (by omega)]
     obtain⟨k,hk⟩:∃k,j - i=k+1:=⟨j - i - 1,by omega⟩
     have:j - (i+1)=k:=by omega
     rw[hk,this];simp
    ·rw[if_neg h,if_neg (by omega)]
  ·rw[if_neg hx,ih]
   have hx:x=0:=by omega
   by_cases e:i=j
   ·subst e;rw[if_neg (by omega),if_pos (Nat.le_refl _)];simpa using hx.symm
   ·by_cases h:i≤j
    ·rw[if_pos h,if_pos (by omega)]
     obtain⟨k,hk⟩:∃k,j - i=k+1:=⟨j - i - 1,by omega⟩
     have:j - (i+1)=k:=by omega
     rw[hk,this];simp
    ·rw[if_neg h,if_neg (by omega)]
theorem XN:∀{v:List Int} {i:Nat} {t:Tm},t∈F8 i v→(i:Int)≤t.1∧t.1<i+v.length∧t.2.1∈v∧t.2.1≠0
 |x::r,i,t,h=>by
  rw[F8] at h
  split at h
  ·rename_i hx
   rcases List.mem_cons.1 h with rfl |h
   ·exact⟨by simp,by simp;omega,by simp,hx⟩
   ·have:=XN h
    exact⟨by omega,by simp only[List.length_cons];omega,by simp[this.2.2.1],this.2.2.2⟩
  ·have:=XN h
   exact⟨by omega,by simp only[List.length_cons];omega,by simp[this.2.2.1],this.2.2.2⟩
theorem T0:∀(v:List Int) (i:Nat),(F8 i v).length≤v.length
 | [],i=>by simp[F8]
 |x::r,i=>by rw[F8];have:=T0 r (i+1);split<;>simp<;>omega
def adL (p:Int)(out:List Int)(c:Int):List Tm→List Int
 | []=>out
 |u::r=>adL p (out.set u.1.toNat ((out.getD u.1.toNat 0+c*u.2.1) % p)) c r
theorem Ni {p c:Int}:∀(l:List Tm) (out:List Int),(adL p out c l).length=out.length
 | [],out=>rfl
 |t::r,out=>by rw[adL,Ni r];simp
def Rs (p:Int)(out:List Int):Prop:=∀j:Nat,0≤out.getD j 0∧out.getD j 0<p
theorem Rs.set {p v:Int}{out:List Int}(h:Rs p out)(hv:0≤v∧v<p)(k:Nat):Rs p (out.set k v):=fun j=>by
 rw[oR];split
 ·exact hv
 ·exact h j
theorem abJ {p c:Int}(hp:0<p):∀(l:List Tm) (out:List Int),Rs p out→Rs p (adL p out c l)
 | [],out,h=>h
 |u::r,out,h=>by
  rw[adL]
  exact abJ hp r _ (h.set ⟨Int.emod_nonneg _ (by omega),Int.emod_lt_of_pos _ hp⟩ _)
theorem ZZ {p c:Int}(hp:0<p):∀{l:List Tm} {lo:Int} {out:List Int} {j:Nat},Sr lo l→ -1≤lo→Rs p out→(∀t∈l,t.1<out.length)→(adL p out c l).getD j 0=(out.getD j 0+c*cf l j) % p
 | [],lo,out,j,h,h0,hr,hn=>by rw[adL,ER,Int.mul_zero,Int.add_zero,Int.emod_eq_of_lt (hr j).1 (hr j).2]
 |u::r,lo,out,j,h,h0,hr,hn=>by
  have h1:=h.1
  have h2:=hn u (by simp)
  have hv:0≤(out.getD u.1.toNat 0+c*u.2.1) % p∧(out.getD u.1.toNat 0+c*u.2.1) % p<p:=⟨Int.emod_nonneg _ (by omega),Int.emod_lt_of_pos _ hp⟩
  rw[adL,ZZ hp (lo:=u.1) h.2 (by omega) (hr.set hv _) (fun t ht=>by rw[List.length_set];exact hn t (by simp[ht])),oR,qg]
  by_cases e:u.1=j
  ·rw[if_pos e,if_pos (by omega),Sr.cf0 h.2 (by omega),Int.mul_zero,Int.add_zero,Int.emod_emod_of_dvd _ (Int.dvd_refl p)]
   have:u.1.toNat=j:=by omega
   rw[this]
  ·rw[if_neg e,if_neg (show ¬(u.1.toNat=j∧u.1.toNat<out.length) by omega)]
def dY (aa:List Cl)(r:Int):List Tm:=(aa.getD r.toNat fM).2.2.1
def UN (p:Int)(aa:List Cl)(out:List Int):List Tm→List Int
 | []=>out
 |t::r=>UN p aa (adL p out t.2.1 (dY aa t.1)) r
def Di (p:Int)(aa:List Cl)(out:List Tm):List Tm→List Tm
 | []=>out
 |t::r=>Di p aa (C1 p out (t.2.1 % p) (dY aa t.1)) r
theorem L4:∀{l:List Tm} {lo:Int} {n:Int},Sr lo l→(∀t∈l,t.1<n)→lo<n→(l.length:Int)≤n - lo - 1
 | [],lo,n,h,hn,hl=>by simp;omega
 |t::r,lo,n,h,hn,hl=>by
  have:=L4 h.2 (fun u hu=>hn u (by simp[hu])) (hn t (by simp))
  have:=h.1
  simp only[List.length_cons];omega
theorem Vc.length {p n:Int}{l:List Tm}(h:Vc p n l)(hn:0≤n):(l.length:Int)≤n:=by
 have:=L4 h.s (fun t ht=>(h.r t ht).1) (by omega);omega
theorem ac7 {p:Int}(hp:0<p){aa:List Cl}{n:Nat}:∀{x:List Tm} {S:List Tm} {v:List Int},(∀t∈x,Vc p n (dY aa t.1))→Vc p n S→Vr n S v→Rs p v→
  Vc p n (Di p aa S x)∧Vr n (Di p aa S x) (UN p aa v x)∧Rs p (UN p aa v x)
 | [],S,v,hx,hS,hv,hr=>⟨hS,hv,hr⟩
 |t::r,S,v,hx,hS,hv,hr=>by
  have hb:=hx t (by simp)
  obtain⟨h1,h2⟩:=XG (k:=t.2.1 % p) hp hS hb
  rw[Di,UN]
  refine ac7 hp (x:=r) (S:=C1 p S (t.2.1 % p) (dY aa t.1)) (v:=adL p v t.2.1 (dY aa t.1)) (fun u hu=>hx u (by simp[hu])) h1 ⟨by rw[Ni,hv.len],fun j hj=> ?_⟩ (abJ hp _ _ hr)
  rw[ZZ hp hb.s (by omega) hr (fun u hu=>by rw[hv.len];exact(hb.r u hu).1),h2,hv.at_ j hj,Int.add_emod,Int.mul_emod, ←Int.add_emod (cf S j),Int.add_emod (cf S j) (t.2.1 % p*cf (dY aa t.1) j),Int.mul_emod (t.2.1 % p),Int.emod_emod_of_dvd _ (Int.dvd_refl p), ←Int.add_emod]
theorem aju {p:Int}{n:Nat}{S:List Tm}{v:List Int}(hS:Vc p n S)(hv:Vr n S v):S=[]↔F8 0 v=[]:=by
 rw[ac6]
 constructor
 ·intro e j
  subst e
  by_cases hj:j<n
  ·rw[hv.at_ j hj];rfl
  ·have:=hv.len
   simp only[List.getD]
   rw[List.getElem?_eq_none (by omega)];rfl
 ·intro h
  cases hS':S with
  |nil=>rfl
  |cons t r=>
   exfalso
   have h1:=hS.r t (by rw[hS'];simp)
   have h2:=Sr.mem hS.s t (by rw[hS'];simp)
   have h3:=TW hS.s t (by rw[hS'];simp)
   have h4:=hv.at_ t.1.toNat (by omega)
   rw[h] at h4
   have e:((t.1.toNat:Nat):Int)=t.1:=by omega
   rw[e] at h4
   omega
end Go.Abs
namespace Go.Proofs.YtofjebmoebhiiaaGreatDoor.Ev
open Go.Abs Go.IntWalk
theorem bN {i:Nat}(h:i≤1000000000):IntKind.wrap .i64 ((i:Int)+1)=((i+1:Nat):Int):=by rw[i64_in _ (by omega)];omega
theorem abK {x:List Tm}{n:Nat}(hl:x.length≤1000000000)(hx:∀t∈x,0≤t.1∧t.1<n):∀(m i:Nat) (out:List Int),m+i=x.length→out.length=n→ga x i out=some (l9 out (x.drop i)):=by
 intro m
 induction m with
 |zero=>intro i out hi ho;rw[wc,pN,ak (by omega),List.drop_eq_nil_of_le (by omega)];rfl
 |succ m ih=>
  intro i out hi ho
  have hb:∀{β:Type} {f:Tm→Option β},(idx x (i:Int)).bind f=f (x.getD i ni):=dD ni (by omega)
  have hm:x.getD i ni∈x:=by
   have:x.getD i ni=x[i]'(by omega):=by simp[List.getD,show i<x.length by omega]
   rw[this];exact List.getElem_mem _
  have hr:=hx _ hm
  rw[wc,pN,aq (by omega),hb,hb,gN (by omega) (by omega),wM (by omega),bN (by omega),ih (i+1) _ (by omega) (by simpa using ho),cV ni (show i<x.length by omega),l9]
theorem Z0 {p:Int}{x:List Tm}{n:Nat}(hn:n≤1000000)(hx:Vc p n x):∃v,q8 x n=some v∧Vr n x v∧(0<p→Rs p v):=by
 have hl:=hx.length (by omega)
 have hx':∀t∈x,0≤t.1∧t.1<n:=fun t ht=>⟨by have:=Sr.mem hx.s t ht;omega,(hx.r t ht).1⟩
 have hg:∀j:Nat,(l9 (List.replicate n 0) x).getD j 0=cf x j:=fun j=>by
  rw[TZ hx.s (by omega) hx.c (fun t ht=>by rw[List.length_replicate];exact(hx' t ht).2),C2]
  split<;>omega
 refine⟨l9 (List.replicate n 0) x, ?_,⟨by rw[Nh,List.length_replicate],fun j _=>hg j⟩,fun hp j=>by rw[hg];exact JV hp hx.c j⟩
 rw[K3,Cw,OE (by omega) (by omega) (by omega),Int.toNat_natCast]
 exact abK (by omega) hx' x.length 0 _ (by omega) (by simp)
theorem Z1 {v:List Int}(hl:v.length≤1000000):∀(m i:Nat) (out:List Tm),m+i=v.length→out.length≤i→fw v i out=some (out++F8 i (v.drop i)):=by
 intro m
 induction m with
 |zero=>intro i out hi ho;rw[uK,oA,ak (by omega),List.drop_eq_nil_of_le (by omega),F8,List.append_nil]
 |succ m ih=>
  intro i out hi ho
  rw[uK,oA,aq (by omega),gN (by omega) (by omega),Int.toNat_natCast,drop_eq (by omega),F8,bN (by omega)]
  by_cases h:v.getD i 0=0
  ·rw[lJ h,ih (i+1) out (by omega) (by omega),if_neg (by omega)]
  ·rw[A4 h,gN (by omega) (by omega),Int.toNat_natCast,jb (by omega) (by omega),if_pos h]
   simp only
   rw[ih (i+1) _ (by omega) (by simp;omega),List.append_assoc]
   rfl
theorem aeU {v:List Int}(hl:v.length≤1000000):p8 v=some (F8 0 v):=by
 rw[Jn,AI]
 have:=Z1 hl v.length 0 [] (by omega) (by simp)
 simpa using this
theorem XO {p:Int}(hp:2≤p∧p≤251){x:List Tm}{i:Nat}{b:List Tm}{c2:List Cl}(hi:i<x.length)(hxi:0≤(x.getD i ni).2.1∧(x.getD i ni).2.1≤251)(hbl:b.length≤1000000):
  ∀(m k:Nat) (out:List Int),m+k=b.length→Rs p out→(∀t∈b,(0≤t.1∧t.1<out.length)∧0≤t.2.1∧t.2.1≤251)→out.length≤1000000→
   gg x i b k out p c2=eF x (IntKind.wrap .i64 ((i:Int)+1)) (adL p out (x.getD i ni).2.1 (b.drop k)) p c2:=by
 intro m
 induction m with
 |zero=>intro k out hk hr hb ho;rw[wg,pR,ak (by omega),List.drop_eq_nil_of_le (by omega),adL]
 |succ m ih=>
  intro k out hk hr hb ho
  have hbk:∀{β:Type} {f:Tm→Option β},(idx b (k:Int)).bind f=f (b.getD k ni):=dD ni (by omega)
  have hm:b.getD k ni∈b:=by
   have:b.getD k ni=b[k]'(by omega):=by simp[List.getD,show k<b.length by omega]
   rw[this];exact List.getElem_mem _
  obtain⟨h1,h2⟩:=hb _ hm
  have hv:=hr (b.getD k ni).1.toNat
  have hmul:0≤(x.getD i ni).2.1*(b.getD k ni).2.1∧(x.getD i ni).2.1*(b.getD k ni).2.1≤251*251:=⟨Int.mul_nonneg (by omega) (by omega),Int.mul_le_mul (by omega) (by omega) (by omega) (by omega)⟩
  rw[wg,pR,aq (by omega),hbk,hbk,gN (by omega) (by omega),wM (by omega),dD ni hi,hbk]
  simp only
  rw[i64_in ((x.getD i ni).2.1*(b.getD k ni).2.1) (by omega),i64_in (out.getD (b.getD k ni).1.toNat 0+(x.getD i ni).2.1*(b.getD k ni).2.1) (by omega),lI (by omega),gN (by omega) (by omega),wM (by omega),bD (by omega),bN (i:=k) (by omega)]
  rw[ih (k+1) _ (by omega) (hr.set ⟨Int.emod_nonneg _ (by omega),Int.emod_lt_of_pos _ (by omega)⟩ _) (fun t ht=>by rw[List.length_set];exact hb t ht) (by rw[List.length_set];exact ho),cV ni (show k<b.length by omega),adL]
theorem XP {p:Int}(hp:2≤p∧p≤251){x:List Tm}{c2:List Cl}{n:Nat}(hn:n≤1000000)(hxl:x.length≤1000000)(hx:∀t∈x,(0≤t.1∧t.1<c2.length)∧(0≤t.2.1∧t.2.1≤251)∧Vc p n (dY c2 t.1)):
  ∀(m i:Nat) (out:List Int),m+i=x.length→Rs p out→out.length=n→eF x i out p c2=some (UN p c2 out (x.drop i)):=by
 intro m
 induction m with
 |zero=>intro i out hi hr ho;rw[we,pP,ak (by omega),List.drop_eq_nil_of_le (by omega),UN]
 |succ m ih=>
  intro i out hi hr ho
  have hm:x.getD i ni∈x:=by
   have:x.getD i ni=x[i]'(by omega):=by simp[List.getD,show i<x.length by omega]
   rw[this];exact List.getElem_mem _
  obtain⟨h1,h2,h3⟩:=hx _ hm
  have hl:=h3.length (by omega)
  rw[we,pP,aq (by omega),dD ni (by omega),ac4 fM (by omega) (by omega)]
  have e:(c2.getD (x.getD i ni).1.toNat fM).2.2.1=dY c2 (x.getD i ni).1:=rfl
  rw[e]
  have:=XO hp (b:=dY c2 (x.getD i ni).1) (c2:=c2) (show i<x.length by omega) h2 (by omega) (dY c2 (x.getD i ni).1).length 0 out (by omega) hr (fun t ht=>by
   have g1:=Sr.mem h3.s t ht
   have g2:=h3.r t ht
   omega) (by omega)
  have e0:((0:Nat):Int)=0:=rfl
  rw[e0] at this
  rw[this,bN (by omega),List.drop_zero,ih (i+1) _ (by omega) (abJ (by omega) _ _ hr) (by rw[Ni];exact ho),cV ni (show i<x.length by omega),UN]
theorem aeV {p:Int}(hp:2≤p∧p≤251){x:List Tm}{c2:List Cl}(hn:c2.length≤1000000)(hxl:x.length≤1000000)(hx:∀t∈x,(0≤t.1∧t.1<c2.length)∧(0≤t.2.1∧t.2.1≤251)∧Vc p c2.length (dY c2 t.1)):
  rf (p,(c2,())) x=some (UN p c2 (List.replicate c2.length 0) x):=by
 rw[K4,Cy]
 simp only
 rw[OE (by omega) (by omega) (by omega),Int.toNat_natCast]
 exact XP hp (n:=c2.length) hn hxl hx x.length 0 _ (by omega) (fun j=>by rw[C2];omega) (by simp)
theorem Z2 {p:Int}(hp:Pr p){x:List Tm}{c2:List Cl}(hxl:x.length≤1000000)(hx:∀t∈x,(0≤t.1∧t.1<c2.length)∧Vc p 1024 (dY c2 t.1)):
  ∀(m i:Nat) (S:List Tm),m+i=x.length→Vc p 1024 S→fe S x (x.length:Int) i p c2=some (Di p c2 S (x.drop i)):=by
 intro m
 induction m with
 |zero=>intro i S hi hS;rw[ny,lv,ak (by omega),List.drop_eq_nil_of_le (by omega),Di]
 |succ m ih=>
  intro i S hi hS
  have hm:x.getD i ni∈x:=by
   have:x.getD i ni=x[i]'(by omega):=by simp[List.getD,show i<x.length by omega]
   rw[this];exact List.getElem_mem _
  obtain⟨h1,h3⟩:=hx _ hm
  have hl:=h3.length (by omega)
  have hl2:=hS.length (by omega)
  rw[ny,lv,aq (by omega),dD ni (by omega),ac4 fM (by omega) (by omega)]
  have e:(c2.getD (x.getD i ni).1.toNat fM).2.2.1=dY c2 (x.getD i ni).1:=rfl
  rw[e,UM hp hS h3 (by omega) (by omega),bS,bN (by omega)]
  simp only
  rw[ih (i+1) _ (by omega) (XG (by have:=hp.1;omega) hS h3).1,cV ni (show i<x.length by omega),Di]
theorem aeW {p:Int}(hp:Pr p){x:List Tm}{c2:List Cl}(hxl:x.length≤1000000)(hx:∀t∈x,(0≤t.1∧t.1<c2.length)∧Vc p 1024 (dY c2 t.1)):uj (p,(c2,())) x=some (Di p c2 [] x):=by
 have h:=Z2 hp hxl hx x.length 0 [] (by omega) Vc.nil
 rw[I1,Ep]
 simp only
 have e:mD x (x.length:Int) 0 [] p c2=fe [] x (x.length:Int) 0 p c2:=by
  rw[DA,xM,ny,lv]
 rw[e]
 simpa using h
end Go.Proofs.YtofjebmoebhiiaaGreatDoor.Ev
namespace Go.Proofs.YtofjebmoebhiiaaGreatDoor.Ev
open Go.Abs Go.IntWalk
def fI (aa:List Cl)(j:Nat):ByteArray:=(aa.getD j fM).2.1
def JW (aa:List Cl)(j:Nat):Bool:=decide (0<j)&&decide (lW ((jd (fI aa j)).1*(jd (fI aa (j - 1))).2) ((jd (fI aa (j - 1))).1*(jd (fI aa j)).2)<0)
def nf (p:Int)(aa:List Cl)(j:Nat):Int:=
 if (aa.getD j fM).1<0∨4<(aa.getD j fM).1∨u6 (fI aa j)=false then 1
 else if TY p (aa.getD j fM).2.2.1≠0 then TY p (aa.getD j fM).2.2.1
 else if ((aa.getD j fM).2.2.1.any fun t=>decide (t.1≥(j:Int)))=true then 7
 else if ((aa.getD j fM).2.2.1.any fun t=>(aa.getD t.1.toNat fM).1 != (aa.getD j fM).1 - 1)=true then 10
 else if (Di p aa [] (aa.getD j fM).2.2.1)≠ [] then 11
 else if JW aa j=true then 6 else 0
def L5 (p:Int)(aa:List Cl)(j:Nat):Nat→Int
 |0=>0
 |m+1=>if nf p aa j≠0 then nf p aa j else L5 p aa (j+1) m
def fk (p:Int)(aa:List Cl):Int:=if Pr p then (if 1024<aa.length then 3 else L5 p aa 0 aa.length) else 8
structure Good (p:Int) (aa:List Cl) (j:Nat):Prop where
 QE:0≤(aa.getD j fM).1∧(aa.getD j fM).1≤4
 at_:u6 (fI aa j)=true
 bd:Vc p j (dY aa j)
 low:j≤1024→Vc p 1024 (dY aa j)
 alQ:∀t∈dY aa j,(aa.getD t.1.toNat fM).1=(aa.getD j fM).1 - 1
 cyc:Di p aa [] (dY aa j)=[]
 ord:JW aa j=false
theorem fV (aa:List Cl)(j:Nat):dY aa j=(aa.getD j fM).2.2.1:=by unfold dY;rw[Int.toNat_natCast]
theorem RN {p:Int}{aa:List Cl}{j:Nat}(h:nf p aa j=0):Good p aa j:=by
 unfold nf at h
 split at h
 ·cases h
 ·rename_i h1
  split at h
  ·rename_i h2;exact absurd h h2
  ·rename_i h2
   split at h
   ·cases h
   ·rename_i h3
    split at h
    ·cases h
    ·rename_i h4
     split at h
     ·cases h
     ·rename_i h5
      split at h
      ·cases h
      ·rename_i h6
       have hv:=F7.1 (show TY p (aa.getD j fM).2.2.1=0 by omega)
       refine⟨by omega, ?_, ?_,fun _=>by rw[fV];exact hv, ?_, ?_,by simpa using h6⟩
       ·cases hh:u6 (fI aa j) with
        |true=>rfl
        |false=>exact absurd (.inr (.inr hh)) h1
       ·rw[fV]
        refine⟨hv.s,fun t ht=>⟨?_,(hv.r t ht).2⟩⟩
        have:¬t.1≥(j:Int):=fun g=>h3 (List.any_eq_true.2 ⟨t,ht,decide_eq_true g⟩)
        omega
       ·intro t ht
        rw[fV] at ht
        have:¬((aa.getD t.1.toNat fM).1 != (aa.getD j fM).1 - 1)=true:=fun g=>h4 (List.any_eq_true.2 ⟨t,ht,g⟩)
        simpa using this
       ·rw[fV]
        exact Decidable.not_not.1 h5
structure Sz (aa:List Cl):Prop where
 at_:∀j,(fI aa j).size≤1000
 bd:∀j,((aa.getD j fM).2.2.1).length≤1000
theorem abL {s:List Tm}{j:Int}(hl:s.length≤1000000):∀(m i:Nat),m+i=s.length→∃r:Int,bL s j (s.length:Int) i=some r∧decide (r≥0)=(s.drop i).any fun t=>decide (t.1≥j):=by
 intro m
 induction m with
 |zero=>
  intro i hi
  rw[ka,gG,ak (by omega),List.drop_eq_nil_of_le (by omega)]
  exact⟨-1,rfl,rfl⟩
 |succ m ih=>
  intro i hi
  rw[ka,gG,aq (by omega),dD ni (by omega),Fa,zJ,bS,cV ni (show i<s.length by omega),List.any_cons]
  by_cases h:(s.getD i ni).1≥j
  ·rw[tb h,decide_eq_true h]
   exact⟨i,rfl,by rw[Bool.true_or];exact decide_eq_true (by omega)⟩
  ·rw[qS h,decide_eq_false h,Bool.false_or,bN (by omega)]
   exact ih (i+1) (by omega)
theorem an6 {s:List Tm}{j:Int}(hl:s.length≤1000000):eg s j=some (s.any fun t=>decide (t.1≥j)):=by
 obtain⟨r,h1,h2⟩:=abL (j:=j) hl s.length 0 (by omega)
 have e0:((0:Nat):Int)=0:=rfl
 rw[e0] at h1
 rw[rK,lQ,uw,nE,h1,bS,h2,List.drop_zero]
theorem abM {s:List Tm}{p d:Int}{aa:List Cl}{a:ByteArray}{b:List Tm}(hd:0≤d∧d≤4)(hl:s.length≤1000000)(hs:∀t∈s,0≤t.1∧t.1<aa.length):∀(m i:Nat),m+i=s.length→
  ∃r:Int,bM s p aa d a b (s.length:Int) i=some r∧decide (r≥0)=(s.drop i).any fun t=>(aa.getD t.1.toNat fM).1 != d - 1:=by
 intro m
 induction m with
 |zero=>
  intro i hi
  rw[kb,gH,ak (by omega),List.drop_eq_nil_of_le (by omega)]
  exact⟨-1,rfl,rfl⟩
 |succ m ih=>
  intro i hi
  have hm:s.getD i ni∈s:=by
   have:s.getD i ni=s[i]'(by omega):=by simp[List.getD,show i<s.length by omega]
   rw[this];exact List.getElem_mem _
  have h1:=hs _ hm
  rw[kb,gH,aq (by omega),dD ni (by omega),Fb,zK]
  simp only
  rw[ac4 fM h1.1 h1.2,bS,i64_in (d - 1) (by omega),cV ni (show i<s.length by omega),List.any_cons]
  cases hc:((aa.getD (s.getD i ni).1.toNat fM).1 != d - 1) with
  |true=>
   rw[cT]
   exact⟨i,rfl,by rw[Bool.true_or];exact decide_eq_true (by omega)⟩
  |false=>
   rw[cF,Bool.false_or,bN (by omega)]
   exact ih (i+1) (by omega)
theorem an7 {s:List Tm}{p d:Int}{aa:List Cl}{a:ByteArray}{b:List Tm}(hd:0≤d∧d≤4)(hl:s.length≤1000000)(hs:∀t∈s,0≤t.1∧t.1<aa.length):
  eo s ((p,(aa,())),(d,(a,(b,()))))=some (s.any fun t=>(aa.getD t.1.toNat fM).1 != d - 1):=by
 obtain⟨r,h1,h2⟩:=abM (p:=p) (a:=a) (b:=b) hd hl hs s.length 0 (by omega)
 have e0:((0:Nat):Int)=0:=rfl
 rw[e0] at h1
 rw[rL,lR,ux,nF]
 simp only
 rw[h1,bS,h2,List.drop_zero]
theorem Ed {s:ByteArray}(h:u6 s=true)(hs:s.size≤1000):Rt s (jd s).1 (jd s).2∧nd (jd s).1≤1000∧nd (jd s).2≤1000∧0<(jd s).2:=by
 obtain⟨n,d,hr⟩:=nc.1 h
 rw[hr.val]
 exact⟨hr,hr.bounds hs⟩
theorem ahH {p:Int}{aa:List Cl}{j:Nat}{b:List Tm}(hj:j<aa.length)(hl:aa.length≤1024)(hI:∀i,i<j→nf p aa i=0)(hb:Vc p 1024 b)(hr:∀t∈b,t.1<j):
  ∀t∈b,(0≤t.1∧t.1<aa.length)∧Vc p aa.length (dY aa t.1):=fun t ht=>by
 have h1:=hr t ht
 have h2:=Sr.mem hb.s t ht
 have e:t.1=((t.1.toNat:Nat):Int):=by omega
 have h3:=(RN (hI t.1.toNat (by omega))).bd
 refine⟨by omega, ?_⟩
 rw[e]
 exact h3.mono (by omega)
theorem Z3 {p:Int}(hp:Pr p){aa:List Cl}(hs:Sz aa)(hl:aa.length≤1024){j:Nat}{l:(Bool×List Int×Unit)×(Bool×List Int×Unit)×Unit}(hj:j<aa.length)(hI:∀i,i<j→nf p aa i=0)(hL:0<j→l=WR (jd (fI aa (j - 1))).1 (jd (fI aa (j - 1))).2)(E:Int)(hE:nf p aa j=E):
  dG aa (aa.length:Int) j p aa l.1.1 l.1.2.1 l.2.1.1 l.2.1.2.1=if E=0 then dG aa (aa.length:Int) ((j+1:Nat):Int) p aa (W (jd (fI aa j)).1).1 (W (jd (fI aa j)).1).2.1 (W (jd (fI aa j)).2).1 (W (jd (fI aa j)).2).2.1 else some E:=by
 have ea:(aa.getD j fM).2.1=fI aa j:=rfl
 have ha:=hs.at_ j
 have hb:=hs.bd j
 generalize hK:dG aa (aa.length:Int) ((j+1:Nat):Int) p aa (W (jd (fI aa j)).1).1 (W (jd (fI aa j)).1).2.1 (W (jd (fI aa j)).2).1 (W (jd (fI aa j)).2).2.1=K
 rw[vn,rl,aq (by omega),dD fM (by omega),ea]
 unfold nf at hE
 generalize hx:aa.getD j fM=x at hE hb ⊢
 cases abN:u6 (fI aa j) with
 |false=>
  obtain⟨jk,hjk⟩:=V9 ha abN
  rw[if_pos (.inr (.inr abN))] at hE
  subst hE
  rw[hjk,bS]
  simp only
  rw[Bool.not_false,cT,if_neg (by omega)]
  cases decide (x.1<0)<;>cases decide (x.1>4)<;>rfl
 |true=>
  obtain⟨hrt,n1,n2,n3⟩:=Ed abN ha
  rw[P9 ha hrt,bS]
  simp only
  by_cases h1:x.1<0
  ·rw[if_pos (.inl h1)] at hE
   subst hE
   rw[aq h1,if_neg (by omega)]
  rw[ak h1]
  by_cases h2:x.1>4
  ·rw[if_pos (.inr (.inl h2))] at hE
   subst hE
   rw[ch h2,if_neg (by omega)]
  have hc1:¬(x.1<0∨4<x.1∨u6 (fI aa j)=false):=by
   rintro (h |h |h)
   ·exact h1 h
   ·exact h2 h
   ·rw[abN] at h;cases h
  rw[if_neg hc1] at hE
  rw[cp h2,Bool.not_true,cF,TV ha,bS,abN,Bool.not_true,cF,Ae hp (by omega),bS]
  by_cases h3:TY p x.2.2.1=0
  ·rw[if_neg (show ¬TY p x.2.2.1≠0 by omega)] at hE
   rw[lJ h3,an6 (by omega),bS]
   have hv:=F7.1 h3
   cases h4:(x.2.2.1.any fun t=>decide (t.1≥(j:Int))) with
   |true=>
    rw[h4,if_pos rfl] at hE
    subst hE
    rw[cT,if_neg (by omega)]
   |false=>
    rw[h4,if_neg (by decide)] at hE
    rw[cF]
    have hr:∀t∈x.2.2.1,t.1<j:=fun t ht=>by
     have:=List.any_eq_false.1 h4 t ht
     have:¬t.1≥(j:Int):=fun g=>this (decide_eq_true g)
     omega
    have hin:=ahH hj hl hI hv hr
    rw[an7 (by omega) (by omega) (fun t ht=>(hin t ht).1),bS]
    cases h5:(x.2.2.1.any fun t=>(aa.getD t.1.toNat fM).1 != x.1 - 1) with
    |true=>
     rw[h5,if_pos rfl] at hE
     subst hE
     rw[cT,if_neg (by omega)]
    |false=>
     rw[h5,if_neg (by decide)] at hE
     rw[cF,aeW hp (by omega) (fun t ht=>⟨(hin t ht).1,(hin t ht).2.mono (by omega)⟩),bS]
     by_cases h6:Di p aa [] x.2.2.1=[]
     ·rw[h6,if_neg (by simp)] at hE
      rw[h6,List.length_nil,cp (by omega),bN (by omega),hK]
      simp only[wF]
      unfold JW at hE
      by_cases h7:0<j
      ·have hg:=RN (hI (j - 1) (by omega))
       obtain⟨an8,m1,m2,m3⟩:=Ed hg.at_ (hs.at_ (j - 1))
       have hl':=hL h7
       subst hl'
       rw[ch (by omega),alM n1 n2 m1 m2 n3 m3,bS]
       rw[decide_eq_true h7,Bool.true_and] at hE
       by_cases h8:lW ((jd (fI aa j)).1*(jd (fI aa (j - 1))).2) ((jd (fI aa (j - 1))).1*(jd (fI aa j)).2)<0
       ·rw[decide_eq_true h8,if_pos rfl] at hE
        subst hE
        rw[aq h8,if_neg (by omega)]
       ·rw[decide_eq_false h8,if_neg (by decide)] at hE
        subst hE
        rw[ak h8,if_pos rfl]
      ·rw[decide_eq_false h7,Bool.false_and,if_neg (by decide)] at hE
       subst hE
       rw[cp (by omega),if_pos rfl]
     ·rw[if_pos h6] at hE
      subst hE
      have hlen:0<(Di p aa [] x.2.2.1).length:=by
       cases hq:Di p aa [] x.2.2.1 with
       |nil=>exact absurd hq h6
       |cons a b=>simp
      rw[ch (by omega),if_neg (by omega)]
  ·rw[if_pos h3] at hE
   subst hE
   rw[A4 h3,if_neg h3]
theorem aeX {p:Int}(hp:Pr p){aa:List Cl}(hs:Sz aa)(hl:aa.length≤1024):∀(m j:Nat) (l:(Bool×List Int×Unit)×(Bool×List Int×Unit)×Unit),m+j=aa.length→(∀i,i<j→nf p aa i=0)→(0<j→l=WR (jd (fI aa (j - 1))).1 (jd (fI aa (j - 1))).2)→
  dG aa (aa.length:Int) j p aa l.1.1 l.1.2.1 l.2.1.1 l.2.1.2.1=some (L5 p aa j m):=by
 intro m
 induction m with
 |zero=>intro j l hj hI hL;rw[vn,rl,ak (by omega)];rfl
 |succ m ih=>
  intro j l hj hI hL
  rw[Z3 hp hs hl (by omega) hI hL _ rfl,L5]
  by_cases h:nf p aa j=0
  ·rw[if_pos h,if_neg (show ¬nf p aa j≠0 by omega)]
   exact ih (j+1) (WR (jd (fI aa j)).1 (jd (fI aa j)).2) (by omega) (fun i hi=>by
    by_cases e:i=j
    ·rw[e];exact h
    ·exact hI i (by omega)) (fun _=>by rw[Nat.add_sub_cancel])
  ·rw[if_neg h,if_pos h]
theorem T1 {p:Int}{aa:List Cl}(hs:Sz aa):jz (p,(aa,()))=some (fk p aa):=by
 rw[I0,Eo]
 simp only
 unfold fk
 rw[ES,bS]
 by_cases hp:Pr p
 ·rw[decide_eq_true hp,Bool.not_true,cF,if_pos hp]
  by_cases hl:1024<aa.length
  ·rw[ch (by omega),if_pos hl]
  ·rw[cp (by omega),if_neg hl]
   have:=aeX hp hs (by omega) aa.length 0 ((false,([],())),((false,([],())),())) (by omega) (fun i hi=>by omega) (fun h=>by omega)
   exact this
 ·rw[decide_eq_false hp,Bool.not_false,cT,if_neg hp]
theorem an9 {p d:Int}{aa:List Cl}{a:ByteArray}{b:List Tm}{j:Int}(hl:b.length≤1000000):∀(m i:Nat),m+i=b.length→
  fu j i p aa d a b=bif (b.drop i).any (fun t=>decide (t.1≥j)) then some 7 else b7 j 0 p aa d a b:=by
 intro m
 induction m with
 |zero=>intro i hi;rw[uI,ou,ak (by omega),List.drop_eq_nil_of_le (by omega),List.any_nil,cF]
 |succ m ih=>
  intro i hi
  rw[uI,ou,aq (by omega),dD ni (by omega),cV ni (show i<b.length by omega),List.any_cons]
  by_cases h:(b.getD i ni).1≥j
  ·rw[tb h,decide_eq_true h,Bool.true_or,cT]
  ·rw[qS h,decide_eq_false h,Bool.false_or,bN (by omega),ih (i+1) (by omega)]
theorem aoa {p d:Int}{aa:List Cl}{a:ByteArray}{b:List Tm}{j:Int}(hd:0≤d∧d≤4)(hl:b.length≤1000000)(hb:∀t∈b,0≤t.1∧t.1<aa.length):∀(m i:Nat),m+i=b.length→
  b7 j i p aa d a b=bif (b.drop i).any (fun t=>(aa.getD t.1.toNat fM).1 != d - 1) then some 10 else b7 j (b.length:Int) p aa d a b:=by
 intro m
 induction m with
 |zero=>
  intro i hi
  have:i=b.length:=by omega
  subst this
  rw[List.drop_eq_nil_of_le (Nat.le_refl _),List.any_nil,cF]
 |succ m ih=>
  intro i hi
  have hm:b.getD i ni∈b:=by
   have:b.getD i ni=b[i]'(by omega):=by simp[List.getD,show i<b.length by omega]
   rw[this];exact List.getElem_mem _
  have h1:=hb _ hm
  have tu:=ih (i+1) (by omega)
  generalize hE:b7 j (b.length:Int) p aa d a b=E at tu ⊢
  rw[uJ,oz,aq (by omega),dD ni (by omega),ac4 fM h1.1 h1.2,i64_in (d - 1) (by omega),bN (by omega),tu,cV ni (show i<b.length by omega),List.any_cons]
  cases hc:((aa.getD (b.getD i ni).1.toNat fM).1 != d - 1) with
  |true=>rw[cT,Bool.true_or,cT]
  |false=>rw[cF,Bool.false_or]
theorem abO {p:Int}(hp:Pr p){aa:List Cl}(hs:Sz aa)(hl:aa.length≤1024){j:Nat}(hj:j<aa.length)(hI:∀i,i<j→nf p aa i=0):p7 (p,(aa,())) j=some (nf p aa j):=by
 have ha:=hs.at_ j
 have hb:=hs.bd j
 have ea:(aa.getD j fM).2.1=fI aa j:=rfl
 rw[Jm,AH]
 simp only
 rw[dD fM hj,ea]
 unfold nf
 generalize hx:aa.getD j fM=x at*
 by_cases h1:x.1<0
 ·rw[aq h1,if_pos (.inl h1)]
 rw[ak h1]
 by_cases h2:x.1>4
 ·rw[ch h2,if_pos (.inr (.inl h2))]
 rw[cp h2,Ng ha,bS]
 cases abN:u6 (fI aa j) with
 |false=>rw[Bool.not_false,cT,if_pos (.inr (.inr rfl))]
 |true=>
  have hc1:¬(x.1<0∨4<x.1∨true=false):=by
   rintro (h |h |h)
   ·exact h1 h
   ·exact h2 h
   ·cases h
  rw[Bool.not_true,cF,abF (by omega),bS,if_neg hc1]
  by_cases h3:TY p x.2.2.1=0
  ·have hv:=F7.1 h3
   have h0:=an9 (p:=p) (d:=x.1) (aa:=aa) (a:=fI aa j) (j:=(j:Int)) (show x.2.2.1.length≤1000000 by omega) x.2.2.1.length 0 (by omega)
   have e0:((0:Nat):Int)=0:=rfl
   rw[e0,List.drop_zero] at h0
   rw[lJ h3,if_neg (show ¬TY p x.2.2.1≠0 by omega),h0]
   cases h4:(x.2.2.1.any fun t=>decide (t.1≥(j:Int))) with
   |true=>rw[cT,if_pos rfl]
   |false=>
    have hr:∀t∈x.2.2.1,t.1<j:=fun t ht=>by
     have:=List.any_eq_false.1 h4 t ht
     have:¬t.1≥(j:Int):=fun g=>this (decide_eq_true g)
     omega
    have hin:=ahH hj hl hI hv hr
    have h5':=aoa (p:=p) (d:=x.1) (aa:=aa) (a:=fI aa j) (j:=(j:Int)) (by omega) (show x.2.2.1.length≤1000000 by omega) (fun t ht=>(hin t ht).1) x.2.2.1.length 0 (by omega)
    rw[e0,List.drop_zero] at h5'
    rw[cF,if_neg (by decide),h5']
    cases h5:(x.2.2.1.any fun t=>(aa.getD t.1.toNat fM).1 != x.1 - 1) with
    |true=>rw[cT,if_pos rfl]
    |false=>
     have hpp:0<p:=by have:=hp.1;omega
     obtain⟨g1,g2,g3⟩:=ac7 hpp (aa:=aa) (n:=aa.length) (x:=x.2.2.1) (S:=[]) (v:=List.replicate aa.length 0) (fun t ht=>(hin t ht).2) Vc.nil ⟨by simp,fun k hk=>by rw[C2];rfl⟩ (fun k=>by rw[C2];omega)
     rw[cF,if_neg (by decide),uJ,oz,ak (by omega),aeV ⟨hp.1,hp.2.1⟩ (by omega) (by omega) (fun t ht=>⟨(hin t ht).1,by have:=hv.r t ht;have:=hp.2.1;omega,(hin t ht).2⟩),bS,aeU (by rw[g2.len];omega),bS]
     have hn:=aju g1 g2
     by_cases h6:Di p aa [] x.2.2.1=[]
     ·rw[hn.1 h6,List.length_nil,cp (by omega),if_neg (by rw[h6];simp)]
      unfold JW
      by_cases h7:0<j
      ·have hg:=RN (hI (j - 1) (by omega))
       obtain⟨hrt,n1,n2,n3⟩:=Ed abN ha
       obtain⟨an8,m1,m2,m3⟩:=Ed hg.at_ (hs.at_ (j - 1))
       have e1:IntKind.wrap .i64 ((j:Int) - 1)=((j - 1:Nat):Int):=by rw[i64_in _ (by omega)];omega
       have e2:(aa.getD (j - 1) fM).2.1=fI aa (j - 1):=rfl
       rw[ch (by omega),e1,dD fM (by omega),e2,ON hrt an8 ha (hs.at_ (j - 1)),bS,decide_eq_true h7,Bool.true_and]
       by_cases h8:lW ((jd (fI aa j)).1*(jd (fI aa (j - 1))).2) ((jd (fI aa (j - 1))).1*(jd (fI aa j)).2)<0
       ·rw[aq h8,decide_eq_true h8,if_pos rfl]
       ·rw[ak h8,decide_eq_false h8,if_neg (by decide)]
      ·rw[cp (by omega),decide_eq_false h7,Bool.false_and,if_neg (by decide)]
     ·have hlen:0<(F8 0 (UN p aa (List.replicate aa.length 0) x.2.2.1)).length:=by
       cases hq:F8 0 (UN p aa (List.replicate aa.length 0) x.2.2.1) with
       |nil=>exact absurd (hn.2 hq) h6
       |cons a b=>simp
      rw[ch (by omega),if_pos h6]
  ·rw[A4 h3,if_pos h3]
theorem aeY {p:Int}(hp:Pr p){aa:List Cl}(hs:Sz aa)(hl:aa.length≤1024):∀(m j:Nat),m+j=aa.length→(∀i,i<j→nf p aa i=0)→fY j p aa=some (L5 p aa j m):=by
 intro m
 induction m with
 |zero=>intro j hj hI;rw[wa,pJ,ak (by omega)];rfl
 |succ m ih=>
  intro j hj hI
  rw[wa,pJ,aq (by omega),abO hp hs hl (by omega) hI,bS,L5]
  by_cases h:nf p aa j=0
  ·rw[lJ h,if_neg (show ¬nf p aa j≠0 by omega),bN (by omega)]
   exact ih (j+1) (by omega) fun i hi=>by
    by_cases e:i=j
    ·rw[e];exact h
    ·exact hI i (by omega)
  ·rw[A4 h,if_pos h]
theorem aeZ {p:Int}{aa:List Cl}(hs:Sz aa):qZ (p,(aa,()))=some (fk p aa):=by
 rw[KV,Cn]
 simp only
 unfold fk
 rw[Wb,bS]
 by_cases hp:Pr p
 ·rw[decide_eq_true hp,Bool.not_true,cF,if_pos hp]
  by_cases hl:1024<aa.length
  ·rw[ch (by omega),if_pos hl]
  ·rw[cp (by omega),if_neg hl]
   exact aeY hp hs (by omega) aa.length 0 (by omega) (fun i hi=>by omega)
 ·rw[decide_eq_false hp,Bool.not_false,cT,if_neg hp]
theorem zA {p:Int}{aa:List Cl}(h:fk p aa=0):Pr p∧aa.length≤1024∧∀j,j<aa.length→Good p aa j:=by
 unfold fk at h
 split at h
 ·rename_i hp
  split at h
  ·cases h
  ·rename_i hl
   have key:∀(m j:Nat),m+j=aa.length→L5 p aa j m=0→∀i,j≤i→i<aa.length→nf p aa i=0:=by
    intro m
    induction m with
    |zero=>intro j hj h i h1 h2;omega
    |succ m ih=>
     intro j hj h i h1 h2
     rw[L5] at h
     split at h
     ·rename_i hne;exact absurd h hne
     ·rename_i hne
      by_cases e:i=j
      ·subst e;omega
      ·exact ih (j+1) (by omega) h i (by omega) h2
   exact⟨hp,by omega,fun j hj=>RN (key aa.length 0 (by omega) h j (by omega) hj)⟩
 ·cases h
end Go.Proofs.YtofjebmoebhiiaaGreatDoor.Ev
namespace Go.Proofs.YtofjebmoebhiiaaGreatDoor.Ev
open Go.Abs Go.IntWalk
def sm (g:Nat→Int):Nat→Int
 |0=>0
 |n+1=>sm g n+g n
theorem ng {g h:Nat→Int}:∀{n:Nat},(∀i,i<n→g i=h i)→sm g n=sm h n
 |0,_=>rfl
 |n+1,e=>by rw[sm,sm,ng fun i hi=>e i (by omega),e n (by omega)]
theorem RO {g:Nat→Int}:∀{n:Nat},(∀i,i<n→g i=0)→sm g n=0
 |0,_=>rfl
 |n+1,e=>by rw[sm,RO fun i hi=>e i (by omega),e n (by omega)];rfl
theorem Nj (g h:Nat→Int):∀n:Nat,sm (fun i=>g i+h i) n=sm g n+sm h n
 |0=>rfl
 |n+1=>by rw[sm,sm,sm,Nj g h n];omega
theorem T2 (c:Int)(g:Nat→Int):∀n:Nat,sm (fun i=>c*g i) n=c*sm g n
 |0=>by simp[sm]
 |n+1=>by rw[sm,sm,T2 c g n,Int.mul_add]
theorem T3 {g:Nat→Int}{a:Nat}:∀{n:Nat},a<n→(∀i,i<n→i≠a→g i=0)→sm g n=g a
 |0,h,_=>by omega
 |n+1,h,e=>by
  rw[sm]
  by_cases ha:a=n
  ·subst ha
   rw[RO fun i hi=>e i (by omega) (by omega)];omega
  ·rw[T3 (a:=a) (by omega) fun i hi hn=>e i (by omega) hn,e n (by omega) (by omega)];omega
theorem Z4 (g:Nat→Int):∀n:Nat,sm g (n+1)=g 0+sm (fun i=>g (i+1)) n
 |0=>by simp[sm]
 |n+1=>by rw[sm,Z4 g n,sm];omega
theorem ahI (g:Nat→Int):∀n:Nat,sm (fun i=>g (n - 1 - i)) n=sm g n
 |0=>rfl
 |n+1=>by
  rw[Z4,sm, ←ahI g n]
  have:sm (fun i=>g (n+1 - 1 - (i+1))) n=sm (fun i=>g (n - 1 - i)) n:=ng fun i hi=>by congr 1;omega
  rw[this]
  have e:n+1 - 1 - 0=n:=by omega
  rw[e];omega
theorem ahJ {p:Int}{g h:Nat→Int}:∀{n:Nat},(∀i,i<n→g i % p=h i % p)→sm g n % p=sm h n % p
 |0,_=>rfl
 |n+1,e=>by
  rw[sm,sm,Int.add_emod,ahJ fun i hi=>e i (by omega),e n (by omega), ←Int.add_emod]
def Z5 (aa:List Cl)(r:Int):List Tm→Int
 | []=>0
 |t::l=>t.2.1*cf (dY aa t.1) r+Z5 aa r l
theorem ac8 {aa:List Cl}{r:Int}{n:Nat}:∀{x:List Tm} {lo:Int},Sr lo x→ -1≤lo→(∀t∈x,t.1<n)→Z5 aa r x=sm (fun i=>cf x i*cf (dY aa i) r) n
 | [],lo,_,_,_=>by
   rw[Z5,RO fun i hi=>by rw[ER,Int.zero_mul]]
 |t::l,lo,hs,hlo,hn=>by
  have h1:=hs.1
  have hlt:=hn t List.mem_cons_self
  rw[Z5,ac8 (n:=n) hs.2 (by omega) fun u hu=>hn u (List.mem_cons_of_mem _ hu)]
  obtain⟨a,ha⟩:∃a:Nat,t.1=(a:Int):=⟨t.1.toNat,by omega⟩
  have hz:cf l (a:Int)=0:=Sr.cf0 hs.2 (by omega)
  have e1:t.2.1*cf (dY aa t.1) r=sm (fun i=>if i=a then t.2.1*cf (dY aa (i:Int)) r else 0) n:=by
   rw[T3 (a:=a) (by omega) fun i hi hne=>by rw[if_neg hne],if_pos rfl,ha]
  rw[e1, ←Nj]
  refine ng fun i hi=> ?_
  rw[qg]
  by_cases e:i=a
  ·subst e
   rw[if_pos rfl,if_pos ha,hz];omega
  ·rw[if_neg e,if_neg (by omega)];omega
theorem ac9 {p:Int}(hp:0<p){aa:List Cl}{n:Int}:∀{x S:List Tm},(∀t∈x,Vc p n (dY aa t.1))→Vc p n S→Vc p n (Di p aa S x)∧∀r,cf (Di p aa S x) r=(cf S r+Z5 aa r x) % p
 | [],S,_,hS=>⟨hS,fun r=>by
   have:=JV hp hS.c r
   rw[Di,Z5,Int.add_zero,Int.emod_eq_of_lt this.1 this.2]⟩
 |t::l,S,hx,hS=>by
  obtain⟨h1,h2⟩:=XG (k:=t.2.1 % p) hp hS (hx t List.mem_cons_self)
  obtain⟨h3,h4⟩:=ac9 (x:=l) hp (fun u hu=>hx u (List.mem_cons_of_mem _ hu)) h1
  refine⟨h3,fun r=> ?_⟩
  have h5:=h4 r
  rw[h2 r,Int.emod_add_emod] at h5
  rw[Di,h5,Z5]
  generalize Z5 aa r l=u
  generalize cf (dY aa t.1) r=b
  generalize cf S r=s
  have e:s+t.2.1 % p*b+u=(s+(t.2.1*b+u))+p*(-(t.2.1 / p)*b):=by rw[Int.emod_def];grind
  rw[e,Int.add_mul_emod_self_left]
abbrev mx (aa:List Cl)(i j:Nat):Int:=cf (dY aa (j:Int)) (i:Int)
theorem OP {p:Int}(hp:0<p){aa:List Cl}{n:Nat}(hv:∀j,j<n→Vc p n (dY aa j)){j:Nat}(hj:j<n):Di p aa [] (dY aa j)=[]↔∀r,r<n→sm (fun i=>mx aa i j*mx aa r i) n % p=0:=by
 have hx:=hv j hj
 obtain⟨h1,h2⟩:=ac9 (p:=p) (n:=(n:Int)) (aa:=aa) (x:=dY aa j) (S:=[]) hp (fun t ht=>by
  have:=hx.r t ht
  have:=Sr.mem hx.s t ht
  have e:t.1=((t.1.toNat:Nat):Int):=by omega
  rw[e];exact hv _ (by omega)) Vc.nil
 have h3:∀r:Nat,cf (Di p aa [] (dY aa j)) r=sm (fun i=>mx aa i j*mx aa r i) n % p:=fun r=>by
  rw[h2,ER,Int.zero_add,ac8 (n:=n) hx.s (by omega) fun t ht=>(hx.r t ht).1]
 constructor
 ·intro e r hr
  rw[←h3,e,ER]
 ·intro e
  have aob:Vc p n []:=Vc.nil
  refine Sr.ext h1.s aob.s h1.c aob.c fun i=> ?_
  rw[ER]
  by_cases hi:0≤i∧i<n
  ·have:=h3 i.toNat
   rw[Int.toNat_of_nonneg hi.1,e i.toNat (by omega)] at this
   exact this
  ·by_cases hz:cf (Di p aa [] (dY aa j)) i=0
   ·exact hz
   ·obtain⟨t,ht,rfl⟩:=Wa hz
    have:=h1.r t ht
    have:=Sr.mem h1.s t ht
    omega
end Go.Proofs.YtofjebmoebhiiaaGreatDoor.Ev
namespace Go.Proofs.YtofjebmoebhiiaaGreatDoor.Ev
open Go.Abs Go.IntWalk
section
variable (M:Nat→Nat→Int)(i j:Nat)(k m v:Int)
def uC (c x:Nat):Int:=if c=j then k*M x j+m*M x i else M x c
def eR (u:Nat→Int)(x:Nat):Int:=if x=j then u j*v else if x=i then u i - u j*v*m else u x
def tE (x c:Nat):Int:=eR i j m v (uC M i j k m c) x
end
theorem alR {M:Nat→Nat→Int}{p:Int}{n i j:Nat}(hi:i<n)(hj:j<n)(hij:i≠j){k m v:Int}(hk:p ∣ (v*k - 1))(hM:∀c,c<n→∀r,r<n→p ∣ sm (fun x=>M x c*M r x) n){c r:Nat}(hc:c<n)(hr:r<n):
  p ∣ sm (fun x=>tE M i j k m v x c*tE M i j k m v r x) n:=by
 -- atA of a changed column
 have hS:∀s,s<n→p ∣ sm (fun x=>uC M i j k m c x*M s x) n:=fun s hs=>by
  by_cases e:c=j
  ·have e1:sm (fun x=>uC M i j k m c x*M s x) n=k*sm (fun x=>M x j*M s x) n+m*sm (fun x=>M x i*M s x) n:=by
    rw[←T2, ←T2, ←Nj]
    refine ng fun x hx=> ?_
    unfold uC
    rw[if_pos e];grind
   rw[e1]
   exact Int.dvd_add (Int.dvd_mul_of_dvd_right (hM j hj s hs)) (Int.dvd_mul_of_dvd_right (hM i hi s hs))
  ·have e1:sm (fun x=>uC M i j k m c x*M s x) n=sm (fun x=>M x c*M s x) n:=ng fun x hx=>by unfold uC;rw[if_neg e]
   rw[e1];exact hM c hc s hs
 -- rows changed before aoQ
 have hG:p ∣ sm (fun x=>uC M i j k m c x*eR i j m v (fun y=>M y x) r) n:=by
  by_cases e:r=j
  ·have e1:sm (fun x=>uC M i j k m c x*eR i j m v (fun y=>M y x) r) n=v*sm (fun x=>uC M i j k m c x*M j x) n:=by
    rw[←T2]
    refine ng fun x hx=> ?_
    unfold eR
    rw[if_pos e];grind
   rw[e1];exact Int.dvd_mul_of_dvd_right (hS j hj)
  ·by_cases e2:r=i
   ·have e1:sm (fun x=>uC M i j k m c x*eR i j m v (fun y=>M y x) r) n=sm (fun x=>uC M i j k m c x*M i x) n+(-(v*m))*sm (fun x=>uC M i j k m c x*M j x) n:=by
     rw[←T2, ←Nj]
     refine ng fun x hx=> ?_
     unfold eR
     rw[if_neg e,if_pos e2];grind
    rw[e1];exact Int.dvd_add (hS i hi) (Int.dvd_mul_of_dvd_right (hS j hj))
   ·have e1:sm (fun x=>uC M i j k m c x*eR i j m v (fun y=>M y x) r) n=sm (fun x=>uC M i j k m c x*M r x) n:=ng fun x hx=>by unfold eR;rw[if_neg e,if_neg e2]
    rw[e1];exact hS r hr
 generalize hu:uC M i j k m c=u at*
 generalize hg:(fun x=>eR i j m v (fun y=>M y x) r)=G at*
 have hGe:∀x,eR i j m v (fun y=>M y x) r=G x:=fun x=>by rw[←hg]
 -- Kh rows of Kh changed aqb
 have hF:∀x,tE M i j k m v r x=if x=j then k*G j+m*G i else G x:=fun x=>by
  by_cases e:x=j
  ·rw[if_pos e, ←hGe, ←hGe]
   unfold tE eR uC
   rw[if_pos e]
   by_cases e2:r=j
   ·simp only[if_pos e2,if_pos e];grind
   ·by_cases e3:r=i
    ·simp only[if_neg e2,if_pos e3,if_pos e];grind
    ·simp only[if_neg e2,if_neg e3,if_pos e]
  ·rw[if_neg e, ←hGe]
   unfold tE eR uC
   simp only[if_neg e]
 have key:sm (fun x=>tE M i j k m v x c*tE M i j k m v r x) n=sm (fun x=>u x*G x) n+u j*G j*(v*k - 1):=by
  have e1:u j*v*(k*G j+m*G i) - u j*G j=sm (fun x=>if x=j then u j*v*(k*G j+m*G i) - u j*G j else 0) n:=by
   rw[T3 (a:=j) hj fun x hx hne=>by rw[if_neg hne],if_pos rfl]
  have e2: -(u j*v*m)*G i=sm (fun x=>if x=i then -(u j*v*m)*G i else 0) n:=by
   rw[T3 (a:=i) hi fun x hx hne=>by rw[if_neg hne],if_pos rfl]
  have e3:sm (fun x=>u x*G x) n+u j*G j*(v*k - 1)=sm (fun x=>u x*G x) n+(u j*v*(k*G j+m*G i) - u j*G j)+ -(u j*v*m)*G i:=by grind
  rw[e3,e1,e2, ←Nj, ←Nj]
  refine ng fun x hx=> ?_
  rw[hF]
  unfold tE eR
  rw[hu]
  by_cases e:x=j
  ·subst e
   simp only[if_pos,if_neg (Ne.symm hij)]
   grind
  ·by_cases f:x=i
   ·subst f
    simp only[if_neg e,if_pos]
    grind
   ·simp only[if_neg e,if_neg f]
    grind
 rw[key]
 have hG2:p ∣ sm (fun x=>u x*G x) n:=by
  have e:sm (fun x=>u x*G x) n=sm (fun x=>u x*eR i j m v (fun y=>M y x) r) n:=ng fun x hx=>by rw[hGe]
  rw[e];exact hG
 exact Int.dvd_add hG2 (Int.dvd_mul_of_dvd_right hk)
end Go.Proofs.YtofjebmoebhiiaaGreatDoor.Ev
namespace Go.Abs
theorem abP {l:List Tm}{t:Tm}(h:l.getLast?=some t):∃r,l=r++[t]:=by
 cases hl:l with
 |nil=>subst hl;cases h
 |cons a r=>
  have hne:l≠ []:=by rw[hl];simp
  rw[List.getLast?_eq_some_getLast hne] at h
  have h:=Option.some.inj h
  exact⟨l.dropLast,by rw[←hl, ←h,List.dropLast_concat_getLast hne]⟩
theorem Z6 {l:List Tm}{t:Tm}(h:l.getLast?=some t):t∈l:=by
 obtain⟨r,rfl⟩:=abP h;simp
structure Sto (p:Int) (n:Nat) (st:List (Option (List Tm))):Prop where
 len:st.length=n
 ok:∀i y,st.getD i none=some y→Vc p n y∧∃u,y.getLast?=some u∧u.1=i
end Go.Abs
namespace Go.Proofs.YtofjebmoebhiiaaGreatDoor.Ev
open Go.Abs Go.IntWalk
end Go.Proofs.YtofjebmoebhiiaaGreatDoor.Ev
namespace Go.Proofs.YtofjebmoebhiiaaGreatDoor.Ev
open Go.Abs Go.IntWalk
theorem _root_.Go.Abs.Vr.out {n:Nat}{x:List Tm}{v:List Int}(h:Vr n x v){j:Nat}(hj:n≤j):v.getD j 0=0:=by
 have:=h.len
 simp only[List.getD]
 rw[List.getElem?_eq_none (by omega)];rfl
abbrev aqc:=(Int×List Cl×Unit)×Nat×Nat×Nat×Int×Int×Unit
def h5 (p:Int)(aa:List Cl)(a k:Int):List (Option (List aqc)):=[some [((p,(aa,())),((1:Nat),((1:Nat),((1:Nat),(a,(k,()))))))]]
structure Sv (p:Int) (n:Nat) (st:List (Option (List Tm))) (sd:List (Option (List Int))):Prop where
 len:sd.length=n
 none_:∀i,st.getD i none=none→sd.getD i none=none
 some_:∀i y,st.getD i none=some y→∃w,sd.getD i none=some w∧Vr n y w∧Rs p w
end Go.Proofs.YtofjebmoebhiiaaGreatDoor.Ev
namespace Go.Proofs.YtofjebmoebhiiaaGreatDoor.Ev
open Go.Abs Go.IntWalk
structure Rel (p:Int) (n:Nat) (st:List (Option (List Tm))) (dt:List Int) (sd:List (Option (List Int))) (by_:List Int) (em:List Bool):Prop where
 sto:Sto p n st
 sv:Sv p n st sd
 ldt:dt.length=n
 lby:by_.length=n
 lem:em.length=n
 d:∀i,i<n→dt.getD i 0=match st.getD i none with |some _=>by_.getD i 0 |none=>bif em.getD i false then -1 else -2
 b:∀i,i<n→0≤by_.getD i 0
theorem ajw {α:Type}{l:List (Option α)}{k j:Nat}{v:Option α}:(l.set k v).getD j none=if k=j∧k<l.length then v else l.getD j none:=by
 simp only[List.getD,List.getElem?_set]
 by_cases h:k=j
 ·subst h
  by_cases hk:k<l.length
  ·simp[hk]
  ·simp[hk]
 ·simp[h]
theorem aoc {l:List Bool}{k j:Nat}{v:Bool}:(l.set k v).getD j false=if k=j∧k<l.length then v else l.getD j false:=by
 simp only[List.getD,List.getElem?_set]
 by_cases h:k=j
 ·subst h
  by_cases hk:k<l.length
  ·simp[hk]
  ·simp[hk]
 ·simp[h]
theorem Rel.put {p:Int}{n:Nat}{st:List (Option (List Tm))}{dt:List Int}{sd:List (Option (List Int))}{by_:List Int}{em:List Bool}(h:Rel p n st dt sd by_ em){x:List Tm}{v:List Int}{t:Tm}(hx:Vc p n x)(hv:Vr n x v)(hr:Rs p v)(ht:x.getLast?=some t){j:Nat}:
  Rel p n (st.set t.1.toNat (some x)) (dt.set t.1.toNat j) (sd.set t.1.toNat (some v)) (by_.set t.1.toNat j) em:=by
 have htr:=hx.r t (Z6 ht)
 have ht0:=Sr.mem hx.s t (Z6 ht)
 have l1:=h.sto.len
 have l2:=h.sv.len
 have l3:=h.ldt
 have l4:=h.lby
 refine⟨⟨by simpa using l1,fun i y hy=> ?_⟩,⟨by simpa using l2,fun i hi=> ?_,fun i y hy=> ?_⟩,by simpa using l3,by simpa using l4,h.lem,fun i hi=> ?_,fun i hi=> ?_⟩
 ·rw[ajw] at hy
  split at hy
  ·rename_i e
   cases hy
   exact⟨hx,t,ht,by omega⟩
  ·exact h.sto.ok i y hy
 ·rw[ajw] at hi ⊢
  split at hi
  ·cases hi
  ·rename_i e
   rw[if_neg (by omega)]
   exact h.sv.none_ i hi
 ·rw[ajw] at hy ⊢
  split at hy
  ·rename_i e
   cases hy
   rw[if_pos (by omega)]
   exact⟨v,rfl,hv,hr⟩
  ·rename_i e
   rw[if_neg (by omega)]
   exact h.sv.some_ i y hy
 ·rw[oR,ajw,oR]
  by_cases e:t.1.toNat=i
  ·rw[if_pos (by omega),if_pos (by omega)]
   simp only
   rw[if_pos (by omega)]
  ·rw[if_neg (by omega),if_neg (by omega)]
   rw[h.d i hi]
   cases st.getD i none with
   |none=>rfl
   |some y=>simp only;rw[if_neg (by omega)]
 ·rw[oR]
  split
  ·omega
  ·exact h.b i hi
theorem Rel.empty {p:Int}{n:Nat}{st:List (Option (List Tm))}{dt:List Int}{sd:List (Option (List Int))}{by_:List Int}{em:List Bool}(h:Rel p n st dt sd by_ em){j:Nat}(hj:j<n):
  Rel p n st (if dt.getD j 0= -2 then dt.set j (-1) else dt) sd by_ (em.set j true):=by
 have l3:=h.ldt
 have l5:=h.lem
 refine⟨h.sto,h.sv,by split<;>simpa using l3,h.lby,by simpa using l5,fun i hi=> ?_,h.b⟩
 have hd:=h.d i hi
 by_cases e:j=i
 ·subst e
  have e5:(em.set j true).getD j false=true:=by rw[aoc,if_pos ⟨rfl,by omega⟩]
  rw[e5]
  cases hs:st.getD j none with
  |some y=>
   rw[hs] at hd
   have hb:=h.b j hi
   simp only at hd ⊢
   rw[if_neg (by omega)]
   exact hd
  |none=>
   rw[hs] at hd
   simp only at hd ⊢
   rw[cT]
   cases he:em.getD j false with
   |true=>rw[he,cT] at hd;rw[if_neg (by omega)];exact hd
   |false=>rw[he,cF] at hd;rw[if_pos hd,oR,if_pos (by omega)]
 ·have e5:(em.set j true).getD i false=em.getD i false:=by rw[aoc,if_neg (by omega)]
  rw[e5, ←hd]
  split
  ·rw[oR,if_neg (by omega)]
  ·rfl
end Go.Proofs.YtofjebmoebhiiaaGreatDoor.Ev
namespace Go.Abs
theorem Q1 {α:Type}{f:α→Option α}(h:∀y,f y=some y):∀ys:List α,k9 f ys=some ys
 | []=>rfl
 |a::r=>by rw[k9,h a,Q1 h r]
end Go.Abs
namespace Go.Proofs.YtofjebmoebhiiaaGreatDoor.Ev
open Go.Abs Go.IntWalk
def rg:Nat→Nat→List (Int×Unit)
 |_,0=>[]
 |j,m+1=>((j:Int),())::rg (j+1) m
theorem ahK (x:Tm):Bj (.pair (.int .i64) (.pair (.int .i64) (.unit))) (x.1,(x.2.1,())) (x.1,(x.2.1,()))=true:=by
 show ((x.1==x.1)&&((x.2.1==x.2.1)&&true))=true
 simp
end Go.Proofs.YtofjebmoebhiiaaGreatDoor.Ev
namespace Go.Proofs.YtofjebmoebhiiaaGreatDoor.Ev
open Go.Abs Go.IntWalk
abbrev Ge:=List (List Int)
theorem oS {β:Type}{xs:Ge}{k:Nat}{f:List Int→Option β}(h:k<xs.length):(idx xs (k:Int)).bind f=f (xs.getD k []):=dD [] h
theorem au {α:Type}{d:α}{l:List α}{k:Nat}(h:k<l.length):l.getD k d∈l:=by
 have:l.getD k d=l[k]:=by simp[List.getD,h]
 rw[this];exact List.getElem_mem _
def Sx (n:Nat)(l:Ge):Prop:=l.length≤n∧∀s∈l,s.length≤4
theorem Sx.getD {n:Nat}{l:Ge}(h:Sx n l){k:Nat}(hk:k<l.length):(l.getD k []).length≤4:=h.2 _ (au hk)
theorem Wc {n:Nat}(h:n≤4):shl .i64 1 (n:Int)=((2^n:Nat):Int)∧2^n≤16:=by
 have:n=0∨n=1∨n=2∨n=3∨n=4:=by omega
 rcases this with rfl |rfl |rfl |rfl |rfl<;>exact⟨rfl,by decide⟩
end Go.Proofs.YtofjebmoebhiiaaGreatDoor.Ev
namespace Go.Abs
abbrev Ce:=List Int×ByteArray×Unit
abbrev fW:Ce:=([],(ByteArray.empty,()))
abbrev OW:=Nat×ByteArray×Unit
abbrev ae0:OW:=(0,(ByteArray.empty,()))
abbrev tCe:Ty:= .st (.pair (.slice (.int .i64)) (.pair (.str) (.unit)))
abbrev alS:Ty:= .st (.pair (.ref 4) (.pair (.str) (.unit)))
theorem Ee {α:Type}{xs ys:List (Option (List α))}{n:Nat}{l:List α}(h:ah xs n=some l):ah (xs++ys) n=some l:=by
 cases n with
 |zero=>exact h
 |succ m=>
  simp only[ah] at h ⊢
  cases hx:xs[m]? with
  |none=>rw[hx] at h;cases h
  |some o=>
   rw[hx] at h
   rw[List.getElem?_append_left (List.getElem?_eq_some_iff.1 hx).1,hx]
   exact h
theorem lK {α:Type}{xs:List (Option (List α))}{l:List α}:ah (xs++[some l]) (xs.length+1)=some l:=by simp[ah]
theorem abQ {α:Type}{xs:List (Option (List α))}{y:Option (List α)}:dF (xs++[y]) (xs.length+1)=xs++[none]:=by simp[dF]
theorem ajx {α:Type}{xs:List (Option (List α))}{n:Nat}{l:List α}(h:ah xs n=some l)(hn:n≠0):∃m,n=m+1∧m<xs.length:=by
 cases n with
 |zero=>exact absurd rfl hn
 |succ m=>
  simp only[ah] at h
  cases hx:xs[m]? with
  |none=>rw[hx] at h;cases h
  |some o=>exact⟨m,rfl,(List.getElem?_eq_some_iff.1 hx).1⟩
theorem rE {α:Type}{xs:List (Option (List α))}{n:Nat}{l l':List α}(h:ah xs n=some l)(hn:n≠0):ah (je xs n l') n=some l':=by
 obtain⟨m,rfl,hm⟩:=ajx h hn
 simp[ah,je,hm]
theorem XQ {α:Type}{xs:List (Option (List α))}{n:Nat}{l:List α}(h:ah xs n=some l)(hl:l≠ []):n≠0:=fun e=>by
 subst e
 simp only[ah,Option.some.injEq] at h
 exact hl h.symm
theorem zD {α β:Type}{f:α→Option β}{g:α→β}:∀ys:List α,(∀y∈ys,f y=some (g y))→k9 f ys=some (ys.map g)
 | [],_=>rfl
 |a::r,h=>by rw[k9,h a (by simp),zD r fun y hy=>h y (by simp[hy])];rfl
theorem Wd {ae:List aV}{hp:List (Option (List Int))}(h4:ae[4]? =some ⟨3, .int .i64,0,true,hp⟩){n:Nat}{l:List Int}(hg:ah hp n=some l)(r:List CV):snap ae (.slice (.int .i64)) (⟨.ref 4,n⟩::r)=some (l,r):=by
 unfold snap Is
 simp only
 rw[h4]
 simp only
 cases n with
 |zero=>
  have:l=[]:=by simpa [ah] using hg.symm
  subst this
  rfl
 |succ k=>
  have hb:Nat.beq (k+1) 0=false:=rfl
  rw[hb,hg]
  simp only[cond_false,Option.bind_some]
  rw[Q1 (fun y=>by rfl)]
  rfl
theorem T4 {ae:List aV}{hp:List (Option (List Int))}(h4:ae[4]? =some ⟨3, .int .i64,0,true,hp⟩){n:Nat}{l:List Int}(hg:ah hp n=some l):typed ae (.slice (.int .i64)) (.rv (.cv ⟨.ref 4,n⟩))=some l:=by
 unfold typed
 simp only
 unfold yL
 rw[Wd h4 hg]
theorem abR {ae:List aV}{aC:List (Option (List Int))}{ko:List (Option (List OW))}(h4:ae[4]? =some ⟨3, .int .i64,0,true,aC⟩)(h8:ae[8]? =some ⟨101,alS,0,true,ko⟩){n:Nat}{rows:List OW}(hg:ah ko n=some rows)
  (hr:∀x∈rows,∃s,ah aC x.1=some s):typed ae (.slice tCe) (.rv (.cv ⟨.ref 8,n⟩))=some (rows.map fun x=>((ah aC x.1).getD [],(x.2.1,()))):=by
 unfold typed
 simp only
 unfold yL snap Is
 simp only
 rw[h8]
 simp only
 cases n with
 |zero=>
  have:rows=[]:=by simpa [ah] using hg.symm
  subst this
  rfl
 |succ k=>
  have hb:Nat.beq (k+1) 0=false:=rfl
  rw[hb,hg]
  simp only[cond_false,Option.bind_some]
  rw[zD (g:=fun x:OW=>((ah aC x.1).getD [],(x.2.1,()))) rows (fun y hy=>by
   obtain⟨s,hs⟩:=hr y hy
   obtain⟨a,b,u⟩:=y
   have e:snap ae tCe (flat alS ((a,(b,u)):OW))=some ((s,(b,())),[]):=by
    have e0:flat alS ((a,(b,u)):OW)=[⟨.ref 4,a⟩,⟨.str,b⟩]:=rfl
    rw[e0,snap,snap,Wd h4 hs]
    rfl
   rw[e,hs]
   rfl)]
  rfl
end Go.Abs
namespace Go.Proofs.YtofjebmoebhiiaaGreatDoor.Ev
open Go.Abs Go.IntWalk
theorem Z7:((List.range 24).all fun i=>match xp 400 ((i:Int) - 8) 4 with
  |some s=>u6 s&&Nat.ble s.size 20
  |none=>false)=true:=by kernel_rfl
def At (s:ByteArray):Prop:=u6 s=true∧s.size≤20
theorem Z8 (n:Int):∃s,rb n=some s∧At s:=by
 have h1:=Int.tmod_lt_of_pos n (show (0:Int)<24 by omega)
 have h2:=Int.lt_tmod_of_pos n (show (0:Int)<24 by omega)
 rw[KQ,Cj]
 rw[i64_in (n.tmod 24+24) (by omega),bD (by omega)]
 have h3:=Int.emod_nonneg (n.tmod 24+24) (show (24:Int)≠0 by omega)
 have h4:=Int.emod_lt_of_pos (n.tmod 24+24) (show (0:Int)<24 by omega)
 rw[i64_in _ (by omega)]
 obtain⟨i,hi⟩:=Int.eq_ofNat_of_zero_le h3
 rw[hi]
 have ht:=List.all_eq_true.1 Z7 i (List.mem_range.2 (by omega))
 rw[G8] at ht
 cases hf:gi ((i:Int) - 8) 4 with
 |none=>rw[hf] at ht;cases ht
 |some s=>
  rw[hf] at ht
  simp only[Bool.and_eq_true] at ht
  exact⟨s,by rw[bS],ht.1,Nat.le_of_ble_eq_true ht.2⟩
def Cs (l:List Ce):Prop:=l.length≤800∧∀x∈l,x.1.length≤4∧At x.2.1
def Cr (aC:List (Option (List Int)))(rows:List OW):Prop:=∀x∈rows,(∃s,ah aC x.1=some s∧s.length≤4)∧At x.2.1
theorem Cr.append {aC ys:List (Option (List Int))}{rows:List OW}(h:Cr aC rows):Cr (aC++ys) rows:=fun x hx=>by
 obtain⟨⟨s,h1,h2⟩,h3⟩:=h x hx
 exact⟨⟨s,Ee h1,h2⟩,h3⟩
end Go.Proofs.YtofjebmoebhiiaaGreatDoor.Ev
namespace Go.Proofs.YtofjebmoebhiiaaGreatDoor.Ev
open Go.Abs Go.IntWalk
theorem Cr.set {aC:List (Option (List Int))}{rows:List OW}(h:Cr aC rows){x:OW}(hx:(∃s,ah aC x.1=some s∧s.length≤4)∧At x.2.1)(k:Nat):Cr aC (rows.set k x):=fun y hy=>by
 rcases List.mem_or_eq_of_mem_set hy with hy |rfl
 ·exact h y hy
 ·exact hx
def Ats (n:Nat)(l:List ByteArray):Prop:=l.length=n∧∀s∈l,At s
theorem ada {β:Type}{xs:List ByteArray}{k:Nat}{f:ByteArray→Option β}(h:k<xs.length):(idx xs (k:Int)).bind f=f (xs.getD k ByteArray.empty):=dD _ h
theorem Cs.nil:Cs []:=⟨by simp,fun x hx=>by cases hx⟩
theorem JX {β:Type}{xs:List Ce}{k:Nat}{f:Ce→Option β}(h:k<xs.length):(idx xs (k:Int)).bind f=f (xs.getD k fW):=dD fW h
end Go.Proofs.YtofjebmoebhiiaaGreatDoor.Ev
