/- YtofjebmoebhiiaaGreatDoorKf: a part of the proof (Vf, L2, L3 ..). No condition. -/
import Derived.Test.YtofjebmoebhiiaaGreatDoorKe
set_option linter.unusedVariables false
set_option linter.unusedSimpArgs false
set_option maxRecDepth 100000
set_option exponentiation.threshold 2000
namespace Go.Proofs.YtofjebmoebhiiaaGreatDoor.Ev
open Go.Abs Go.IntWalk
theorem QQ {β:Type}{xs:List Cl}{k:Nat}{f:Cl→Option β}(h:k<xs.length):(idx xs (k:Int)).bind f=f (xs.getD k ju):=gG ju h
theorem akG {xs:List Cl}{k:Nat}(h:k<xs.length):xs[(k:Int).toNat]? =some (xs.getD k ju):=by rw[Int.toNat_natCast];simp[List.getD,h]
theorem JK {β:Type}{xs:List Int}{k:Nat}{f:Int→Option β}(h:k<xs.length):(idx xs (k:Int)).bind f=f (xs.getD k 0):=gG 0 h
theorem VV {xs:List Int}{k:Nat}(h:k<xs.length):xs[(k:Int).toNat]? =some (xs.getD k 0):=by rw[Int.toNat_natCast];simp[List.getD,h]
theorem Uz {p:Int}{aa:List Cl}(hl:aa.length≤30)(hb:∀x∈aa,x.2.2.1.length≤1000){t:Int}{t2:Nat}:∀(q i ai:Nat) (k9:List (Option (List Cl))) (r:List Cl),q+i=aa.length→ag k9 ai=some r→r=aa.take i→
  ∃QR ZW,fo i p aa t t2 p ai k9=some ((p,(QR,())),ZW)∧ag ZW QR=some aa:=by
 intro q
 induction q with
 |zero=>
  intro i ai k9 r hi hg hr
  rw[uo,oz,ao (by omega)]
  refine⟨ai,k9,rfl, ?_⟩
  rw[hg,hr,List.take_of_length_le (by omega)]
 |succ q ih=>
  intro i ai k9 r hi hg hr
  have hm:=hb _ (aw (d:=ju) (show i<aa.length by omega))
  rw[uo,oz,au (by omega),QQ (by omega),ja (by omega) (by omega)]
  simp only
  rw[hg,bS,ja (by omega) (by rw[hr];simp;omega),b5 (by omega)]
  refine ih (i+1) _ _ _ (by omega) lQ ?_
  rw[hr,List.take_add_one]
  congr 1
  simp[List.getD,show i<aa.length by omega]
theorem ZX {p:Int}{aa:List Cl}(hl:aa.length≤30)(hb:∀x∈aa,x.2.2.1.length≤1000):∃QR ZW,pX (p,(aa,())) []=some ((p,(QR,())),ZW)∧ag ZW QR=some aa:=by
 rw[I4,Ax]
 exact Uz hl hb aa.length 0 0 [] [] (by omega) rfl (by simp)
theorem ZY {x:List Tm}{n:Nat}(hl:x.length≤1000000000)(hx:∀t∈x,0≤t.1∧t.1<n){out:Nat}(ho0:out≠0):∀(m i:Nat) (aD:List (Option (List Int))) (l:List Int),m+i=x.length→ag aD out=some l→l.length=n→
  ∃A5,de x out i aD=some (out,A5)∧ag A5 out=some (mh l (x.drop i)):=by
 intro m
 induction m with
 |zero=>intro i aD l hi hg ho;rw[p5,kb,ao (by omega),List.drop_eq_nil_of_le (by omega)];exact⟨aD,rfl,hg⟩
 |succ m ih=>
  intro i aD l hi hg ho
  have hb:∀{β:Type} {f:Tm→Option β},(idx x (i:Int)).bind f=f (x.getD i A8):=gG A8 (by omega)
  have hr:=hx _ (aw (d:=A8) (show i<x.length by omega))
  rw[p5,kb,au (by omega),hb,hb,hg,bS,gp (by omega) (by omega),bS,tN (by omega),b5 (by omega),eY A8 (show i<x.length by omega),mh]
  exact ih (i+1) _ _ (by omega) (rf hg ho0) (by rw[List.length_set];exact ho)
theorem aeY {a b:Int}{A B:Int}(ha:0≤a∧a≤A)(hb:0≤b∧b≤B):0≤a*b∧a*b≤A*B:=⟨Int.mul_nonneg ha.1 hb.1,Int.mul_le_mul ha.2 hb.2 hb.1 (by omega)⟩
theorem vt1 {x c:Int}(hc:1≤c∧c≤1000):0≤(IntKind.wrap .i64 (x.tmod c+c)).tmod c∧(IntKind.wrap .i64 (x.tmod c+c)).tmod c<c:=by
 have h1:=Int.tmod_lt_of_pos x (show 0<c by omega)
 have h2:=Int.lt_tmod_of_pos x (show 0<c by omega)
 rw[i64_in _ (by omega),br (by omega)]
 exact⟨Int.emod_nonneg _ (by omega),Int.emod_lt_of_pos _ (by omega)⟩
theorem Go1.sz {p:Int}{aa:List Cl}(h:Go1 p aa):Sz aa:=⟨fun j=>by
 by_cases hj:j<aa.length
 ·have:=(h.2.2 _ (aw (d:=ju) hj)).1.2
  unfold ki;omega
 ·have:aa.getD j ju=ju:=by simp[List.getD,List.getElem?_eq_none (show aa.length≤j by omega)]
  unfold ki;rw[this];decide,fun j=>by
 by_cases hj:j<aa.length
 ·have h1:=(h.2.2 _ (aw (d:=ju) hj)).2.length (by omega)
  have:=h.1
  omega
 ·have:aa.getD j ju=ju:=by simp[List.getD,List.getElem?_eq_none (show aa.length≤j by omega)]
  rw[this];simp⟩
end Go.Proofs.YtofjebmoebhiiaaGreatDoor.Ev
namespace Go.Proofs.YtofjebmoebhiiaaGreatDoor.Ev
open Go.Abs Go.IntWalk
theorem ahT:jJ=some true:=(K2 300).symm.trans (by kernel_rfl)
end Go.Proofs.YtofjebmoebhiiaaGreatDoor.Ev
namespace Go.Abs
abbrev abH:Ty:= .st (.pair (.slice (.slice (.int .i64))) (.pair (.slice (.int .i64)) (.pair (.int .i64) (.pair (.slice (.int .i64)) .unit))))
end Go.Abs
namespace Go.Proofs.YtofjebmoebhiiaaGreatDoor.Ev
open Go.Abs
theorem aeZ {l:List (List Int)}{v t:List Int}{f:Int}(h:Bnd abH (l,(v,(f,(t,()))))):l.length≤1000000000000000000∧(∀s∈l,s.length≤1000000000000000000)∧v.length≤1000000000000000000∧t.length≤1000000000000000000:=by
 obtain⟨⟨h1,h2⟩,⟨h3,_⟩,_,⟨h4,_⟩,_⟩:=h
 refine⟨Nat.le_trans h1 (by decide),fun s hs=>Nat.le_trans (h2 s hs).1 (by decide),Nat.le_trans h3 (by decide),Nat.le_trans h4 (by decide)⟩
end Go.Proofs.YtofjebmoebhiiaaGreatDoor.Ev
namespace Go.Proofs.YtofjebmoebhiiaaGreatDoor.Ev
open Go.Abs Go.IntWalk
def RT (n d:Int):ByteArray:=if d=1 then fH n else (fH n++bs [47])++fH d
def abI (s:ByteArray):ByteArray:=RT (-(kN s).1) (kN s).2
theorem ahU {z:Int}(h:nd z≤1000):(fH z).size≤1001:=Nat.le_trans (uJ z) (by omega)
theorem XD:(bs [47]).size=1:=rfl
theorem cbl {a b:Nat}{α:Type}{x y:α}(h:a≤b):(bif Nat.ble a b then x else y)=x:=by rw[Nat.ble_eq_true_of_le h];rfl
theorem amb {n d:Int}(hn:nd n≤1000):oT (WR n d)=some (WR (-n) d):=by
 have l1:=DZ n
 rw[E3,zF]
 simp only[wk]
 rw[PJ (by omega),bS]
theorem ajO {n d:Int}(hn:nd n≤1000)(hd:nd d≤1000)(h0:0<d):mK (WR n d)=some (RT n d):=by
 have l1:=DZ n
 have l2:=DZ d
 have l3:=aeN
 have s1:=ahU hn
 have s2:=ahU hd
 rw[Dm,xG]
 simp only[wk]
 rw[abt h0,bS,aeM,bS]
 simp only[wk]
 rw[jS (by omega) (by omega),bS,DW (by omega),RT]
 by_cases e:d=1
 ·subst e
  rw[if_pos rfl,mi (wh rfl),bS]
 ·have hc:ml d 1≠0:=by unfold ml;split<;>(try split)<;>omega
  rw[if_neg e,FJ hc,bS,cbl (by rw[XD];omega),DW (by omega),bS,cbl (by rw[ByteArray.size_append,XD];omega)]
theorem XE {s:ByteArray}{n d:Int}(h:Rt s n d):abI s=RT (-n) d:=by unfold abI;rw[h.val]
end Go.Proofs.YtofjebmoebhiiaaGreatDoor.Ev
namespace Go.Proofs.YtofjebmoebhiiaaGreatDoor.Ev
open Go.Abs Go.IntWalk
theorem ahV:∀{a b:List Int},(∀x∈a,x≠47)→fs (a++47::b)=some a.length
 | [],b,_=>by rw[List.nil_append,fs,if_pos rfl];rfl
 |x::r,b,h=>by
  rw[List.cons_append,fs,if_neg (h x List.mem_cons_self),ahV fun y hy=>h y (List.mem_cons_of_mem _ hy)]
  rfl
theorem ahW:∀A B:List Int,(A++47::B).drop (A.length+1)=B
 | [],B=>rfl
 |x::A,B=>ahW A B
theorem amc {z:Int}:∀x∈bytesOf (fH z),x≠47:=fun x hx=>by
 rw[du] at hx
 unfold qI at hx
 rcases List.mem_append.1 hx with hx |hx
 ·split at hx
  ·simp at hx;omega
  ·cases hx
 ·have:=oJ _ x hx;omega
theorem aot {n d:Int}(hn:n≠0)(hd:2≤d)(hg:Int.gcd n d=1):Rt (RT n d) n d:=by
 have e:bytesOf (RT n d)=bytesOf (fH n)++47::bytesOf (fH d):=by
  unfold RT
  rw[if_neg (by omega),Jx,Jx,aok,List.append_assoc];rfl
 have hl:(bytesOf (fH n)).length=(bytesOf (fH n)).length:=rfl
 refine Rt.Xr (k:=(bytesOf (fH n)).length) (by rw[e];exact ahV amc) ?_ ?_ hn hd hg
 ·apply lP
  rw[lk,List.drop_zero,e,List.take_left]
 ·apply lP
  rw[lk, ←aP,List.take_length,e]
  exact ahW _ _
theorem Rt.opp {s:ByteArray}{n d:Int}(h:Rt s n d):Rt (abI s) (-n) d:=by
 rw[XE h]
 cases h with
 |whole=>unfold RT;rw[if_pos rfl];exact Rt.whole _
 |Xr hk h1 h2 hn hd hg=>exact aot (by omega) hd (by rw[Int.neg_gcd];exact hg)
theorem Rt.aqy {s:ByteArray}{n d:Int}(h:Rt s n d)(hs:s.size≤20):nd n≤20∧nd d≤20:=by
 cases h with
 |whole=>exact⟨by have:=wu n;omega,by have:=JA (x:=1) (by decide);omega⟩
 |Xr hk h1 h2 hn hd hg=>
  refine⟨?_, ?_⟩
  ·have e1:=wu n;rw[←h1] at e1;exact Nat.le_trans e1 (Nat.le_trans (extract_size s _ _) hs)
  ·have e1:=wu d;rw[←h2] at e1;exact Nat.le_trans e1 (Nat.le_trans (extract_size s _ _) hs)
theorem ahX {s:ByteArray}{n d:Int}(h:Rt s n d)(hs:s.size≤20):(abI s).size≤100:=by
 obtain⟨h1,h2⟩:=h.aqy hs
 have s1:=uJ (-n)
 have s2:=uJ d
 rw[Tv] at s1
 rw[XE h]
 unfold RT
 split
 ·omega
 ·rw[ByteArray.size_append,ByteArray.size_append,XD];omega
end Go.Proofs.YtofjebmoebhiiaaGreatDoor.Ev
namespace Go.Abs
abbrev aou:Ty:= .st (.pair (.int .i64) (.pair (.str) (.pair (.ref 2) (.unit))))
end Go.Abs
namespace Go.Proofs.YtofjebmoebhiiaaGreatDoor.Ev
open Go.Abs Go.IntWalk
theorem TN:∀(v:List Int) (i:Nat) (x:Int),MT i (v++[x])=MT i v++(if x=0 then [] else [(((i+v.length:Nat):Int),(x,()))])
 | [],i,x=>by by_cases h:x=0<;>simp[MT,h]
 |y::r,i,x=>by
  have e:i+1+r.length=i+(r.length+1):=by omega
  by_cases h:y=0
  ·simp only[List.cons_append,MT,h,ne_eq,not_true_eq_false,if_false,TN r (i+1) x,List.length_cons,e]
  ·simp only[List.cons_append,MT,h,ne_eq,not_false_eq_true,if_true,TN r (i+1) x,List.length_cons,e]
def dvv (aa:List Cl)(n m j:Nat):List Int:=(List.range m).map fun i=>cf (df aa ((n - 1 - i:Nat):Int)) ((n - 1 - j:Nat):Int)
def Dv (aa:List Cl)(n m j:Nat):List Tm:=MT 0 (dvv aa n m j)
def pt (l:List Tm)(r:Int)(m:Nat):List Tm:=if cf l r=0 then [] else [((m:Int),(cf l r,()))]
theorem ajP (aa:List Cl)(n m j:Nat):Dv aa n (m+1) j=Dv aa n m j++pt (df aa ((n - 1 - m:Nat):Int)) ((n - 1 - j:Nat):Int) m:=by
 unfold Dv dvv pt
 rw[List.range_succ,List.map_append,List.map_cons,List.map_nil,TN]
 simp
theorem VW (aa:List Cl)(n m j:Nat):(Dv aa n m j).length≤m:=by
 have:=TI (dvv aa n m j) 0
 have e:(dvv aa n m j).length=m:=by simp[dvv]
 unfold Dv;omega
theorem amd (r:Int)(m:Nat):pt [] r m=[]:=by unfold pt;rw[GW,if_pos rfl]
theorem TO {t:Tm}{r:Int}(h:t.1≠r):∀l:List Tm,cf (l++[t]) r=cf l r
 | []=>by rw[List.nil_append,rb,if_neg h]
 |x::l=>by rw[List.cons_append,rb,rb,TO h l]
theorem acZ {t:Tm}:∀(l:List Tm) (lo:Int),Sr lo (l++[t])→cf l t.1=0∧cf (l++[t]) t.1=t.2.1
 | [],lo,h=>⟨rfl,by rw[List.nil_append,rb,if_pos rfl]⟩
 |x::l,lo,h=>by
  have h2:Sr x.1 (l++[t]):=h.2
  have hlt:=h2.mem t (by simp)
  rw[List.cons_append,rb,rb,if_neg (by omega),if_neg (by omega)]
  exact acZ l x.1 h2
theorem Sr.left {b:List Tm}:∀{a:List Tm} {lo:Int},Sr lo (a++b)→Sr lo a
 | [],_,_=>trivial
 |_::_,_,h=>⟨h.1,Sr.left h.2⟩
theorem ae0 {l:List Tm}{i:Nat}(h:i<l.length):l.take (i+1)=l.take i++[l.getD i A8]:=by
 rw[List.take_add_one,List.getElem?_eq_getElem h];simp[List.getD,h]
theorem ajQ {l:List Tm}{i:Nat}(hs:Sr (-1) l)(h:i<l.length):cf (l.take i) (l.getD i A8).1=0∧cf (l.take (i+1)) (l.getD i A8).1=(l.getD i A8).2.1∧∀r,(l.getD i A8).1≠r→cf (l.take (i+1)) r=cf (l.take i) r:=by
 have h2:Sr (-1) (l.take (i+1)):=by
  have h3:=hs
  rw[←List.take_append_drop (i+1) l] at h3
  exact Sr.left h3
 rw[ae0 h] at h2 ⊢
 obtain⟨h4,h5⟩:=acZ _ _ h2
 exact⟨h4,h5,fun r hr=>TO hr _⟩
abbrev CR:=Int×ByteArray×Nat×Unit
abbrev Hw:CR:=(0,(ByteArray.empty,(0,())))
theorem PT {α:Type}(d:α){l:List α}{k j:Nat}{v:α}:(l.set k v).getD j d=if k=j∧k<l.length then v else l.getD j d:=by
 by_cases h:k=j
 ·subst h
  by_cases h2:k<l.length<;>simp[List.getD,h2]
 ·simp[List.getD,h]
theorem Kg {α:Type}(xs:List (Option (List α)))(m:Nat):(dA xs m).length=xs.length:=by cases m<;>simp[dA]
theorem ae1 {α:Type}{xs:List (Option (List α))}{m r:Nat}{l:List α}{o:Option (List α)}(h:ag xs r=some l)(hne:r=m→r=0):ag (dA xs m++[o]) r=some l:=by
 cases r with
 |zero=>exact h
 |succ r=>
  have at3:r+1≠m:=fun e=>by have:=hne e;omega
  have hx:xs[r]? =some (some l):=by
   have h':(match xs[r]? with |some o=>o |none=>none)=some l:=h
   cases hr:xs[r]? with
   |none=>rw[hr] at h';cases h'
   |some o=>rw[hr] at h';simp only at h';rw[h']
  have hlt:r<xs.length:=(List.getElem?_eq_some_iff.1 hx).1
  have hk:(dA xs m)[r]? =some (some l):=by
   cases m with
   |zero=>exact hx
   |succ m=>show (xs.set m none)[r]? =_;rw[List.getElem?_set_ne (by omega)];exact hx
  show (match (dA xs m++[o])[r]? with |some o=>o |none=>none)=some l
  rw[List.getElem?_append_left (by rw[Kg];exact hlt),hk]
theorem UA {α:Type}{xs:List (Option (List α))}{m:Nat}{l:List α}:ag (dA xs m++[some l]) ((dA xs m).length+1)=some l:=lQ
structure DS (n:Nat) (ds:Nat→Int×ByteArray) (rs:List CR) (hp2:List (Option (List Tm))) (L:Nat→List Tm):Prop where
 len:rs.length=n
 get:∀j,j<n→ag hp2 (rs.getD j Hw).2.2.1=some (L j)
 inj:∀i j,i<n→j<n→i≠j→(rs.getD i Hw).2.2.1=(rs.getD j Hw).2.2.1→(rs.getD i Hw).2.2.1=0
 lt:∀j,j<n→(rs.getD j Hw).2.2.1≤hp2.length
 ds:∀j,j<n→(rs.getD j Hw).1=(ds j).1∧(rs.getD j Hw).2.1=(ds j).2
theorem DS.congr {n:Nat}{ds:Nat→Int×ByteArray}{rs:List CR}{hp2:List (Option (List Tm))}{L L':Nat→List Tm}(h:DS n ds rs hp2 L)(e:∀j,j<n→L j=L' j):DS n ds rs hp2 L':=
 ⟨h.len,fun j hj=>by rw[h.get j hj,e j hj],h.inj,h.lt,h.ds⟩
theorem DS.step {n:Nat}{ds:Nat→Int×ByteArray}{rs:List CR}{hp2:List (Option (List Tm))}{L:Nat→List Tm}(h:DS n ds rs hp2 L){j:Nat}(hj:j<n){x:Tm}:
  DS n ds (rs.set j ((rs.getD j Hw).1,((rs.getD j Hw).2.1,((dA hp2 (rs.getD j Hw).2.2.1).length+1,())))) (dA hp2 (rs.getD j Hw).2.2.1++[some (L j++[x])]) (fun i=>if i=j then L j++[x] else L i):=by
 have hl:=h.len
 have nw:∀i,(rs.set j ((rs.getD j Hw).1,((rs.getD j Hw).2.1,((dA hp2 (rs.getD j Hw).2.2.1).length+1,())))).getD i Hw=if i=j then ((rs.getD j Hw).1,((rs.getD j Hw).2.1,((dA hp2 (rs.getD j Hw).2.2.1).length+1,()))) else rs.getD i Hw:=fun i=>by
  rw[PT]
  by_cases e:i=j
  ·subst e;rw[if_pos ⟨rfl,by omega⟩,if_pos rfl]
  ·rw[if_neg (fun h=>e h.1.symm),if_neg e]
 refine⟨by rw[List.length_set];exact hl,fun i hi=> ?_,fun a b ha hb hab=> ?_,fun i hi=> ?_,fun i hi=> ?_⟩
 ·rw[nw]
  by_cases e:i=j
  ·subst e
   rw[if_pos rfl]
   simp only[if_true]
   exact UA
  ·rw[if_neg e]
   simp only[if_neg e]
   exact ae1 (h.get i hi) fun h2=>h.inj i j hi hj e h2
 ·rw[nw,nw]
  by_cases ea:a=j
  ·subst ea
   rw[if_pos rfl,if_neg (Ne.symm hab)]
   intro e2
   have:=h.lt b hb
   simp only at e2
   rw[Kg] at e2
   omega
  ·rw[if_neg ea]
   by_cases eb:b=j
   ·subst eb
    rw[if_pos rfl]
    intro e2
    have:=h.lt a ha
    simp only at e2
    rw[Kg] at e2
    omega
   ·rw[if_neg eb]
    exact h.inj a b ha hb hab
 ·rw[nw,List.length_append,Kg]
  by_cases e:i=j
  ·rw[if_pos e];simp
  ·rw[if_neg e];exact Nat.le_succ_of_le (h.lt i hi)
 ·rw[nw]
  by_cases e:i=j
  ·subst e;rw[if_pos rfl];exact h.ds i hi
  ·rw[if_neg e];exact h.ds i hi
theorem ajR (ae:List aT)(y:Tm):snap ae tTm (flat tTm y)=some (y,[]):=by
 obtain⟨a,b,u⟩:=y
 rfl
theorem ajS {ae:List aT}{hp2:List (Option (List Tm))}(h2:ae[2]? =some ⟨44,tTm,0,true,hp2⟩){r:CR}{l:List Tm}(h:ag hp2 r.2.2.1=some l):snap ae tCl (flat aou r)=some ((r.1,(r.2.1,(l,()))),[]):=by
 obtain⟨a,b,m,u⟩:=r
 simp only at h ⊢
 have e:snap ae (.slice tTm) [⟨.ref 2,m⟩]=some (l,[]):=by
  unfold snap F1
  simp only
  rw[h2]
  simp only
  cases m with
  |zero=>
   have:l=[]:=by simpa [ag] using h.symm
   subst this
   rfl
  |succ k=>
   have hb:Nat.beq (k+1) 0=false:=rfl
   rw[hb,h]
   simp only[cond_false,Option.bind_some]
   rw[zq (g:=fun x:Tm=>x) l (fun y _=>by rw[ajR])]
   simp
 show snap ae (.pair (.int .i64) (.pair .str (.pair (.slice tTm) .unit))) [⟨.int .i64,a⟩,⟨.str,b⟩,⟨.ref 2,m⟩]=_
 unfold snap
 rw[show snap ae (.int .i64) [⟨.int .i64,a⟩,⟨.str,b⟩,⟨.ref 2,m⟩]=some (a,[⟨.str,b⟩,⟨.ref 2,m⟩]) from rfl]
 simp only
 unfold snap
 rw[show snap ae .str [⟨.str,b⟩,⟨.ref 2,m⟩]=some (b,[⟨.ref 2,m⟩]) from rfl]
 simp only
 unfold snap
 rw[e]
 rfl
theorem abJ {ae:List aT}{hp1:List (Option (List CR))}{hp2:List (Option (List Tm))}(h1:ae[1]? =some ⟨42,aou,0,true,hp1⟩)(h2:ae[2]? =some ⟨44,tTm,0,true,hp2⟩){p:Int}{n:Nat}{rs:List CR}(hg:ag hp1 n=some rs){g:CR→List Tm}(hr:∀r∈rs,ag hp2 r.2.2.1=some (g r)):
  typed ae tCh (.rv (.agg [⟨.int .i64,p⟩,⟨.ref 1,n⟩]))=some (p,(rs.map fun r=>(r.1,(r.2.1,(g r,()))),())):=by
 unfold typed
 simp only
 have e:snap ae (.slice tCl) [⟨.ref 1,n⟩]=some (rs.map fun r=>(r.1,(r.2.1,(g r,()))),[]):=by
  unfold snap F1
  simp only
  rw[h1]
  simp only
  cases n with
  |zero=>
   have:rs=[]:=by simpa [ag] using hg.symm
   subst this
   rfl
  |succ k=>
   have hb:Nat.beq (k+1) 0=false:=rfl
   rw[hb,hg]
   simp only[cond_false,Option.bind_some]
   rw[zq (g:=fun r:CR=>(r.1,(r.2.1,(g r,())))) rs (fun y hy=>by rw[ajS h2 (hr y hy)])]
   simp
 unfold uQ
 rw[show snap ae (.pair (.int .i64) (.pair (.slice tCl) (.unit))) [⟨.int .i64,p⟩,⟨.ref 1,n⟩]=some ((p,(rs.map fun r=>(r.1,(r.2.1,(g r,()))),())),[]) from by
  unfold snap
  rw[show snap ae (.int .i64) [⟨.int .i64,p⟩,⟨.ref 1,n⟩]=some (p,[⟨.ref 1,n⟩]) from rfl]
  simp only
  unfold snap
  rw[e]
  rfl]
end Go.Proofs.YtofjebmoebhiiaaGreatDoor.Ev
namespace Go.Proofs.YtofjebmoebhiiaaGreatDoor.Ev
open Go.Abs Go.IntWalk
theorem ac0 {α β:Type}(d:α){xs:List α}{k:Nat}{f:α→Option β}(h:k<xs.length):(xs[k]?).bind f=f (xs.getD k d):=by rw[List.getElem?_eq_getElem h];simp[List.getD,h]
theorem XF {last k c t4 p:Int}{aa:List Cl}{t5 o:Nat}{hp1:List (Option (List CR))}:gY last k c aa t4 t5 p o hp1=iy last k c aa t4 t5 p o hp1 []:=rfl
theorem XG {aa:List Cl}{n:Nat}(hc:aa.length=n)(hn:n≤1024){q0:Int}{m:Nat}(hm:m<n)(hv:Vc q0 n (df aa ((n - 1 - m:Nat):Int))){ds:Nat→Int×ByteArray}{c t4 p:Int}{t5:Nat}:
  ∀(q i:Nat) (rs:List CR) (hp2:List (Option (List Tm))),q+i=(df aa ((n - 1 - m:Nat):Int)).length→DS n ds rs hp2 (fun j=>Dv aa n m j++pt ((df aa ((n - 1 - m:Nat):Int)).take i) ((n - 1 - j:Nat):Int) m)→
  ∃rs' ae2,DS n ds rs' ae2 (Dv aa n (m+1))∧eV ((n:Int) - 1) ((n - 1 - m:Nat):Int) (df aa ((n - 1 - m:Nat):Int)) (df aa ((n - 1 - m:Nat):Int)).length i c aa t4 t5 p 1 [some rs] hp2=
   iy ((n:Int) - 1) (((n - 1 - m:Nat):Int) - 1) c aa t4 t5 p 1 [some rs'] ae2:=by
 intro q
 induction q with
 |zero=>
  intro i rs hp2 hi h
  refine⟨rs,hp2,h.congr fun j hj=> ?_, ?_⟩
  ·rw[List.take_of_length_le (by omega),ajP]
  ·rw[vb,qY,ao (by omega),i64_in (((n - 1 - m:Nat):Int) - 1) (by omega)]
 |succ q ih=>
  intro i rs hp2 hi h
  generalize hb:df aa ((n - 1 - m:Nat):Int)=b at*
  have hi':i<b.length:=by omega
  have hlen:b.length≤1024:=by have:=hv.length (by omega);omega
  have ht:b.getD i A8∈b:=aw hi'
  obtain⟨c1,c2,c3⟩:=ajQ hv.s hi'
  have r1:=hv.r _ ht
  have r0:=Sr.mem hv.s _ ht
  generalize hte:b.getD i A8=t at*
  obtain⟨j,hj⟩:∃j:Nat,(n:Int) - 1 - t.1=(j:Int):=⟨((n:Int) - 1 - t.1).toNat,by omega⟩
  have hjn:j<n:=by omega
  have ej:((n - 1 - j:Nat):Int)=t.1:=by omega
  have g1:ag [some rs] 1=some rs:=rfl
  have ew:IntKind.wrap .i64 ((n:Int) - 1 - t.1)=(j:Int):=by rw[hj,i64_in _ (by omega)]
  have em:IntKind.wrap .i64 ((n:Int) - 1 - ((n - 1 - m:Nat):Int))=(m:Int):=by rw[i64_in _ (by omega)];omega
  have hjl:j<rs.length:=by rw[h.len];exact hjn
  have hg:=h.get j hjn
  have st:=h.step hjn (x:=((m:Int),(t.2.1,())))
  rw[ej,show pt (b.take i) t.1 m=[] from by unfold pt;rw[if_pos c1],List.append_nil] at hg
  have hll:=VW aa n m j
  have hs1:∀rs',jg [some rs] 1 rs'=[some rs']:=fun _=>rfl
  obtain⟨rs',ae2,k1,k2⟩:=ih (i+1) _ _ (by omega) (st.congr fun j' hj'=>by
   by_cases e:j'=j
   ·subst e
    rw[if_pos rfl,ej,show pt (b.take i) t.1 m=[] from by unfold pt;rw[if_pos c1],show pt (b.take (i+1)) t.1 m=[((m:Int),(t.2.1,()))] from by unfold pt;rw[c2,if_neg (by omega)],List.append_nil]
   ·rw[if_neg e]
    have:cf (b.take (i+1)) ((n - 1 - j':Nat):Int)=cf (b.take i) ((n - 1 - j':Nat):Int):=c3 _ (by omega)
    unfold pt
    rw[this])
  refine⟨rs',ae2,k1, ?_⟩
  rw[←k2,vb,qY,au (by omega),gG A8 hi',hte,g1,bS,ew,gG Hw hjl,bS,Int.toNat_natCast,ac0 Hw hjl,hg,bS,ja (by omega) (by omega),bS,ac0 Hw hjl,hs1,em,b5 (by omega)]
  simp only[ej,show pt (b.take i) t.1 m=[] from by unfold pt;rw[if_pos c1],List.append_nil]
theorem XI {aa:List Cl}{n:Nat}(hc:aa.length=n)(hn:n≤1024){q0:Int}(hv:∀j,j<n→Vc q0 n (df aa j)){ds:Nat→Int×ByteArray}{c t4 p:Int}{t5:Nat}:
  ∀(q m:Nat) (rs:List CR) (hp2:List (Option (List Tm))),q+m=n→DS n ds rs hp2 (Dv aa n m)→
  iy ((n:Int) - 1) ((n:Int) - 1 - m) c aa t4 t5 p 1 [some rs] hp2=some ((p,((List.range n).map fun j=>((ds j).1,((ds j).2,(Dv aa n n j,()))),())),0):=by
 intro q
 induction q with
 |zero=>
  intro m rs hp2 hq h
  obtain rfl:m=n:=by omega
  have hr:∀r∈rs,ag hp2 r.2.2.1=some ((ag hp2 r.2.2.1).getD []):=fun r hr=>by
   obtain⟨j,hj,e⟩:=List.getElem_of_mem hr
   have:=h.get j (by rw[←h.len];exact hj)
   have e2:rs.getD j Hw=r:=by simp[List.getD,hj,e]
   rw[e2] at this
   rw[this];rfl
  rw[vc,qZ,uH (by omega),abJ (hp1:=[some rs]) (hp2:=hp2) rfl rfl (rs:=rs) rfl hr]
  have e:(rs.map fun r=>(r.1,(r.2.1,((ag hp2 r.2.2.1).getD [],()))))=((List.range m).map fun j=>((ds j).1,((ds j).2,(Dv aa m m j,())))):=by
   apply List.ext_getElem
   ·simp[h.len]
   ·intro j hj1 hj2
    have hj:j<m:=by simpa using hj2
    have hjl:j<rs.length:=by rw[h.len];exact hj
    have e2:rs.getD j Hw=rs[j]:=by simp[List.getD,hjl]
    obtain⟨d1,d2⟩:=h.ds j hj
    have d3:=h.get j hj
    rw[e2] at d1 d2 d3
    simp only[List.getElem_map,List.getElem_range]
    rw[d1,d2,d3];rfl
  rw[e];rfl
 |succ q ih=>
  intro m rs hp2 hq h
  have hm:m<n:=by omega
  have ek:(n:Int) - 1 - m=((n - 1 - m:Nat):Int):=by omega
  have hv':=hv (n - 1 - m) (by omega)
  obtain⟨rs',ae2,k1,k2⟩:=XG hc hn hm hv' (c:=c) (t4:=t4) (p:=p) (t5:=t5) (df aa ((n - 1 - m:Nat):Int)).length 0 rs hp2 (by omega) (h.congr fun j hj=>by rw[List.take_zero,amd,List.append_nil])
  have e0:((0:Nat):Int)=0:=rfl
  rw[e0] at k2
  have ek2:((n - 1 - m:Nat):Int) - 1=(n:Int) - 1 - ((m+1:Nat):Int):=by omega
  rw[ek,vc,qZ,xd (by omega),gG ju (by omega), ←gI,k2,ek2]
  exact ih (m+1) rs' ae2 (by omega) k1
def dsf (aa:List Cl)(n j:Nat):Int×ByteArray:=(4 - (aa.getD (n - 1 - j) ju).1,abI (ki aa (n - 1 - j)))
def kj (aa:List Cl):List Cl:=(List.range aa.length).map fun j=>((dsf aa aa.length j).1,((dsf aa aa.length j).2,(Dv aa aa.length aa.length j,())))
theorem XJ {aa:List Cl}{n:Nat}(hc:aa.length=n)(hn:n≤1024)(hd:∀j,j<n→0≤(aa.getD j ju).1∧(aa.getD j ju).1≤4)(ha:∀j,j<n→wx (ki aa j)=true∧(ki aa j).size≤1000){c t3 p:Int}{t4:Nat}:
  ∀(q j:Nat) (rs:List CR),q+j=n→rs.length=n→(∀i,i<n→rs.getD i Hw=if i<j then ((dsf aa n i).1,((dsf aa n i).2,(0,()))) else Hw)→
  ∃rs',rs'.length=n∧(∀i,i<n→rs'.getD i Hw=((dsf aa n i).1,((dsf aa n i).2,(0,()))))∧
   jy ((n:Int) - 1) n j c aa t3 t4 p 1 [some rs]=gY ((n:Int) - 1) ((n:Int) - 1) c aa t3 t4 p 1 [some rs']:=by
 intro q
 induction q with
 |zero=>
  intro j rs hq hl h
  refine⟨rs,hl,fun i hi=>by rw[h i hi,if_pos (by omega)], ?_⟩
  rw[xC,sV,ao (by omega)]
 |succ q ih=>
  intro j rs hq hl h
  have hj:j<n:=by omega
  have hk:n - 1 - j<n:=by omega
  obtain⟨a1,a2⟩:=ha _ hk
  obtain⟨d1,d2⟩:=hd _ hk
  obtain⟨m,d,hR⟩:=o5.1 a1
  obtain⟨b1,b2,b3⟩:=hR.bounds a2
  have ew:IntKind.wrap .i64 ((n:Int) - 1 - (j:Int))=((n - 1 - j:Nat):Int):=by rw[i64_in _ (by omega)];omega
  have g1:∀rs:List CR,ag [some rs] 1=some rs:=fun _=>rfl
  have hs1:∀rs rs':List CR,jg [some rs] 1 rs'=[some rs']:=fun _ _=>rfl
  have hjl:j<rs.length:=by omega
  have hr:gg (aa.getD (n - 1 - j) ju).2.1=some (WR m d,true):=PQ a2 hR
  obtain⟨rs',k1,k2,k3⟩:=ih (j+1) (rs.set j (4 - (aa.getD (n - 1 - j) ju).1,(RT (-m) d,(0,())))) (by omega) (by rw[List.length_set];exact hl) (fun i hi=>by
   rw[PT]
   by_cases e:j=i
   ·subst e
    rw[if_pos ⟨rfl,hjl⟩,if_pos (by omega)]
    unfold dsf
    rw[XE hR]
   ·rw[if_neg (fun h=>e h.1),h i hi]
    by_cases e2:i<j
    ·rw[if_pos e2,if_pos (by omega)]
    ·rw[if_neg e2,if_neg (by omega)])
  refine⟨rs',k1,k2, ?_⟩
  rw[←k3,xC,sV,au (by omega),ew,gG ju (by omega),hr,bS]
  simp only[wk]
  rw[amb b1,bS]
  simp only[wk]
  have hj0:rs.getD j Hw=Hw:=by rw[h j hj,if_neg (by omega)]
  rw[ajO (by rw[Tv];exact b1) b2 b3,bS,g1,bS,gG Hw hjl,bS,Int.toNat_natCast,ac0 Hw hjl,hs1,g1,bS,gG Hw (by rw[List.length_set];exact hjl),bS,ac0 Hw (by rw[List.length_set];exact hjl),PT,if_pos ⟨rfl,hjl⟩,hs1,List.set_set,hj0,b5 (by omega),i64_in (4 - _) (by omega)]
theorem UB {p:Int}{aa:List Cl}(hs:Sz aa):lT (p,(aa,()))=some (if fi p aa=0 then ((p,(kj aa,())),0) else ((0,([],())),fi p aa)):=by
 rw[Lh,Gt]
 simp only
 rw[JF hs,bS]
 by_cases h0:fi p aa=0
 ·obtain⟨hp,hl,hg⟩:=sQ h0
  obtain⟨n,hn⟩:∃n,aa.length=n:=⟨_,rfl⟩
  have hv:∀j,j<n→Vc p n (df aa j):=fun j hj=>(hg j (by omega)).bd.mono (by omega)
  rw[if_pos h0,mi h0,LB (by omega) (by omega) (by omega),i64_in ((aa.length:Int) - 1) (by omega),Int.toNat_natCast,hn]
  have g0:ag (([]:List (Option (List CR)))++[some (List.replicate n Hw)]) (([]:List (Option (List CR))).length+1)=some (List.replicate n Hw):=rfl
  have g1:(([]:List (Option (List CR)))++[some (List.replicate n Hw)])=[some (List.replicate n Hw)]:=rfl
  rw[g0,bS,List.length_replicate,g1]
  obtain⟨rs',k1,k2,k3⟩:=XJ hn (by omega) (fun j hj=>(hg j (by omega)).Qm) (fun j hj=>⟨(hg j (by omega)).at_,hs.at_ j⟩) (c:=p) (t3:=0) (p:=p) (t4:=0) n 0 (List.replicate n Hw) (by omega) (by simp) (fun i hi=>by rw[if_neg (by omega)];simp[List.getD,hi])
  have e0:((0:Nat):Int)=0:=rfl
  rw[e0] at k3
  have e1:(([]:List (Option (List CR))).length+1)=1:=rfl
  rw[e1,k3,XF]
  have key:=XI hn (by omega) hv (ds:=dsf aa n) (c:=p) (t4:=0) (p:=p) (t5:=0) n 0 rs' [] (by omega) ⟨k1,fun j hj=>by rw[k2 j hj];rfl,fun i j hi hj _ _=>by rw[k2 i hi],fun j hj=>by rw[k2 j hj];exact Nat.zero_le _,fun j hj=>by rw[k2 j hj];exact⟨rfl,rfl⟩⟩
  have e2:(n:Int) - 1 - ((0:Nat):Int)=(n:Int) - 1:=by omega
  rw[e2] at key
  rw[key]
  unfold kj
  rw[hn]
 ·rw[if_neg h0,FJ h0,MV (l:=[]) rfl rfl]
  rfl
end Go.Proofs.YtofjebmoebhiiaaGreatDoor.Ev
namespace Go.Abs
def EF:List Int→List Int→Int
 |x::a,y::b=>if x<y then -1 else if x>y then 1 else EF a b
 |_,_=>0
def nq (a b:List Int):Int:=if a.length≠b.length then (if a.length<b.length then -1 else 1) else EF a b
theorem VY:∀a:List Int,EF a a=0
 | []=>rfl
 |x::a=>by rw[EF,if_neg (by omega),if_neg (by omega),VY a]
theorem ac1:∀{a b:List Int},a.length=b.length→EF a b=0→a=b
 | [],[],_,_=>rfl
 | [],_::_,h,_=>by simp at h
 |_::_,[],h,_=>by simp at h
 |x::a,y::b,h,e=>by
  rw[EF] at e
  split at e
  ·cases e
  ·split at e
   ·cases e
   ·rename_i h1 h2
    rw[ac1 (by simpa using h) e,show x=y by omega]
theorem ZZ:∀(a b:List Int),EF b a= -(EF a b)
 | [],[]=>rfl
 | [],_::_=>rfl
 |_::_,[]=>rfl
 |x::a,y::b=>by
  have ih:=ZZ a b
  by_cases h:x<y
  ·have h1:¬y<x:=by omega
   simp[EF,h,h1]
  ·by_cases h2:y<x
   ·simp[EF,h,h2]
   ·simp[EF,h,h2,ih]
theorem TP:∀(a b:List Int),EF a b= -1∨EF a b=0∨EF a b=1
 | [],[]=> .inr (.inl rfl)
 | [],_::_=> .inr (.inl rfl)
 |_::_,[]=> .inr (.inl rfl)
 |x::a,y::b=>by
  rw[EF]
  split
  ·exact .inl rfl
  ·split
   ·exact .inr (.inr rfl)
   ·exact TP a b
theorem TQ:∀{a b c:List Int},a.length=b.length→b.length=c.length→EF a b<0→EF b c<0→EF a c<0
 | [],[],_,_,_,h,_=>by cases h
 |x::a,y::b,z::c,h1,h2,h3,h4=>by
  rw[EF] at h3 h4 ⊢
  by_cases e:x<y
  ·by_cases f:y<z
   ·rw[if_pos (by omega)];decide
   ·rw[if_neg f] at h4
    by_cases g:y>z
    ·rw[if_pos g] at h4;cases h4
    ·rw[if_pos (by omega)];decide
  ·rw[if_neg e] at h3
   by_cases g:x>y
   ·rw[if_pos g] at h3;cases h3
   ·rw[if_neg g] at h3
    by_cases f:y<z
    ·rw[if_pos (by omega)];decide
    ·rw[if_neg f] at h4
     by_cases k:y>z
     ·rw[if_pos k] at h4;cases h4
     ·rw[if_neg k] at h4
      rw[if_neg (by omega),if_neg (by omega)]
      exact TQ (by simpa using h1) (by simpa using h2) h3 h4
theorem FR (a:List Int):nq a a=0:=by unfold nq;rw[if_neg (by simp),VY]
theorem GX {a b:List Int}:nq a b=0↔a=b:=by
 constructor
 ·intro h
  unfold nq at h
  split at h
  ·split at h<;>cases h
  ·rename_i h1
   exact ac1 (by omega) h
 ·rintro rfl;exact FR a
theorem TR (a b:List Int):nq b a= -(nq a b):=by
 unfold nq
 by_cases h:a.length=b.length
 ·simp[h,ZZ a b]
 ·have h':¬b.length=a.length:=fun e=>h e.symm
  by_cases h2:a.length<b.length
  ·have h3:¬b.length<a.length:=by omega
   simp[h,h',h2,h3]
  ·have h3:b.length<a.length:=by omega
   simp[h,h',h2,h3]
theorem abK (a b:List Int):nq a b= -1∨nq a b=0∨nq a b=1:=by
 unfold nq
 split
 ·split
  ·exact .inl rfl
  ·exact .inr (.inr rfl)
 ·exact TP a b
theorem MW {a b c:List Int}(h1:nq a b<0)(h2:nq b c<0):nq a c<0:=by
 unfold nq at*
 by_cases e:a.length=b.length
 ·rw[if_neg (by omega)] at h1
  by_cases f:b.length=c.length
  ·rw[if_neg (by omega)] at h2 ⊢
   exact TQ e f h1 h2
  ·rw[if_pos (by omega)] at h2 ⊢
   by_cases g:b.length<c.length
   ·rw[if_pos (by omega)];decide
   ·rw[if_neg g] at h2;cases h2
 ·rw[if_pos (by omega)] at h1
  by_cases g:a.length<b.length
  ·by_cases f:b.length=c.length
   ·rw[if_pos (by omega),if_pos (by omega)];decide
   ·rw[if_pos (by omega)] at h2
    by_cases k:b.length<c.length
    ·rw[if_pos (by omega),if_pos (by omega)];decide
    ·rw[if_neg k] at h2;cases h2
  ·rw[if_neg g] at h1;cases h1
abbrev Asc (l:List (List Int)):Prop:=l.Pairwise fun a b=>nq a b<0
def zr (s:List Int)(all:List (List Int)):List (List Int)→Bool→List (List Int)→List (List Int)
 | [],d,out=>if d then out else out++[s]
 |x::r,d,out=>if nq s x=0 then all else if nq s x<0∧d=false then zr s all r true (out++[s]++[x]) else zr s all r d (out++[x])
def wC (l:List (List Int))(s:List Int):List (List Int):=zr s l l false []
theorem TS {s:List Int}{all:List (List Int)}:∀(l out:List (List Int)),(∀x∈l,nq s x<0)→zr s all l true out=out++l
 | [],out,_=>by simp[zr]
 |x::r,out,h=>by
  have:=h x List.mem_cons_self
  rw[zr,if_neg (by omega),if_neg (by simp),TS r _ fun y hy=>h y (List.mem_cons_of_mem _ hy)]
  simp
theorem MX {s:List Int}:∀(l out:List (List Int)),Asc (out++l)→(∀x∈out,nq x s<0)→Asc (zr s (out++l) l false out)∧∀t,t∈zr s (out++l) l false out↔t=s∨t∈out++l
 | [],out,h,hs=>by
   have e:zr s (out++[]) [] false out=out++[s]:=by simp[zr]
   rw[e]
   refine⟨?_,fun t=>by simp[or_comm]⟩
   rw[List.append_nil] at h
   exact List.pairwise_append.2 ⟨h,by simp,fun a ha b hb=>by simp only[List.mem_singleton] at hb;subst hb;exact hs a ha⟩
 |x::r,out,h,hs=>by
  obtain⟨p1,p2,p3⟩:=List.pairwise_append.1 h
  have p4:=List.pairwise_cons.1 p2
  rw[zr]
  by_cases e:nq s x=0
  ·rw[if_pos e]
   have:=GX.1 e
   subst this
   exact⟨h,fun t=>by simp only[List.mem_append,List.mem_cons];constructor<;>intro h<;>rcases h with h |h<;>simp[h]⟩
  ·rw[if_neg e]
   by_cases f:nq s x<0
   ·rw[if_pos ⟨f,rfl⟩,TS _ _ fun y hy=>MW f (p4.1 y hy)]
    have eq1:out++[s]++[x]++r=out++(s::x::r):=by simp
    rw[eq1]
    refine⟨List.pairwise_append.2 ⟨p1,List.pairwise_cons.2 ⟨fun y hy=> ?_,p2⟩,fun a ha b hb=> ?_⟩,fun t=>by simp only[List.mem_append,List.mem_cons];constructor<;>intro h<;>rcases h with h |h |h |h<;>simp[h]⟩
    ·rcases List.mem_cons.1 hy with rfl |hy
     ·exact f
     ·exact MW f (p4.1 y hy)
    ·rcases List.mem_cons.1 hb with rfl |hb
     ·exact hs a ha
     ·exact p3 a ha b hb
   ·rw[if_neg fun g=>f g.1]
    have g:nq x s<0:=by
     have:=TR s x
     rcases abK s x with h1 |h1 |h1<;>omega
    have eq1:out++x::r=(out++[x])++r:=by simp
    have ih:=MX r (out++[x]) (by rw[←eq1];exact h) (fun y hy=>by
     rcases List.mem_append.1 hy with hy |hy
     ·exact hs y hy
     ·simp only[List.mem_singleton] at hy;subst hy;exact g)
    rw[eq1]
    exact ih
theorem Z0 {l:List (List Int)}(h:Asc l)(s:List Int):Asc (wC l s):=(MX l [] h (fun x hx=>by cases hx)).1
theorem Z1 {l:List (List Int)}(h:Asc l){s t:List Int}:t∈wC l s↔t=s∨t∈l:=(MX l [] h (fun x hx=>by cases hx)).2 t
def z6:List Int→Nat→List Int
 | [],_=>[]
 |x::r,m=>if m % 2=1 then x::z6 r (m / 2) else z6 r (m / 2)
theorem TT:∀(s:List Int) (m:Nat),(z6 s m).Sublist s
 | [],_=>List.Sublist.slnil
 |x::r,m=>by
  rw[z6]
  split
  ·exact(TT r _).cons_cons x
  ·exact(TT r _).cons x
theorem XK:∀{t s:List Int},t.Sublist s→∃m,m<2^s.length∧z6 s m=t
 | [],[],_=>⟨0,by simp,rfl⟩
 |t,x::r,h=>by
  have h2:(2:Nat)^(x::r).length=2*2^r.length:=by rw[List.length_cons,Nat.pow_succ,Nat.mul_comm]
  cases h with
  |cons _ h=>
   obtain⟨m,h1,e⟩:=XK h
   refine⟨2*m,by omega, ?_⟩
   rw[z6,if_neg (by omega),show 2*m / 2=m by omega,e]
  |cons_cons _ h=>
   obtain⟨m,h1,e⟩:=XK h
   refine⟨2*m+1,by omega, ?_⟩
   rw[z6,if_pos (by omega),show (2*m+1) / 2=m by omega,e]
theorem Z2:∀{s:List Int} {m:Nat},m<2^s.length→z6 s m=[]→m=0
 | [],m,h,_=>by simp at h;exact h
 |x::r,m,h,e=>by
  have h2:(2:Nat)^(x::r).length=2*2^r.length:=by rw[List.length_cons,Nat.pow_succ,Nat.mul_comm]
  rw[z6] at e
  split at e
  ·cases e
  ·have:=Z2 (s:=r) (m:=m / 2) (by omega) e
   omega
def s0 (s:List Int):Nat→Nat→List (List Int)→List (List Int)
 |0,_,out=>out
 |q+1,m,out=>s0 s q (m+1) (wC out (z6 s m))
def jv (s:List Int):List (List Int):=s0 s (2^s.length - 1) 1 []
theorem Ou {s:List Int}:∀(q m:Nat) (out:List (List Int)),Asc out→Asc (s0 s q m out)∧∀t,t∈s0 s q m out↔t∈out∨∃k,m≤k∧k<m+q∧t=z6 s k
 |0,m,out,h=>⟨h,fun t=>by simp only[s0];exact⟨.inl,fun h=>h.elim id fun⟨k,h1,h2,_⟩=>by omega⟩⟩
 |q+1,m,out,h=>by
  obtain⟨h1,h2⟩:=Ou q (m+1) (wC out (z6 s m)) (Z0 h _)
  refine⟨h1,fun t=> ?_⟩
  rw[s0,h2,Z1 h]
  constructor
  ·rintro ((rfl |h) | ⟨k,h3,h4,h5⟩)
   ·exact .inr ⟨m,by omega,by omega,rfl⟩
   ·exact .inl h
   ·exact .inr ⟨k,by omega,by omega,h5⟩
  ·rintro (h | ⟨k,h3,h4,h5⟩)
   ·exact .inl (.inr h)
   ·by_cases e:k=m
    ·subst e;exact .inl (.inl h5)
    ·exact .inr ⟨k,by omega,by omega,h5⟩
theorem TV {s t:List Int}:t∈jv s↔t≠ []∧t.Sublist s:=by
 have h0:0<2^s.length:=Nat.pow_pos (by omega)
 unfold jv
 rw[(Ou _ _ [] List.Pairwise.nil).2]
 constructor
 ·rintro (h | ⟨k,h1,h2,rfl⟩)
  ·cases h
  ·exact⟨fun e=>by have:=Z2 (by omega) e;omega,TT s k⟩
 ·rintro ⟨h1,h2⟩
  obtain⟨m,h3,h4⟩:=XK h2
  refine .inr ⟨m, ?_,by omega,h4.symm⟩
  have:m≠0:=fun e=>by
   subst e
   have hz:∀s:List Int,z6 s 0=[]:=fun s=>by
    induction s with
    |nil=>rfl
    |cons x r ih=>rw[z6,if_neg (by decide)];exact ih
   rw[hz] at h4
   exact h1 h4.symm
  omega
def GY (l:List (List Int)):List (List Int):=l.foldl (fun out s=>(jv s).foldl wC out) []
theorem Z3:∀(f out:List (List Int)),Asc out→Asc (f.foldl wC out)∧∀t,t∈f.foldl wC out↔t∈out∨t∈f
 | [],out,h=>⟨h,fun t=>by simp⟩
 |s::f,out,h=>by
  obtain⟨h1,h2⟩:=Z3 f (wC out s) (Z0 h s)
  refine⟨h1,fun t=> ?_⟩
  rw[List.foldl_cons,h2,Z1 h,List.mem_cons]
  constructor
  ·rintro ((h |h) |h)<;>simp[h]
  ·rintro (h |h |h)<;>simp[h]
theorem JL:∀(l out:List (List Int)),Asc out→Asc (l.foldl (fun out s=>(jv s).foldl wC out) out)∧∀t,t∈l.foldl (fun out s=>(jv s).foldl wC out) out↔t∈out∨∃s∈l,t∈jv s
 | [],out,h=>⟨h,fun t=>by simp⟩
 |s::l,out,h=>by
  obtain⟨h1,h2⟩:=Z3 (jv s) out h
  obtain⟨h3,h4⟩:=JL l _ h1
  refine⟨h3,fun t=> ?_⟩
  rw[List.foldl_cons,h4,h2]
  constructor
  ·rintro ((h |h) | ⟨u,hu,h⟩)
   ·exact .inl h
   ·exact .inr ⟨s,List.mem_cons_self,h⟩
   ·exact .inr ⟨u,List.mem_cons_of_mem _ hu,h⟩
  ·rintro (h | ⟨u,hu,h⟩)
   ·exact .inl (.inl h)
   ·rcases List.mem_cons.1 hu with rfl |hu
    ·exact .inl (.inr h)
    ·exact .inr ⟨u,hu,h⟩
theorem Z4 (l:List (List Int)):Asc (GY l):=(JL l [] List.Pairwise.nil).1
theorem JM {l:List (List Int)}{t:List Int}:t∈GY l↔t≠ []∧∃s∈l,t.Sublist s:=by
 unfold GY
 rw[(JL l [] List.Pairwise.nil).2]
 simp only[List.not_mem_nil,false_or,TV]
 constructor
 ·rintro ⟨s,h1,h2,h3⟩;exact⟨h2,s,h1,h3⟩
 ·rintro ⟨h2,s,h1,h3⟩;exact⟨s,h1,h2,h3⟩
end Go.Abs
namespace Go.Abs
theorem GZ {s:List Int}{all:List (List Int)}{n:Nat}(ha:all.length≤n):∀(l out:List (List Int)) (d:Bool),out.length+l.length+(if d=true then 0 else 1)≤n+1→(zr s all l d out).length≤n+1
 | [],out,d,h=>by
   rw[zr]
   cases d with
   |true=>simp at h ⊢;omega
   |false=>simp at h ⊢;omega
 |x::r,out,d,h=>by
  rw[zr]
  split
  ·omega
  ·split
   ·rename_i h1 h2
    obtain⟨_,rfl⟩:=h2
    exact GZ ha r _ true (by simp at h ⊢;omega)
   ·exact GZ ha r _ d (by simp at h ⊢;omega)
theorem uM (l:List (List Int))(s:List Int):(wC l s).length≤l.length+1:=GZ (Nat.le_refl _) l [] false (by simp)
def bY (s:List Int):List (List Int):=if s.length>1 then (List.range s.length).map fun k=>s.eraseIdx k else []
end Go.Abs
namespace Go.Proofs.YtofjebmoebhiiaaGreatDoor.Ev
open Go.Abs Go.IntWalk
theorem aov {a:List Int}(hl:a.length≤1000000)(v:Int):oZ a v=some (decide (v∈a)):=by
 have key:∀(m i:Nat),m+i=a.length→jO a v i=some (decide (v∈a.drop i)):=by
  intro m
  induction m with
  |zero=>
   intro i hi
   rw[Al,tn,ao (by omega),List.drop_eq_nil_of_le (by omega)]
   simp
  |succ m ih=>
   intro i hi
   rw[Al,tn,au (by omega),gp (by omega) (by omega),Int.toNat_natCast,eY 0 (by omega)]
   by_cases e:a.getD i 0=v
   ·rw[lO e]
    have h2:v∈a.getD i 0::a.drop (i+1):=by rw[e];exact List.mem_cons_self
    simp only[h2,decide_true]
   ·rw[fe e,b5 (by omega),ih (i+1) (by omega)]
    have e':¬v=a.getD i 0:=fun h=>e h.symm
    simp only[List.mem_cons,e',false_or]
 have:=key a.length 0 (by omega)
 rw[Pp,Hf]
 simpa using this
theorem aow {a b:List Int}(ha:a.length≤1000000)(hl:b.length≤1000000):u6 a b=some (b.all fun v=>decide (v∈a)):=by
 have key:∀(m i:Nat),m+i=b.length→iI a b i=some ((b.drop i).all fun v=>decide (v∈a)):=by
  intro m
  induction m with
  |zero=>
   intro i hi
   rw[y8,rW,ao (by omega),List.drop_eq_nil_of_le (by omega)]
   rfl
  |succ m ih=>
   intro i hi
   rw[y8,rW,au (by omega),gp (by omega) (by omega),Int.toNat_natCast,aov ha,bS,eY 0 (by omega)]
   cases h:decide (b.getD i 0∈a) with
   |true=>rw[Bool.not_true,cF,b5 (by omega),ih (i+1) (by omega),List.all_cons,h,Bool.true_and]
   |false=>rw[Bool.not_false,cT,List.all_cons,h,Bool.false_and]
 have:=key b.length 0 (by omega)
 rw[NS,Fh]
 simpa using this
theorem TW {a b:List Int}(hl:a.length≤1000000):aV a b=some (nq a b):=by
 rw[DA,xO]
 unfold nq
 by_cases e:a.length=b.length
 ·have key:∀(m i:Nat),m+i=a.length→eH a b i=some (EF (a.drop i) (b.drop i)):=by
   intro m
   induction m with
   |zero=>
    intro i hi
    rw[qv,mv,ao (by omega),List.drop_eq_nil_of_le (by omega),List.drop_eq_nil_of_le (by omega)]
    rfl
   |succ m ih=>
    intro i hi
    have hb:∀{β:Type} {f:Int→Option β},(idx b (i:Int)).bind f=f (b.getD i 0):=gG 0 (by omega)
    have ha:∀{β:Type} {f:Int→Option β},(idx a (i:Int)).bind f=f (a.getD i 0):=gG 0 (by omega)
    rw[qv,mv,au (by omega),ha,hb,eY 0 (l:=a) (by omega),eY 0 (l:=b) (by omega),EF]
    by_cases h1:a.getD i 0<b.getD i 0
    ·rw[au h1,if_pos h1]
    ·rw[ao h1,if_neg h1,ha,hb]
     by_cases h2:a.getD i 0>b.getD i 0
     ·rw[cO h2,if_pos h2]
     ·rw[cZ h2,if_neg h2,b5 (by omega),ih (i+1) (by omega)]
  have:=key a.length 0 (by omega)
  rw[mi (by omega),if_neg (by omega)]
  simpa using this
 ·rw[FJ (by omega),if_pos e]
  by_cases h:a.length<b.length
  ·rw[au (by omega),if_pos h]
  ·rw[ao (by omega),if_neg h]
theorem ae4 {s:List Int}(hs:s.length≤1000)(k:Nat):gS s k=some (s.eraseIdx k):=by
 have k2:∀(m i:Nat) (out:List Int),m+i=s.length→k<i→out.length≤i→bL s k i out=some (out++s.drop i):=by
  intro m
  induction m with
  |zero=>
   intro i out hi hk ho
   rw[eX,dH,ao (by omega),List.drop_eq_nil_of_le (by omega),List.append_nil]
  |succ m ih=>
   intro i out hi hk ho
   rw[eX,dH,au (by omega),FJ (by omega),gp (by omega) (by omega),Int.toNat_natCast,ja (by omega) (by omega),b5 (by omega),ih (i+1) _ (by omega) (by omega) (by simp;omega),eY 0 (show i<s.length by omega),List.append_assoc]
   rfl
 have key:∀(m i:Nat) (out:List Int),m+i=s.length→i≤k→out.length≤i→bL s k i out=some (out++(s.drop i).eraseIdx (k - i)):=by
  intro m
  induction m with
  |zero=>
   intro i out hi hk ho
   rw[eX,dH,ao (by omega),List.drop_eq_nil_of_le (by omega)]
   simp
  |succ m ih=>
   intro i out hi hk ho
   rw[eX,dH,au (by omega)]
   by_cases e:i=k
   ·subst e
    rw[mi rfl,b5 (by omega),k2 m (i+1) out (by omega) (by omega) (by omega),eY 0 (show i<s.length by omega),Nat.sub_self]
    rfl
   ·rw[FJ (by omega),gp (by omega) (by omega),Int.toNat_natCast,ja (by omega) (by omega),b5 (by omega),ih (i+1) _ (by omega) (by omega) (by simp;omega),eY 0 (show i<s.length by omega),show k - i=k - (i+1)+1 by omega,List.eraseIdx_cons_succ,List.append_assoc]
    rfl
 have:=key s.length 0 [] (by omega) (by omega) (by simp)
 rw[wR,qw]
 simpa using this
theorem Ov {s:List Int}(hs:s.length≤1000):bD s=some (bY s):=by
 rw[y7,rU]
 unfold bY
 by_cases h:s.length>1
 ·have key:∀(m i:Nat),m+i=s.length→cR s i ((List.range i).map fun k=>s.eraseIdx k)=some ((List.range s.length).map fun k=>s.eraseIdx k):=by
   intro m
   induction m with
   |zero=>
    intro i hi
    obtain rfl:i=s.length:=by omega
    rw[iO,fN,cO (by omega),ao (by omega)]
   |succ m ih=>
    intro i hi
    have:=ih (i+1) (by omega)
    rw[List.range_succ,List.map_append] at this
    rw[iO,fN,cO (by omega),au (by omega),ae4 hs,bS,ja (by omega) (by simp;omega),b5 (by omega)]
    exact this
  rw[if_pos h]
  exact key s.length 0 (by omega)
 ·rw[if_neg h,iO,fN,cZ (by omega)]
theorem ac2 {l:FY}{s:List Int}(hl:l.length≤1000)(hs:s.length≤1000000):eW l s=some (wC l s):=by
 have key:∀(m i:Nat) (d:Bool) (out:FY),m+i=l.length→out.length≤2*i→iL l s d i out=some (zr s l (l.drop i) d out):=by
  intro m
  induction m with
  |zero=>
   intro i d out hi ho
   rw[y9,rY,ao (by omega),List.drop_eq_nil_of_le (by omega),zr]
   cases d with
   |true=>rw[Bool.not_true,cF];rfl
   |false=>rw[Bool.not_false,cT,ja (by omega) (by omega)];rfl
  |succ m ih=>
   intro i d out hi ho
   rw[y9,rY,au (by omega),oQ (by omega),TW hs,bS,b5 (by omega),eY [] (show i<l.length by omega),zr]
   by_cases e:nq s (l.getD i [])=0
   ·rw[lO e,if_pos e]
   ·rw[fe e,if_neg e]
    by_cases f:nq s (l.getD i [])<0
    ·rw[au f]
     cases d with
     |true=>
      rw[Bool.not_true,cF,oQ (by omega),ja (by omega) (by omega),if_neg (by simp)]
      exact ih (i+1) true _ (by omega) (by simp;omega)
     |false=>
      rw[Bool.not_false,cT,ja (by omega) (by omega),oQ (by omega),ja (by omega) (by simp;omega),if_pos ⟨f,rfl⟩]
      exact ih (i+1) true _ (by omega) (by simp;omega)
    ·rw[ao f,oQ (by omega),ja (by omega) (by omega),if_neg (fun g=>f g.1)]
     exact ih (i+1) d _ (by omega) (by simp;omega)
 have:=key l.length 0 false [] (by omega) (by simp)
 rw[NT,Fj]
 simpa [wC] using this
theorem VZ:∀m:Nat,m<17→∀i:Nat,i<5→shr .i64 (m:Int) (i:Int)=((m / 2^i:Nat):Int):=by decide
theorem ahY {s:List Int}(hs:s.length≤4){m:Nat}(hm:m<17){out:FY}(ho:out.length≤900):∀(q i:Nat) (f:List Int),q+i=s.length→f.length≤i→
  fy s out m i f=cU s (wC out (f++z6 (s.drop i) (m / 2^i))) (IntKind.wrap .i64 ((m:Int)+1)):=by
 intro q
 induction q with
 |zero=>
  intro i f hi hf
  rw[uh,oc,ao (by omega),ac2 (by omega) (by omega),bS,List.drop_eq_nil_of_le (by omega),z6,List.append_nil]
 |succ q ih=>
  intro i f hi hf
  have e:m / 2^(i+1)=m / 2^i / 2:=by rw[Nat.pow_succ,Nat.div_div_eq_div_mul]
  have hm2:∀x:Nat,(((x:Nat):Int).tmod 2==1)=decide (x % 2=1):=fun x=>by
   rw[Bool.eq_iff_iff,beq_iff_eq,decide_eq_true_iff,Int.tmod_eq_emod_of_nonneg (by omega)]
   omega
  have hmod:=hm2 (m / 2^i)
  rw[uh,oc,au (by omega),Od (by omega),b5 (by omega),VZ m hm i (by omega),hmod,eY 0 (show i<s.length by omega),z6]
  by_cases h:m / 2^i % 2=1
  ·rw[decide_eq_true h,cT,gp (by omega) (by omega),Int.toNat_natCast,ja (by omega) (by omega),if_pos h,ih (i+1) _ (by omega) (by simp;omega),e,List.append_assoc]
   rfl
  ·rw[decide_eq_false h,cF,if_neg h,ih (i+1) f (by omega) (by omega),e]
theorem ae5 {s:List Int}(hs:s.length≤4){m:Nat}(hm:m<17){out:FY}(ho:out.length≤900):∀(q i:Nat) (f:List Int),q+i=s.length→f.length≤i→
  fZ s m i out f=cU s (wC out (f++z6 (s.drop i) (m / 2^i))) (IntKind.wrap .i64 ((m:Int)+1)):=by
 intro q
 induction q with
 |zero=>
  intro i f hi hf
  rw[vG,po,ao (by omega),ac2 (by omega) (by omega),bS,List.drop_eq_nil_of_le (by omega),z6,List.append_nil]
 |succ q ih=>
  intro i f hi hf
  have e:m / 2^(i+1)=m / 2^i / 2:=by rw[Nat.pow_succ,Nat.div_div_eq_div_mul]
  have hm2:∀x:Nat,(((x:Nat):Int).tmod 2==1)=decide (x % 2=1):=fun x=>by
   rw[Bool.eq_iff_iff,beq_iff_eq,decide_eq_true_iff,Int.tmod_eq_emod_of_nonneg (by omega)]
   omega
  have hmod:=hm2 (m / 2^i)
  rw[vG,po,au (by omega),Od (by omega),b5 (by omega),VZ m hm i (by omega),hmod,eY 0 (show i<s.length by omega),z6]
  by_cases h:m / 2^i % 2=1
  ·rw[decide_eq_true h,cT,gp (by omega) (by omega),Int.toNat_natCast,ja (by omega) (by omega),if_pos h,ih (i+1) _ (by omega) (by simp;omega),e,List.append_assoc]
   rfl
  ·rw[decide_eq_false h,cF,if_neg h,ih (i+1) f (by omega) (by omega),e]
theorem ae6 {s:List Int}(hs:s.length≤4):∀(q m:Nat) (out:FY),q+m=2^s.length→out.length≤500+m→cU s out m=some (s0 s q m out):=by
 obtain⟨hsh,hp⟩:=VS hs
 intro q
 induction q with
 |zero=>
  intro m out hm ho
  rw[ug,oa,Od (by omega),hsh,ao (by omega)]
  rfl
 |succ q ih=>
  intro m out hm ho
  have h1:=ahY hs (m:=m) (by omega) (out:=out) (by omega) s.length 0 [] (by omega) (by simp)
  have e0:((0:Nat):Int)=0:=rfl
  rw[e0,List.nil_append,List.drop_zero,Nat.pow_zero,Nat.div_one,b5 (by omega)] at h1
  rw[ug,oa,Od (by omega),hsh,au (by omega),h1]
  exact ih (m+1) _ (by omega) (by have:=uM out (z6 s m);omega)
theorem ac3 {s:List Int}(hs:s.length≤4):jP s=some (jv s):=by
 obtain⟨hsh,hp⟩:=VS hs
 rw[Kx,B6,GH,wS,Od (by omega),hsh]
 by_cases h:(1:Int)<((2^s.length:Nat):Int)
 ·have e0:((0:Nat):Int)=0:=rfl
  have e1:IntKind.wrap .i64 ((1:Nat)+1:Int)=((2:Nat):Int):=rfl
  have h1:=ae5 hs (m:=1) (by omega) (out:=[]) (by simp) s.length 0 [] (by omega) (by simp)
  rw[e0,e1,List.nil_append,List.drop_zero,Nat.pow_zero,Nat.div_one] at h1
  have h2:=ae6 hs (2^s.length - 2) 2 (wC [] (z6 s 1)) (by omega) (by have:=uM [] (z6 s 1);simp at this ⊢;omega)
  have e2:((1:Nat):Int)=1:=rfl
  rw[e2] at h1
  rw[au h,h1,h2]
  unfold jv
  have e3:2^s.length - 1=(2^s.length - 2)+1:=by omega
  rw[e3,s0]
 ·rw[ao h]
  unfold jv
  have e3:2^s.length - 1=0:=by omega
  rw[e3,s0]
end Go.Proofs.YtofjebmoebhiiaaGreatDoor.Ev
namespace Go.Abs
structure SS (s:List Int):Prop where
 ne:s≠ []
 len:s.length≤4
 up:s.Pairwise (· < ·)
 rg:∀v∈s,0≤v∧v<6
theorem SS.sub {s t:List Int}(h:SS s)(ht:t.Sublist s)(h0:t≠ []):SS t:=⟨h0,Nat.le_trans ht.length_le h.len,h.up.sublist ht,fun v hv=>h.rg v (ht.mem hv)⟩
theorem JN {s:List Int}:∀(q m:Nat) (out:List (List Int)),(s0 s q m out).length≤out.length+q
 |0,m,out=>by simp[s0]
 |q+1,m,out=>by
  rw[s0]
  have:=JN (s:=s) q (m+1) (wC out (z6 s m))
  have:=uM out (z6 s m)
  omega
theorem EG {s:List Int}(h:s.length≤4):(jv s).length≤15:=by
 have h1:=JN (s:=s) (2^s.length - 1) 1 []
 have h2:2^s.length≤2^4:=Nat.pow_le_pow_right (by omega) h
 unfold jv
 simp at h1;omega
theorem s6:∀(f out:List (List Int)),(f.foldl wC out).length≤out.length+f.length
 | [],out=>by simp
 |s::f,out=>by
  rw[List.foldl_cons,List.length_cons]
  have:=s6 f (wC out s)
  have:=uM out s
  omega
structure Cx (c:List (List Int)):Prop where
 asc:Asc c
 ss:∀s∈c,SS s
 abL:∀s∈c,∀t:List Int,t.Sublist s→t≠ []→t∈c
 len:c.length≤80
theorem CU:∀(l out:List (List Int)),(∀s∈l,s.length≤4)→(l.foldl (fun out s=>(jv s).foldl wC out) out).length≤out.length+15*l.length
 | [],out,_=>by simp
 |s::l,out,h=>by
  rw[List.foldl_cons,List.length_cons]
  have h1:=CU l ((jv s).foldl wC out) fun t ht=>h t (List.mem_cons_of_mem _ ht)
  have h2:=s6 (jv s) out
  have h3:=EG (h s List.mem_cons_self)
  omega
theorem abM {Qn:List (List Int)}(h:∀s∈Qn,SS s)(hl:Qn.length≤5):Cx (GY Qn):=by
 refine⟨Z4 Qn,fun s hs=> ?_,fun s hs t ht h0=> ?_, ?_⟩
 ·obtain⟨h0,u,hu,hsub⟩:=JM.1 hs
  exact(h u hu).sub hsub h0
 ·obtain⟨_,u,hu,hsub⟩:=JM.1 hs
  exact JM.2 ⟨h0,u,hu,ht.trans hsub⟩
 ·have:=CU Qn [] fun s hs=>(h s hs).len
  unfold GY
  simp at this;omega
end Go.Abs
namespace Go.Proofs.YtofjebmoebhiiaaGreatDoor.Ev
open Go.Abs Go.IntWalk
theorem aqz {x:Int}:0≤(IntKind.wrap .i64 (x.tmod 6+6)).tmod 6∧(IntKind.wrap .i64 (x.tmod 6+6)).tmod 6<6:=by
 have h1:=Int.tmod_lt_of_pos x (b:=6) (by omega)
 have h2:=Int.lt_tmod_of_pos x (show (0:Int)<6 by omega)
 rw[i64_in _ (by omega),br (by omega)]
 exact⟨Int.emod_nonneg _ (by omega),Int.emod_lt_of_pos _ (by omega)⟩
theorem MY {α:Type}(d:α){l:List α}{i:Nat}(h:i<l.length):l.take (i+1)=l.take i++[l.getD i d]:=by
 rw[List.take_add_one,List.getElem?_eq_getElem h];simp[List.getD,h]
theorem Z5 {A B:List Int}{x:Int}{k:Nat}(h:A.length=k):(A++x::B).getD k 0=x:=by
 subst h
 simp[List.getD]
theorem ajT {i:Nat}{R:List Int}:∀(k:Nat) (n:Int) (A B:List Int) (x:Int),A.length=k→k+B.length=i→i+1+R.length≤1000000→(A++B).Pairwise (· ≤ ·)→(∀b∈B,x<b)→
  ∃n' S,fx n i k (A++x::B++R)=dM n' ((i+1:Nat):Int) (S++R)∧S.Perm (A++x::B)∧S.Pairwise (· ≤ ·):=by
 intro k
 induction k with
 |zero=>
  intro n A B x hA hB hR hp hx
  obtain rfl:=List.eq_nil_of_length_eq_zero hA
  refine⟨n,x::B, ?_,List.Perm.refl _,List.pairwise_cons.2 ⟨fun b hb=>by have:=hx b hb;omega,by simpa using hp⟩⟩
  rw[uf,nY,cZ (by omega),b5 (by omega)]
  rfl
 |succ k ih=>
  intro n A B x hA hB hR hp hx
  obtain⟨A',y,rfl⟩:∃A' y,A=A'++[y]:=⟨A.dropLast,A.getLast (fun e=>by subst e;simp at hA),(List.dropLast_concat_getLast _).symm⟩
  have hA':A'.length=k:=by simp at hA;omega
  have hl:(A'++[y]++x::B++R).length=i+1+R.length:=by simp;omega
  have e1:IntKind.wrap .i64 (((k+1:Nat):Int) - 1)=(k:Int):=by rw[i64_in _ (by omega)];omega
  have g1:(A'++[y]++x::B++R).getD k 0=y:=by
   have e:A'++[y]++x::B++R=A'++y::(x::B++R):=by simp
   rw[e];exact Z5 hA'
  have g2:(A'++[y]++x::B++R).getD (k+1) 0=x:=by
   have e:A'++[y]++x::B++R=(A'++[y])++x::(B++R):=by simp
   rw[e];exact Z5 (by simp;omega)
  rw[uf,nY,cO (by omega),e1,gp (by omega) (by omega),tN (by omega),gp (by omega) (by omega),tN (by omega)]
  by_cases h0:(A'++[y]++x::B++R).getD (k:Int).toNat 0>(A'++[y]++x::B++R).getD ((k+1:Nat):Int).toNat 0
  ·have h:y>x:=by
    have h2:=h0
    rw[Int.toNat_natCast,Int.toNat_natCast,g1,g2] at h2
    exact h2
   rw[cO h0,gp (by omega) (by omega),tN (by omega),gp (by omega) (by omega),tN (by omega),gp (by omega) (by omega),tN (by omega)]
   simp only
   rw[gp (by omega) (by rw[List.length_set];omega),tN (by rw[List.length_set];omega)]
   simp only[Int.toNat_natCast]
   rw[g1,g2]
   have e2:((A'++[y]++x::B++R).set k x).set (k+1) y=A'++x::(y::B)++R:=by
    have e:A'++[y]++x::B++R=A'++y::x::(B++R):=by simp
    rw[e,List.set_append_right _ _ (by omega),List.set_append_right _ _ (by omega),hA',Nat.sub_self,show k+1 - k=1 by omega]
    simp
   rw[e2]
   obtain⟨n',S,k1,k2,k3⟩:=ih (IntKind.wrap .i64 (1 - n)) A' (y::B) x hA' (by simp;omega) hR (by simpa using hp) (fun b hb=>by
    rcases List.mem_cons.1 hb with rfl |hb
    ·exact h
    ·exact hx b hb)
   refine⟨n',S,k1,k2.trans ?_,k3⟩
   have e3:A'++[y]++x::B=A'++(y::x::B):=by simp
   rw[e3]
   exact List.Perm.append_left A' (List.Perm.swap y x B)
  ·have h:¬y>x:=by
    have h2:=h0
    rw[Int.toNat_natCast,Int.toNat_natCast,g1,g2] at h2
    exact h2
   rw[cZ h0,b5 (by omega)]
   refine⟨n,A'++[y]++x::B,rfl,List.Perm.refl _, ?_⟩
   obtain⟨p1,p2,p3⟩:=List.pairwise_append.1 hp
   refine List.pairwise_append.2 ⟨p1,List.pairwise_cons.2 ⟨fun b hb=>by have:=hx b hb;omega,p2⟩,fun a ha b hb=> ?_⟩
   rcases List.mem_cons.1 hb with rfl |hb
   ·rcases List.mem_append.1 ha with ha |ha
    ·have:=(List.pairwise_append.1 p1).2.2 a ha y (by simp);omega
    ·simp only[List.mem_singleton] at ha;subst ha;omega
   ·exact p3 a ha b hb
theorem ahZ:∀(R:List Int) (i:Nat) (n:Int) (S:List Int),S.length=i→i+R.length≤1000000→S.Pairwise (· ≤ ·)→∃n' r,dM n i (S++R)=some (r,n')∧r.Perm (S++R)∧r.Pairwise (· ≤ ·):=by
 intro R
 induction R with
 |nil=>
  intro i n S hS hl hp
  rw[ud,nW,ao (by simp;omega)]
  exact⟨n,_,rfl,List.Perm.refl _,by simpa using hp⟩
 |cons x R ih=>
  intro i n S hS hl hp
  simp only[List.length_cons] at hl
  obtain⟨n',S',k1,k2,k3⟩:=ajT (i:=i) (R:=R) i n S [] x hS (by simp) (by omega) (by simpa using hp) (fun b hb=>by cases hb)
  have hS':S'.length=i+1:=by rw[k2.length_eq];simp;omega
  obtain⟨n2,r,h1,h2,h3⟩:=ih (i+1) n' S' hS' (by omega) k3
  have e:S++[x]++R=S++x::R:=by simp
  rw[e] at k1
  rw[ud,nW,au (by simp;omega),k1,h1]
  refine⟨n2,r,rfl,h2.trans ?_,h3⟩
  rw[←e]
  exact List.Perm.append_right R k2
theorem Z6 {l:List Int}(hl:l.length≤1000000):∃n' r,iK l=some (r,n')∧r.Perm l∧r.Pairwise (· ≤ ·):=by
 rw[I0,Am,ja (by omega) (by omega),List.nil_append]
 exact ahZ l 0 0 [] rfl (by omega) List.Pairwise.nil
theorem akH {l r:List Int}(hp:r.Perm l)(hs:r.Pairwise (· ≤ ·))(hn:l.Nodup)(h0:l≠ [])(h4:l.length≤4)(hr:∀v∈l,0≤v∧v<6):SS r:=by
 have hn':r.Nodup:=hp.nodup_iff.2 hn
 refine⟨fun e=>by subst e;exact h0 hp.symm.eq_nil,by rw[hp.length_eq];exact h4,(hs.and hn').imp fun⟨a,b⟩=>by omega,fun v hv=>hr v (hp.mem_iff.1 hv)⟩
theorem ac4 {out:List Int}(ho:out.length≤4)(hn:out.Nodup)(hr:∀v∈out,0≤v∧v<6):∃s,(bif ((out.length:Int)==0) then bif (aE 8 1 out.length 1) then (iK (out++([(0:Int)]:List Int))).bind fun r3=>some r3.1 else none else (iK out).bind fun r4=>some r4.1)=some s∧SS s:=by
 by_cases h:(out.length:Int)=0
 ·obtain rfl:out=[]:=List.eq_nil_of_length_eq_zero (by omega)
  obtain⟨n',s,h1,h2,h3⟩:=Z6 (l:=[0]) (by simp)
  rw[lO h,ja (by omega) (by simp),List.nil_append,h1,bS]
  exact⟨s,rfl,akH h2 h3 (by simp) (by simp) (by simp) (by simp)⟩
 ·obtain⟨n',s,h1,h2,h3⟩:=Z6 (l:=out) (by omega)
  rw[fe h,h1,bS]
  exact⟨s,rfl,akH h2 h3 hn (fun e=>by subst e;simp at h) ho hr⟩
theorem ah0 {l:List Int}(hl:l.length≤1000000000000000000):∀(m i:Nat) (out:List Int),m+i=l.length→out.length≤4→out.Nodup→(∀v∈out,0≤v∧v<6)→∃s,fW l 4 6 i out=some s∧SS s:=by
 intro m
 induction m with
 |zero=>
  intro i out hi ho hn hr
  rw[vF,pn,ao (by omega)]
  exact ac4 ho hn hr
 |succ m ih=>
  intro i out hi ho hn hr
  rw[vF,pn,au (by omega)]
  by_cases h:(out.length:Int)<4
  ·have e1:IntKind.wrap .i64 ((i:Int)+1)=((i+1:Nat):Int):=by rw[i64_in _ (by omega)];omega
   rw[au h,gp (by omega) (by omega),kg (by omega),kg (by omega),e1,aov (by omega),bS]
   have hv:=aqz (x:=l.getD (i:Int).toNat 0)
   generalize (IntKind.wrap .i64 ((l.getD (i:Int).toNat 0).tmod 6+6)).tmod 6=v at hv ⊢
   by_cases hm:v∈out
   ·rw[decide_eq_true hm,Bool.not_true,cF];exact ih (i+1) out (by omega) ho hn hr
   ·rw[decide_eq_false hm,Bool.not_false,cT,ja (by omega) (by omega)]
    refine ih (i+1) _ (by omega) (by simp;omega) (List.nodup_append.2 ⟨hn,by simp,fun a ha b hb=>by simp only[List.mem_singleton] at hb;subst hb;exact fun e=>hm (e ▸ ha)⟩) (fun w hw=> ?_)
    rcases List.mem_append.1 hw with hw |hw
    ·exact hr w hw
    ·simp only[List.mem_singleton] at hw;subst hw;exact hv
  ·rw[ao h]
   exact ac4 ho hn hr
theorem ae7 {l:List Int}(hl:l.length≤1000000000000000000):∃s,qT l 4 6=some s∧SS s:=by
 rw[Kw,B5]
 exact ah0 hl l.length 0 [] (by omega) (by simp) (by simp) (by simp)
theorem V1 {l f:FY}(hf:f.length≤16)(hf4:∀s∈f,s.length≤4){i:Int}:∀(q k:Nat) (out:FY),q+k=f.length→out.length+q≤900→cn l out i f k=gD l ((f.drop k).foldl wC out) (IntKind.wrap .i64 (i+1)):=by
 intro q
 induction q with
 |zero=>intro k out hk ho;rw[sH,nf,ao (by omega),List.drop_eq_nil_of_le (by omega)];rfl
 |succ q ih=>
  intro k out hk ho
  have h4:=hf4 _ (aw (d:=[]) (show k<f.length by omega))
  rw[sH,nf,au (by omega),oQ (by omega),ac2 (by omega) (by omega),bS,b5 (by omega),eY [] (show k<f.length by omega),List.foldl_cons]
  exact ih (k+1) _ (by omega) (by have:=uM out (f.getD k []);omega)
theorem Z7 {s:List Int}(h:s.length≤4):∀t∈jv s,t.length≤4:=fun t ht=>Nat.le_trans (TV.1 ht).2.length_le h
theorem abN {l:FY}(hl:Sx 5 l):∀(q i:Nat) (out:FY),q+i=l.length→out.length+15*q≤800→gD l out i=some ((l.drop i).foldl (fun out s=>(jv s).foldl wC out) out):=by
 have hll:=hl.1
 intro q
 induction q with
 |zero=>intro i out hi ho;rw[sI,ng,ao (by omega),List.drop_eq_nil_of_le (by omega)];rfl
 |succ q ih=>
  intro i out hi ho
  have h4:=hl.getD (show i<l.length by omega)
  have OF:=EG h4
  have h3:=V1 (l:=l) (f:=jv (l.getD i [])) (by omega) (Z7 h4) (i:=(i:Int)) _ 0 out (Nat.add_zero _) (by omega)
  have e0:((0:Nat):Int)=0:=rfl
  rw[e0,List.drop_zero,b5 (by omega)] at h3
  rw[sI,ng,au (by omega),oQ (by omega),ac3 h4,bS,h3,eY [] (show i<l.length by omega),List.foldl_cons]
  exact ih (i+1) _ (by omega) (by have:=s6 (jv (l.getD i [])) out;omega)
theorem ae8 {l:FY}(hl:Sx 5 l):∀(q i:Nat) (out:FY),q+i=l.length→out.length+15*q≤800→ft l i out=some ((l.drop i).foldl (fun out s=>(jv s).foldl wC out) out):=by
 have hll:=hl.1
 intro q
 induction q with
 |zero=>intro i out hi ho;rw[ui,og,ao (by omega),List.drop_eq_nil_of_le (by omega)];rfl
 |succ q ih=>
  intro i out hi ho
  have h4:=hl.getD (show i<l.length by omega)
  have OF:=EG h4
  have hle:=Z7 h4
  rw[ui,og,au (by omega),oQ (by omega),ac3 h4,bS,Fk,vK,eY [] (show i<l.length by omega),List.foldl_cons]
  have hfo:=s6 (jv (l.getD i [])) out
  by_cases hf:(jv (l.getD i [])).length=0
  ·have e:=List.eq_nil_of_length_eq_zero hf
   rw[ao (by omega),b5 (by omega),e]
   exact ih (i+1) out (by omega) (by omega)
  ·have hf4:=hle _ (aw (d:=[]) (show 0<(jv (l.getD i [])).length by omega))
   generalize jv (l.getD i [])=f at*
   have hpl:=uM out (f.getD 0 [])
   have h5:=V1 (l:=l) (f:=f) (by omega) hle (i:=(i:Int)) (f.length - 1) 1 (wC out (f.getD 0 [])) (by omega) (by omega)
   have e0:((0:Nat):Int)=0:=rfl
   have e1:IntKind.wrap .i64 ((0:Int)+1)=((1:Nat):Int):=rfl
   have hb:∀{β:Type} {g:List Int→Option β},(idx f (0:Int)).bind g=g (f.getD 0 []):=fun {β g}=>by
    have:=oQ (xs:=f) (k:=0) (f:=g) (by omega)
    rw[e0] at this;exact this
   have e2:f.foldl wC out=(f.drop 1).foldl wC (wC out (f.getD 0 [])):=by
    have:=eY [] (show 0<f.length by omega)
    rw[List.drop_zero] at this
    rw[this,List.foldl_cons]
    simp
   rw[au (by omega),hb,ac2 (by omega) (by omega),bS,e1,h5,b5 (by omega), ←e2]
   exact abN hl q (i+1) _ (by omega) (by omega)
theorem ah1 {l:FY}(hl:Sx 5 l):lv l=some (GY l):=by
 have:=hl.1
 rw[I1,Ap]
 have h:=ae8 hl l.length 0 [] (by omega) (by simp;omega)
 rw[List.drop_zero] at h
 exact h
theorem ah2 {t:FY}(ht:t.length≤800):∀(q i:Nat),q+i=t.length→eD t (t.length:Int) i (t.take i)=some t:=by
 intro q
 induction q with
 |zero=>intro i hi;rw[vJ,pA,ao (by omega),List.take_of_length_le (by omega)]
 |succ q ih=>
  intro i hi
  have:=ih (i+1) (by omega)
  rw[MY [] (show i<t.length by omega)] at this
  rw[vJ,pA,au (by omega),oQ (by omega),ja (by omega) (by simp;omega),b5 (by omega)]
  exact this
theorem ac5 {Qn:FY}(hf:∀s∈Qn,SS s)(hl:Qn.length≤5):∃c,((lv Qn).bind fun r3=>eD r3 (r3.length:Int) (0:Int) ([]:List (List Int)))=some c∧Cx c:=by
 have hc:=abM hf hl
 rw[ah1 ⟨hl,fun s hs=>(hf s hs).len⟩,bS]
 exact⟨_,ah2 (by have:=hc.len;omega) (GY Qn).length 0 (by omega),hc⟩
theorem amf {l:FY}(hl:l.length≤1000000)(hs:∀s∈l,s.length≤1000000000000000000):∀(q i:Nat) (Qn:FY),q+i=l.length→Qn.length=i→(∀s∈Qn,SS s)→i≤5→∃c,fV l 5 3 6 i Qn=some c∧Cx c:=by
 intro q
 induction q with
 |zero=>
  intro i Qn hi hf hS h5
  rw[vI,py,ao (by omega)]
  exact ac5 hS (by omega)
 |succ q ih=>
  intro i Qn hi hf hS h5
  rw[vI,py,au (by omega)]
  by_cases h:i<5
  ·obtain⟨s,h1,h2⟩:=ae7 (hs _ (aw (d:=[]) (show i<l.length by omega)))
   have e4:IntKind.wrap .i64 ((3:Int)+1)=4:=rfl
   rw[au (by omega),oQ (by omega),e4,h1,bS,ja (by omega) (by omega),b5 (by omega)]
   refine ih (i+1) _ (by omega) (by simp;omega) (fun t ht=> ?_) (by omega)
   rcases List.mem_append.1 ht with ht |ht
   ·exact hS t ht
   ·rw[List.mem_singleton.1 ht];exact h2
  ·rw[ao (by omega)]
   exact ac5 hS (by omega)
theorem ae9 {l:FY}(hl:l.length≤1000000)(hs:∀s∈l,s.length≤1000000000000000000):∃c,qR l 5 3 6=some c∧Cx c:=by
 rw[Kz,B8]
 exact amf hl hs l.length 0 [] (by omega) rfl (by simp) (by omega)
theorem ajU {l:FY}(hl:l.length≤800)(h4:∀s∈l,s.length≤4):qQ l=some l:=by
 have key:∀(q i:Nat),q+i=l.length→fU l i (l.take i)=some l:=by
  intro q
  induction q with
  |zero=>intro i hi;rw[vH,pw,ao (by omega),List.take_of_length_le (by omega)]
  |succ q ih=>
   intro i hi
   have hg:=h4 _ (aw (d:=[]) (show i<l.length by omega))
   have:=ih (i+1) (by omega)
   rw[MY [] (show i<l.length by omega)] at this
   rw[vH,pw,au (by omega),oQ (by omega),ja (by omega) (by omega),ja (by omega) (by simp;omega),b5 (by omega),List.nil_append]
   exact this
 rw[Ky,B7]
 exact key l.length 0 (by omega)
end Go.Proofs.YtofjebmoebhiiaaGreatDoor.Ev
namespace Go.Proofs.YtofjebmoebhiiaaGreatDoor.Ev
open Go.Abs Go.IntWalk
def tO (a b:ByteArray):Int:=ml ((kN a).1*(kN b).2) ((kN b).1*(kN a).2)
theorem At.den {s:ByteArray}(h:At s):0<(kN s).2:=by
 obtain⟨n,d,hR⟩:=o5.1 h.1
 rw[hR.val]
 exact(hR.bounds (by have:=h.2;omega)).2.2
theorem XL {a b:ByteArray}(ha:At a)(hb:At b):bH a b=some (tO a b):=by
 obtain⟨n,d,h⟩:=o5.1 ha.1
 obtain⟨m,k,g⟩:=o5.1 hb.1
 rw[Xt h g (by have:=ha.2;omega) (by have:=hb.2;omega)]
 unfold tO
 rw[h.val,g.val]
theorem ah3 (x y:Int):ml y x= -(ml x y):=by
 rcases Int.lt_trichotomy x y with h |h |h
 ·rw[mD h,oH h];rfl
 ·rw[wh h,wh h.symm];rfl
 ·rw[oH h,mD h]
theorem CW (a b:ByteArray):tO b a= -(tO a b):=ah3 _ _
theorem ajV {x y:Int}:ml x y≤0↔x≤y:=by
 rcases Int.lt_trichotomy x y with h |h |h
 ·rw[mD h];omega
 ·rw[wh h];omega
 ·rw[oH h];omega
theorem ah4 {x y:Int}:ml x y<0↔x<y:=by
 rcases Int.lt_trichotomy x y with h |h |h
 ·rw[mD h];omega
 ·rw[wh h];omega
 ·rw[oH h];omega
theorem yz {a b c:ByteArray}(ha:At a)(hb:At b)(hc:At c)(h1:tO a b≤0)(h2:tO b c≤0):tO a c≤0:=by
 unfold tO at*
 rw[ajV] at*
 have p1:=ha.den
 have p2:=hb.den
 have p3:=hc.den
 generalize (kN a).1=n at*
 generalize (kN a).2=d at*
 generalize (kN b).1=m at*
 generalize (kN b).2=k at*
 generalize (kN c).1=u at*
 generalize (kN c).2=v at*
 have e1:=Int.mul_le_mul_of_nonneg_right h1 (Int.le_of_lt p3)
 have e2:=Int.mul_le_mul_of_nonneg_right h2 (Int.le_of_lt p1)
 have e3:m*d*v=m*v*d:=by rw[Int.mul_assoc,Int.mul_comm d v, ←Int.mul_assoc]
 have e4:k*(n*v)≤k*(u*d):=by
  have q1:k*(n*v)=n*k*v:=by rw[Int.mul_comm n k,Int.mul_assoc]
  have q2:k*(u*d)=u*k*d:=by rw[Int.mul_comm u k,Int.mul_assoc]
  rw[q1,q2]
  exact Int.le_trans e1 (by rw[e3];exact e2)
 exact Int.le_of_mul_le_mul_left e4 p2
theorem V2 (a:ByteArray):tO a a=0:=wh rfl
def Ry (x y:Ce):Prop:=tO x.2.1 y.2.1<0∨(tO x.2.1 y.2.1=0∧nq x.1 y.1<0)
theorem V3 {x y z:Ce}(hx:At x.2.1)(hy:At y.2.1)(hz:At z.2.1)(h1:Ry x y)(h2:Ry y z):Ry x z:=by
 have n1:=CW x.2.1 y.2.1
 have n2:=CW y.2.1 z.2.1
 have n3:=CW x.2.1 z.2.1
 unfold Ry at*
 have a1:tO x.2.1 y.2.1≤0:=by rcases h1 with h | ⟨h,_⟩<;>omega
 have a2:tO y.2.1 z.2.1≤0:=by rcases h2 with h | ⟨h,_⟩<;>omega
 have a3:=yz hx hy hz a1 a2
 by_cases e:tO x.2.1 z.2.1=0
 · -- all are of one value
   have b1:=yz hz hx hy (by omega) a1
   have b2:=yz hy hz hx a2 (by omega)
   rcases h1 with h | ⟨_,h1⟩
   ·omega
   ·rcases h2 with h | ⟨_,h2⟩
    ·omega
    ·exact .inr ⟨e,MW h1 h2⟩
 ·exact .inl (by omega)
theorem afa {x y:Ce}(h:x.1≠y.1)(hn:¬Ry x y):Ry y x:=by
 have n1:=CW x.2.1 y.2.1
 have n2:=TR x.1 y.1
 unfold Ry at*
 by_cases e:tO x.2.1 y.2.1=0
 ·refine .inr ⟨by omega, ?_⟩
  have h0:nq x.1 y.1≠0:=fun e=>h (GX.1 e)
  have:¬nq x.1 y.1<0:=fun g=>hn (.inr ⟨e,g⟩)
  omega
 ·refine .inl ?_
  have:¬tO x.2.1 y.2.1<0:=fun g=>hn (.inl g)
  omega
def cellOf (aD:List (Option (List Int)))(r:OG):Ce:=((ag aD r.1).getD [],(r.2.1,()))
theorem Z8 {l:List Ce}(hl:Cs l):∀(q i out:Nat) (aD:List (Option (List Int))) (kn:List (Option (List OG))) (rows:List OG),q+i=l.length→ag kn out=some rows→rows.map (cellOf aD)=l.take i→Cr aD rows→
  ∃out' A5 FT LI,fA l out i aD kn=some (out',(FT,A5))∧ag FT out'=some LI∧LI.map (cellOf A5)=l∧Cr A5 LI:=by
 have hll:=hl.1
 intro q
 induction q with
 |zero=>
  intro i out aD kn rows hi hg hr hc
  rw[um,ow,ao (by omega)]
  exact⟨_,_,_,rows,rfl,hg,by rw[hr,List.take_of_length_le (by omega)],hc⟩
 |succ q ih=>
  intro i out aD kn rows hi hg hr hc
  obtain⟨hx1,hx2⟩:=hl.2 _ (aw (d:=fQ) (show i<l.length by omega))
  have hb:∀{β:Type} {f:Ce→Option β},(idx l (i:Int)).bind f=f (l.getD i fQ):=gG fQ (by omega)
  have hts:=MY fQ (show i<l.length by omega)
  have hrl:rows.length=i:=by have:=congrArg List.length hr;simpa [show i≤l.length by omega] using this
  have same:∀ys:List (Option (List Int)),rows.map (cellOf (aD++ys))=rows.map (cellOf aD):=fun ys=>List.map_congr_left fun y hy=>by
   obtain⟨⟨s,h1,_⟩,_⟩:=hc y hy
   unfold cellOf
   rw[h1,D0 h1]
  rw[um,ow,au (by omega),hb,lQ,bS,List.length_nil,ja (by omega) (by omega),b5 (by omega)]
  generalize l.getD i fQ=x at hx1 hx2 hb hts ⊢
  cases he:x.1.isEmpty with
  |true=>
   rw[cT,hb]
   simp only
   have h1:ag (kn++[some [((aD.length+1:Nat),(x.2.1,()))]]) out=some rows:=D0 hg
   rw[h1,bS,lQ,bS,List.length_singleton,ja (by omega) (by omega)]
   have e1:([((aD.length+1:Nat),(x.2.1,()))]:List OG).isEmpty=false:=rfl
   rw[e1,cF]
   exact ih (i+1) _ _ _ (rows++[((aD.length+1:Nat),(x.2.1,()))]) (by omega) lQ (by
    rw[List.map_append,same,hr,hts]
    congr 1
    have e9:cellOf (aD++[some []]) ((aD.length+1:Nat),(x.2.1,()))=x:=by
     unfold cellOf
     rw[lQ]
     have:x.1=[]:=List.isEmpty_iff.1 he
     obtain⟨a,b,u⟩:=x
     simp only at this
     subst this
     rfl
    rw[List.map_cons,List.map_nil,e9]) (fun y hy=>by
    rcases List.mem_append.1 hy with hy |hy
    ·exact hc.append y hy
    ·rw[List.mem_singleton.1 hy]
     exact⟨⟨[],lQ,by simp⟩,hx2⟩)
  |false=>
   rw[cF,hb]
   simp only
   rw[abF,List.length_append,List.length_singleton]
   have h1:ag (kn++[some [((aD.length+1+1:Nat),(x.2.1,()))]]) out=some rows:=D0 hg
   rw[h1,bS,lQ,bS,List.length_singleton,ja (by omega) (by omega)]
   have e1:([((aD.length+1+1:Nat),(x.2.1,()))]:List OG).isEmpty=false:=rfl
   rw[e1,cF]
   have h2:ag (aD++[none]++[some ([]++x.1)]) (aD.length+1+1)=some ([]++x.1):=by
    have:=lQ (xs:=aD++[none]) (l:=[]++x.1)
    rw[List.length_append,List.length_singleton] at this
    exact this
   exact ih (i+1) _ _ _ (rows++[((aD.length+1+1:Nat),(x.2.1,()))]) (by omega) lQ (by
    rw[List.append_assoc,List.map_append,same,hr,hts]
    congr 1
    have e9:cellOf (aD++([none]++[some ([]++x.1)])) ((aD.length+1+1:Nat),(x.2.1,()))=x:=by
     unfold cellOf
     rw[←List.append_assoc,h2]
     rfl
    rw[List.map_cons,List.map_nil,e9]) (fun y hy=>by
    rcases List.mem_append.1 hy with hy |hy
    ·rw[List.append_assoc];exact hc.append y hy
    ·rw[List.mem_singleton.1 hy]
     exact⟨⟨_,h2,by simpa using hx1⟩,hx2⟩)
theorem ah5 {l:List Ce}(hl:Cs l):∃out' A5 FT LI,pY l [] []=some (out',(FT,A5))∧ag FT out'=some LI∧LI.map (cellOf A5)=l∧Cr A5 LI:=by
 rw[I3,Aw]
 exact Z8 hl l.length 0 0 [] [] [] (by omega) rfl rfl (fun x hx=>by cases hx)
theorem V4 {A B:List OG}{x:OG}{k:Nat}(h:A.length=k):(A++x::B).getD k aeX=x:=by
 subst h
 simp[List.getD]
theorem afb {out:Nat}{i:Nat}{aD:List (Option (List Int))}{R:List OG}:∀(k:Nat) (kn:List (Option (List OG))) (A B:List OG) (x:OG),ag kn out=some (A++x::B++R)→A.length=k→k+B.length=i→i+1+R.length≤800→Cr aD (A++x::B++R)→((A++B).map (cellOf aD)).Pairwise Ry→(∀b∈B,Ry (cellOf aD x) (cellOf aD b))→(∀a∈A,(cellOf aD x).1≠(cellOf aD a).1)→
  ∃FT S,dK out i k aD kn=bz out ((i+1:Nat):Int) aD FT∧ag FT out=some (S++R)∧S.Perm (A++x::B)∧(S.map (cellOf aD)).Pairwise Ry:=by
 intro k
 induction k with
 |zero=>
  intro kn A B x hg hA hB hR hc hp hx hne
  obtain rfl:=List.eq_nil_of_length_eq_zero hA
  refine⟨kn,x::B, ?_,hg,List.Perm.refl _, ?_⟩
  ·rw[uk,ot,cZ (by omega),b5 (by omega)]
  ·rw[List.map_cons]
   exact List.pairwise_cons.2 ⟨fun b hb=>by
    obtain⟨b',hb',rfl⟩:=List.mem_map.1 hb
    exact hx b' hb',by simpa using hp⟩
 |succ k ih=>
  intro kn A B x hg hA hB hR hc hp hx hne
  obtain⟨A',y,rfl⟩:∃A' y,A=A'++[y]:=⟨A.dropLast,A.getLast (fun e=>by subst e;simp at hA),(List.dropLast_concat_getLast _).symm⟩
  have hA':A'.length=k:=by simp at hA;omega
  have cx:=hc x (by simp)
  have cy:=hc y (by simp)
  have hl:(A'++[y]++x::B++R).length=i+1+R.length:=by simp;omega
  have gk:(A'++[y]++x::B++R).getD k aeX=y:=by
   have e:A'++[y]++x::B++R=A'++y::(x::B++R):=by simp
   rw[e];exact V4 hA'
  have gk1:(A'++[y]++x::B++R).getD (k+1) aeX=x:=by
   have e:A'++[y]++x::B++R=(A'++[y])++x::(B++R):=by simp
   rw[e];exact V4 (by simp;omega)
  have e2:((A'++[y]++x::B++R).set (k+1) (y.1,(y.2.1,()))).set k (x.1,(x.2.1,()))=A'++x::(y::B)++R:=by
   have e:A'++[y]++x::B++R=A'++y::x::(B++R):=by simp
   rw[e,List.set_append_right _ _ (by omega),List.set_append_right _ _ (by omega),hA',Nat.sub_self,show k+1 - k=1 by omega]
   simp
  generalize hrows:A'++[y]++x::B++R=rows at*
  have e1:IntKind.wrap .i64 (((k+1:Nat):Int) - 1)=(k:Int):=by rw[i64_in _ (by omega)];omega
  have hout:out≠0:=XC hg (fun e=>by rw[e] at hl;simp at hl;omega)
  have b1:∀{β:Type} {f:OG→Option β},(idx rows ((k+1:Nat):Int)).bind f=f x:=fun {β f}=>by rw[gG aeX (by omega),gk1]
  have b2:∀{β:Type} {f:OG→Option β},(idx rows (k:Int)).bind f=f y:=fun {β f}=>by rw[gG aeX (by omega),gk]
  have g1:rows[((k+1:Nat):Int).toNat]? =some x:=by rw[Int.toNat_natCast, ←gk1];simp[List.getD,show k+1<rows.length by omega]
  have g2:rows[((k:Nat):Int).toNat]? =some y:=by rw[Int.toNat_natCast, ←gk];simp[List.getD,show k<rows.length by omega]
  obtain⟨⟨s1,p1,q1⟩,a1⟩:=cx
  obtain⟨⟨s2,p2,q2⟩,a2⟩:=cy
  have hcmp:=XL a1 a2
  have hfx:(cellOf aD x).1=s1:=by unfold cellOf;rw[p1];rfl
  have hfy:(cellOf aD y).1=s2:=by unfold cellOf;rw[p2];rfl
  have aox:s1≠s2:=by have:=hne y (by simp);rw[hfx,hfy] at this;exact this
  obtain⟨pw1,pw2,pw3⟩:=List.pairwise_append.1 (by rw[List.map_append] at hp;exact hp)
  -- HZ exchange
  have swap:Ry (cellOf aD x) (cellOf aD y)→∃FT S,((ag kn out).bind fun v30=>(idx v30 (k:Int)).bind fun _=>(ag kn out).bind fun v31=>(v31[(k:Int).toNat]?).bind fun v32=>(ag kn out).bind fun v33=>(idx v33 ((k+1:Nat):Int)).bind fun _=>(ag kn out).bind fun v34=>(v34[((k+1:Nat):Int).toNat]?).bind fun v35=>(ag kn out).bind fun v36=>(idx v36 ((k+1:Nat):Int)).bind fun _=>(ag kn out).bind fun v37=>(v37[((k+1:Nat):Int).toNat]?).bind fun v38=>
    let e39:List (Option (List (Nat×ByteArray×Unit))):=(jg kn out (v37.set ((k+1:Nat):Int).toNat (v32.1,(v32.2.1,()))))
    (ag e39 out).bind fun v40=>(idx v40 (k:Int)).bind fun _=>(ag e39 out).bind fun v41=>(v41[(k:Int).toNat]?).bind fun v42=>
    let e43:List (Option (List (Nat×ByteArray×Unit))):=(jg e39 out (v41.set (k:Int).toNat (v35.1,(v35.2.1,()))))
    dK out i (k:Int) aD e43)=bz out ((i+1:Nat):Int) aD FT∧ag FT out=some (S++R)∧S.Perm (A'++[y]++x::B)∧(S.map (cellOf aD)).Pairwise Ry:=by
   intro hlt
   rw[hg,bS,b2,bS,g2,bS,bS,b1,bS,g1,bS,bS,b1,bS,g1,bS]
   simp only
   have hs:=rf (l':=rows.set ((k+1:Nat):Int).toNat (y.1,(y.2.1,()))) hg hout
   have hl2:(rows.set ((k+1:Nat):Int).toNat (y.1,(y.2.1,()))).length=i+1+R.length:=by rw[List.length_set];exact hl
   have gy:(rows.set ((k+1:Nat):Int).toNat (y.1,(y.2.1,())))[((k:Nat):Int).toNat]? =some y:=by
    rw[Int.toNat_natCast,Int.toNat_natCast,List.getElem?_set_ne (by omega), ←Int.toNat_natCast k];exact g2
   rw[hs,bS,gG aeX (by omega),bS,gy,bS]
   have hs2:=rf (l':=(rows.set ((k+1:Nat):Int).toNat (y.1,(y.2.1,()))).set ((k:Nat):Int).toNat (x.1,(x.2.1,()))) hs hout
   have e3:(rows.set ((k+1:Nat):Int).toNat (y.1,(y.2.1,()))).set ((k:Nat):Int).toNat (x.1,(x.2.1,()))=A'++x::(y::B)++R:=by rw[Int.toNat_natCast,Int.toNat_natCast];exact e2
   rw[e3] at hs2 ⊢
   obtain⟨FT,S,k1,k2,k3,k4⟩:=ih _ A' (y::B) x hs2 hA' (by simp;omega) hR (fun z hz=>hc z (by rw[←hrows];simp at hz ⊢;rcases hz with hz |hz |hz |hz |hz<;>simp[hz])) (by
    have e4:A'++y::B=A'++[y]++B:=by simp
    rw[e4];exact hp) (fun b hb=>by
    rcases List.mem_cons.1 hb with rfl |hb
    ·exact hlt
    ·exact hx b hb) (fun a ha=>hne a (by simp[ha]))
   refine⟨FT,S,k1,k2,k3.trans ?_,k4⟩
   have e5:A'++[y]++x::B=A'++(y::x::B):=by simp
   rw[e5]
   exact List.Perm.append_left A' (List.Perm.swap y x B)
  have stop:¬Ry (cellOf aD x) (cellOf aD y)→∃FT S,bz out (IntKind.wrap .i64 ((i:Int)+1)) aD kn=bz out ((i+1:Nat):Int) aD FT∧ag FT out=some (S++R)∧S.Perm (A'++[y]++x::B)∧(S.map (cellOf aD)).Pairwise Ry:=by
   intro hn
   have hyx:Ry (cellOf aD y) (cellOf aD x):=afa (by rw[hfx,hfy];exact aox) hn
   refine⟨kn,A'++[y]++x::B,by rw[b5 (by omega)],by rw[hrows];exact hg,List.Perm.refl _, ?_⟩
   rw[List.map_append]
   refine List.pairwise_append.2 ⟨pw1, ?_,fun a ha b hb=> ?_⟩
   ·rw[List.map_cons]
    exact List.pairwise_cons.2 ⟨fun b hb=>by
     obtain⟨b',hb',rfl⟩:=List.mem_map.1 hb
     exact hx b' hb',pw2⟩
   ·rw[List.map_cons] at hb
    rcases List.mem_cons.1 hb with rfl |hb
    ·obtain⟨a',ha',rfl⟩:=List.mem_map.1 ha
     rcases List.mem_append.1 ha' with ha2 |ha2
     ·rw[List.map_append] at pw1
      have:=(List.pairwise_append.1 pw1).2.2 _ (List.mem_map.2 ⟨a',ha2,rfl⟩) (cellOf aD y) (by simp)
      exact V3 (hc a' (by rw[←hrows];simp[ha2])).2 a2 a1 this hyx
     ·simp only[List.mem_singleton] at ha2
      subst ha2
      exact hyx
    ·exact pw3 a ha b hb
  rw[uk,ot,cO (by omega),e1]
  have pre:∀{β:Type} {f:OG→OG→Option β},((ag kn out).bind fun v0=>(idx v0 ((k+1:Nat):Int)).bind fun _=>(ag kn out).bind fun v1=>(v1[((k+1:Nat):Int).toNat]?).bind fun v2=>(ag kn out).bind fun v3=>(idx v3 (k:Int)).bind fun _=>(ag kn out).bind fun v4=>(v4[(k:Int).toNat]?).bind fun v5=>f v2 v5)=f x y:=fun {β f}=>by
   rw[hg,bS,b1,bS,g1,bS,bS,b2,bS,g2,bS]
  rw[pre,hcmp,bS]
  by_cases h1:tO x.2.1 y.2.1>0
  ·rw[cO h1]
   exact stop (fun g=>by
    have g':tO x.2.1 y.2.1<0∨(tO x.2.1 y.2.1=0∧_):=g
    rcases g' with g | ⟨g,_⟩<;>omega)
  ·rw[cZ h1]
   by_cases h2:tO x.2.1 y.2.1=0
   ·rw[lO h2,pre,TL rfl p1,bS,TL rfl p2,bS,TW (by omega),bS]
    by_cases h3:nq s1 s2>0
    ·rw[cO h3]
     exact stop (fun g=>by
      have g':tO x.2.1 y.2.1<0∨(tO x.2.1 y.2.1=0∧nq (cellOf aD x).1 (cellOf aD y).1<0):=g
      rw[hfx,hfy] at g'
      rcases g' with g | ⟨_,g⟩<;>omega)
    ·rw[cZ h3]
     refine swap (.inr ⟨h2, ?_⟩)
     rw[hfx,hfy]
     have:nq s1 s2≠0:=fun e=>aox (GX.1 e)
     omega
   ·rw[fe h2]
    exact swap (.inl (by show tO x.2.1 y.2.1<0;omega))
theorem abO {out:Nat}{aD:List (Option (List Int))}:∀(R:List OG) (i:Nat) (kn:List (Option (List OG))) (S:List OG),ag kn out=some (S++R)→S.length=i→i+R.length≤800→Cr aD (S++R)→(S.map (cellOf aD)).Pairwise Ry→((S++R).map (cellOf aD)).Pairwise (fun x y=>x.1≠y.1)→
  ∃r,bz out i aD kn=some r∧r.Perm ((S++R).map (cellOf aD))∧r.Pairwise Ry:=by
 intro R
 induction R with
 |nil=>
  intro i kn S hg hS hl hc hp hn
  rw[List.append_nil] at hg hc hn ⊢
  rw[uj,oq,hg,bS,ao (by omega),abG rfl rfl hg (fun x hx=>by obtain⟨⟨s,h1,_⟩,_⟩:=hc x hx;exact⟨s,h1⟩),bS]
  exact⟨_,rfl,List.Perm.refl _,hp⟩
 |cons x R ih=>
  intro i kn S hg hS hl hc hp hn
  simp only[List.length_cons] at hl
  have e:S++[x]++R=S++x::R:=by simp
  obtain⟨FT,S',k1,k2,k3,k4⟩:=afb (i:=i) (R:=R) i kn S [] x (by rw[e];exact hg) hS (by simp) (by omega) (by rw[e];exact hc) (by simpa using hp) (fun b hb=>by cases hb) (fun a ha=>by
   rw[List.map_append] at hn
   exact Ne.symm ((List.pairwise_append.1 hn).2.2 _ (List.mem_map.2 ⟨a,ha,rfl⟩) _ (by simp)))
  have hS':S'.length=i+1:=by rw[k3.length_eq];simp;omega
  have k5:(S'++R).Perm (S++x::R):=by rw[←e];exact List.Perm.append_right R k3
  obtain⟨r,h1,h2,h3⟩:=ih (i+1) FT S' k2 hS' (by omega) (fun y hy=>hc y (k5.mem_iff.1 hy)) k4 ((k5.map (cellOf aD)).pairwise_iff (R:=fun x y:Ce=>x.1≠y.1) (fun h=>Ne.symm h) |>.2 hn)
  rw[uj,oq,hg,bS,au (by simp;omega),k1,h1]
  exact⟨r,rfl,h2.trans (k5.map (cellOf aD)),h3⟩
theorem abP {l:List Ce}(hl:Cs l)(hn:l.Pairwise fun x y=>x.1≠y.1):∃r,lx l=some r∧r.Perm l∧r.Pairwise Ry:=by
 obtain⟨out',A5,FT,LI,h1,h2,h3,h4⟩:=ah5 hl
 have hlen:LI.length=l.length:=by rw[←h3];simp
 have hll:=hl.1
 obtain⟨r,g1,g2,g3⟩:=abO (out:=out') LI 0 FT [] h2 rfl (by omega) h4 List.Pairwise.nil (by rw[List.nil_append,h3];exact hn)
 rw[List.nil_append,h3] at g2
 have e0:((0:Nat):Int)=0:=rfl
 rw[e0] at g1
 rw[I2,Av,h1,bS]
 exact⟨r,g1,g2,g3⟩
end Go.Proofs.YtofjebmoebhiiaaGreatDoor.Ev
namespace Go.Abs
theorem D1 {s t:List Int}(h:t∈bY s):t.Sublist s∧t≠ []∧t≠s:=by
 unfold bY at h
 split at h
 ·obtain⟨k,hk,rfl⟩:=List.mem_map.1 h
  have hk':k<s.length:=by simpa using hk
  have hl:(s.eraseIdx k).length=s.length - 1:=List.length_eraseIdx_of_lt hk'
  exact⟨List.eraseIdx_sublist s k,fun e=>by rw[e] at hl;simp at hl;omega,fun e=>by rw[e] at hl;omega⟩
 ·cases h
theorem MZ {s:List Int}{n:Nat}(h:s.length≤n):(bY s).length≤n:=by
 unfold bY
 split
 ·rw[List.length_map,List.length_range];exact h
 ·simp
theorem abQ {a b:List Int}(h:a.length<b.length):nq a b<0:=by unfold nq;rw[if_pos (by omega),if_pos h];decide
theorem afc {s t:List Int}(h:t.Sublist s)(hn:t≠s):t.length<s.length:=by
 have h1:=h.length_le
 rcases Nat.lt_or_ge t.length s.length with h2 |h2
 ·exact h2
 ·exact absurd (h.eq_of_length (by omega)) hn
end Go.Abs
namespace Go.Proofs.YtofjebmoebhiiaaGreatDoor.Ev
open Go.Abs Go.IntWalk
theorem V5 {s:List Int}(h:SS s):fz s=some 0:=by
 have h4:=h.len
 have h0:s.length≠0:=fun e=>h.ne (List.eq_nil_of_length_eq_zero e)
 have k1:∀(q i:Nat),q+i=s.length→1≤i→dm s i=some 0:=by
  intro q
  induction q with
  |zero=>intro i hi h1;rw[oe,kG,ao (by omega)]
  |succ q ih=>
   intro i hi h1
   have e1:IntKind.wrap .i64 ((i:Int) - 1)=((i - 1:Nat):Int):=by rw[i64_in _ (by omega)];omega
   have hlt:s.getD (i - 1) 0<s.getD i 0:=by
    have:=List.pairwise_iff_getElem.1 h.up (i - 1) i (by omega) (by omega) (by omega)
    simpa [List.getD,show i - 1<s.length by omega,show i<s.length by omega] using this
   rw[oe,kG,au (by omega),gG 0 (by omega),e1,gG 0 (by omega),Tp (by omega),b5 (by omega)]
   exact ih (i+1) (by omega) (by omega)
 have k0:∀(q i:Nat),q+i=s.length→dk s i=some 0:=by
  intro q
  induction q with
  |zero=>
   intro i hi
   rw[od,kF,ao (by omega)]
   exact k1 (s.length - 1) 1 (by omega) (by omega)
  |succ q ih=>
   intro i hi
   have hr:=h.rg _ (aw (d:=0) (show i<s.length by omega))
   rw[od,kF,au (by omega),gG 0 (by omega),ao (by omega),gG 0 (by omega),uH (by omega),b5 (by omega)]
   exact ih (i+1) (by omega)
 rw[An,tq,fe (by omega),cZ (by omega)]
 exact k0 s.length 0 (by omega)
theorem afd {l:FY}(hl:l.length≤1000000)(hs:∀s∈l,s.length≤4){t:List Int}(ht:t∈l):∃r:Int,0≤r∧qV l t=some r:=by
 have key:∀(q i:Nat),q+i=l.length→t∈l.drop i→∃r:Int,0≤r∧ga l t i=some r:=by
  intro q
  induction q with
  |zero=>intro i hi h;rw[List.drop_eq_nil_of_le (by omega)] at h;cases h
  |succ q ih=>
   intro i hi h
   have h4:=hs _ (aw (d:=[]) (show i<l.length by omega))
   rw[eY [] (show i<l.length by omega)] at h
   rw[GJ,wT,au (by omega),oQ (by omega),TW (by omega),bS]
   by_cases e:nq (l.getD i []) t=0
   ·rw[lO e];exact⟨i,by omega,rfl⟩
   ·rw[fe e,b5 (by omega)]
    refine ih (i+1) (by omega) ?_
    rcases List.mem_cons.1 h with h |h
    ·exact absurd (by rw[h];exact FR _) e
    ·exact h
 rw[KB,Ca]
 exact key l.length 0 (by omega) (by simpa using ht)
theorem afe {c:FY}(h:Cx c):qU c=some 0:=by
 have hl:=h.len
 have h4:∀s∈c,s.length≤4:=fun s hs=>(h.ss s hs).len
 have k1:∀(f:FY) (i:Nat),i<c.length→(∀t∈f,t∈c)→f.length≤4→eE c ((i+1:Nat):Int)=some 0→∀(q k:Nat),q+k=f.length→fY c i f k=some 0:=by
  intro f i hi hf OF nxt q
  induction q with
  |zero=>intro k hk;rw[vM,pC,ao (by omega),b5 (by omega)];exact nxt
  |succ q ih=>
   intro k hk
   obtain⟨r,h0,h1⟩:=afd (by omega) h4 (hf _ (aw (d:=[]) (show k<f.length by omega)))
   rw[vM,pC,au (by omega),oQ (by omega),h1,bS,ao (by omega),b5 (by omega)]
   exact ih (k+1) (by omega)
 have k0:∀(q i:Nat),q+i=c.length→eE c i=some 0:=by
  intro q
  induction q with
  |zero=>intro i hi;rw[vL,pB,ao (by omega)]
  |succ q ih=>
   intro i hi
   have hmem:=aw (d:=[]) (show i<c.length by omega)
   have hss:=h.ss _ hmem
   have XQ:=hss.len
   have aqC:∀t∈bY (c.getD i []),t∈c:=fun t ht=>by
    obtain⟨a,b,_⟩:=D1 ht
    exact h.abL _ hmem t a b
   have OF:(bY (c.getD i [])).length≤4:=MZ XQ
   have e0:((0:Nat):Int)=0:=rfl
   have fin:=k1 _ i (by omega) aqC OF (ih (i+1) (by omega)) _ 0 (Nat.add_zero _)
   rw[e0] at fin
   rw[vL,pB,au (by omega),oQ (by omega),V5 hss,bS,mi rfl]
   by_cases hi0:(i:Int)>0
   ·have e1:IntKind.wrap .i64 ((i:Int) - 1)=((i - 1:Nat):Int):=by rw[i64_in _ (by omega)];omega
    have hlt:nq (c.getD (i - 1) []) (c.getD i [])<0:=by
     have:=List.pairwise_iff_getElem.1 h.asc (i - 1) i (by omega) (by omega) (by omega)
     simpa [List.getD,show i - 1<c.length by omega,show i<c.length by omega] using this
    have hneg:=TR (c.getD (i - 1) []) (c.getD i [])
    rw[cO hi0,oQ (by omega),e1,oQ (by omega),TW (by omega),bS,fe (by omega),cO hi0,oQ (by omega),oQ (by omega),TW (by omega),bS,ao (by omega),oQ (by omega),Ov (by omega),bS]
    exact fin
   ·rw[cZ hi0,cZ hi0,oQ (by omega),Ov (by omega),bS]
    exact fin
 rw[KA,B9,cZ (by omega)]
 exact k0 c.length 0 (by omega)
structure Mx (c:FY) (values:List ByteArray) (i:Nat) (a:ByteArray):Prop where
 is:∃k,k<c.length∧(∀v∈c.getD k [],v∈c.getD i [])∧a=values.getD k ByteArray.empty
 le:∀k,k<c.length→(∀v∈c.getD k [],v∈c.getD i [])→tO (values.getD k ByteArray.empty) a≤0
theorem ajW {c:FY}(hc:Cx c){values:List ByteArray}(hv:Ats c.length values){i:Nat}(hi:i<c.length){out:List Ce}(ho:out.length≤800):∀(q k:Nat) (a:ByteArray),q+k=c.length→
  (∃k,k<c.length∧(∀v∈c.getD k [],v∈c.getD i [])∧a=values.getD k ByteArray.empty)→(∀j,j<k→(∀v∈c.getD j [],v∈c.getD i [])→tO (values.getD j ByteArray.empty) a≤0)→
  ∃a',Mx c values i a'∧jM c values i a k out=gR c values ((i+1:Nat):Int) (out++[(c.getD i [],(a',()))]):=by
 have hl:=hc.len
 have hvl:=hv.1
 have XM:∀k,k<c.length→At (values.getD k ByteArray.empty):=fun k hk=>hv.2 _ (aw (by omega))
 have h4:∀k,k<c.length→(c.getD k []).length≤4:=fun k hk=>(hc.ss _ (aw hk)).len
 intro q
 induction q with
 |zero=>
  intro k a hk h1 h2
  refine⟨a,⟨h1,fun j hj=>h2 j (by omega)⟩, ?_⟩
  rw[As,tD,ao (by omega),oQ hi,ja (by omega) (by omega),b5 (by omega)]
 |succ q ih=>
  intro k a hk h1 h2
  have hk':k<c.length:=by omega
  have hlk:=h4 k hk'
  have hli:=h4 i hi
  have hA:At a:=by obtain⟨k0,a1,_,rfl⟩:=h1;exact XM k0 a1
  have hall:((c.getD k []).all fun v=>decide (v∈c.getD i []))=true↔∀v∈c.getD k [],v∈c.getD i []:=by simp[List.all_eq_true]
  rw[As,tD,au (by omega),oQ hi,oQ hk',aow (by omega) (by omega),bS]
  cases hb:(c.getD k []).all fun v=>decide (v∈c.getD i []) with
  |false=>
   rw[cF,b5 (by omega)]
   refine ih (k+1) a (by omega) h1 fun j hj hs=> ?_
   by_cases e:j=k
   ·subst e;have:=hall.2 hs;rw[hb] at this;cases this
   ·exact h2 j (by omega) hs
  |true=>
   have hs:=hall.1 hb
   rw[cT,acY (by omega),XL (XM k hk') hA,bS]
   by_cases g:tO (values.getD k ByteArray.empty) a>0
   ·rw[cO g,acY (by omega),b5 (by omega)]
    refine ih (k+1) _ (by omega) ⟨k,hk',hs,rfl⟩ fun j hj hsj=> ?_
    by_cases e:j=k
    ·subst e;rw[V2];omega
    ·have n1:=CW (values.getD k ByteArray.empty) a
     exact yz (XM j (by omega)) hA (XM k hk') (h2 j (by omega) hsj) (by omega)
   ·rw[cZ g,b5 (by omega)]
    refine ih (k+1) a (by omega) h1 fun j hj hsj=> ?_
    by_cases e:j=k
    ·subst e;omega
    ·exact h2 j (by omega) hsj
structure Fi (f:List Ce):Prop where
 len:f.length≤80
 ss:∀x∈f,SS x.1
 at_:∀x∈f,At x.2.1
 up:f.Pairwise Ry
 aoy:f.Pairwise fun x y=>x.1≠y.1
 abL:∀j,j<f.length→∀t:List Int,t.Sublist (f.getD j fQ).1→t≠ []→t≠(f.getD j fQ).1→∃i,i<j∧(f.getD i fQ).1=t
theorem Fi.take {f:List Ce}(h:Fi f)(n:Nat):Fi (f.take n):=by
 have hsub:=List.take_sublist n f
 refine⟨by have:=h.len;simp;omega,fun x hx=>h.ss x (hsub.mem hx),fun x hx=>h.at_ x (hsub.mem hx),h.up.sublist hsub,h.aoy.sublist hsub,fun j hj t ht h0 hn=> ?_⟩
 have hj':j<n∧j<f.length:=by simp at hj;omega
 have e:∀i,i≤j→(f.take n).getD i fQ=f.getD i fQ:=fun i hi=>by simp[List.getD,show i<n by omega]
 rw[e j (Nat.le_refl _)] at ht hn
 obtain⟨i,hi,he⟩:=h.abL j hj'.2 t ht h0 hn
 exact⟨i,hi,by rw[e i (by omega)];exact he⟩
theorem ami {f:List Ce}(ha:∀x∈f,At x.2.1)(hu:f.Pairwise Ry){i j:Nat}(hi:i<f.length)(hj:j<f.length)(h:Ry (f.getD i fQ) (f.getD j fQ)):i<j:=by
 have irr:∀x:Ce,¬Ry x x:=fun x hx=>by
  rcases hx with hx | ⟨_,hx⟩
  ·rw[V2] at hx;omega
  ·rw[FR] at hx;omega
 rcases Nat.lt_trichotomy i j with g |g |g
 ·exact g
 ·subst g;exact absurd h (irr _)
 ·have:=List.pairwise_iff_getElem.1 hu j i hj hi g
  have e1:f.getD i fQ=f[i]:=by simp[List.getD,hi]
  have e2:f.getD j fQ=f[j]:=by simp[List.getD,hj]
  rw[e1,e2] at h
  exact absurd (V3 (ha _ (List.getElem_mem hi)) (ha _ (List.getElem_mem hj)) (ha _ (List.getElem_mem hi)) h this) (irr _)
theorem ah6 {c:FY}(hc:Cx c){values:List ByteArray}(hv:Ats c.length values):∀(q i:Nat) (out:List Ce),q+i=c.length→out.length=i→(∀j,j<i→(out.getD j fQ).1=c.getD j []∧Mx c values j (out.getD j fQ).2.1)→
  ∃o,o.length=c.length∧(∀j,j<c.length→(o.getD j fQ).1=c.getD j []∧Mx c values j (o.getD j fQ).2.1)∧gR c values i out=(lx o).bind fun r=>some (r,0):=by
 have hl:=hc.len
 have hvl:=hv.1
 intro q
 induction q with
 |zero=>
  intro i out hi ho h
  obtain rfl:i=c.length:=by omega
  refine⟨out,ho,h, ?_⟩
  rw[Ar,tC,ao (by omega)]
 |succ q ih=>
  intro i out hi ho h
  have hi':i<c.length:=by omega
  obtain⟨a,h1,h2⟩:=ajW hc hv hi' (out:=out) (by omega) c.length 0 (values.getD i ByteArray.empty) (by omega) ⟨i,hi',fun v hv=>hv,rfl⟩ (fun j hj=>by omega)
  have e0:((0:Nat):Int)=0:=rfl
  rw[e0] at h2
  rw[Ar,tC,au (by omega),acY (by omega),h2]
  refine ih (i+1) _ (by omega) (by simp;omega) fun j hj=> ?_
  by_cases e:j<i
  ·have e2:(out++[(c.getD i [],(a,()))]).getD j fQ=out.getD j fQ:=by simp only[List.getD];rw[List.getElem?_append_left (by omega)]
   rw[e2];exact h j e
  ·obtain rfl:j=i:=by omega
   have e2:(out++[(c.getD j [],(a,()))]).getD j fQ=(c.getD j [],(a,())):=by simp only[List.getD];rw[List.getElem?_append_right (by omega),ho,Nat.sub_self];rfl
   rw[e2];exact⟨rfl,h1⟩
theorem amj {c:FY}(hc:Cx c){values:List ByteArray}(hv:Ats c.length values):∃r,yc c values=some (r,0)∧Fi r:=by
 have hl:=hc.len
 have hvl:=hv.1
 have XM:∀k,k<c.length→At (values.getD k ByteArray.empty):=fun k hk=>hv.2 _ (aw (by omega))
 obtain⟨o,o1,o2,o3⟩:=ah6 hc hv c.length 0 [] (by omega) rfl (fun j hj=>by omega)
 have oat:∀j,j<c.length→At (o.getD j fQ).2.1:=fun j hj=>by
  obtain⟨k,hk,_,e⟩:=(o2 j hj).2.is
  rw[e];exact XM k hk
 have memo:∀x∈o,∃j,j<c.length∧x=o.getD j fQ:=fun x hx=>by
  obtain⟨j,hj,e⟩:=List.getElem_of_mem hx
  exact⟨j,by omega,by simp[List.getD,hj,e]⟩
 have aoz:∀i j,i<c.length→j<c.length→i≠j→c.getD i []≠c.getD j []:=fun i j hi hj hij e=>by
  have lt:∀i j,i<j→j<c.length→nq (c.getD i []) (c.getD j [])<0:=fun i j hij hj=>by
   have:=List.pairwise_iff_getElem.1 hc.asc i j (by omega) hj hij
   simpa [List.getD,show i<c.length by omega,hj] using this
  rcases Nat.lt_or_ge i j with g |g
  ·have:=lt i j g hj;rw[e,FR] at this;omega
  ·have:=lt j i (by omega) hi;rw[e,FR] at this;omega
 have akI:o.Pairwise fun x y=>x.1≠y.1:=List.pairwise_iff_getElem.2 fun i j hi hj hij=>by
  have h1:=(o2 i (by omega)).1
  have h2:=(o2 j (by omega)).1
  have e1:o.getD i fQ=o[i]:=by simp[List.getD,hi]
  have e2:o.getD j fQ=o[j]:=by simp[List.getD,hj]
  rw[e1] at h1
  rw[e2] at h2
  rw[h1,h2]
  exact aoz i j (by omega) (by omega) (by omega)
 have ocs:Cs o:=⟨by omega,fun x hx=>by
  obtain⟨j,hj,rfl⟩:=memo x hx
  rw[(o2 j hj).1]
  exact⟨(hc.ss _ (aw hj)).len,oat j hj⟩⟩
 obtain⟨r,r1,r2,r3⟩:=abP ocs akI
 have amk:∀x∈r,∃j,j<c.length∧x=o.getD j fQ:=fun x hx=>memo x (r2.mem_iff.1 hx)
 have rat:∀x∈r,At x.2.1:=fun x hx=>by obtain⟨j,hj,rfl⟩:=amk x hx;exact oat j hj
 refine⟨r, ?_,by rw[r2.length_eq];omega,fun x hx=> ?_,rat,r3,(r2.pairwise_iff (R:=fun x y:Ce=>x.1≠y.1) (fun h=>Ne.symm h)).2 akI,fun j hj t ht h0 hn=> ?_⟩
 ·have k0:∀(q i:Nat),q+i=values.length→jL c values i=some (r,0):=by
   intro q
   induction q with
   |zero=>
    intro i hi
    have e0:((0:Nat):Int)=0:=rfl
    rw[e0] at o3
    rw[Aq,tv,ao (by omega),o3,r1,bS]
   |succ q ih=>
    intro i hi
    have ha:=XM i (by omega)
    rw[Aq,tv,au (by omega),acY (by omega),TD (by have:=ha.2;omega),bS,ha.1,Bool.not_true,cF,b5 (by omega)]
    exact ih (i+1) (by omega)
  rw[Ps,Hg,afe hc,bS,mi rfl,mi (by omega)]
  exact k0 values.length 0 (by omega)
 ·obtain⟨j,hj,rfl⟩:=amk x hx
  rw[(o2 j hj).1]
  exact hc.ss _ (aw hj)
 ·obtain⟨b,hb,eb⟩:=amk _ (aw (d:=fQ) hj)
  rw[eb,(o2 b hb).1] at ht hn
  have htc:t∈c:=hc.abL _ (aw hb) t ht h0
  obtain⟨a,ha,ea⟩:=List.getElem_of_mem htc
  have ea':c.getD a []=t:=by simp[List.getD,ha,ea]
  have hya:o.getD a fQ∈r:=r2.mem_iff.2 (aw (by omega))
  obtain⟨i,hi,ei⟩:=List.getElem_of_mem hya
  have ei':r.getD i fQ=o.getD a fQ:=by simp[List.getD,hi,ei]
  refine⟨i,ami rat r3 hi hj ?_,by rw[ei',(o2 a ha).1,ea']⟩
  rw[ei',eb]
  obtain⟨k,hk,hks,ek⟩:=(o2 a ha).2.is
  have hle:tO (o.getD a fQ).2.1 (o.getD b fQ).2.1≤0:=by
   rw[ek]
   exact(o2 b hb).2.le k hk fun v hv=>by
    have h1:=hks v hv
    rw[ea'] at h1
    exact ht.mem h1
  have hsh:nq (o.getD a fQ).1 (o.getD b fQ).1<0:=by rw[(o2 a ha).1,(o2 b hb).1,ea'];exact abQ (afc ht hn)
  by_cases e:tO (o.getD a fQ).2.1 (o.getD b fQ).2.1=0
  ·exact .inr ⟨e,hsh⟩
  ·exact .inl (by omega)
theorem abR {values:List Int}(hvl:values.length≤1000000000000000000){c:FY}(hc:Cx c):∀(q i:Nat) (a:List ByteArray),q+i=c.length→Ats i a→∃r,fS values c i a=some r∧Fi r:=by
 have hcl:=hc.len
 intro q
 induction q with
 |zero=>
  intro i a hi ha
  obtain⟨r,h1,h2⟩:=amj hc (values:=a) ⟨by have:=ha.1;omega,ha.2⟩
  rw[vN,pF,ao (by omega),h1,bS]
  exact⟨r,rfl,h2⟩
 |succ q ih=>
  intro i a hi ha
  have hal:=ha.1
  have push:∀s,At s→Ats (i+1) (a++[s]):=fun s hs=>⟨by simp;omega,fun x hx=>by
   rcases List.mem_append.1 hx with h |h
   ·exact ha.2 x h
   ·rw[List.mem_singleton.1 h];exact hs⟩
  rw[vN,pF,au (by omega),b5 (by omega)]
  by_cases hv:(values.length:Int)>0
  ·have h1:=Int.emod_nonneg (i:Int) (show (values.length:Int)≠0 by omega)
   have h2:=Int.emod_lt_of_pos (i:Int) hv
   have e:(i:Int).tmod (values.length:Int)=(i:Int) % (values.length:Int):=br (by omega)
   rw[cO hv,kg (by omega),e,gp h1 h2,kg (by omega)]
   obtain⟨s,h3,h4⟩:=ZV (IntKind.wrap .i64 (values.getD ((i:Int) % (values.length:Int)).toNat 0+IntKind.wrap .i64 ((i:Int).tdiv (values.length:Int))))
   simp only
   rw[h3,bS,ja (by omega) (by omega)]
   exact ih (i+1) _ (by omega) (push s h4)
  ·obtain⟨s,h3,h4⟩:=ZV (i:Int)
   rw[cZ hv,h3,bS,ja (by omega) (by omega)]
   exact ih (i+1) _ (by omega) (push s h4)
theorem aff {l:FY}(hl:l.length≤1000000)(hs:∀s∈l,s.length≤1000000000000000000){values:List Int}(hv:values.length≤1000000000000000000):∃r,qN l values 5 3 6=some r∧Fi r:=by
 obtain⟨c,h1,h2⟩:=ae9 hl hs
 rw[KC,Cc,h1,bS,ajU (by have:=h2.len;omega) (fun s hs=>(h2.ss s hs).len),bS]
 exact abR hv h2 c.length 0 [] (by omega) ⟨rfl,fun s hs=>by cases hs⟩
theorem V6 {f:List Ce}(hf:Fi f){n:Nat}(hn:n≤f.length){s:List Int}:∀(q i:Nat),q+i=n→(∃r:Int,0≤r∧cz f n s i=some r∧∃j,i≤j∧j<n∧(f.getD j fQ).1=s)∨(cz f n s i=some (-1)∧∀j,i≤j→j<n→(f.getD j fQ).1≠s):=by
 have hl:=hf.len
 intro q
 induction q with
 |zero=>
  intro i hi
  right
  rw[ou,kM,ao (by omega)]
  exact⟨rfl,fun j h1 h2=>by omega⟩
 |succ q ih=>
  intro i hi
  have h4:=(hf.ss _ (aw (d:=fQ) (show i<f.length by omega))).len
  rw[ou,kM,au (by omega),JI (by omega),TW (by omega),bS]
  by_cases e:nq (f.getD i fQ).1 s=0
  ·left
   rw[lO e]
   exact⟨i,by omega,rfl,i,by omega,by omega,GX.1 e⟩
  ·rw[fe e,b5 (by omega)]
   rcases ih (i+1) (by omega) with ⟨r,h1,h2,j,h3,h5,h6⟩ | ⟨h1,h2⟩
   ·exact .inl ⟨r,h1,h2,j,by omega,h5,h6⟩
   ·refine .inr ⟨h1,fun j h3 h5=> ?_⟩
    by_cases g:j=i
    ·subst g;exact fun g2=>e (GX.2 g2)
    ·exact h2 j (by omega) h5
theorem afg {f:List Ce}(hf:Fi f){n:Nat}(hn:n≤f.length){s:List Int}(h:∃j,j<n∧(f.getD j fQ).1=s):∃r:Int,0≤r∧ee f n s=some r:=by
 rw[rZ,ov]
 have e0:((0:Nat):Int)=0:=rfl
 rcases V6 hf hn (s:=s) n 0 (by omega) with ⟨r,h1,h2,_⟩ | ⟨_,h2⟩
 ·rw[e0] at h2;exact⟨r,h1,h2⟩
 ·obtain⟨j,h3,h4⟩:=h
  exact absurd h4 (h2 j (Nat.zero_le _) h3)
theorem afh {f:List Ce}(hf:Fi f){n:Nat}(hn:n≤f.length){s:List Int}(h:∀j,j<n→(f.getD j fQ).1≠s):ee f n s=some (-1):=by
 rw[rZ,ov]
 have e0:((0:Nat):Int)=0:=rfl
 rcases V6 hf hn (s:=s) n 0 (by omega) with ⟨r,_,_,j,_,h3,h4⟩ | ⟨h1,_⟩
 ·exact absurd h4 (h j h3)
 ·rw[e0] at h1;exact h1
theorem Fi.ne {f:List Ce}(hf:Fi f){i j:Nat}(hi:i<f.length)(hj:j<f.length)(h:i≠j):(f.getD i fQ).1≠(f.getD j fQ).1:=by
 have lt:∀i j,i<j→(hj:j<f.length)→(f.getD i fQ).1≠(f.getD j fQ).1:=fun i j hij hj=>by
  have:=List.pairwise_iff_getElem.1 hf.aoy i j (by omega) hj hij
  simpa [List.getD,show i<f.length by omega,hj] using this
 rcases Nat.lt_or_ge i j with g |g
 ·exact lt i j g hj
 ·exact Ne.symm (lt j i (by omega) hi)
theorem afi {f:List Ce}(hf:Fi f):jN f=some 0:=by
 have hl:=hf.len
 have aoA:∀i,i<f.length→lb f i=some 0:=fun i hi=>by
  have hm:=aw (d:=fQ) hi
  have ha:=hf.at_ _ hm
  rw[Cf,vO,JI hi,V5 (hf.ss _ hm),bS,mi rfl,JI hi,TD (by have:=ha.2;omega),bS,ha.1,Bool.not_true,cF,JI hi,afh hf (by omega) (fun j hj=>hf.ne (by omega) hi (by omega)),bS]
  rfl
 have k1:∀(fc:FY) (i:Nat),i<f.length→(∀t∈fc,∃j,j<i∧(f.getD j fQ).1=t)→fc.length≤4→cw f ((i+1:Nat):Int)=some 0→∀(q k:Nat),q+k=fc.length→dg f i fc k=some 0:=by
  intro fc i hi hfc OF nxt q
  induction q with
  |zero=>
   intro k hk
   rw[oo,kK,ao (by omega)]
   by_cases hi0:(i:Int)>0
   ·have e1:IntKind.wrap .i64 ((i:Int) - 1)=((i - 1:Nat):Int):=by rw[i64_in _ (by omega)];omega
    have a1:=hf.at_ _ (aw (d:=fQ) hi)
    have a2:=hf.at_ _ (aw (d:=fQ) (show i - 1<f.length by omega))
    have hlt:Ry (f.getD (i - 1) fQ) (f.getD i fQ):=by
     have:=List.pairwise_iff_getElem.1 hf.up (i - 1) i (by omega) hi (by omega)
     simpa [List.getD,show i - 1<f.length by omega,hi] using this
    have hneg:=CW (f.getD (i - 1) fQ).2.1 (f.getD i fQ).2.1
    have hle:tO (f.getD (i - 1) fQ).2.1 (f.getD i fQ).2.1≤0:=by rcases hlt with h | ⟨h,_⟩<;>omega
    rw[cO hi0,JI hi,e1,JI (by omega),XL a1 a2,bS,ao (by omega),b5 (by omega)]
    exact nxt
   ·rw[cZ hi0,b5 (by omega)];exact nxt
  |succ q ih=>
   intro k hk
   obtain⟨r,h0,h1⟩:=afg hf (n:=i) (by omega) (hfc _ (aw (d:=[]) (show k<fc.length by omega)))
   rw[oo,kK,au (by omega),oQ (by omega),h1,bS,ao (by omega),b5 (by omega)]
   exact ih (k+1) (by omega)
 have k0:∀(q i:Nat),q+i=f.length→cw f i=some 0:=by
  intro q
  induction q with
  |zero=>intro i hi;rw[oi,kJ,ao (by omega)]
  |succ q ih=>
   intro i hi
   have hi':i<f.length:=by omega
   have h4:=(hf.ss _ (aw (d:=fQ) hi')).len
   have OF:(bY (f.getD i fQ).1).length≤4:=MZ h4
   have e0:((0:Nat):Int)=0:=rfl
   have fin:=k1 (bY (f.getD i fQ).1) i hi' (fun t ht=>by
    obtain⟨a,b,c⟩:=D1 ht
    exact hf.abL i hi' t a b c) OF (ih (i+1) (by omega)) _ 0 (Nat.add_zero _)
   rw[e0] at fin
   rw[oi,kJ,au (by omega),aoA i hi',bS,mi rfl,JI hi',Ov (by omega),bS]
   exact fin
 rw[Au,tG,cZ (by omega)]
 exact k0 f.length 0 (by omega)
end Go.Proofs.YtofjebmoebhiiaaGreatDoor.Ev
namespace Go.Proofs.YtofjebmoebhiiaaGreatDoor.Ev
open Go.Abs Go.IntWalk
def sm (g:Nat→Int):Nat→Int
 |0=>0
 |n+1=>sm g n+g n
theorem gJ {g h:Nat→Int}:∀{n:Nat},(∀i,i<n→g i=h i)→sm g n=sm h n
 |0,_=>rfl
 |n+1,e=>by rw[sm,sm,gJ fun i hi=>e i (by omega),e n (by omega)]
theorem Ow {g:Nat→Int}:∀{n:Nat},(∀i,i<n→g i=0)→sm g n=0
 |0,_=>rfl
 |n+1,e=>by rw[sm,Ow fun i hi=>e i (by omega),e n (by omega)];rfl
theorem G0 (g h:Nat→Int):∀n:Nat,sm (fun i=>g i+h i) n=sm g n+sm h n
 |0=>rfl
 |n+1=>by rw[sm,sm,sm,G0 g h n];omega
theorem JO (c:Int)(g:Nat→Int):∀n:Nat,sm (fun i=>c*g i) n=c*sm g n
 |0=>by simp[sm]
 |n+1=>by rw[sm,sm,JO c g n,Int.mul_add]
theorem ac6 (g:Nat→Nat→Int)(m:Nat):∀n:Nat,sm (fun i=>sm (g i) m) n=sm (fun j=>sm (fun i=>g i j) n) m
 |0=>(Ow (g:=fun j=>sm (fun i=>g i j) 0) fun _ _=>rfl).symm
 |n+1=>by
  rw[sm,ac6 g m n, ←G0]
  rfl
theorem PU {g:Nat→Int}{a:Nat}:∀{n:Nat},a<n→(∀i,i<n→i≠a→g i=0)→sm g n=g a
 |0,h,_=>by omega
 |n+1,h,e=>by
  rw[sm]
  by_cases ha:a=n
  ·subst ha
   rw[Ow fun i hi=>e i (by omega) (by omega)];omega
  ·rw[PU (a:=a) (by omega) fun i hi hn=>e i (by omega) hn,e n (by omega) (by omega)];omega
theorem Z9 (g:Nat→Int):∀n:Nat,sm g (n+1)=g 0+sm (fun i=>g (i+1)) n
 |0=>by simp[sm]
 |n+1=>by rw[sm,Z9 g n,sm];omega
theorem abS (g:Nat→Int):∀n:Nat,sm (fun i=>g (n - 1 - i)) n=sm g n
 |0=>rfl
 |n+1=>by
  rw[Z9,sm, ←abS g n]
  have:sm (fun i=>g (n+1 - 1 - (i+1))) n=sm (fun i=>g (n - 1 - i)) n:=gJ fun i hi=>by congr 1;omega
  rw[this]
  have e:n+1 - 1 - 0=n:=by omega
  rw[e];omega
theorem ah7 {p:Int}{g h:Nat→Int}:∀{n:Nat},(∀i,i<n→g i % p=h i % p)→sm g n % p=sm h n % p
 |0,_=>rfl
 |n+1,e=>by
  rw[sm,sm,Int.add_emod,ah7 fun i hi=>e i (by omega),e n (by omega), ←Int.add_emod]
def aaa (aa:List Cl)(r:Int):List Tm→Int
 | []=>0
 |t::l=>t.2.1*cf (df aa t.1) r+aaa aa r l
theorem ac7 {aa:List Cl}{r:Int}{n:Nat}:∀{x:List Tm} {lo:Int},Sr lo x→ -1≤lo→(∀t∈x,t.1<n)→aaa aa r x=sm (fun i=>cf x i*cf (df aa i) r) n
 | [],lo,_,_,_=>by
   rw[aaa,Ow fun i hi=>by rw[GW,Int.zero_mul]]
 |t::l,lo,hs,hlo,hn=>by
  have h1:=hs.1
  have hlt:=hn t List.mem_cons_self
  rw[aaa,ac7 (n:=n) hs.2 (by omega) fun u hu=>hn u (List.mem_cons_of_mem _ hu)]
  obtain⟨a,ha⟩:∃a:Nat,t.1=(a:Int):=⟨t.1.toNat,by omega⟩
  have hz:cf l (a:Int)=0:=Sr.cf0 hs.2 (by omega)
  have e1:t.2.1*cf (df aa t.1) r=sm (fun i=>if i=a then t.2.1*cf (df aa (i:Int)) r else 0) n:=by
   rw[PU (a:=a) (by omega) fun i hi hne=>by rw[if_neg hne],if_pos rfl,ha]
  rw[e1, ←G0]
  refine gJ fun i hi=> ?_
  rw[rb]
  by_cases e:i=a
  ·subst e
   rw[if_pos rfl,if_pos ha,hz];omega
  ·rw[if_neg e,if_neg (by omega)];omega
theorem ac8 {p:Int}(hp:0<p){aa:List Cl}{n:Int}:∀{x S:List Tm},(∀t∈x,Vc p n (df aa t.1))→Vc p n S→Vc p n (HW p aa S x)∧∀r,cf (HW p aa S x) r=(cf S r+aaa aa r x) % p
 | [],S,_,hS=>⟨hS,fun r=>by
   have:=JC hp hS.c r
   rw[HW,aaa,Int.add_zero,Int.emod_eq_of_lt this.1 this.2]⟩
 |t::l,S,hx,hS=>by
  obtain⟨h1,h2⟩:=Oq (k:=t.2.1 % p) hp hS (hx t List.mem_cons_self)
  obtain⟨h3,h4⟩:=ac8 (x:=l) hp (fun u hu=>hx u (List.mem_cons_of_mem _ hu)) h1
  refine⟨h3,fun r=> ?_⟩
  have h5:=h4 r
  rw[h2 r,Int.emod_add_emod] at h5
  rw[HW,h5,aaa]
  generalize aaa aa r l=u
  generalize cf (df aa t.1) r=b
  generalize cf S r=s
  have e:s+t.2.1 % p*b+u=(s+(t.2.1*b+u))+p*(-(t.2.1 / p)*b):=by rw[Int.emod_def];grind
  rw[e,Int.add_mul_emod_self_left]
abbrev mx (aa:List Cl)(i j:Nat):Int:=cf (df aa (j:Int)) (i:Int)
theorem Ox {p:Int}(hp:0<p){aa:List Cl}{n:Nat}(hv:∀j,j<n→Vc p n (df aa j)){j:Nat}(hj:j<n):HW p aa [] (df aa j)=[]↔∀r,r<n→sm (fun i=>mx aa i j*mx aa r i) n % p=0:=by
 have hx:=hv j hj
 obtain⟨h1,h2⟩:=ac8 (p:=p) (n:=(n:Int)) (aa:=aa) (x:=df aa j) (S:=[]) hp (fun t ht=>by
  have:=hx.r t ht
  have:=Sr.mem hx.s t ht
  have e:t.1=((t.1.toNat:Nat):Int):=by omega
  rw[e];exact hv _ (by omega)) Vc.nil
 have h3:∀r:Nat,cf (HW p aa [] (df aa j)) r=sm (fun i=>mx aa i j*mx aa r i) n % p:=fun r=>by
  rw[h2,GW,Int.zero_add,ac7 (n:=n) hx.s (by omega) fun t ht=>(hx.r t ht).1]
 constructor
 ·intro e r hr
  rw[←h3,e,GW]
 ·intro e
  have aoB:Vc p n []:=Vc.nil
  refine Sr.ext h1.s aoB.s h1.c aoB.c fun i=> ?_
  rw[GW]
  by_cases hi:0≤i∧i<n
  ·have:=h3 i.toNat
   rw[Int.toNat_of_nonneg hi.1,e i.toNat (by omega)] at this
   exact this
  ·by_cases hz:cf (HW p aa [] (df aa j)) i=0
   ·exact hz
   ·obtain⟨t,ht,rfl⟩:=VQ hz
    have:=h1.r t ht
    have:=Sr.mem h1.s t ht
    omega
end Go.Proofs.YtofjebmoebhiiaaGreatDoor.Ev
namespace Go.Proofs.YtofjebmoebhiiaaGreatDoor.Ev
open Go.Abs Go.IntWalk
def Rz (p:Int)(k:Nat):Int:=(1+((k:Int) % 2)*(p - 2)) % p
def co (p:Int)(fc:FY)(s:List Int):Nat→Int
 |0=>0
 |k+1=>if s=fc.getD k [] then Rz p k else co p fc s k
def vec (f:List Ce)(p:Int)(j:Nat):List Int:=(List.range j).map fun i=>co p (bY (f.getD j fQ).1) (f.getD i fQ).1 (bY (f.getD j fQ).1).length
def ofc (f:List Ce)(p:Int)(j:Nat):Cl:=(((f.getD j fQ).1.length:Int) - 1,((f.getD j fQ).2.1,(MT 0 (vec f p j),())))
theorem afj {a b:List Int}(hl:a.length=b.length)(h:∀r,r<a.length→a.getD r 0=b.getD r 0):a=b:=by
 apply List.ext_getElem hl
 intro r h1 h2
 have:=h r h1
 simpa [List.getD,h1,h2] using this
theorem xT (f:List Ce)(p:Int)(j:Nat):(vec f p j).length=j:=by simp[vec]
theorem Oy {f:List Ce}{p:Int}{j i:Nat}(h:i<j):(vec f p j).getD i 0=co p (bY (f.getD j fQ).1) (f.getD i fQ).1 (bY (f.getD j fQ).1).length:=by
 unfold vec;simp[List.getD,h]
theorem ah8 {f:List Ce}(hf:Fi f){p:Int}(hp:Pr p){j:Nat}(hj:j≤f.length){fc:FY}{k:Nat}(hk:k<fc.length)(hk4:fc.length≤4){v t2 ai:Nat}{t out:Int}{k9:List (Option (List Cl))}(hv:v≠0):
  ∀(q i:Nat) (aD:List (Option (List Int))) (l:List Int),q+i=j→ag aD v=some l→l.length=j→(∀r,r<j→l.getD r 0=if r<i then co p fc (f.getD r fQ).1 (k+1) else co p fc (f.getD r fQ).1 k)→
   ∃A5 l',eG f p j v fc k i t t2 out ai k9 aD=dC f p j v fc ((k+1:Nat):Int) t t2 out ai k9 A5∧ag A5 v=some l'∧l'.length=j∧∀r,r<j→l'.getD r 0=co p fc (f.getD r fQ).1 (k+1):=by
 have OF:=hf.len
 intro q
 induction q with
 |zero=>
  intro i aD l hi hg hl hr
  rw[qA,mB,ao (by omega),b5 (by omega)]
  exact⟨aD,l,rfl,hg,hl,fun r h=>by rw[hr r h,if_pos (by omega)]⟩
 |succ q ih=>
  intro i aD l hi hg hl hr
  have hc:=(hf.ss _ (aw (d:=fQ) (show i<f.length by omega))).len
  rw[qA,mB,au (by omega),JI (by omega),oQ hk,TW (by omega),bS,b5 (by omega)]
  have hp1:=hp.1
  have hp2:=hp.2.1
  obtain⟨m1,m2,m3⟩:=aos (k:=(k:Int)) (by omega) ⟨hp1,hp2⟩
  by_cases e:nq (f.getD i fQ).1 (fc.getD k [])=0
  ·have g:l[(i:Int).toNat]? =some (l.getD i 0):=by rw[Int.toNat_natCast];simp[List.getD,show i<l.length by omega]
   have hb:∀{β:Type} {f:Int→Option β},(idx l (i:Int)).bind f=f (l.getD i 0):=gG 0 (by omega)
   rw[lO e]
   simp only
   rw[m1,kg (by omega),hg,bS,hb,bS,g,bS,i64_in _ (by omega),br (by omega)]
   refine ih (i+1) _ _ (by omega) (Go.Abs.rf hg hv) (by rw[List.length_set];exact hl) fun r hrj=> ?_
   rw[Int.toNat_natCast,gH]
   by_cases e2:i=r
   ·subst e2
    rw[if_pos ⟨rfl,by omega⟩,if_pos (by omega),co,if_pos (GX.1 e)]
    rfl
   ·rw[if_neg (fun h=>e2 h.1),hr r hrj]
    by_cases e3:r<i
    ·rw[if_pos e3,if_pos (by omega)]
    ·rw[if_neg e3,if_neg (by omega)]
  ·rw[fe e]
   refine ih (i+1) aD l (by omega) hg hl fun r hrj=> ?_
   rw[hr r hrj]
   by_cases e3:r<i
   ·rw[if_pos e3,if_pos (by omega)]
   ·rw[if_neg e3]
    by_cases e2:r=i
    ·subst e2
     rw[if_pos (by omega),co,if_neg fun h=>e (GX.2 h)]
    ·rw[if_neg (by omega)]
theorem ah9 {f:List Ce}(hf:Fi f){p:Int}(hp:Pr p){j:Nat}(hj:j<f.length){v t2 ai:Nat}{t out:Int}{k9:List (Option (List Cl))}(hv:v≠0){aa:List Cl}(hc:ag k9 ai=some aa)(hcl:aa.length=j):
  ∀(q k:Nat) (aD:List (Option (List Int))) (l:List Int),q+k=(bY (f.getD j fQ).1).length→ag aD v=some l→l.length=j→(∀r,r<j→l.getD r 0=co p (bY (f.getD j fQ).1) (f.getD r fQ).1 k)→
   ∃QR ZW A5,ag ZW QR=some (aa++[ofc f p j])∧dC f p j v (bY (f.getD j fQ).1) k t t2 out ai k9 aD=cM f p ((j+1:Nat):Int) t t2 out QR ZW A5:=by
 have OF:=hf.len
 have h4:=(hf.ss _ (aw (d:=fQ) hj)).len
 have hs4:(bY (f.getD j fQ).1).length≤4:=MZ h4
 intro q
 induction q with
 |zero=>
  intro k aD l hk hg hl hr
  have hlv:l=vec f p j:=afj (by rw[hl,xT]) fun r hrl=>by rw[hr r (by omega),Oy (by omega)];congr 1;omega
  rw[qz,mz,ao (by omega),JI hj]
  simp only
  rw[JI hj,JJ hg (by omega),bS,hc,bS,ja (by omega) (by omega),b5 (by omega),i64_in _ (by omega),hlv]
  exact⟨_,_,_,lQ,rfl⟩
 |succ q ih=>
  intro k aD l hk hg hl hr
  have e0:((0:Nat):Int)=0:=rfl
  obtain⟨A5,l',h1,h2,h3,h5⟩:=ah8 (t:=t) (t2:=t2) (out:=out) (ai:=ai) (k9:=k9) hf hp (show j≤f.length by omega) (show k<(bY (f.getD j fQ).1).length by omega) hs4 hv j 0 aD l (by omega) hg hl (fun r hrj=>by rw[hr r hrj,if_neg (by omega)])
  rw[e0] at h1
  rw[qz,mz,au (by omega),h1]
  exact ih (k+1) A5 l' (by omega) h2 h3 h5
theorem aia {f:List Ce}(hf:Fi f){p:Int}(hp:Pr p){t:Int}{t2:Nat}:∀(q j ai:Nat) (k9:List (Option (List Cl))) (aD:List (Option (List Int))),q+j=f.length→ag k9 ai=some ((List.range j).map (ofc f p))→
  cM f p j t t2 p ai k9 aD=some ((p,((List.range f.length).map (ofc f p),())),0):=by
 have OF:=hf.len
 intro q
 induction q with
 |zero=>
  intro j ai k9 aD hj hc
  obtain rfl:j=f.length:=by omega
  rw[qy,my,ao (by omega),MV rfl hc]
  rfl
 |succ q ih=>
  intro j ai k9 aD hj hc
  have hj':j<f.length:=by omega
  have h4:=(hf.ss _ (aw (d:=fQ) hj')).len
  have e0:((0:Nat):Int)=0:=rfl
  obtain⟨o,h0,h4',k1,k2⟩:=ah9 (t:=t) (t2:=t2) (out:=p) (v:=aD.length+1) hf hp hj' (by omega) hc (by simp) _ 0 (aD++[some (List.replicate j 0)]) (List.replicate j 0) (Nat.add_zero _) lQ (by simp) (fun r hr=>by rw[Ot];rfl)
  rw[e0] at k2
  rw[qy,my,au (by omega),LB (by omega) (by omega) (by omega),JI hj',Ov (by omega),bS,Int.toNat_natCast,k2]
  exact ih (j+1) o h0 h4' (by omega) (by rw[k1,List.range_succ,List.map_append];rfl)
theorem afk {f:List Ce}{p j t out:Int}{t2 o:Nat}:jK f p j t t2 out o=cM f p j t t2 out o [] []:=rfl
theorem aml {f:List Ce}(hf:Fi f){p:Int}(hp:Pr p):jz f p=some ((p,((List.range f.length).map (ofc f p),())),0):=by
 have hpr:gQ p=some true:=by rw[aeR,decide_eq_true hp]
 have:=aia hf hp (t:=0) (t2:=0) f.length 0 0 [] [] (by omega) rfl
 have e0:((0:Nat):Int)=0:=rfl
 rw[e0] at this
 rw[Fm,zV,hpr,bS,Bool.not_true,cF,afi hf,bS,mi rfl,afk]
 exact this
theorem amm {p:Int}{aa:List Cl}{j:Nat}(h:Good p aa j)(hj:j≤1024):wy p aa j=0:=by
 have hb:=gI aa j
 unfold wy
 have h1:=h.Qm
 have h2:=h.at_
 have h3:=h.bd
 have h5:=h.al4
 rw[hb] at h3 h5
 have h6:ZK p (aa.getD j ju).2.2.1=0:=by rw[←hb];exact JE.2 (h.low hj)
 have h7:HW p aa [] (aa.getD j ju).2.2.1=[]:=by rw[←hb];exact h.cyc
 rw[if_neg (fun g=>by
  rcases g with g |g |g
  ·omega
  ·omega
  ·rw[h2] at g;cases g),if_neg (fun g=>g h6),if_neg (fun g=>by
  obtain⟨t,ht,e⟩:=List.any_eq_true.1 g
  have:=(h3.r t ht).1
  simp only[decide_eq_true_eq] at e
  omega),if_neg (fun g=>by
  obtain⟨t,ht,e⟩:=List.any_eq_true.1 g
  rw[h5 t ht] at e
  simp at e),if_neg (fun g=>g h7),if_neg (by rw[h.ord];simp)]
theorem abT {p:Int}{aa:List Cl}(hp:Pr p)(hl:aa.length≤1024)(h:∀j,j<aa.length→Good p aa j):fi p aa=0:=by
 unfold fi
 rw[if_pos hp,if_neg (by omega)]
 have key:∀(m j:Nat),m+j=aa.length→QN p aa j m=0:=by
  intro m
  induction m with
  |zero=>intro j hj;rfl
  |succ m ih=>
   intro j hj
   rw[QN,if_neg (by rw[amm (h j (by omega)) (by omega)];simp)]
   exact ih (j+1) (by omega)
 exact key aa.length 0 (by omega)
theorem FU {p:Int}(hp:2≤p)(k:Nat):Rz p k=if k % 2=0 then 1 else p - 1:=by
 unfold Rz
 have:(k:Int) % 2=((k % 2:Nat):Int):=by omega
 rw[this]
 by_cases h:k % 2=0
 ·rw[if_pos h,h,show (((0:Nat):Int))=0 from rfl,Int.zero_mul,Int.add_zero,Int.emod_eq_of_lt (by omega) (by omega)]
 ·rw[if_neg h,show k % 2=1 by omega,show (((1:Nat):Int))=1 from rfl,Int.one_mul,Int.emod_eq_of_lt (by omega) (by omega)];omega
def cb (p:Int)(s t:List Int):Int:=co p (bY s) t (bY s).length
def aib (p:Int)(fc:FY)(g:List Int→Int):Nat→Int
 |0=>0
 |k+1=>aib p fc g k+Rz p k*g (fc.getD k [])
theorem ac9 {p:Int}{fc:FY}{s:List Int}:∀{k:Nat},(∀i,i<k→s≠fc.getD i [])→co p fc s k=0
 |0,_=>rfl
 |k+1,h=>by rw[co,if_neg (h k (by omega)),ac9 fun i hi=>h i (by omega)]
theorem TX {f:List Ce}(hf:Fi f){p:Int}{fc:FY}{g:List Int→Int}{n:Nat}(hn:n≤f.length):∀{k:Nat},k≤fc.length→(∀i,i<k→∃a,a<n∧(f.getD a fQ).1=fc.getD i [])→(∀a b,a<k→b<k→a≠b→fc.getD a []≠fc.getD b [])→
  sm (fun i=>co p fc (f.getD i fQ).1 k*g (f.getD i fQ).1) n=aib p fc g k
 |0,_,_,_=>by
  rw[aib]
  exact Ow fun i hi=>by rw[co,Int.zero_mul]
 |k+1,hk,hx,hd=>by
  have ih:=TX hf (p:=p) (fc:=fc) (g:=g) (n:=n) hn (k:=k) (by omega) (fun i hi=>hx i (by omega)) (fun a b ha hb=>hd a b (by omega) (by omega))
  obtain⟨a,ha,ea⟩:=hx k (by omega)
  rw[aib, ←ih]
  have e1:Rz p k*g (fc.getD k [])=sm (fun i=>if i=a then Rz p k*g (fc.getD k []) else 0) n:=by
   rw[PU (a:=a) ha fun i hi hne=>by rw[if_neg hne],if_pos rfl]
  rw[e1, ←G0]
  refine gJ fun i hi=> ?_
  by_cases e:i=a
  ·subst e
   have hz:co p fc (f.getD i fQ).1 k=0:=ac9 fun b hb=>by rw[ea];exact hd k b (by omega) (by omega) (by omega)
   rw[if_pos rfl,co,if_pos ea,hz,ea];omega
  ·rw[if_neg e,co,if_neg (fun h=>hf.ne (by omega) (by omega) e (h.trans ea.symm))];omega
theorem ajX {p:Int}(hp:2≤p){s:List Int}(hs:SS s)(t:List Int):aib p (bY s) (fun u=>cb p u t) (bY s).length % p=0:=by
 have h4:=hs.len
 have g0:Rz p 0=1:=by rw[FU hp];rfl
 have g1:Rz p 1=p - 1:=by rw[FU hp];rfl
 have g2:Rz p 2=1:=by rw[FU hp];rfl
 have g3:Rz p 3=p - 1:=by rw[FU hp];rfl
 match s,hs with
 | [],_=>rfl
 | [a],_=>rfl
 | [a,b],_=>
   have e1:cb p [b] t=0:=rfl
   have e2:cb p [a] t=0:=rfl
   show (0+Rz p 0*cb p [b] t+Rz p 1*cb p [a] t) % p=0
   rw[e1,e2];simp
 | [a,b,c],hs=>
   have hne:a<b∧b<c:=by have:=hs.up;simp at this;omega
   have w:∀x y:Int,x≠y→cb p [x,y] t=(if t=[y] then 1 else 0)+(if t=[x] then (p - 1) else 0):=fun x y hxy=>by
    show (if t=[x] then Rz p 1 else if t=[y] then Rz p 0 else 0)=_
    rw[g0,g1]
    by_cases h1:t=[x]
    ·have:t≠ [y]:=fun h=>hxy (by rw[h1] at h;simpa using h)
     rw[if_pos h1,if_neg this,if_pos h1];omega
    ·rw[if_neg h1,if_neg h1];omega
   show (0+Rz p 0*cb p [b,c] t+Rz p 1*cb p [a,c] t+Rz p 2*cb p [a,b] t) % p=0
   rw[g0,g1,g2,w b c (by omega),w a c (by omega),w a b (by omega)]
   have key:∀xa xb xc ya yb:Int,ya=xa*(p - 1)→yb=xb*(p - 1)→(0+1*(xc+yb)+(p - 1)*(xc+ya)+1*(xb+ya)) % p=0:=fun xa xb xc ya yb h1 h2=>by
    have:0+1*(xc+yb)+(p - 1)*(xc+ya)+1*(xb+ya)=p*(xc+xb+xa*(p - 1)):=by rw[h1,h2];grind
    rw[this,Int.mul_emod_right]
   refine key (if t=[a] then 1 else 0) (if t=[b] then 1 else 0) _ _ _ ?_ ?_<;>split<;>omega
 | [a,b,c,d],hs=>
   have hne:a<b∧b<c∧c<d:=by have:=hs.up;simp at this;omega
   have w:∀x y z:Int,x<y→y<z→cb p [x,y,z] t=(if t=[y,z] then 1 else 0)+(if t=[x,z] then (p - 1) else 0)+(if t=[x,y] then 1 else 0):=fun x y z hxy hyz=>by
    show (if t=[x,y] then Rz p 2 else if t=[x,z] then Rz p 1 else if t=[y,z] then Rz p 0 else 0)=_
    rw[g0,g1,g2]
    by_cases h1:t=[x,y]
    ·have n1:t≠ [x,z]:=fun h=>by rw[h1] at h;simp at h;omega
     have n2:t≠ [y,z]:=fun h=>by rw[h1] at h;simp at h;omega
     rw[if_pos h1,if_neg n1,if_neg n2,if_pos h1];omega
    ·rw[if_neg h1]
     by_cases h2:t=[x,z]
     ·have n2:t≠ [y,z]:=fun h=>by rw[h2] at h;simp at h;omega
      rw[if_pos h2,if_neg n2,if_pos h2,if_neg h1];omega
     ·rw[if_neg h2,if_neg h2,if_neg h1];omega
   show (0+Rz p 0*cb p [b,c,d] t+Rz p 1*cb p [a,c,d] t+Rz p 2*cb p [a,b,d] t+Rz p 3*cb p [a,b,c] t) % p=0
   rw[g0,g1,g2,g3,w b c d (by omega) (by omega),w a c d (by omega) (by omega),w a b d (by omega) (by omega),w a b c (by omega) (by omega)]
   have key:∀cd bd bc ad ac ab bd' OR ac':Int,bd'=bd*(p - 1)→OR=ad*(p - 1)→ac'=ac*(p - 1)→
     (0+1*(cd+bd'+bc)+(p - 1)*(cd+OR+ac)+1*(bd+OR+ab)+(p - 1)*(bc+ac'+ab)) % p=0:=fun cd bd bc ad ac ab bd' OR ac' h1 h2 h3=>by
    have:0+1*(cd+bd'+bc)+(p - 1)*(cd+OR+ac)+1*(bd+OR+ab)+(p - 1)*(bc+ac'+ab)=p*(cd+bd+bc+ad*(p - 1)+ac*(p - 1)+ab):=by rw[h1,h2,h3];grind
    rw[this,Int.mul_emod_right]
   refine key _ (if t=[b,d] then 1 else 0) _ (if t=[a,d] then 1 else 0) (if t=[a,c] then 1 else 0) _ _ _ _ ?_ ?_ ?_<;>split<;>omega
 |_::_::_::_::_::_,hs=>simp at h4
end Go.Proofs.YtofjebmoebhiiaaGreatDoor.Ev
namespace Go.Proofs.YtofjebmoebhiiaaGreatDoor.Ev
open Go.Abs Go.IntWalk
def ofL (f:List Ce)(p:Int):List Cl:=(List.range f.length).map (ofc f p)
theorem G1 (f:List Ce)(p:Int):(ofL f p).length=f.length:=by simp[ofL]
theorem Oz {f:List Ce}{p:Int}{j:Nat}(h:j<f.length):(ofL f p).getD j ju=ofc f p j:=by simp[ofL,List.getD,h]
theorem TY {p:Int}(hp:2≤p){fc:FY}{s:List Int}:∀k,0≤co p fc s k∧co p fc s k<p
 |0=>⟨by rw[co];omega,by rw[co];omega⟩
 |k+1=>by
  rw[co]
  split
  ·rw[FU hp];split<;>omega
  ·exact TY hp k
theorem aic {p:Int}{fc:FY}{s:List Int}:∀{k:Nat},co p fc s k≠0→∃i,i<k∧s=fc.getD i []
 |0,h=>absurd rfl h
 |k+1,h=>by
  rw[co] at h
  split at h
  ·rename_i e;exact⟨k,by omega,e⟩
  ·obtain⟨i,h1,h2⟩:=aic h;exact⟨i,by omega,h2⟩
theorem M0 {s:List Int}{i:Nat}(h:i<(bY s).length):(bY s).getD i []=s.eraseIdx i∧i<s.length∧s.length>1:=by
 unfold bY at*
 split at h
 ·rename_i h1
  have h2:i<s.length:=by simpa using h
  rw[if_pos h1]
  exact⟨by simp[List.getD,h2],h2,h1⟩
 ·simp at h
theorem abU {s:List Int}(hs:SS s){a b:Nat}(ha:a<(bY s).length)(hb:b<(bY s).length)(h:a≠b):(bY s).getD a []≠(bY s).getD b []:=by
 obtain⟨e1,a1,_⟩:=M0 ha
 obtain⟨e2,b1,_⟩:=M0 hb
 have lt:∀a b,a<b→b<s.length→s.eraseIdx a≠s.eraseIdx b:=fun a b hab hb e=>by
  have h1:(s.eraseIdx a)[a]? =s[a+1]? :=List.getElem?_eraseIdx_of_ge (Nat.le_refl a)
  have h2:(s.eraseIdx b)[a]? =s[a]? :=List.getElem?_eraseIdx_of_lt hab
  rw[e,h2,List.getElem?_eq_getElem (by omega),List.getElem?_eq_getElem (by omega)] at h1
  have:=List.pairwise_iff_getElem.1 hs.up a (a+1) (by omega) (by omega) (by omega)
  simp only[Option.some.injEq] at h1
  omega
 rw[e1,e2]
 rcases Nat.lt_or_ge a b with g |g
 ·exact lt a b g b1
 ·exact Ne.symm (lt b a (by omega) a1)
theorem aid {f:List Ce}(hf:Fi f){p:Int}{i j:Nat}(hi:i<f.length)(hj:j<f.length):mx (ofL f p) i j=cb p (f.getD j fQ).1 (f.getD i fQ).1:=by
 have e:df (ofL f p) (j:Int)=MT 0 (vec f p j):=by rw[gI,Oz hj];rfl
 show cf (df (ofL f p) (j:Int)) (i:Int)=_
 rw[e,Xx,if_pos (Nat.zero_le _),Nat.sub_zero]
 by_cases h:i<j
 ·rw[Oy h];rfl
 ·have h1:(vec f p j).getD i 0=0:=by simp[List.getD,List.getElem?_eq_none (show (vec f p j).length≤i by rw[xT];omega)]
  rw[h1]
  by_cases hz:cb p (f.getD j fQ).1 (f.getD i fQ).1=0
  ·exact hz.symm
  ·obtain⟨k,hk,ek⟩:=aic hz
   have hm:(bY (f.getD j fQ).1).getD k []∈bY (f.getD j fQ).1:=aw hk
   obtain⟨m1,m2,m3⟩:=D1 hm
   obtain⟨a,ha,ea⟩:=hf.abL j hj _ m1 m2 m3
   exact absurd (ek.trans ea.symm) (hf.ne hi (by omega) (by omega))
theorem ajY {f:List Ce}(hf:Fi f){p:Int}(hp:Pr p):fi p (ofL f p)=0:=by
 have hl:=hf.len
 have hp2:=hp.1
 have hbd:∀j,j<f.length→df (ofL f p) (j:Int)=MT 0 (vec f p j):=fun j hj=>by rw[gI,Oz hj];rfl
 have hvc:∀j,j<f.length→Vc p j (df (ofL f p) (j:Int)):=fun j hj=>by
  rw[hbd j hj]
  refine TM (by rw[xT];omega) fun k=> ?_
  by_cases hk:k<j
  ·rw[Oy hk];exact TY hp2 _
  ·have h1:(vec f p j).getD k 0=0:=by simp[List.getD,List.getElem?_eq_none (show (vec f p j).length≤k by rw[xT];omega)]
   rw[h1];omega
 refine abT hp (by rw[G1];omega) fun j hj=> ?_
 rw[G1] at hj
 have hmem:=aw (d:=fQ) hj
 have hss:=hf.ss _ hmem
 have h4:=hss.len
 have h0:(f.getD j fQ).1.length≠0:=fun e=>hss.ne (List.eq_nil_of_length_eq_zero e)
 have XM:∀i,i<f.length→ki (ofL f p) i=(f.getD i fQ).2.1:=fun i hi=>by unfold ki;rw[Oz hi];rfl
 have XN:∀i,i<f.length→((ofL f p).getD i ju).1=((f.getD i fQ).1.length:Int) - 1:=fun i hi=>by rw[Oz hi];rfl
 refine⟨by rw[XN j hj];omega,by rw[XM j hj];exact(hf.at_ _ hmem).1,hvc j hj,fun _=>(hvc j hj).mono (by omega),fun t ht=> ?_, ?_, ?_⟩
 ·have hr:=(hvc j hj).r t ht
  have Yo:=Sr.mem (hvc j hj).s t ht
  obtain⟨i,hi⟩:∃i:Nat,t.1=(i:Int):=⟨t.1.toNat,by omega⟩
  rw[hi,Int.toNat_natCast,XN j hj,XN i (by omega)]
  have hc:=JD (hvc j hj).s t ht
  rw[hi] at hc
  have hm:=aid hf (p:=p) (i:=i) (j:=j) (by omega) hj
  have hne:cb p (f.getD j fQ).1 (f.getD i fQ).1≠0:=by rw[←hm];show cf _ _≠0;rw[hc];omega
  obtain⟨k,hk,ek⟩:=aic hne
  obtain⟨e1,e2,e3⟩:=M0 hk
  rw[ek,e1,List.length_eraseIdx_of_lt e2]
  omega
 ·have hv:∀i,i<f.length→Vc p f.length (df (ofL f p) (i:Int)):=fun i hi=>(hvc i hi).mono (by omega)
  rw[Ox (by omega) (n:=f.length) hv hj]
  intro r hr
  have e1:sm (fun i=>mx (ofL f p) i j*mx (ofL f p) r i) f.length=sm (fun i=>co p (bY (f.getD j fQ).1) (f.getD i fQ).1 (bY (f.getD j fQ).1).length*cb p (f.getD i fQ).1 (f.getD r fQ).1) f.length:=
   gJ fun i hi=>by rw[aid hf hi hj,aid hf hr hi];rfl
  rw[e1,TX hf (g:=fun u=>cb p u (f.getD r fQ).1) (Nat.le_refl _) (Nat.le_refl _) (fun i hi=>by
   have hm:(bY (f.getD j fQ).1).getD i []∈bY (f.getD j fQ).1:=aw hi
   obtain⟨m1,m2,m3⟩:=D1 hm
   obtain⟨a,ha,ea⟩:=hf.abL j hj _ m1 m2 m3
   exact⟨a,by omega,ea⟩) (fun a b ha hb hab=>abU hss ha hb hab)]
  exact ajX hp2 hss _
 ·unfold MU
  by_cases hj0:0<j
  ·have hlt:Ry (f.getD (j - 1) fQ) (f.getD j fQ):=by
    have:=List.pairwise_iff_getElem.1 hf.up (j - 1) j (by omega) hj (by omega)
    simpa [List.getD,show j - 1<f.length by omega,hj] using this
   have hneg:=CW (f.getD (j - 1) fQ).2.1 (f.getD j fQ).2.1
   have hle:tO (f.getD (j - 1) fQ).2.1 (f.getD j fQ).2.1≤0:=by rcases hlt with h | ⟨h,_⟩<;>omega
   rw[XM j hj,XM (j - 1) (by omega)]
   have hge:¬tO (f.getD j fQ).2.1 (f.getD (j - 1) fQ).2.1<0:=by omega
   have e2:decide (ml ((kN (f.getD j fQ).2.1).1*(kN (f.getD (j - 1) fQ).2.1).2) ((kN (f.getD (j - 1) fQ).2.1).1*(kN (f.getD j fQ).2.1).2)<0)=false:=decide_eq_false hge
   rw[e2,Bool.and_false]
  ·rw[decide_eq_false hj0,Bool.false_and]
end Go.Proofs.YtofjebmoebhiiaaGreatDoor.Ev
namespace Go.Proofs.YtofjebmoebhiiaaGreatDoor.Ev
open Go.Abs Go.IntWalk
section
variable (M:Nat→Nat→Int)(i j:Nat)(k m v:Int)
def uC (c x:Nat):Int:=if c=j then k*M x j+m*M x i else M x c
def eR (u:Nat→Int)(x:Nat):Int:=if x=j then u j*v else if x=i then u i - u j*v*m else u x
def tE (x c:Nat):Int:=eR i j m v (uC M i j k m c) x
end
theorem amn {M:Nat→Nat→Int}{p:Int}{n i j:Nat}(hi:i<n)(hj:j<n)(hij:i≠j){k m v:Int}(hk:p ∣ (v*k - 1))(hM:∀c,c<n→∀r,r<n→p ∣ sm (fun x=>M x c*M r x) n){c r:Nat}(hc:c<n)(hr:r<n):
  p ∣ sm (fun x=>tE M i j k m v x c*tE M i j k m v r x) n:=by
 -- aue of a changed column
 have hS:∀s,s<n→p ∣ sm (fun x=>uC M i j k m c x*M s x) n:=fun s hs=>by
  by_cases e:c=j
  ·have e1:sm (fun x=>uC M i j k m c x*M s x) n=k*sm (fun x=>M x j*M s x) n+m*sm (fun x=>M x i*M s x) n:=by
    rw[←JO, ←JO, ←G0]
    refine gJ fun x hx=> ?_
    unfold uC
    rw[if_pos e];grind
   rw[e1]
   exact Int.dvd_add (Int.dvd_mul_of_dvd_right (hM j hj s hs)) (Int.dvd_mul_of_dvd_right (hM i hi s hs))
  ·have e1:sm (fun x=>uC M i j k m c x*M s x) n=sm (fun x=>M x c*M s x) n:=gJ fun x hx=>by unfold uC;rw[if_neg e]
   rw[e1];exact hM c hc s hs
 -- rows changed before ao8
 have hG:p ∣ sm (fun x=>uC M i j k m c x*eR i j m v (fun y=>M y x) r) n:=by
  by_cases e:r=j
  ·have e1:sm (fun x=>uC M i j k m c x*eR i j m v (fun y=>M y x) r) n=v*sm (fun x=>uC M i j k m c x*M j x) n:=by
    rw[←JO]
    refine gJ fun x hx=> ?_
    unfold eR
    rw[if_pos e];grind
   rw[e1];exact Int.dvd_mul_of_dvd_right (hS j hj)
  ·by_cases e2:r=i
   ·have e1:sm (fun x=>uC M i j k m c x*eR i j m v (fun y=>M y x) r) n=sm (fun x=>uC M i j k m c x*M i x) n+(-(v*m))*sm (fun x=>uC M i j k m c x*M j x) n:=by
     rw[←JO, ←G0]
     refine gJ fun x hx=> ?_
     unfold eR
     rw[if_neg e,if_pos e2];grind
    rw[e1];exact Int.dvd_add (hS i hi) (Int.dvd_mul_of_dvd_right (hS j hj))
   ·have e1:sm (fun x=>uC M i j k m c x*eR i j m v (fun y=>M y x) r) n=sm (fun x=>uC M i j k m c x*M r x) n:=gJ fun x hx=>by unfold eR;rw[if_neg e,if_neg e2]
    rw[e1];exact hS r hr
 generalize hu:uC M i j k m c=u at*
 generalize hg:(fun x=>eR i j m v (fun y=>M y x) r)=G at*
 have hGe:∀x,eR i j m v (fun y=>M y x) r=G x:=fun x=>by rw[←hg]
 -- HZ rows of HZ changed aqE
 have hF:∀x,tE M i j k m v r x=if x=j then k*G j+m*G i else G x:=fun x=>by
  by_cases e:x=j
  ·rw[if_pos e, ←hGe, ←hGe]
   unfold tE eR uC
   rw[if_pos e]
   by_cases e2:r=j
   ·simp only[if_pos e2,if_pos e];grind
   ·by_cases e3:r=i
    ·simp only[if_neg e2,if_pos e3,if_pos e];grind
    ·simp only[if_neg e2,if_neg e3,if_pos e]
  ·rw[if_neg e, ←hGe]
   unfold tE eR uC
   simp only[if_neg e]
 have key:sm (fun x=>tE M i j k m v x c*tE M i j k m v r x) n=sm (fun x=>u x*G x) n+u j*G j*(v*k - 1):=by
  have e1:u j*v*(k*G j+m*G i) - u j*G j=sm (fun x=>if x=j then u j*v*(k*G j+m*G i) - u j*G j else 0) n:=by
   rw[PU (a:=j) hj fun x hx hne=>by rw[if_neg hne],if_pos rfl]
  have e2: -(u j*v*m)*G i=sm (fun x=>if x=i then -(u j*v*m)*G i else 0) n:=by
   rw[PU (a:=i) hi fun x hx hne=>by rw[if_neg hne],if_pos rfl]
  have e3:sm (fun x=>u x*G x) n+u j*G j*(v*k - 1)=sm (fun x=>u x*G x) n+(u j*v*(k*G j+m*G i) - u j*G j)+ -(u j*v*m)*G i:=by grind
  rw[e3,e1,e2, ←G0, ←G0]
  refine gJ fun x hx=> ?_
  rw[hF]
  unfold tE eR
  rw[hu]
  by_cases e:x=j
  ·subst e
   simp only[if_pos,if_neg (Ne.symm hij)]
   grind
  ·by_cases f:x=i
   ·subst f
    simp only[if_neg e,if_pos]
    grind
   ·simp only[if_neg e,if_neg f]
    grind
 rw[key]
 have hG2:p ∣ sm (fun x=>u x*G x) n:=by
  have e:sm (fun x=>u x*G x) n=sm (fun x=>u x*eR i j m v (fun y=>M y x) r) n:=gJ fun x hx=>by rw[hGe]
  rw[e];exact hG
 exact Int.dvd_add hG2 (Int.dvd_mul_of_dvd_right hk)
end Go.Proofs.YtofjebmoebhiiaaGreatDoor.Ev
namespace Go.Proofs.YtofjebmoebhiiaaGreatDoor.Ev
open Go.Abs Go.IntWalk
theorem aie {p:Int}{x:List Tm}{n:Nat}(hn:n≤1000000)(hx:Vc p n x)(aD:List (Option (List Int))):∃o A5 v,ko x n aD=some (o,A5)∧o≠0∧ag A5 o=some v∧v.length=n∧∀a:Nat,v.getD a 0=cf x a:=by
 have hl:=hx.length (by omega)
 have hx':∀t∈x,0≤t.1∧t.1<n:=fun t ht=>⟨by have:=Sr.mem hx.s t ht;omega,(hx.r t ht).1⟩
 obtain⟨A5,h1,h2⟩:=ZY (out:=aD.length+1) (by omega) hx' (by omega) x.length 0 (aD++[some (List.replicate n 0)]) (List.replicate n 0) (by omega) lQ (by simp)
 have e0:((0:Nat):Int)=0:=rfl
 rw[e0] at h1
 rw[Ep,ur,LB (by omega) (by omega) (by omega),Int.toNat_natCast]
 simp only
 refine⟨_,A5,_,h1,by omega,h2,by rw[MS,List.length_replicate],fun a=> ?_⟩
 rw[List.drop_zero,TH hx.s (by omega) hx.c (fun t ht=>by rw[List.length_replicate];exact(hx' t ht).2),Ot]
 split<;>omega
theorem V7 {l:List Cl}{k j:Nat}{v:Cl}:(l.set k v).getD j ju=if k=j∧k<l.length then v else l.getD j ju:=by
 by_cases h:k=j
 ·subst h
  by_cases h2:k<l.length<;>simp[List.getD,h2]
 ·simp[List.getD,h]
theorem aif {r:List Cl}{s s' a:Nat}{d:Int}{T2:ByteArray}{W:List Int}(hs:s<r.length):mx (r.set s (d,(T2,(MT 0 W,())))) a s'=if s'=s then W.getD a 0 else mx r a s':=by
 show cf (df _ (s':Int)) (a:Int)=_
 rw[gI,V7]
 by_cases e:s'=s
 ·subst e
  rw[if_pos ⟨rfl,hs⟩,if_pos rfl]
  simp only
  rw[Xx,if_pos (Nat.zero_le _),Nat.sub_zero]
 ·rw[if_neg (fun h=>e h.1.symm),if_neg e]
  show _=cf (df r (s':Int)) (a:Int)
  rw[gI]
def tmx (p:Int)(aa:List Cl)(i j:Nat)(k m inv:Int)(a s:Nat):Int:=
 if s<j then mx aa a s else if s=j then (k*mx aa a j+m*mx aa a i) % p
 else if a=j then mx aa j s*inv % p else if a=i then (mx aa i s+(p - 1)*mx aa j s % p*inv % p*m) % p else mx aa a s
def OA (aa r:List Cl):Prop:=r.length=aa.length∧∀s,s<aa.length→(r.getD s ju).1=(aa.getD s ju).1∧(r.getD s ju).2.1=(aa.getD s ju).2.1
theorem OA.set {aa r:List Cl}(h:OA aa r){s:Nat}{b:List Tm}:OA aa (r.set s ((r.getD s ju).1,((r.getD s ju).2.1,(b,())))):=by
 refine⟨by rw[List.length_set];exact h.1,fun s' hs'=> ?_⟩
 rw[V7]
 by_cases e:s=s'
 ·subst e
  rw[if_pos ⟨rfl,by rw[h.1];exact hs'⟩]
  exact h.2 s hs'
 ·rw[if_neg fun g=>e g.1]
  exact h.2 s' hs'
theorem aih {p:Int}(hp:Pr p){aa:List Cl}(hl:aa.length≤30)(hG:Gd p aa aa.length){i j:Nat}(hi:i<aa.length)(hj:j<aa.length)(hij:i≠j){k m inv:Int}(hm:0≤m∧m<p)(hv:0≤inv∧inv<p){t:Int}{t2 ai:Nat}:
  ∀(q s:Nat) (k9:List (Option (List Cl))) (aD:List (Option (List Int))) (r:List Cl),q+s=aa.length→j<s→ag k9 ai=some r→OA aa r→Gd p r aa.length→(∀a s',s'<aa.length→mx r a s'=if s'<s then tmx p aa i j k m inv a s' else mx aa a s')→
   ∃r',gP i j m inv s p aa t t2 p ai k9 aD=some (p,(r',()))∧OA aa r'∧Gd p r' aa.length∧∀a s',s'<aa.length→mx r' a s'=tmx p aa i j k m inv a s':=by
 have hp1:=hp.1
 have hp2:=hp.2.1
 intro q
 induction q with
 |zero=>
  intro s k9 aD r hs hjs hg hr hR hM
  rw[wV,qE,ao (by omega),MV rfl hg]
  exact⟨r,rfl,hr,hR,fun a s' hs'=>by rw[hM a s' hs',if_pos (by omega)]⟩
 |succ q ih=>
  intro s k9 aD r hs hjs hg hr hR hM
  have hrl:=hr.1
  have hne:ai≠0:=XC hg (fun e=>by rw[e] at hrl;simp at hrl;omega)
  have hcs:=hG _ (aw (d:=ju) (show s<aa.length by omega))
  obtain⟨o,A5,w,h1,h2,h3,h4,h6⟩:=aie (by omega) hcs.2 aD
  have h5:Rs p w:=fun a=>by rw[h6];exact JC (by omega) hcs.2.c a
  have hw:∀a:Nat,w.getD a 0=mx aa a s:=fun a=>by rw[h6];show _=cf (df aa (s:Int)) (a:Int);rw[gI]
  have wi:=h5 i
  have wj:=h5 j
  have n1:=aeY (a:=p - 1) (b:=w.getD j 0) (A:=250) (B:=250) (by omega) (by omega)
  have n2:=Int.emod_nonneg ((p - 1)*w.getD j 0) (show p≠0 by omega)
  have n3:=Int.emod_lt_of_pos ((p - 1)*w.getD j 0) (show 0<p by omega)
  have n4:=aeY (a:=(p - 1)*w.getD j 0 % p) (b:=inv) (A:=250) (B:=250) (by omega) (by omega)
  have n5:=Int.emod_nonneg ((p - 1)*w.getD j 0 % p*inv) (show p≠0 by omega)
  have n6:=Int.emod_lt_of_pos ((p - 1)*w.getD j 0 % p*inv) (show 0<p by omega)
  have n7:=aeY (a:=(p - 1)*w.getD j 0 % p*inv % p) (b:=m) (A:=250) (B:=250) (by omega) (by omega)
  have n8:=Int.emod_nonneg (w.getD i 0+(p - 1)*w.getD j 0 % p*inv % p*m) (show p≠0 by omega)
  have n9:=Int.emod_lt_of_pos (w.getD i 0+(p - 1)*w.getD j 0 % p*inv % p*m) (show 0<p by omega)
  have e1:IntKind.wrap .i64 (IntKind.wrap .i64 (p - 1)*w.getD j 0)=(p - 1)*w.getD j 0:=by rw[i64_in (p - 1) (by omega),i64_in _ (by omega)]
  have e2:IntKind.wrap .i64 ((IntKind.wrap .i64 (((p - 1)*w.getD j 0).tmod p*inv)).tmod p*m)=(p - 1)*w.getD j 0 % p*inv % p*m:=by
   rw[br (a:=(p - 1)*w.getD j 0) (by omega),i64_in ((p - 1)*w.getD j 0 % p*inv) (by omega),br (a:=(p - 1)*w.getD j 0 % p*inv) (by omega),i64_in _ (by omega)]
  rw[wV,qE,au (by omega),QQ (by omega),h1,bS]
  simp only
  rw[h3,bS,JK (by omega),bS,VV (by omega),bS,bS,JK (by omega),bS,VV (by omega),bS,e1,kg (by omega),kg (by omega),e2,kg (by omega),bS,JK (by omega),bS,VV (by omega),bS,i64_in _ (by omega),br (a:=w.getD i 0+_) (by omega),Int.toNat_natCast]
  have g1:=Go.Abs.rf (l':=w.set i ((w.getD i 0+(p - 1)*w.getD j 0 % p*inv % p*m) % p)) h3 h2
  have r1:Rs p (w.set i ((w.getD i 0+(p - 1)*w.getD j 0 % p*inv % p*m) % p)):=h5.set ⟨n8,n9⟩ i
  have l1:(w.set i ((w.getD i 0+(p - 1)*w.getD j 0 % p*inv % p*m) % p)).length=aa.length:=by rw[List.length_set];exact h4
  have gW:∀a:Nat,(w.set i ((w.getD i 0+(p - 1)*w.getD j 0 % p*inv % p*m) % p)).getD a 0=if a=i then (mx aa i s+(p - 1)*mx aa j s % p*inv % p*m) % p else mx aa a s:=fun a=>by
   rw[gH,hw i,hw j,hw a]
   by_cases e:i=a
   ·subst e;rw[if_pos ⟨rfl,by omega⟩,if_pos rfl]
   ·rw[if_neg fun h=>e h.1,if_neg (Ne.symm e)]
  generalize w.set i ((w.getD i 0+(p - 1)*w.getD j 0 % p*inv % p*m) % p)=W at g1 r1 l1 gW ⊢
  have wj2:=r1 j
  have k1:=aeY (a:=W.getD j 0) (b:=inv) (A:=250) (B:=250) (by omega) (by omega)
  rw[g1,bS,JK (by omega),bS,VV (by omega),bS,kg (by omega),bS,JK (by omega),bS,VV (by omega),bS,i64_in (W.getD j 0*inv) (by omega),br (a:=W.getD j 0*inv) (by omega),Int.toNat_natCast]
  have g2:=Go.Abs.rf (l':=W.set j (W.getD j 0*inv % p)) g1 h2
  have r2:Rs p (W.set j (W.getD j 0*inv % p)):=r1.set ⟨Int.emod_nonneg _ (by omega),Int.emod_lt_of_pos _ (by omega)⟩ j
  have l2:(W.set j (W.getD j 0*inv % p)).length=aa.length:=by rw[List.length_set];exact l1
  rw[JJ g2 (by omega),bS,hg,bS,QQ (by omega),bS,akG (by omega),bS,b5 (by omega),Int.toNat_natCast]
  have hrs:=hR _ (aw (d:=ju) (show s<r.length by omega))
  have hq:Gd p (r.set s ((r.getD s ju).1,((r.getD s ju).2.1,(MT 0 (W.set j (W.getD j 0*inv % p)),())))) aa.length:=by
   refine hR.set ?_ _
   exact⟨hrs.1,TM (Nat.le_of_eq l2) r2⟩
  refine ih (s+1) _ _ _ (by omega) (by omega) (Go.Abs.rf hg hne) hr.set hq fun a s' hs'=> ?_
  rw[aif (by omega)]
  by_cases e:s'=s
  ·subst e
   rw[if_pos rfl,if_pos (by omega)]
   unfold tmx
   rw[if_neg (by omega),if_neg (by omega),gH,gW j,if_neg (Ne.symm hij),gW a]
   by_cases ea:a=j
   ·subst ea;rw[if_pos ⟨rfl,by omega⟩,if_pos rfl]
   ·rw[if_neg fun h=>ea h.1.symm,if_neg ea]
  ·rw[if_neg e,hM a s' hs']
   by_cases e3:s'<s
   ·rw[if_pos e3,if_pos (by omega)]
   ·rw[if_neg e3,if_neg (by omega)]
theorem aii {p:Int}(hp:Pr p){aa:List Cl}(hl:aa.length≤30)(hG:Gd p aa aa.length){i j:Nat}(hi:i<aa.length)(hj:j<aa.length)(hij:i≠j){k m inv:Int}(hk:0≤k∧k<p)(hm:0≤m∧m<p)(hv:0≤inv∧inv<p){t:Int}{t2 ai v:Nat}(hv0:v≠0)
  {a b:List Int} (ha:a.length=aa.length) (hb:b.length=aa.length) (hra:Rs p a) (hrb:Rs p b) (pW:∀x,x<aa.length→a.getD x 0=mx aa x j) (hbv:∀x,x<aa.length→b.getD x 0=mx aa x i) {k9:List (Option (List Cl))} (hg:ag k9 ai=some aa):
  ∀(q s:Nat) (aD:List (Option (List Int))) (w:List Int),q+s=aa.length→ag aD v=some w→w.length=aa.length→Rs p w→(∀x,x<s→w.getD x 0=(k*mx aa x j+m*mx aa x i) % p)→
   ∃r',gO i j k m inv v a b s p aa t t2 p ai k9 aD=some (p,(r',()))∧OA aa r'∧Gd p r' aa.length∧∀a s',s'<aa.length→mx r' a s'=tmx p aa i j k m inv a s':=by
 have hp1:=hp.1
 have hp2:=hp.2.1
 intro q
 induction q with
 |zero=>
  intro s aD w hs hw hwl hwr hwv
  have hne:ai≠0:=XC hg (fun e=>by rw[e] at hj;simp at hj)
  have hrs:=hG _ (aw (d:=ju) hj)
  rw[wU,qB,hw,bS,ao (by omega),JJ hw (by omega),bS,hg,bS,QQ (by omega),bS,akG (by omega),bS,b5 (by omega),Int.toNat_natCast]
  have hs0:OA aa aa:=⟨rfl,fun s hs=>⟨rfl,rfl⟩⟩
  have hq:Gd p (aa.set j ((aa.getD j ju).1,((aa.getD j ju).2.1,(MT 0 w,())))) aa.length:=by
   refine hG.set ?_ _
   exact⟨hrs.1,TM (by omega) hwr⟩
  refine aih hp hl hG hi hj hij hm hv (aa.length - (j+1)) (j+1) _ aD _ (by omega) (by omega) (Go.Abs.rf hg hne) hs0.set hq fun x s' hs'=> ?_
  rw[aif hj]
  by_cases e:s'=j
  ·subst e
   rw[if_pos rfl,if_pos (by omega)]
   unfold tmx
   rw[if_neg (by omega),if_pos rfl]
   by_cases hx:x<aa.length
   ·exact hwv x (by omega)
   ·have z1:w.getD x 0=0:=by simp[List.getD,List.getElem?_eq_none (show w.length≤x by omega)]
    have z2:∀y,y<aa.length→mx aa x y=0:=fun y hy=>by
     have hvc:=(hG _ (aw (d:=ju) hy)).2
     show cf (df aa (y:Int)) (x:Int)=0
     rw[gI]
     by_cases hz:cf (aa.getD y ju).2.2.1 (x:Int)=0
     ·exact hz
     ·obtain⟨t,ht,e⟩:=VQ hz
      have:=(hvc.r t ht).1
      omega
    rw[z1,z2 s' hj,z2 i hi];simp
  ·rw[if_neg e]
   by_cases e3:s'<j+1
   ·rw[if_pos e3];unfold tmx;rw[if_pos (by omega)]
   ·rw[if_neg e3]
 |succ q ih=>
  intro s aD w hs hw hwl hwr hwv
  have as1:=hra s
  have bs1:=hrb s
  have n1:=aeY (a:=k) (b:=a.getD s 0) (A:=250) (B:=250) (by omega) (by omega)
  have n2:=aeY (a:=m) (b:=b.getD s 0) (A:=250) (B:=250) (by omega) (by omega)
  rw[wU,qB,hw,bS,au (by omega),JK (by omega),JK (by omega)]
  simp only
  rw[i64_in (k*a.getD s 0) (by omega),i64_in (m*b.getD s 0) (by omega),i64_in (k*a.getD s 0+m*b.getD s 0) (by omega),kg (by omega),bS,JK (by omega),bS,VV (by omega),bS,br (by omega),b5 (by omega),Int.toNat_natCast]
  refine ih (s+1) _ _ (by omega) (Go.Abs.rf hw hv0) (by rw[List.length_set];exact hwl) (hwr.set ⟨Int.emod_nonneg _ (by omega),Int.emod_lt_of_pos _ (by omega)⟩ _) fun x hx=> ?_
  rw[gH]
  by_cases e:s=x
  ·subst e;rw[if_pos ⟨rfl,by omega⟩,pW s (by omega),hbv s (by omega)]
  ·rw[if_neg fun h=>e h.1];exact hwv x (by omega)
theorem amo {p:Int}(hp:Pr p){aa:List Cl}(hl:aa.length≤30)(hG:Gd p aa aa.length){i j:Nat}(hi:i<aa.length)(hj:j<aa.length)(hij:i≠j){k m:Int}(hk:1≤k∧k<p)(hm:0≤m∧m<p):
  ∃r',sU (p,(aa,())) i j k m=some (p,(r',()))∧OA aa r'∧Gd p r' aa.length∧∀a s',s'<aa.length→mx r' a s'=tmx p aa i j k m (iv p k) a s':=by
 have hp1:=hp.1
 obtain⟨o,h0,g1,g2⟩:=ZX (p:=p) hl (fun x hx=>by have:=(hG x hx).2.length (by omega);omega)
 obtain⟨a,e1,e2,e3⟩:=ZP (by omega) (hG _ (aw (d:=ju) hj)).2
 obtain⟨b,f1,f2,f3⟩:=ZP (by omega) (hG _ (aw (d:=ju) hi)).2
 have hiv:=TG hp hk
 rw[Mz,DC]
 simp only
 rw[g1,bS,aby hp hk,bS,LB (by omega) (by omega) (by omega),QQ hj,e1,bS,QQ hi,f1,bS]
 have e0:((0:Nat):Int)=0:=rfl
 have:=aii hp hl hG hi hj hij (k:=k) (m:=m) (inv:=iv p k) (t:=0) (t2:=0) (v:=([]:List (Option (List Int))).length+1) (by omega) hm (by omega) (by omega) e2.len f2.len (e3 (by omega)) (f3 (by omega)) (fun x hx=>by rw[e2.at_ x hx];show _=cf (df aa (j:Int)) (x:Int);rw[gI]) (fun x hx=>by rw[f2.at_ x hx];show _=cf (df aa (i:Int)) (x:Int);rw[gI]) g2 aa.length 0 ([]++[some (List.replicate aa.length 0)]) (List.replicate aa.length 0) (by omega) lQ (by simp) (Rs.rep (by omega) _) (fun x hx=>by omega)
 rw[e0] at this
 simp only[Int.toNat_natCast]
 exact this
end Go.Proofs.YtofjebmoebhiiaaGreatDoor.Ev
namespace Go.Proofs.YtofjebmoebhiiaaGreatDoor.Ev
open Go.Abs Go.IntWalk
theorem ada {p:Int}(hp:0<p){aa:List Cl}{i j:Nat}(hij:i<j){k m v:Int}{n:Nat}(hZ:∀s,s<n→∀a,s≤a→mx aa a s=0)(hj:j<n){a s:Nat}(hs:s<n):tmx p aa i j k m v a s % p=tE (fun x y=>mx aa x y) i j k m v a s % p:=by
 unfold tmx tE eR uC
 by_cases h1:s<j
 ·rw[if_pos h1]
  have hz:mx aa j s=0:=hZ s hs j (by omega)
  by_cases e:a=j
  ·subst e
   simp only[if_neg (show ¬s=a by omega),if_pos,hz,Int.zero_mul]
  ·by_cases f:a=i
   ·subst f
    simp only[if_neg e,if_neg (show ¬s=j by omega),if_pos,hz,Int.zero_mul,Int.sub_zero]
   ·simp only[if_neg e,if_neg f,if_neg (show ¬s=j by omega)]
 ·rw[if_neg h1]
  by_cases h2:s=j
  ·subst h2
   have z1:mx aa s s=0:=hZ s hs s (Nat.le_refl _)
   have z2:mx aa s i=0:=hZ i (by omega) s (by omega)
   rw[if_pos rfl,Int.emod_emod_of_dvd _ (Int.dvd_refl p)]
   by_cases e:a=s
   ·subst e
    simp only[if_pos,z1,z2,Int.mul_zero,Int.add_zero,Int.zero_mul]
   ·by_cases f:a=i
    ·subst f
     simp only[if_neg e,if_pos,z1,z2,Int.mul_zero,Int.add_zero,Int.zero_mul,Int.sub_zero]
    ·simp only[if_neg e,if_neg f,if_pos]
  ·rw[if_neg h2]
   by_cases e:a=j
   ·subst e
    simp only[if_neg h2,if_pos,Int.emod_emod_of_dvd _ (Int.dvd_refl p)]
   ·by_cases f:a=i
    ·subst f
     simp only[if_neg e,if_neg h2,if_pos,Int.emod_emod_of_dvd _ (Int.dvd_refl p)]
     generalize mx aa a s=y
     generalize mx aa j s=x
     have q1:(p - 1)*x % p=(p - 1)*x - p*((p - 1)*x / p):=Int.emod_def _ _
     have q2:(p - 1)*x % p*v % p=(p - 1)*x % p*v - p*((p - 1)*x % p*v / p):=Int.emod_def _ _
     generalize (p - 1)*x % p*v / p=z2 at q2
     generalize (p - 1)*x / p=z1 at q1
     have q3:y+(p - 1)*x % p*v % p*m=(y - x*v*m)+p*(x*v*m - z1*v*m - z2*m):=by rw[q2,q1];grind
     rw[q3,Int.add_mul_emod_self_left]
    ·simp only[if_neg e,if_neg f,if_neg h2]
theorem aij {p:Int}{aa r':List Cl}(h0:fi p aa=0){i j:Nat}(hij:i<j)(hj:j<aa.length)(hd:(aa.getD i ju).1=(aa.getD j ju).1){k m:Int}(hk:1≤k∧k<p)(hm:0≤m∧m<p)(hS:OA aa r')(hG:Gd p r' aa.length)(hM:∀a s',s'<aa.length→mx r' a s'=tmx p aa i j k m (iv p k) a s'):fi p r'=0:=by
 obtain⟨hp,hl,hg⟩:=sQ h0
 have hp1:=hp.1
 obtain⟨hSl,hSd⟩:=hS
 have hne:∀a s,s<aa.length→mx aa a s≠0→a<s∧(aa.getD a ju).1=(aa.getD s ju).1 - 1:=fun a s hs hz=>by
  have hgs:=hg s hs
  obtain⟨t,ht,e⟩:=VQ hz
  have h1:=(hgs.bd.r t ht).1
  have h2:=hgs.al4 t ht
  rw[e,Int.toNat_natCast] at h2
  exact⟨by omega,h2⟩
 have hZ:∀s,s<aa.length→∀a,s≤a→mx aa a s=0:=fun s hs a ha=>by
  by_cases hz:mx aa a s=0
  ·exact hz
  ·have:=(hne a s hs hz).1;omega
 have tz:∀a s,s<aa.length→tmx p aa i j k m (iv p k) a s≠0→a<s∧(aa.getD a ju).1=(aa.getD s ju).1 - 1:=fun a s hs ht=>by
  unfold tmx at ht
  split at ht
  ·exact hne a s hs ht
  ·split at ht
   ·rename_i h1 h2
    subst h2
    by_cases y1:mx aa a s=0
    ·by_cases y2:mx aa a i=0
     ·rw[y1,y2] at ht;simp at ht
     ·have:=hne a i (by omega) y2
      exact⟨by omega,by rw[←hd];exact this.2⟩
    ·exact hne a s hs y1
   ·split at ht
    ·rename_i h1 h2 h3
     subst h3
     by_cases y1:mx aa a s=0
     ·rw[y1] at ht;simp at ht
     ·exact hne a s hs y1
    ·split at ht
     ·rename_i h1 h2 h3 h4
      subst h4
      by_cases y1:mx aa a s=0
      ·by_cases y2:mx aa j s=0
       ·rw[y1,y2] at ht;simp at ht
       ·have:=hne j s hs y2
        exact⟨by omega,by rw[hd];exact this.2⟩
      ·exact hne a s hs y1
     ·exact hne a s hs ht
 have Xb:∀s,s<aa.length→Vc p aa.length (df r' (s:Int)):=fun s hs=>by
  rw[gI]
  exact(hG _ (aw (by omega))).2
 have hvs:∀s,s<aa.length→Vc p s (df r' (s:Int))∧∀t∈df r' (s:Int),(aa.getD t.1.toNat ju).1=(aa.getD s ju).1 - 1:=fun s hs=>by
  have hv:=Xb s hs
  have key:∀t∈df r' (s:Int),t.1.toNat<s∧(aa.getD t.1.toNat ju).1=(aa.getD s ju).1 - 1:=fun t ht=>by
   have h1:=Sr.mem hv.s t ht
   have h2:=(hv.r t ht).2
   have h3:=JD hv.s t ht
   have e:t.1=((t.1.toNat:Nat):Int):=by omega
   refine tz _ s hs ?_
   rw[←hM _ s hs]
   show cf (df r' (s:Int)) ((t.1.toNat:Nat):Int)≠0
   rw[←e,h3];omega
  exact⟨⟨hv.s,fun t ht=>⟨by have:=(key t ht).1;have:=Sr.mem hv.s t ht;omega,(hv.r t ht).2⟩⟩,fun t ht=>(key t ht).2⟩
 have XM:∀s,s<aa.length→ki r' s=ki aa s:=fun s hs=>(hSd s hs).2
 refine abT hp (by omega) fun s hs=> ?_
 rw[hSl] at hs
 have hgs:=hg s hs
 obtain⟨v1,v2⟩:=hvs s hs
 refine⟨by rw[(hSd s hs).1];exact hgs.Qm,by rw[XM s hs];exact hgs.at_,v1,fun _=>v1.mono (by omega),fun t ht=> ?_, ?_, ?_⟩
 ·have h1:=Sr.mem v1.s t ht
  have h2:=(v1.r t ht).1
  rw[(hSd s hs).1,(hSd t.1.toNat (by omega)).1]
  exact v2 t ht
 ·rw[Ox (by omega) Xb hs]
  intro r hr
  have e1:sm (fun x=>mx r' x s*mx r' r x) aa.length % p=sm (fun x=>tE (fun x y=>mx aa x y) i j k m (iv p k) x s*tE (fun x y=>mx aa x y) i j k m (iv p k) r x) aa.length % p:=
   ah7 fun x hx=>by
    rw[hM x s hs,hM r x hx,Int.mul_emod,ada (by omega) hij hZ hj hs,ada (by omega) hij hZ hj hx, ←Int.mul_emod]
  rw[e1]
  refine Int.emod_eq_zero_of_dvd (amn (by omega) hj (by omega) ?_ (fun c hc r hr=> ?_) hs hr)
  ·have h1:=TF hp hk
   refine Int.dvd_of_emod_eq_zero ?_
   rw[Int.mul_comm (iv p k) k,Int.sub_emod,h1]
   have:(1:Int) % p=1:=Int.emod_eq_of_lt (by omega) (by omega)
   rw[this];simp
  ·exact Int.dvd_of_emod_eq_zero ((Ox (by omega) (fun y hy=>(hg y hy).bd.mono (by omega)) hc).1 (hg c hc).cyc r hr)
 ·have h1:=hgs.ord
  unfold MU at h1 ⊢
  by_cases hs0:0<s
  ·rw[XM s hs,XM (s - 1) (by omega)];exact h1
  ·rw[decide_eq_false hs0,Bool.false_and]
def Go2 (p:Int)(aa:List Cl)(most:Nat):Prop:=aa.length≤most∧Gd p aa aa.length∧fi p aa=0
theorem aac {p:Int}(hp:Pr p){aa:List Cl}(hl:aa.length≤30)(hG:Gd p aa aa.length)(h0:fi p aa=0){n:Nat}{x:List (List Int)}{x2 x4:List Int}{x3 t:Int}{t2 most:Nat}(hn:n+2<x4.length)(hn2:n<24){j:Nat}(hj:j<aa.length){k:Int}(hk:1≤k∧k<p)
  (nxt:∀V8:List Cl,V8.length=aa.length→Gd p V8 aa.length→fi p V8=0→∃r,eA ((n+3:Nat):Int) x x2 x3 x4 t t2 p V8=some r∧Go2 r.1 r.2.1 most):
  ∀(q:Nat),q≤j→∃r,fR n j k ((q:Int) - 1) x x2 x3 x4 t t2 p aa=some r∧Go2 r.1 r.2.1 most:=by
 have hp1:=hp.1
 have hp2:=hp.2.1
 have e2:IntKind.wrap .i64 ((n:Int)+2)=((n+2:Nat):Int):=by rw[i64_in _ (by omega)];omega
 have e3:IntKind.wrap .i64 ((n:Int)+3)=((n+3:Nat):Int):=by rw[i64_in _ (by omega)];omega
 intro q
 induction q with
 |zero=>
  intro hq
  have c1:(((0:Nat):Int) - 1≥0)=False:=by simp
  rw[vQ,pK,e3]
  simp only[c1,decide_false]
  rw[cF,cF]
  exact nxt aa rfl hG h0
 |succ q ih=>
  intro hq
  have e1:(((q+1:Nat):Int) - 1)=(q:Int):=by omega
  have c1:((q:Int)≥0)=True:=by simp
  rw[vQ,pK,e1,e2,e3]
  simp only[c1,decide_true]
  rw[cT,QQ (by omega),QQ (by omega),i64_in ((q:Int) - 1) (by omega)]
  cases hdd:((aa.getD q ju).1 != (aa.getD j ju).1) with
  |true=>rw[cT];exact ih (by omega)
  |false=>
   have XN:(aa.getD q ju).1=(aa.getD j ju).1:=by simpa using hdd
   rw[cF,cT,JK (by omega),kg (by omega),kg (by omega)]
   have hmm:=vt1 (x:=x4.getD (n+2) 0) (c:=p) (by omega)
   obtain⟨r,h1,h2,h3,h4⟩:=amo hp hl hG (i:=q) (by omega) hj (by omega) hk hmm
   rw[h1,bS]
   exact nxt r h2.1 h3 (aij h0 (by omega) hj XN hk hmm h2 h3 h4)
theorem aad {p:Int}(hp:Pr p){x:List (List Int)}{x2 x4:List Int}{x3 t:Int}{t2 most:Nat}(hmo:most≤30)(hx4:x4.length≤1000000000000000000):∀(q n:Nat) (aa:List Cl),24≤q+n→aa.length≤most→Gd p aa aa.length→fi p aa=0→∃r,eA n x x2 x3 x4 t t2 p aa=some r∧Go2 r.1 r.2.1 most:=by
 have hp1:=hp.1
 have hp2:=hp.2.1
 intro q
 induction q with
 |zero=>
  intro n aa hq hl hG h0
  have hgo:Go2 p aa most:=⟨hl,hG,h0⟩
  rw[vP,pI]
  rw[ao (a:=(n:Int)) (b:=24) (by omega)]
  cases decide (IntKind.wrap .i64 ((n:Int)+2)<(x4.length:Int)) with
  |true=>exact⟨_,rfl,hgo⟩
  |false=>exact⟨_,rfl,hgo⟩
 |succ q ih=>
  intro n aa hq hl hG h0
  have hgo:Go2 p aa most:=⟨hl,hG,h0⟩
  rw[vP,pI]
  by_cases h24:(n:Int)<24
  ·have e1:IntKind.wrap .i64 ((n:Int)+1)=((n+1:Nat):Int):=by rw[i64_in _ (by omega)];omega
   have e2:IntKind.wrap .i64 ((n:Int)+2)=((n+2:Nat):Int):=by rw[i64_in _ (by omega)];omega
   rw[e1,e2,au h24]
   by_cases hn:((n+2:Nat):Int)<x4.length
   ·rw[au hn]
    by_cases hc:(aa.length:Int)>0
    ·have ep:IntKind.wrap .i64 (p - 1)=p - 1:=i64_in _ (by omega)
     obtain⟨j1,j2⟩:=vt1 (x:=x4.getD n 0) (c:=(aa.length:Int)) (by omega)
     obtain⟨j,hj⟩:=Int.eq_ofNat_of_zero_le j1
     have k0:=Int.tmod_lt_of_pos (x4.getD (n+1) 0) (show 0<p - 1 by omega)
     have k1:=Int.lt_tmod_of_pos (x4.getD (n+1) 0) (show 0<p - 1 by omega)
     have k2:IntKind.wrap .i64 (IntKind.wrap .i64 ((x4.getD (n+1) 0).tmod (p - 1)+p) - 1)=(x4.getD (n+1) 0).tmod (p - 1)+p - 1:=by rw[i64_in ((x4.getD (n+1) 0).tmod (p - 1)+p) (by omega),i64_in _ (by omega)]
     have k3:((x4.getD (n+1) 0).tmod (p - 1)+p - 1).tmod (p - 1)=((x4.getD (n+1) 0).tmod (p - 1)+p - 1) % (p - 1):=br (by omega)
     have k4:=Int.emod_nonneg ((x4.getD (n+1) 0).tmod (p - 1)+p - 1) (show p - 1≠0 by omega)
     have k5:=Int.emod_lt_of_pos ((x4.getD (n+1) 0).tmod (p - 1)+p - 1) (show 0<p - 1 by omega)
     rw[cO hc,JK (by omega),kg (by omega),kg (by omega),JK (by omega),ep,kg (by omega),kg (by omega)]
     simp only
     rw[k2,k3,hj,i64_in (1+_) (by omega),i64_in ((j:Int) - 1) (by omega)]
     exact aac hp (by omega) hG h0 (by omega) (by omega) (show j<aa.length by omega) (by omega) (fun V8 g1 g2 g3=>ih (n+3) V8 (by omega) (by omega) (by rw[g1];exact g2) g3) j (by omega)
    ·rw[cZ hc];exact⟨_,rfl,hgo⟩
   ·rw[ao hn];exact⟨_,rfl,hgo⟩
  ·rw[ao h24]
   cases decide (IntKind.wrap .i64 ((n:Int)+2)<(x4.length:Int)) with
   |true=>exact⟨_,rfl,hgo⟩
   |false=>exact⟨_,rfl,hgo⟩
theorem afl {l:FY}(hl:l.length≤1000000000000000000)(hs:∀s∈l,s.length≤1000000000000000000){values turns:List Int}(hv:values.length≤1000000000000000000)(ht:turns.length≤1000000000000000000)(field:Int){most:Nat}(hmo:most≤30):
  ∃r,qM (l,(values,(field,(turns,())))) most=some r∧Go2 r.1 r.2.1 most:=by
 rw[KG,Cg]
 simp only
 have ahD:∃n:Nat,(bif decide ((40:Int)<(l.length:Int)) then (40:Int) else (l.length:Int))=n∧n≤40∧n≤l.length:=by
  by_cases h:(40:Int)<l.length
  ·rw[au h];exact⟨40,rfl,by omega,by omega⟩
  ·rw[ao h];exact⟨l.length,rfl,by omega,by omega⟩
 obtain⟨n,e1,e2,e3⟩:=ahD
 rw[e1,FK (by omega) (by omega) (by omega)]
 have hcl:(cut l 0 (n:Int)).length≤40:=by simp[cut];omega
 have hcm:∀s∈cut l 0 (n:Int),s∈l:=fun s h=>by
  simp only[cut] at h
  exact List.mem_of_mem_take (List.mem_of_mem_drop h)
 obtain⟨f,h1,h2⟩:=aff (l:=cut l 0 (n:Int)) (by omega) (fun s h=>hs s (hcm s h)) hv
 have hf:=h2.len
 rw[h1,bS]
 have ahD:∃n:Nat,(bif decide ((most:Int)<(f.length:Int)) then (most:Int) else (f.length:Int))=n∧n≤most∧n≤f.length:=by
  by_cases h:(most:Int)<f.length
  ·rw[au h];exact⟨most,rfl,by omega,by omega⟩
  ·rw[ao h];exact⟨f.length,rfl,by omega,by omega⟩
 obtain⟨k,g1,g2,g3⟩:=ahD
 obtain⟨p,p1,p2⟩:=ahS field
 rw[g1,FK (by omega) (by omega) (by omega),p1,bS]
 have hct:cut f 0 (k:Int)=f.take k:=by simp[cut]
 have hfi:=h2.take k
 have OF:(f.take k).length≤most:=by simp;omega
 have hlen:(ofL (f.take k) p).length≤most:=by rw[G1];exact OF
 rw[hct,aml hfi p2,bS]
 have e0:((0:Nat):Int)=0:=rfl
 have:=aad (x:=l) (x2:=values) (x3:=field) (x4:=turns) (t:=0) (t2:=0) p2 hmo ht 24 0 (ofL (f.take k) p) (by omega) hlen (fun y hy=>by
  obtain⟨j,hj,rfl⟩:=List.mem_map.1 hy
  have hj':j<(f.take k).length:=by simpa using hj
  refine⟨hfi.at_ _ (aw (d:=fQ) hj'), ?_⟩
  rw[G1]
  have hp2:=p2.1
  refine TM (by rw[xT];omega) fun x=> ?_
  by_cases hx:x<j
  ·rw[Oy hx];exact TY hp2 _
  ·have h1:(vec (f.take k) p j).getD x 0=0:=by simp[List.getD,List.getElem?_eq_none (show (vec (f.take k) p j).length≤x by rw[xT];omega)]
   rw[h1];omega) (ajY hfi p2)
 rw[e0] at this
 exact this
theorem Go2.go1 {p:Int}{aa:List Cl}{most:Nat}(h:Go2 p aa most)(hm:most≤30):Go1 p aa:=⟨Nat.le_trans h.1 hm, .inr (sQ h.2.2).1,h.2.1⟩
theorem Go2.sz {p:Int}{aa:List Cl}{most:Nat}(h:Go2 p aa most)(hm:most≤30):Sz aa:=(h.go1 hm).sz
end Go.Proofs.YtofjebmoebhiiaaGreatDoor.Ev
namespace Go.Proofs.YtofjebmoebhiiaaGreatDoor.Ev
open Go.Abs Go.IntWalk
def aj0 (aa:List Cl):Prop:=∀j,j<aa.length→(ki aa j).size≤20
theorem Kh (aa:List Cl):(kj aa).length=aa.length:=by simp[kj]
theorem xU {aa:List Cl}{j:Nat}(h:j<aa.length):(kj aa).getD j ju=((dsf aa aa.length j).1,((dsf aa aa.length j).2,(Dv aa aa.length aa.length j,()))):=by simp[kj,List.getD,h]
theorem aik {aa:List Cl}{n m j r:Nat}(h:r<m):(dvv aa n m j).getD r 0=cf (df aa ((n - 1 - r:Nat):Int)) ((n - 1 - j:Nat):Int):=by
 unfold dvv;simp[List.getD,h]
theorem OB {aa:List Cl}{i j:Nat}(hi:i<aa.length)(hj:j<aa.length):mx (kj aa) i j=mx aa (aa.length - 1 - j) (aa.length - 1 - i):=by
 have e:df (kj aa) (j:Int)=MT 0 (dvv aa aa.length aa.length j):=by rw[gI,xU hj];rfl
 show cf (df (kj aa) (j:Int)) (i:Int)=_
 rw[e,Xx,if_pos (Nat.zero_le _),Nat.sub_zero,aik hi]
theorem TZ {p:Int}{aa:List Cl}(h0:fi p aa=0){j:Nat}(hj:j<aa.length):Vc p aa.length (df (kj aa) (j:Int)):=by
 obtain⟨hp,hl,hg⟩:=sQ h0
 have hp1:=hp.1
 have e:df (kj aa) (j:Int)=MT 0 (dvv aa aa.length aa.length j):=by rw[gI,xU hj];rfl
 rw[e]
 refine TM (by simp[dvv]) fun k=> ?_
 by_cases hk:k<aa.length
 ·rw[aik hk]
  exact JC (by omega) (hg (aa.length - 1 - k) (by omega)).bd.c _
 ·have:(dvv aa aa.length aa.length j).getD k 0=0:=by simp[List.getD,dvv,hk]
  rw[this];omega
theorem adb {p:Int}{aa:List Cl}(h0:fi p aa=0){a s:Nat}(hs:s<aa.length)(hz:mx aa a s≠0):a<s∧(aa.getD a ju).1=(aa.getD s ju).1 - 1:=by
 obtain⟨hp,hl,hg⟩:=sQ h0
 have hgs:=hg s hs
 obtain⟨t,ht,e⟩:=VQ hz
 have h1:=(hgs.bd.r t ht).1
 have h2:=hgs.al4 t ht
 rw[e,Int.toNat_natCast] at h2
 exact⟨by omega,h2⟩
theorem aae {p:Int}{aa:List Cl}(h0:fi p aa=0)(h20:aj0 aa):fi p (kj aa)=0:=by
 obtain⟨hp,hl,hg⟩:=sQ h0
 have hp1:=hp.1
 obtain⟨n,hn⟩:∃n,aa.length=n:=⟨_,rfl⟩
 have XV:=Kh aa
 have XN:∀j,j<n→((kj aa).getD j ju).1=4 - (aa.getD (n - 1 - j) ju).1:=fun j hj=>by rw[xU (by omega)];unfold dsf;rw[hn]
 have XM:∀j,j<n→ki (kj aa) j=abI (ki aa (n - 1 - j)):=fun j hj=>by unfold ki;rw[xU (by omega)];unfold dsf;rw[hn];rfl
 have hR:∀j,j<n→∃x d,Rt (ki aa j) x d∧0<d:=fun j hj=>by
  obtain⟨x,d,h⟩:=o5.1 (hg j (by omega)).at_
  exact⟨x,d,h,(h.bounds (by have:=h20 j (by omega);omega)).2.2⟩
 have key:∀j,j<n→∀t∈df (kj aa) (j:Int),∃i:Nat,t.1=(i:Int)∧i<n∧mx (kj aa) i j≠0:=fun j hj t ht=>by
  have hv:=TZ h0 (show j<aa.length by omega)
  have h1:=Sr.mem hv.s t ht
  have h2:=hv.r t ht
  have h3:=JD hv.s t ht
  have e:t.1=((t.1.toNat:Nat):Int):=by omega
  refine⟨t.1.toNat,e,by omega, ?_⟩
  show cf (df (kj aa) (j:Int)) ((t.1.toNat:Nat):Int)≠0
  rw[←e,h3];omega
 have hvj:∀j,j<n→Vc p j (df (kj aa) (j:Int)):=fun j hj=>by
  have hv:=TZ h0 (show j<aa.length by omega)
  refine⟨hv.s,fun t ht=>⟨?_,(hv.r t ht).2⟩⟩
  obtain⟨i,e,hi,hz⟩:=key j hj t ht
  rw[OB (by omega) (by omega),hn] at hz
  have:=(adb h0 (by omega) hz).1
  omega
 refine abT hp (by omega) fun j hj=> ?_
 rw[XV,hn] at hj
 have hgj:=hg (n - 1 - j) (by omega)
 refine⟨?_, ?_,hvj j hj,fun _=>(hvj j hj).mono (by omega),fun t ht=> ?_, ?_, ?_⟩
 ·rw[XN j hj]
  have:=hgj.Qm
  omega
 ·obtain⟨x,d,h,_⟩:=hR (n - 1 - j) (by omega)
  rw[XM j hj]
  exact o5.2 ⟨_,_,h.opp⟩
 ·obtain⟨i,e,hi,hz⟩:=key j hj t ht
  rw[OB (by omega) (by omega),hn] at hz
  have:=(adb h0 (by omega) hz).2
  rw[e,Int.toNat_natCast,XN i hi,XN j hj]
  omega
 ·rw[Ox (n:=n) (by omega) (fun y hy=>by have:=TZ h0 (show y<aa.length by omega);rw[hn] at this;exact this) hj]
  intro r hr
  have e1:sm (fun i=>mx (kj aa) i j*mx (kj aa) r i) n=sm (fun i=>(fun x=>mx aa x (n - 1 - r)*mx aa (n - 1 - j) x) (n - 1 - i)) n:=gJ fun i hi=>by
   rw[OB (by omega) (by omega),OB (by omega) (by omega),hn,Int.mul_comm]
  rw[e1,abS (fun x=>mx aa x (n - 1 - r)*mx aa (n - 1 - j) x) n]
  exact(Ox (by omega) (fun y hy=>(hg y (by omega)).bd.mono (by omega)) (show n - 1 - r<n by omega)).1 (hg (n - 1 - r) (by omega)).cyc (n - 1 - j) (by omega)
 ·unfold MU
  by_cases hj0:0<j
  ·obtain⟨x,d,h1,d1⟩:=hR (n - 1 - j) (by omega)
   obtain⟨y,e,h2,d2⟩:=hR (n - 1 - (j - 1)) (by omega)
   have ho:=(hg (n - 1 - (j - 1)) (by omega)).ord
   unfold MU at ho
   rw[show n - 1 - (j - 1) - 1=n - 1 - j by omega,decide_eq_true (show 0<n - 1 - (j - 1) by omega),Bool.true_and,h1.val,h2.val] at ho
   simp only[decide_eq_false_iff_not] at ho
   rw[XM j hj,XM (j - 1) (by omega),h1.opp.val,h2.opp.val]
   have e3:decide (ml (-x*e) (-y*d)<0)=false:=by
    refine decide_eq_false fun g=>ho ?_
    rw[ah4] at g ⊢
    rw[Int.neg_mul,Int.neg_mul] at g
    omega
   simp only[e3,Bool.and_false]
  ·rw[decide_eq_false hj0,Bool.false_and]
theorem aj2 {p:Int}{aa:List Cl}(h0:fi p aa=0)(h20:aj0 aa)(hl:aa.length≤1000):Sz (kj aa):=by
 obtain⟨hp,_,hg⟩:=sQ h0
 have XV:=Kh aa
 refine⟨fun j=> ?_,fun j=> ?_⟩
 ·by_cases hj:j<aa.length
  ·obtain⟨x,d,h⟩:=o5.1 (hg (aa.length - 1 - j) (by omega)).at_
   have e:ki (kj aa) j=abI (ki aa (aa.length - 1 - j)):=by unfold ki;rw[xU hj];rfl
   have:=ahX h (h20 _ (by omega))
   rw[e];omega
  ·have:(kj aa).getD j ju=ju:=by simp[List.getD,List.getElem?_eq_none (show (kj aa).length≤j by omega)]
   unfold ki;rw[this];decide
 ·by_cases hj:j<aa.length
  ·rw[xU hj]
   have:=VW aa aa.length aa.length j
   simp only;omega
  ·have:(kj aa).getD j ju=ju:=by simp[List.getD,List.getElem?_eq_none (show (kj aa).length≤j by omega)]
   rw[this];simp
end Go.Proofs.YtofjebmoebhiiaaGreatDoor.Ev
namespace Go.Proofs.YtofjebmoebhiiaaGreatDoor.Ev
open Go.Abs Go.IntWalk
theorem ade {p:Int}{g:Nat→Int}:∀{n:Nat},(∀i,i<n→p ∣ g i)→p ∣ sm g n
 |0,_=>Int.dvd_zero p
 |n+1,h=>Int.dvd_add (ade fun i hi=>h i (by omega)) (h n (by omega))
theorem XO {p:Int}{g:Nat→Int}{a:Nat}:∀{n:Nat},a<n→(∀i,i<n→i≠a→p ∣ g i)→p ∣ sm g n - g a
 |0,h,_=>by omega
 |n+1,h,e=>by
  rw[sm]
  by_cases ha:a=n
  ·subst ha
   rw[Int.add_sub_cancel]
   exact ade fun i hi=>e i (by omega) (by omega)
  ·have h1:=XO (g:=g) (a:=a) (n:=n) (by omega) fun i hi hn=>e i (by omega) hn
   have h2:=e n (by omega) (by omega)
   have:sm g n+g n - g a=(sm g n - g a)+g n:=by omega
   rw[this];exact Int.dvd_add h1 h2
theorem XP {p:Int}{g h:Nat→Int}:∀{n:Nat},(∀i,i<n→p ∣ g i - h i)→p ∣ sm g n - sm h n
 |0,_=>by rw[sm,sm];exact Int.dvd_zero p
 |n+1,e=>by
  have h1:=XP (g:=g) (h:=h) (n:=n) fun i hi=>e i (by omega)
  have h2:=e n (by omega)
  have:sm g (n+1) - sm h (n+1)=(sm g n - sm h n)+(g n - h n):=by rw[sm,sm];omega
  rw[this];exact Int.dvd_add h1 h2
def OC (p:Int)(n:Nat)(R:Nat→Nat→Int)(j i:Nat):Prop:=i<n∧¬p ∣ R i j∧∀r,i<r→r<n→p ∣ R r j
def IsF (p:Int)(n:Nat)(S:Nat→Nat→Int)(i j:Nat):Prop:=j<n∧¬p ∣ S i j∧∀c,c<j→p ∣ S i c
structure Rdc (p:Int) (n:Nat) (m R:Nat→Nat→Int):Prop where
 cmb:∃v:Nat→Nat→Int,(∀j,j<n→v j j=1)∧(∀j,j<n→∀k,j<k→v k j=0)∧∀j,j<n→∀r,r<n→p ∣ R r j - sm (fun k=>v k j*m r k) n
 inj:∀i j k,j<n→k<n→OC p n R j i→OC p n R k i→j=k
def Hx (n:Nat)(m:Nat→Nat→Int)(r k:Nat):Int:=m (n - 1 - k) (n - 1 - r)
theorem ail {f:Nat→Prop}:∀{n:Nat},(∃i,i<n∧f i)→∃i,i<n∧f i∧∀r,i<r→r<n→¬f r
 |0,⟨i,h,_⟩=>by omega
 |n+1,⟨i,h,hf⟩=>by
  by_cases hn:f n
  ·exact⟨n,by omega,hn,fun r _ _=>by omega⟩
  ·have hi:i<n:=by
    rcases Nat.lt_or_ge i n with g |g
    ·exact g
    ·have:i=n:=by omega
     subst this;exact absurd hf hn
   obtain⟨k,k1,k2,k3⟩:=ail ⟨i,hi,hf⟩
   refine⟨k,by omega,k2,fun r h1 h2=> ?_⟩
   by_cases e:r=n
   ·subst e;exact hn
   ·exact k3 r h1 (by omega)
theorem aim {f:Nat→Prop}:∀{n:Nat},f n→∃i,i≤n∧f i∧∀r,r<i→¬f r:=fun {n}=>by
 induction n using Nat.strongRecOn with
 |ind n ih=>
  intro h
  by_cases g:∃r,r<n∧f r
  ·obtain⟨r,h1,h2⟩:=g
   obtain⟨i,k1,k2,k3⟩:=ih r h1 h2
   exact⟨i,by omega,k2,k3⟩
  ·exact⟨n,Nat.le_refl n,h,fun r hr hf=>g ⟨r,hr,hf⟩⟩
theorem OC.aoD {p:Int}{n:Nat}{R:Nat→Nat→Int}{j i:Nat}(hi:i<n)(h:¬p ∣ R i j):∃k,i≤k∧OC p n R j k:=by
 obtain⟨k,k1,k2,k3⟩:=ail (f:=fun r=>¬p ∣ R r j) ⟨i,hi,h⟩
 have k4:∀r,k<r→r<n→p ∣ R r j:=fun r h1 h2=>Classical.byContradiction fun g=>k3 r h1 h2 g
 refine⟨k, ?_,k1,k2,k4⟩
 rcases Nat.lt_or_ge k i with g |g
 ·exact absurd (k4 i g hi) h
 ·exact g
theorem OC.uniq {p:Int}{n:Nat}{R:Nat→Nat→Int}{j i k:Nat}(h:OC p n R j i)(g:OC p n R j k):i=k:=by
 rcases Nat.lt_trichotomy i k with e |e |e
 ·exact absurd (h.2.2 k e g.1) g.2.1
 ·exact e
 ·exact absurd (g.2.2 i e h.1) h.2.1
theorem IsF.uniq {p:Int}{n:Nat}{R:Nat→Nat→Int}{i j k:Nat}(h:IsF p n R i j)(g:IsF p n R i k):j=k:=by
 rcases Nat.lt_trichotomy j k with e |e |e
 ·exact absurd (g.2.2 j e) h.2.1
 ·exact e
 ·exact absurd (h.2.2 k e) g.2.1
theorem uN {p a b:Int}(h:p ∣ a - b):p ∣ a↔p ∣ b:=by
 constructor
 ·intro g
  have:=Int.dvd_sub g h
  rw[show a - (a - b)=b by omega] at this;exact this
 ·intro g
  have:=Int.dvd_add h g
  rw[show a - b+b=a by omega] at this;exact this
theorem Rdc.congr {p:Int}{n:Nat}{m m' R:Nat→Nat→Int}(h:Rdc p n m R)(e:∀r k,r<n→k<n→m' r k=m r k):Rdc p n m' R:=by
 obtain⟨v,h1,h2,h3⟩:=h.cmb
 refine⟨⟨v,h1,h2,fun j hj r hr=> ?_⟩,h.inj⟩
 have:=h3 j hj r hr
 rw[gJ (h:=fun k=>v k j*m r k) fun k hk=>by rw[e r k hr hk]]
 exact this
theorem aaf {p:Int}{n:Nat}{m R R':Nat→Nat→Int}(h:Rdc p n m R)(h':Rdc p n (Hx n m) R'){i j:Nat}(hj:j<n)(hl:OC p n R j i):OC p n R' (n - 1 - i) (n - 1 - j):=by
 obtain⟨v,v1,v2,v3⟩:=h.cmb
 obtain⟨w,w1,w2,w3⟩:=h'.cmb
 -- HZ rows of HZ aqI amP
 let S:Nat→Nat→Int:=fun i c=>R' (n - 1 - c) (n - 1 - i)
 let N:Nat→Nat→Int:=fun i j=>sm (fun k=>w (n - 1 - k) (n - 1 - i)*R k j) n
 have hA:∀i j,i<n→j<n→(∀r,i<r→r<n→p ∣ R r j)→p ∣ N i j - R i j:=fun i j hi hj hz=>by
  have:=XO (p:=p) (g:=fun k=>w (n - 1 - k) (n - 1 - i)*R k j) (a:=i) hi fun k hk hne=>by
   rcases Nat.lt_or_ge k i with g |g
   ·rw[w2 (n - 1 - i) (by omega) (n - 1 - k) (by omega),Int.zero_mul];exact Int.dvd_zero p
   ·exact Int.dvd_trans (hz k (by omega) hk) (Int.dvd_mul_left _ _)
  simp only[w1 (n - 1 - i) (by omega),Int.one_mul] at this
  exact this
 have hN:∀i j,i<n→j<n→p ∣ N i j - sm (fun l=>v l j*S i l) n:=fun i j hi hj=>by
  have a1:p ∣ N i j - sm (fun k=>sm (fun l=>w (n - 1 - k) (n - 1 - i)*(v l j*m k l)) n) n:=XP fun k hk=>by
   rw[JO, ←Int.mul_sub]
   exact Int.dvd_trans (v3 j hj k hk) (Int.dvd_mul_left _ _)
  have a2:sm (fun k=>sm (fun l=>w (n - 1 - k) (n - 1 - i)*(v l j*m k l)) n) n=sm (fun l=>v l j*sm (fun k=>w (n - 1 - k) (n - 1 - i)*m k l) n) n:=by
   rw[ac6 (fun k l=>w (n - 1 - k) (n - 1 - i)*(v l j*m k l)) n n]
   refine gJ fun l hl=> ?_
   rw[←JO]
   refine gJ fun k hk=> ?_
   rw[Int.mul_left_comm]
  have a3:p ∣ sm (fun l=>v l j*sm (fun k=>w (n - 1 - k) (n - 1 - i)*m k l) n) n - sm (fun l=>v l j*S i l) n:=XP fun l hl=>by
   rw[←Int.mul_sub]
   refine Int.dvd_trans ?_ (Int.dvd_mul_left _ _)
   have b1:=w3 (n - 1 - i) (by omega) (n - 1 - l) (by omega)
   have b2:sm (fun k=>w k (n - 1 - i)*Hx n m (n - 1 - l) k) n=sm (fun k=>w (n - 1 - k) (n - 1 - i)*m k l) n:=by
    rw[←abS]
    refine gJ fun k hk=> ?_
    unfold Hx
    rw[show n - 1 - (n - 1 - k)=k by omega,show n - 1 - (n - 1 - l)=l by omega]
   rw[b2] at b1
   have b3:=Int.dvd_neg.2 b1
   rw[Int.neg_sub] at b3
   exact b3
  rw[a2] at a1
  have:=Int.dvd_add a1 a3
  rw[show N i j - sm (fun l=>v l j*sm (fun k=>w (n - 1 - k) (n - 1 - i)*m k l) n) n+(sm (fun l=>v l j*sm (fun k=>w (n - 1 - k) (n - 1 - i)*m k l) n) n - sm (fun l=>v l j*S i l) n)=N i j - sm (fun l=>v l j*S i l) n by omega] at this
  exact this
 have hB:∀i j,i<n→j<n→(∀c,c<j→p ∣ S i c)→p ∣ N i j - S i j:=fun i j hi hj hz=>by
  have:=XO (p:=p) (g:=fun l=>v l j*S i l) (a:=j) hj fun l hl hne=>by
   rcases Nat.lt_or_ge l j with g |g
   ·exact Int.dvd_trans (hz l g) (Int.dvd_mul_left _ _)
   ·rw[v2 j hj l (by omega),Int.zero_mul];exact Int.dvd_zero p
  simp only[v1 j hj,Int.one_mul] at this
  have h2:=Int.dvd_add (hN i j hi hj) this
  rw[show N i j - sm (fun l=>v l j*S i l) n+(sm (fun l=>v l j*S i l) n - S i j)=N i j - S i j by omega] at h2
  exact h2
 have AL:∀j i,j<n→OC p n R j i→OC p n N j i:=fun j i hj g=>⟨g.1,fun e=>g.2.1 ((uN (hA i j g.1 hj g.2.2)).1 e),fun r h1 h2=>(uN (hA r j h2 hj fun s h3 h4=>g.2.2 s (by omega) h4)).2 (g.2.2 r h1 h2)⟩
 have AZ:∀i j,i<n→j<n→¬p ∣ N i j→∃k,i≤k∧OC p n R j k∧OC p n N j k:=fun i j hi hj g=>by
  by_cases hz:∃r,r<n∧¬p ∣ R r j
  ·obtain⟨r,h1,h2⟩:=hz
   obtain⟨k,_,h3⟩:=OC.aoD h1 h2
   have h4:=AL j k hj h3
   refine⟨k, ?_,h3,h4⟩
   rcases Nat.lt_or_ge k i with e |e
   ·exact absurd (h4.2.2 i e hi) g
   ·exact e
  ·have hz':∀r,r<n→p ∣ R r j:=fun r hr=>Classical.byContradiction fun q=>hz ⟨r,hr,q⟩
   exact absurd ((uN (hA i j hi hj fun r _ h2=>hz' r h2)).2 (hz' i hi)) g
 have BF:∀i j,i<n→IsF p n S i j→IsF p n N i j:=fun i j hi g=>⟨g.1,fun e=>g.2.1 ((uN (hB i j hi g.1 g.2.2)).1 e),fun c hc=>(uN (hB i c hi (by have:=g.1;omega) fun s h3=>g.2.2 s (by omega))).2 (g.2.2 c hc)⟩
 have BZ:∀i j,i<n→j<n→¬p ∣ N i j→∃c,c≤j∧IsF p n S i c∧IsF p n N i c:=fun i j hi hj g=>by
  by_cases hz:∃c,c≤j∧¬p ∣ S i c
  ·obtain⟨c,h1,h2⟩:=hz
   obtain⟨d,d1,d2,d3⟩:=aim (f:=fun c=>¬p ∣ S i c) h2
   have h3:IsF p n S i d:=⟨by omega,d2,fun c hc=>Classical.byContradiction fun q=>d3 c hc q⟩
   have h4:=BF i d hi h3
   exact⟨d,by omega,h3,h4⟩
  ·have hz':∀c,c≤j→p ∣ S i c:=fun c hc=>Classical.byContradiction fun q=>hz ⟨c,hc,q⟩
   exact absurd ((uN (hB i j hi hj fun c hc=>hz' c (by omega))).2 (hz' j (Nat.le_refl j))) g
 have aqJ:∀i j k,j<n→k<n→OC p n N j i→OC p n N k i→j=k:=fun i j k hj hk g1 g2=>by
  obtain⟨a,_,a2,a3⟩:=AZ i j g1.1 hj g1.2.1
  obtain⟨b,_,b2,b3⟩:=AZ i k g2.1 hk g2.2.1
  have ea:=g1.uniq a3
  have eb:=g2.uniq b3
  rw[←ea] at a2;rw[←eb] at b2
  exact h.inj i j k hj hk a2 b2
 have SF:∀i c,i<n→IsF p n S i c→OC p n R' (n - 1 - i) (n - 1 - c):=fun i c hi g=>by
  refine⟨by omega,g.2.1,fun r h1 h2=> ?_⟩
  have hc:=g.1
  have:=g.2.2 (n - 1 - r) (by omega)
  simp only[S] at this
  rw[show n - 1 - (n - 1 - r)=r by omega] at this
  exact this
 have aqK:∀j i k,i<n→k<n→IsF p n N i j→IsF p n N k j→i=k:=fun j i k hi hk g1 g2=>by
  obtain⟨a,_,a2,a3⟩:=BZ i j hi g1.1 g1.2.1
  obtain⟨b,_,b2,b3⟩:=BZ k j hk g2.1 g2.2.1
  have ea:=g1.uniq a3
  have eb:=g2.uniq b3
  rw[←ea] at a2;rw[←eb] at b2
  have:=h'.inj (n - 1 - j) (n - 1 - i) (n - 1 - k) (by omega) (by omega) (SF i j hi a2) (SF k j hk b2)
  omega
 have main:∀j,j<n→∀i,OC p n N j i→IsF p n N i j:=by
  intro j
  induction j using Nat.strongRecOn with
  |ind j ih=>
   intro hj i g
   obtain⟨c,c1,_,c3⟩:=BZ i j g.1 hj g.2.1
   by_cases e:c=j
   ·rw[e] at c3;exact c3
   ·exfalso
    obtain⟨k,k1,_,k3⟩:=AZ i c g.1 c3.1 c3.2.1
    have h3:=ih c (by omega) c3.1 k k3
    have:=aqK c i k g.1 k3.1 c3 h3
    rw[←this] at k3
    exact e (aqJ i c j c3.1 hj k3 g)
 have f1:=main j hj i (AL j i hj hl)
 obtain⟨c,_,c2,c3⟩:=BZ i j hl.1 hj f1.2.1
 have:=f1.uniq c3
 rw[←this] at c2
 exact SF i j hl.1 c2
theorem LJ {p:Int}{n:Nat}{m R R':Nat→Nat→Int}(h:Rdc p n m R)(h':Rdc p n (Hx n m) R'){i j:Nat}(hi:i<n)(hl:OC p n R' (n - 1 - i) (n - 1 - j))(hj:j<n):OC p n R j i:=by
 have h2:Rdc p n (Hx n (Hx n m)) R:=h.congr fun r k hr hk=>by
  unfold Hx
  rw[show n - 1 - (n - 1 - r)=r by omega,show n - 1 - (n - 1 - k)=k by omega]
 have:=aaf h' h2 (show n - 1 - i<n by omega) hl
 rw[show n - 1 - (n - 1 - j)=j by omega,show n - 1 - (n - 1 - i)=i by omega] at this
 exact this
end Go.Proofs.YtofjebmoebhiiaaGreatDoor.Ev
namespace Go.Proofs.YtofjebmoebhiiaaGreatDoor.Ev
open Go.Abs Go.IntWalk
def Cmb (p:Int)(aa:List Cl)(n k:Nat)(x:List Tm):Prop:=Vc p k x∧∃v:Nat→Int,v k=1∧(∀l,k<l→v l=0)∧∀r:Nat,r<n→p ∣ cf x (r:Int) - sm (fun l=>v l*mx aa r l) n
theorem Cmb.self {p:Int}{aa:List Cl}{n k:Nat}(hk:k<n)(h:Vc p k (df aa k)):Cmb p aa n k (df aa k):=by
 refine⟨h,fun l=>if l=k then 1 else 0,if_pos rfl,fun l hl=>if_neg (by omega),fun r hr=> ?_⟩
 have:sm (fun l=>(if l=k then 1 else 0)*mx aa r l) n=cf (df aa k) (r:Int):=by
  rw[PU (a:=k) hk fun i hi hne=>by rw[if_neg hne,Int.zero_mul],if_pos rfl,Int.one_mul]
 rw[this,Int.sub_self]
 exact Int.dvd_zero p
theorem Cmb.plus {p:Int}(hp:0<p){aa:List Cl}{n k m:Nat}{x y:List Tm}(c:Int)(hx:Cmb p aa n k x)(hy:Cmb p aa n m y)(hk:m<k):Cmb p aa n k (uL p x c y):=by
 obtain⟨x1,vx,x2,x3,x4⟩:=hx
 obtain⟨y1,vy,y2,y3,y4⟩:=hy
 obtain⟨h1,h2⟩:=Oq (k:=c) hp x1 (y1.mono (m:=(k:Int)) (by omega))
 refine⟨h1,fun l=>vx l+c*vy l, ?_,fun l hl=> ?_,fun r hr=> ?_⟩
 ·simp only;rw[x2,y3 k hk];simp
 ·simp only;rw[x3 l hl,y3 l (by omega)];simp
 ·rw[h2]
  have e:sm (fun l=>(vx l+c*vy l)*mx aa r l) n=sm (fun l=>vx l*mx aa r l) n+c*sm (fun l=>vy l*mx aa r l) n:=by
   rw[←JO, ←G0];exact gJ fun l hl=>by grind
  rw[e]
  obtain⟨a,ha⟩:=x4 r hr
  obtain⟨b,hb⟩:=y4 r hr
  rw[Int.emod_def]
  generalize (cf x (r:Int)+c*cf y (r:Int)) / p=q
  exact⟨a+c*b - q,by grind⟩
theorem V9 {p:Int}(hp:Pr p){aa:List Cl}{n k:Nat}{st:List (Option (List Tm))}(hst:Sto p n st)(hk:k≤n)(hc:∀i y,st.getD i none=some y→∃m,m<k∧Cmb p aa n m y):
  ∀(f:Nat) (x:List Tm) (a:Int),Cmb p aa n k x→(∀t∈x,t.1<f)→Cmb p aa n k (sR p st f x a).1∧∀t,(sR p st f x a).1.getLast?=some t→st.getD t.1.toNat none=none
 |0,x,a,hx,hf=>by
  have:x=[]:=by
   cases x with
   |nil=>rfl
   |cons t r=>
    have h1:=hf t (by simp)
    have h2:=Sr.mem hx.1.s t (by simp)
    omega
  subst this
  exact⟨hx,fun t ht=>by cases ht⟩
 |f+1,x,a,hx,hf=>by
  rw[sR]
  cases hl:x.getLast? with
  |none=>exact⟨hx,fun t ht=>by simp only at ht;rw[hl] at ht;cases ht⟩
  |some t=>
   simp only
   cases hy:st.getD t.1.toNat none with
   |none=>exact⟨hx,fun u hu=>by simp only at hu;rw[hl] at hu;cases hu;exact hy⟩
   |some y=>
    simp only
    have hpp:=hp.1
    obtain⟨hvy,u,hu,hu1⟩:=hst.ok _ y hy
    obtain⟨m,hm,hcy⟩:=hc _ y hy
    have ht0:=Sr.mem hx.1.s t (fD hl)
    have aeD:=ZT hp (hx.1.mono (m:=(n:Int)) (by omega)) hvy hl hu (by omega)
    have hft:=hf t (fD hl)
    rw[hu,Option.getD_some]
    exact V9 hp hst hk hc f _ (a+1) (hx.plus (by omega) _ hcy hm) fun s hs=>by have:=aeD s hs;omega
theorem Ki {p:Int}{st:List (Option (List Tm))}:∀(f:Nat) (x:List Tm) (a:Int),sR p st f x a=((sR p st f x 0).1,a+(sR p st f x 0).2)∧0≤(sR p st f x 0).2∧(sR p st f x 0).2≤f
 |0,x,a=>by refine⟨?_, ?_, ?_⟩<;>simp[sR]
 |f+1,x,a=>by
  rw[sR,sR]
  cases hl:x.getLast? with
  |none=>simp only[Int.add_zero];exact⟨trivial,by omega,by omega⟩
  |some t=>
   simp only
   cases hy:st.getD t.1.toNat none with
   |none=>simp only[Int.add_zero];exact⟨trivial,by omega,by omega⟩
   |some y=>
    simp only
    obtain⟨h1,h2,h3⟩:=Ki f (uL p x ((-t.2.1*iv p ((y.getLast?.getD (0,(0,()))).2.1)) % p) y) (a+1)
    obtain⟨g1,_,_⟩:=Ki f (uL p x ((-t.2.1*iv p ((y.getLast?.getD (0,(0,()))).2.1)) % p) y) (0+1)
    rw[h1,g1]
    refine⟨?_, ?_, ?_⟩
    ·simp only[Prod.mk.injEq,true_and];omega
    ·simp only;omega
    ·simp only;omega
abbrev StT:=List (Option (List Tm))×List Int×Int
def stN (s:StT)(j:Nat)(z:List Tm×Int):StT:=match z.1.getLast? with
 |some t=>(s.1.set t.1.toNat (some z.1),(s.2.1.set t.1.toNat (j:Int),z.2))
 |none=>(s.1,((if s.2.1.getD j 0= -2 then s.2.1.set j (-1) else s.2.1),z.2))
def si (p:Int)(aa:List Cl)(n:Nat):Nat→StT
 |0=>(List.replicate n none,(List.replicate n (-2),0))
 |j+1=>stN (si p aa n j) j (sR p (si p aa n j).1 n (df aa j) (si p aa n j).2.2)
def M3 (p:Int)(aa:List Cl)(n j:Nat):List Tm:=(sR p (si p aa n j).1 n (df aa j) 0).1
def adS (p:Int)(aa:List Cl)(n j:Nat):Int:=(sR p (si p aa n j).1 n (df aa j) 0).2
theorem ain {p:Int}{aa:List Cl}{n j:Nat}:si p aa n (j+1)=stN (si p aa n j) j (M3 p aa n j,(si p aa n j).2.2+adS p aa n j):=by
 rw[si,(Ki n (df aa j) (si p aa n j).2.2).1];rfl
structure SI (p:Int) (aa:List Cl) (n j:Nat) (s:StT):Prop where
 sto:Sto p n s.1
 ldt:s.2.1.length=n
 s1:∀i y,s.1.getD i none=some y→∃k,k<j∧M3 p aa n k=y∧s.2.1.getD i 0=(k:Int)
 s2:∀k,k<j→∀t,(M3 p aa n k).getLast?=some t→s.1.getD t.1.toNat none=some (M3 p aa n k)∧s.2.1.getD t.1.toNat 0=(k:Int)
 z:∀i,i<n→s.1.getD i none=none→s.2.1.getD i 0=if i<j∧M3 p aa n i=[] then -1 else -2
 c:∀k,k<j→Cmb p aa n k (M3 p aa n k)∧∀t,(M3 p aa n k).getLast?=some t→0≤t.1∧t.1<k
 w:s.2.2=sm (adS p aa n) j
theorem aag {n i:Nat}:(List.replicate n (none:Option (List Tm))).getD i none=none:=by
 simp only[List.getD,List.getElem?_replicate];split<;>rfl
theorem SI.zero {p:Int}{aa:List Cl}{n:Nat}:SI p aa n 0 (si p aa n 0):=by
 refine⟨⟨by simp[si],fun i y h=> ?_⟩,by simp[si],fun i y h=> ?_,fun k hk=>by omega,fun i hi h=> ?_,fun k hk=>by omega,rfl⟩
 ·rw[si,aag] at h;cases h
 ·rw[si,aag] at h;cases h
 ·rw[if_neg (by omega)];simp[si,List.getD,hi]
theorem SI.step {p:Int}(hp:Pr p){aa:List Cl}{n j:Nat}(hj:j<n)(hv:Vc p j (df aa j))(h:SI p aa n j (si p aa n j)):SI p aa n (j+1) (si p aa n (j+1)):=by
 have hz:=V9 hp (aa:=aa) (k:=j) h.sto (by omega) (fun i y e=>by
  obtain⟨k,k1,k2,_⟩:=h.s1 i y e
  exact⟨k,k1,k2 ▸ (h.c k k1).1⟩) n (df aa j) 0 (Cmb.self hj hv) (fun t ht=>by have:=hv.r t ht;omega)
 change Cmb p aa n j (M3 p aa n j)∧_ at hz
 obtain⟨z1,z2⟩:=hz
 change ∀t,(M3 p aa n j).getLast?=some t→_ at z2
 have hc:∀k,k<j+1→Cmb p aa n k (M3 p aa n k)∧∀t,(M3 p aa n k).getLast?=some t→0≤t.1∧t.1<k:=fun k hk=>by
  by_cases e:k=j
  ·subst e
   exact⟨z1,fun t ht=>⟨by have:=Sr.mem z1.1.s t (fD ht);omega,(z1.1.r t (fD ht)).1⟩⟩
  ·exact h.c k (by omega)
 have hw:(si p aa n j).2.2+adS p aa n j=sm (adS p aa n) (j+1):=by rw[sm,h.w]
 rw[ain]
 cases hl:(M3 p aa n j).getLast? with
 |some t=>
  have hn:=z2 t hl
  have ht:=(hc j (by omega)).2 t hl
  have e1:stN (si p aa n j) j (M3 p aa n j,(si p aa n j).2.2+adS p aa n j)=((si p aa n j).1.set t.1.toNat (some (M3 p aa n j)),((si p aa n j).2.1.set t.1.toNat (j:Int),(si p aa n j).2.2+adS p aa n j)):=by unfold stN;simp only[hl]
  rw[e1]
  have ls:=h.sto.len
  have ld:=h.ldt
  refine⟨⟨by simp[ls],fun i y hy=> ?_⟩,by simp[ld],fun i y hy=> ?_,fun k hk u hu=> ?_,fun i hi hy=> ?_,hc,hw⟩
  ·simp only[XB] at hy
   split at hy
   ·rename_i g
    obtain rfl:M3 p aa n j=y:=by simpa using hy
    exact⟨z1.1.mono (by omega),t,hl,by omega⟩
   ·exact h.sto.ok i y hy
  ·simp only[XB] at hy
   split at hy
   ·rename_i g
    obtain rfl:M3 p aa n j=y:=by simpa using hy
    refine⟨j,by omega,rfl, ?_⟩
    simp only[gH]
    rw[if_pos ⟨g.1,by omega⟩]
   ·rename_i g
    obtain⟨k,k1,k2,k3⟩:=h.s1 i y hy
    refine⟨k,by omega,k2, ?_⟩
    simp only[gH]
    rw[if_neg (by rw[ld, ←ls];exact g),k3]
  ·by_cases e:k=j
   ·subst e
    rw[hl] at hu
    obtain rfl:t=u:=by simpa using hu
    simp only[XB,gH]
    rw[if_pos ⟨trivial,by omega⟩,if_pos ⟨trivial,by omega⟩]
    exact⟨rfl,rfl⟩
   ·obtain⟨g1,g2⟩:=h.s2 k (by omega) u hu
    have hne:t.1.toNat≠u.1.toNat:=fun e=>by rw[←e,hn] at g1;cases g1
    simp only[XB,gH]
    rw[if_neg fun q=>hne q.1,if_neg fun q=>hne q.1]
    exact⟨g1,g2⟩
  ·simp only[XB] at hy
   split at hy
   ·cases hy
   ·rename_i g
    simp only[gH]
    rw[if_neg (by rw[ld, ←ls];exact g),h.z i hi hy]
    have:(i<j+1∧M3 p aa n i=[])↔(i<j∧M3 p aa n i=[]):=by
     constructor
     ·rintro ⟨q1,q2⟩
      refine⟨?_,q2⟩
      by_cases e:i=j
      ·subst e;rw[q2] at hl;cases hl
      ·omega
     ·rintro ⟨q1,q2⟩;exact⟨by omega,q2⟩
    simp only[this]
 |none=>
  have hx:M3 p aa n j=[]:=List.getLast?_eq_none_iff.1 hl
  have e1:stN (si p aa n j) j (M3 p aa n j,(si p aa n j).2.2+adS p aa n j)=((si p aa n j).1,((if (si p aa n j).2.1.getD j 0= -2 then (si p aa n j).2.1.set j (-1) else (si p aa n j).2.1),(si p aa n j).2.2+adS p aa n j)):=by unfold stN;simp only[hl]
  rw[e1]
  have ld:=h.ldt
  have hd:∀i,i<n→(if (si p aa n j).2.1.getD j 0= -2 then (si p aa n j).2.1.set j (-1) else (si p aa n j).2.1).getD i 0=if i=j∧(si p aa n j).1.getD i none=none then -1 else (si p aa n j).2.1.getD i 0:=fun i hi=>by
   by_cases e:i=j
   ·subst e
    cases hy:(si p aa n i).1.getD i none with
    |none=>
     have:=h.z i hi hy
     rw[if_neg (by omega)] at this
     rw[if_pos this,gH,if_pos ⟨rfl,by omega⟩,if_pos ⟨rfl,rfl⟩]
    |some y=>
     obtain⟨k,_,_,k3⟩:=h.s1 i y hy
     rw[if_neg (by omega),if_neg (by simp)]
   ·have hne:¬(i=j∧(si p aa n j).1.getD i none=none):=fun q=>e q.1
    rw[if_neg hne]
    split
    ·rw[gH,if_neg (fun q=>e q.1.symm)]
    ·rfl
  refine⟨h.sto,by simp only;split<;>simp[ld],fun i y hy=> ?_,fun k hk u hu=> ?_,fun i hi hy=> ?_,hc,hw⟩
  ·obtain⟨k,k1,k2,k3⟩:=h.s1 i y hy
   refine⟨k,by omega,k2, ?_⟩
   have hi:i<n:=by
    rcases Nat.lt_or_ge i n with g |g
    ·exact g
    ·have:(si p aa n j).1.getD i none=none:=by simp[List.getD,List.getElem?_eq_none (show (si p aa n j).1.length≤i by rw[h.sto.len];exact g)]
     rw[this] at hy;cases hy
   have:=hd i hi
   simp only at this ⊢
   rw[this,if_neg (fun q=>by rw[q.2] at hy;cases hy),k3]
  ·by_cases e:k=j
   ·subst e;rw[hl] at hu;cases hu
   ·obtain⟨g1,g2⟩:=h.s2 k (by omega) u hu
    have hu2:=(h.c k (by omega)).2 u hu
    have:=hd u.1.toNat (by omega)
    refine⟨g1, ?_⟩
    simp only at this ⊢
    rw[this,if_neg (fun q=>by rw[q.2] at g1;cases g1),g2]
  ·have:=hd i hi
   simp only at this ⊢
   rw[this]
   by_cases e:i=j
   ·subst e
    rw[if_pos ⟨rfl,hy⟩,if_pos ⟨by omega,hx⟩]
   ·rw[if_neg (fun q=>e q.1),h.z i hi hy]
    have:(i<j+1∧M3 p aa n i=[])↔(i<j∧M3 p aa n i=[]):=⟨fun q=>⟨by omega,q.2⟩,fun q=>⟨by omega,q.2⟩⟩
    simp only[this]
theorem PW {p:Int}(hp:Pr p){aa:List Cl}{n:Nat}(hv:∀j,j<n→Vc p j (df aa j)):∀j,j≤n→SI p aa n j (si p aa n j)
 |0,_=>SI.zero
 |j+1,h=>SI.step hp (by omega) (hv j (by omega)) (PW hp hv j (by omega))
theorem Wa {p:Int}{aa:List Cl}{n j:Nat}:0≤adS p aa n j∧adS p aa n j≤n:=(Ki n (df aa j) 0).2
theorem aah {g:Nat→Int}{b:Int}(hb:∀i,0≤g i∧g i≤b):∀n:Nat,0≤sm g n∧sm g n≤n*b
 |0=>by simp[sm]
 |n+1=>by
  have h1:=aah hb n
  have h2:=hb n
  have:((n+1:Nat):Int)*b=n*b+b:=by grind
  rw[sm];omega
theorem T0 {p:Int}{n:Nat}{x:List Tm}(hx:Vc p n x){t:Tm}(ht:x.getLast?=some t){j:Nat}:OC p n (fun r _=>cf x (r:Int)) j t.1.toNat:=by
 have h1:=hx.r t (fD ht)
 have h2:=Sr.mem hx.s t (fD ht)
 have h3:=JD hx.s t (fD ht)
 refine⟨by omega, ?_,fun r hr _=> ?_⟩
 ·simp only
  rw[Int.toNat_of_nonneg (by omega),h3]
  intro e
  have:=Int.le_of_dvd (by omega) e
  omega
 ·simp only
  rw[XA hx.s ht (by omega)];exact Int.dvd_zero p
theorem aio {p:Int}{n:Nat}{x:List Tm}(hx:Vc p n x){i j:Nat}(h:OC p n (fun r _=>cf x (r:Int)) j i):∃t,x.getLast?=some t∧t.1=i:=by
 cases hl:x.getLast? with
 |none=>
  have:x=[]:=List.getLast?_eq_none_iff.1 hl
  subst this
  exact absurd (Int.dvd_zero p) h.2.1
 |some t=>
  have:=(T0 hx hl (j:=j)).uniq h
  have h2:=Sr.mem hx.s t (fD hl)
  exact⟨t,rfl,by omega⟩
def RS (p:Int)(aa:List Cl)(n:Nat)(r k:Nat):Int:=cf (M3 p aa n k) (r:Int)
theorem OD {p:Int}{aa:List Cl}{n k i:Nat}(hx:Vc p n (M3 p aa n k)):OC p n (RS p aa n) k i↔∃t,(M3 p aa n k).getLast?=some t∧t.1=i:=by
 constructor
 ·exact fun h=>aio (j:=k) hx h
 ·rintro ⟨t,ht,e⟩
  have:=T0 hx ht (j:=k)
  rw[e,Int.toNat_natCast] at this
  exact this
theorem aip {p:Int}{aa:List Cl}{n:Nat}(h:SI p aa n n (si p aa n n)):Rdc p n (mx aa) (RS p aa n):=by
 have hv:∀k,k<n→Vc p n (M3 p aa n k):=fun k hk=>(h.c k hk).1.1.mono (by omega)
 refine⟨?_,fun i j k hj hk h1 h2=> ?_⟩
 ·have:∀k,∃v:Nat→Int,k<n→v k=1∧(∀l,k<l→v l=0)∧∀r:Nat,r<n→p ∣ cf (M3 p aa n k) (r:Int) - sm (fun l=>v l*mx aa r l) n:=fun k=>by
   by_cases hk:k<n
   ·obtain⟨v,h1⟩:=(h.c k hk).1.2
    exact⟨v,fun _=>h1⟩
   ·exact⟨fun _=>0,fun h=>absurd h hk⟩
  obtain⟨V,hV⟩:=Classical.axiomOfChoice this
  exact⟨fun l j=>V j l,fun j hj=>(hV j hj).1,fun j hj k hk=>(hV j hj).2.1 k hk,fun j hj r hr=>(hV j hj).2.2 r hr⟩
 ·obtain⟨t,t1,t2⟩:=(OD (hv j hj)).1 h1
  obtain⟨u,u1,u2⟩:=(OD (hv k hk)).1 h2
  have a:=(h.s2 j hj t t1).2
  have b:=(h.s2 k hk u u1).2
  rw[t2] at a;rw[u2] at b
  omega
structure Prd (p:Int) (n:Nat) (R:Nat→Nat→Int) (dt:List Int):Prop where
 hi:∀i,i<n→∀k,k<n→OC p n R k i→dt.getD i 0=(k:Int)
 lo:∀i,i<n→0≤dt.getD i 0→∃k,k<n∧dt.getD i 0=(k:Int)∧OC p n R k i
 no:∀i,i<n→dt.getD i 0<0→ -2≤dt.getD i 0∧(dt.getD i 0= -1↔∀r,¬OC p n R i r)
theorem aiq {p:Int}{aa:List Cl}{n:Nat}(h:SI p aa n n (si p aa n n)):Prd p n (RS p aa n) (si p aa n n).2.1:=by
 have hv:∀k,k<n→Vc p n (M3 p aa n k):=fun k hk=>(h.c k hk).1.1.mono (by omega)
 refine⟨fun i hi k hk hl=> ?_,fun i hi h0=> ?_,fun i hi h0=> ?_⟩
 ·obtain⟨t,t1,t2⟩:=(OD (hv k hk)).1 hl
  have:=(h.s2 k hk t t1).2
  rw[t2,Int.toNat_natCast] at this
  exact this
 ·cases hy:(si p aa n n).1.getD i none with
  |none=>have:=h.z i hi hy;split at this<;>omega
  |some y=>
   obtain⟨k,k1,k2,k3⟩:=h.s1 i y hy
   obtain⟨_,u,u1,u2⟩:=h.sto.ok i y hy
   exact⟨k,k1,k3,(OD (hv k k1)).2 ⟨u,by rw[k2];exact u1,u2⟩⟩
 ·cases hy:(si p aa n n).1.getD i none with
  |none=>
   have hz:=h.z i hi hy
   have hq:M3 p aa n i=[]↔∀r,¬OC p n (RS p aa n) i r:=by
    constructor
    ·intro e r hl
     obtain⟨t,t1,_⟩:=(OD (hv i hi)).1 hl
     rw[e] at t1;cases t1
    ·intro g
     cases hl:(M3 p aa n i).getLast? with
     |none=>exact List.getLast?_eq_none_iff.1 hl
     |some t=>exact absurd (T0 (hv i hi) hl (j:=i)) (g _)
   rw[hz, ←hq]
   by_cases e:M3 p aa n i=[]
   ·rw[if_pos ⟨hi,e⟩];exact⟨by omega,fun _=>e,fun _=>rfl⟩
   ·rw[if_neg (fun q=>e q.2)];exact⟨by omega,fun q=>by omega,fun q=>absurd q e⟩
  |some y=>
   obtain⟨k,_,_,k3⟩:=h.s1 i y hy
   omega
theorem afn {j out:Nat}{s:StT}{z:List Tm×Int}{e:Bool}{p w2:Int}{aa:List Cl}{c5:Hp3}{rest:List (Int×Unit)}:
  VR j z.1 out s.1 s.2.1 e p aa z.2 w2 c5 rest=ak out out (stN s j z).1 (stN s j z).2.1 e p aa (stN s j z).2.2 w2 c5 rest:=by
 unfold VR stN
 cases z.1.getLast? with
 |some t=>rfl
 |none=>simp only;split<;>rfl
theorem Wb {p:Int}(hp:Pr p){n:Nat}(hn:n≤1024){aa:List Cl}(hc:aa.length=n)(hv:∀j,j<n→Vc p j (df aa j)){w2:Int}{c5:Hp3}:∀(m j:Nat),m+j=n→
  ak 0 0 (si p aa n j).1 (si p aa n j).2.1 false p aa (si p aa n j).2.2 w2 c5 (rg j m)=bk 0 (n:Int) 0 (si p aa n n).2.1 (si p aa n n).2.2 w2 c5
 |0,j,h=>by
  have:j=n:=by omega
  subst this
  have hl:=(PW hp hv j (Nat.le_refl j)).ldt
  rw[rg,kR,hU,hl]
 |m+1,j,h=>by
  have hI:=PW hp hv j (by omega)
  have hr:=aah (g:=adS p aa n) (b:=1024) (fun i=>⟨Wa.1,by have:=(Wa (p:=p) (aa:=aa) (n:=n) (j:=i)).2;omega⟩) j
  rw[rg,al7 hp hn hc hI.sto hI.ldt (by omega) ((hv j (by omega)).mono (by omega)) (by rw[hI.w];exact hr.1) (by rw[hI.w];omega),afn]
  exact Wb hp hn hc hv m (j+1) (by omega)
theorem Wc {p:Int}{aa:List Cl}(hs:Sz aa)(h0:fi p aa=0):
  fJ (p,(aa,()))=some (QP (si p aa aa.length aa.length).2.1 0 aa.length,((sm (adS p aa aa.length) aa.length,((0:Int),())),(0:Int))):=by
 have key:∀{hp:Hp3} {n:Nat} {l:List Tm} {w:Int×Int×Unit} {e:Int},lV (p,(aa,())) []=some ((n,(w,e)),hp)→ag hp n=some l→fJ (p,(aa,()))=some (l,((w.1,(w.2.1,())),e)):=by
  intro hp n l w e h1 h2
  rw[Dl,xD]
  simp only
  rw[h1,bS]
  simp only
  rw[abE (hp:=hp) rfl h2]
  rfl
 obtain⟨hp,hl,hg⟩:=sQ h0
 have hv:∀j,j<aa.length→Vc p j (df aa j):=fun j hj=>(hg j hj).bd
 have hI:=PW hp hv aa.length (Nat.le_refl _)
 have e0:((0:Nat):Int)=0:=rfl
 have d1:=hI.ldt
 have d2:=Wb hp hl rfl hv (w2:=0) (c5:=[]) aa.length 0 (by omega)
 obtain⟨out',hp',g1,g2⟩:=aeW (dt:=(si p aa aa.length aa.length).2.1) (by omega) (w:=(si p aa aa.length aa.length).2.2) (w2:=0) (si p aa aa.length aa.length).2.1.length 0 0 [] [] (by omega) rfl (by simp)
 rw[e0,d1] at g1
 rw[List.nil_append,d1] at g2
 have hf:=al8 (st:=List.replicate aa.length none) (p:=p) hl rfl (c5:=[]) aa.length 0 (by omega)
 rw[e0,List.replicate_zero,List.nil_append] at hf
 have d3:ak 0 0 (List.replicate aa.length none) (List.replicate aa.length (-2)) false p aa 0 0 [] (rg 0 aa.length)=bk 0 (aa.length:Int) 0 (si p aa aa.length aa.length).2.1 (si p aa aa.length aa.length).2.2 0 []:=d2
 have hrun:gf (p,(aa,())) []=some ((out',((si p aa aa.length aa.length).2.2,((0:Int),()))),hp'):=by
  rw[vf,o7]
  simp only
  rw[LB (by omega) (by omega) (by omega),LB (by omega) (by omega) (by omega),Int.toNat_natCast,List.length_replicate,hf,d3,g1]
 have hw:lV (p,(aa,())) []=some ((out',(((si p aa aa.length aa.length).2.2,((0:Int),())),(0:Int))),hp'):=by
  rw[EZ,zD]
  simp only
  rw[JF hs,bS,h0,mi rfl,hrun,bS]
 rw[key hw g2,hI.w]
end Go.Proofs.YtofjebmoebhiiaaGreatDoor.Ev
namespace Go.Proofs.YtofjebmoebhiiaaGreatDoor.Ev
open Go.Abs Go.IntWalk
def Dn (aa:List Cl)(d:Int)(j i:Nat):Prop:=d<(aa.getD i ju).1∨((aa.getD i ju).1=d∧i<j)
structure Kv (aa:List Cl) (n:Nat) (d:Int) (j:Nat) (dt:List Int):Prop where
 ex:∃s:Nat→Bool,(∀i,i<n→dt.getD i 0= -1→Dn aa d j i∧s i=false)∧(∀i k:Nat,i<n→dt.getD i 0=(k:Int)→k<n∧Dn aa d j k∧s k=true)
 inj:∀i i' k:Nat,i<n→i'<n→dt.getD i 0=(k:Int)→dt.getD i' 0=(k:Int)→i=i'
 lo:∀i,i<n→ -2≤dt.getD i 0
theorem Kv.skip {aa:List Cl}{n:Nat}{d:Int}{j:Nat}{dt:List Int}(h:Kv aa n d j dt):Kv aa n d (j+1) dt:=by
 have up:∀i,Dn aa d j i→Dn aa d (j+1) i:=fun i hi=>hi.imp id fun⟨a,b⟩=>⟨a,by omega⟩
 obtain⟨s,h1,h2⟩:=h.ex
 exact⟨⟨s,fun i hi e=>⟨up i (h1 i hi e).1,(h1 i hi e).2⟩,fun i k hi e=>⟨(h2 i k hi e).1,up k (h2 i k hi e).2.1,(h2 i k hi e).2.2⟩⟩,h.inj,h.lo⟩
theorem Kv.down {aa:List Cl}{n:Nat}{d:Int}{j:Nat}{dt:List Int}(h:Kv aa n d j dt):Kv aa n (d - 1) 0 dt:=by
 have up:∀i,Dn aa d j i→Dn aa (d - 1) 0 i:=fun i hi=> .inl (by rcases hi with hi | ⟨hi,_⟩<;>omega)
 obtain⟨s,h1,h2⟩:=h.ex
 exact⟨⟨s,fun i hi e=>⟨up i (h1 i hi e).1,(h1 i hi e).2⟩,fun i k hi e=>⟨(h2 i k hi e).1,up k (h2 i k hi e).2.1,(h2 i k hi e).2.2⟩⟩,h.inj,h.lo⟩
theorem Dn.self {aa:List Cl}{d:Int}{j:Nat}(hd:(aa.getD j ju).1=d):¬Dn aa d j j:=by
 rintro (h | ⟨_,h⟩)<;>omega
end Go.Proofs.YtofjebmoebhiiaaGreatDoor.Ev
namespace Go.Proofs.YtofjebmoebhiiaaGreatDoor.Ev
open Go.Abs Go.IntWalk
def flp (n:Nat)(t:Tm):Tm:=if t.2.1<0 then ((n:Int) - 1 - t.1,(-1,())) else ((n:Int) - 1 - t.2.1,((n:Int) - 1 - t.1,()))
theorem D2 {dt:List Int}{t:Tm}:∀{m i:Nat},t∈QP dt i m↔∃k,i≤k∧k<i+m∧t=((k:Int),(dt.getD k 0,()))∧dt.getD k 0> -2
 |0,i=>by simp only[QP,List.not_mem_nil,false_iff];rintro ⟨k,h1,h2,_⟩;omega
 |m+1,i=>by
  rw[QP]
  have ih:=D2 (dt:=dt) (t:=t) (m:=m) (i:=i+1)
  split
  ·rename_i h
   rw[List.mem_cons,ih]
   constructor
   ·rintro (rfl | ⟨k,h1,h2,h3⟩)
    ·exact⟨i,by omega,by omega,rfl,h⟩
    ·exact⟨k,by omega,by omega,h3⟩
   ·rintro ⟨k,h1,h2,h3,h4⟩
    by_cases e:k=i
    ·subst e;exact .inl h3
    ·exact .inr ⟨k,by omega,by omega,h3,h4⟩
  ·rename_i h
   rw[ih]
   constructor
   ·rintro ⟨k,h1,h2,h3⟩;exact⟨k,by omega,by omega,h3⟩
   ·rintro ⟨k,h1,h2,h3,h4⟩
    by_cases e:k=i
    ·subst e;exact absurd h4 h
    ·exact⟨k,by omega,by omega,h3,h4⟩
theorem abV {dt:List Int}:∀{m i:Nat},Up (QP dt i m)
 |0,i=>List.Pairwise.nil
 |m+1,i=>by
  rw[QP]
  split
  ·refine List.pairwise_cons.2 ⟨fun t ht=> ?_,abV⟩
   obtain⟨k,h1,h2,rfl,_⟩:=D2.1 ht
   show (i:Int)<k
   omega
  ·exact abV
end Go.Proofs.YtofjebmoebhiiaaGreatDoor.Ev
namespace Go.Proofs.YtofjebmoebhiiaaGreatDoor.Ev
open Go.Abs Go.IntWalk
theorem adg {p:Int}{n:Nat}{m R R':Nat→Nat→Int}{dt dt':List Int}(h:Rdc p n m R)(h':Rdc p n (Hx n m) R')(g:Prd p n R dt)(g':Prd p n R' dt'){t:Tm}(ht:t∈QP dt 0 n):flp n t∈QP dt' 0 n:=by
 obtain⟨i,_,hi,rfl,h1⟩:=D2.1 ht
 have hi:i<n:=by omega
 unfold flp
 simp only
 by_cases h0:dt.getD i 0<0
 ·rw[if_pos h0]
  have hm:dt.getD i 0= -1:=by omega
  have hno:=(g.no i hi h0).2.1 hm
  have aeD:∀k,k<n→¬OC p n R k i:=fun k hk hl=>by have:=g.hi i hi k hk hl;omega
  have e:dt'.getD (n - 1 - i) 0= -1:=by
   have hneg:dt'.getD (n - 1 - i) 0<0:=by
    rcases Int.lt_or_le (dt'.getD (n - 1 - i) 0) 0 with q |q
    ·exact q
    ·obtain⟨k,k1,_,k3⟩:=g'.lo (n - 1 - i) (by omega) q
     have:OC p n R i (n - 1 - k):=LJ h h' (i:=n - 1 - k) (j:=i) (by omega) (by rw[show n - 1 - (n - 1 - k)=k by omega];exact k3) hi
     exact absurd this (hno _)
   refine(g'.no (n - 1 - i) (by omega) hneg).2.2 fun r hr=> ?_
   have OE:=hr.1
   exact aeD (n - 1 - r) (by omega) (LJ h h' (i:=i) (j:=n - 1 - r) hi (by rw[show n - 1 - (n - 1 - r)=r by omega];exact hr) (by omega))
  refine D2.2 ⟨n - 1 - i,by omega,by omega, ?_,by omega⟩
  rw[e,show ((n - 1 - i:Nat):Int)=(n:Int) - 1 - i by omega]
 ·rw[if_neg h0]
  obtain⟨k,k1,k2,k3⟩:=g.lo i hi (by omega)
  have:=g'.hi (n - 1 - k) (by omega) (n - 1 - i) (by omega) (aaf h h' k1 k3)
  refine D2.2 ⟨n - 1 - k,by omega,by omega, ?_,by rw[this];omega⟩
  rw[this,k2,show ((n - 1 - k:Nat):Int)=(n:Int) - 1 - k by omega,show ((n - 1 - i:Nat):Int)=(n:Int) - 1 - i by omega]
theorem adh {f:Tm→Tm}:∀{l m:List Tm},(l.Pairwise fun a b=>a≠b)→(∀x∈l,f x∈m)→(∀x∈l,∀y∈l,f x=f y→x=y)→l.length≤m.length
 | [],m,_,_,_=>Nat.zero_le _
 |x::l,m,hd,hm,hi=>by
  have h1:=hm x List.mem_cons_self
  have XR:=List.pairwise_cons.1 hd
  have ih:=adh (f:=f) (l:=l) (m:=m.erase (f x)) XR.2 (fun y hy=>(List.mem_erase_of_ne fun e=>XR.1 y hy (hi y (List.mem_cons_of_mem _ hy) x List.mem_cons_self e).symm).2 (hm y (List.mem_cons_of_mem _ hy))) fun y hy z hz e=>hi y (List.mem_cons_of_mem _ hy) z (List.mem_cons_of_mem _ hz) e
  rw[List.length_erase_of_mem h1] at ih
  have:0<m.length:=List.length_pos_of_mem h1
  rw[List.length_cons];omega
theorem adi {dt dt':List Int}{n:Nat}(h:∀t∈QP dt 0 n,flp n t∈QP dt' 0 n):(QP dt 0 n).length≤(QP dt' 0 n).length:=by
 refine adh (f:=flp n) ((abV (dt:=dt) (m:=n) (i:=0)).imp fun hab e=>by rw[e] at hab;omega) h fun x hx y hy e=> ?_
 obtain⟨i,_,hi,rfl,h1⟩:=D2.1 hx
 obtain⟨k,_,hk,rfl,h2⟩:=D2.1 hy
 unfold flp at e
 simp only at e
 split at e<;>split at e<;>simp only[Prod.mk.injEq,and_true] at e ⊢ <;>omega
theorem D3 {N q q2:Int}{m t:List Tm}{t2 t3:Int}(hm:m.length≤1000000):∀(k i:Nat) (found:Bool),k+i=m.length→(found=true∨(q,(q2,()))∈m.drop i)→
  cE N m found t t2 t3 m (m.length:Int) i q q2=bG N m t t2 (IntKind.wrap .i64 (t3+1))
 |0,i,found,h,hf=>by
  have:found=true:=by
   rcases hf with h1 |h1
   ·exact h1
   ·rw[List.drop_eq_nil_of_le (by omega)] at h1;cases h1
  subst this
  rw[ny,i6,ao (by omega),Bool.not_true,cF]
 |k+1,i,found,h,hf=>by
  rw[ny,i6,au (by omega),gG A8 (by omega),b5 (by omega)]
  cases found with
  |true=>
   rw[cT]
   exact D3 hm k (i+1) true (by omega) (.inl rfl)
  |false=>
   rw[cF]
   refine D3 hm k (i+1) _ (by omega) ?_
   rcases hf with h1 |h1
   ·cases h1
   ·have hi:i<m.length:=by omega
    rw[List.drop_eq_getElem_cons hi] at h1
    have e:m.getD i A8=m[i]:=by simp[List.getD,hi]
    rcases List.mem_cons.1 h1 with h2 |h2
    ·left
     rw[e, ←h2]
     show (q==q&&(q2==q2&&true))=true
     simp
    ·exact .inr h2
theorem JP {n:Nat}(hn:n≤1000000){l m:List Tm}(hl:l.length≤1000000)(hm:m.length≤1000000)(hr:∀t∈l,0≤t.1∧t.1<n∧ -1≤t.2.1∧t.2.1<n)(h:∀t∈l,flp n t∈m):∀(k i:Nat),k+i=l.length→bG n m l (l.length:Int) i=some true
 |0,i,hk=>by rw[nx,iZ,ao (by omega)]
 |k+1,i,hk=>by
  have hi:i<l.length:=by omega
  have hmem:l.getD i A8∈l:=aw hi
  have h1:=hr _ hmem
  have h2:=h _ hmem
  rw[nx,iZ,au (by omega),gG A8 hi]
  simp only
  generalize l.getD i A8=v at*
  have w1:IntKind.wrap .i64 (IntKind.wrap .i64 ((n:Int) - 1) - v.1)=(n:Int) - 1 - v.1:=by rw[i64_in ((n:Int) - 1) (by omega),i64_in _ (by omega)]
  have w2:IntKind.wrap .i64 (IntKind.wrap .i64 ((n:Int) - 1) - v.2.1)=(n:Int) - 1 - v.2.1:=by rw[i64_in ((n:Int) - 1) (by omega),i64_in _ (by omega)]
  have e0:((0:Nat):Int)=0:=rfl
  unfold flp at h2
  by_cases h0:v.2.1<0
  ·rw[if_pos h0] at h2
   rw[au h0,w1]
   have:=D3 (N:=n) (t:=l) (t2:=l.length) (t3:=i) hm m.length 0 false (by omega) (.inr h2)
   rw[e0] at this
   rw[this,b5 (by omega)]
   exact JP hn hl hm hr h k (i+1) (by omega)
  ·rw[if_neg h0] at h2
   rw[ao (by omega),w1,w2]
   have:=D3 (N:=n) (t:=l) (t2:=l.length) (t3:=i) hm m.length 0 false (by omega) (.inr h2)
   rw[e0] at this
   rw[this,b5 (by omega)]
   exact JP hn hl hm hr h k (i+1) (by omega)
theorem air {p:Int}{aa:List Cl}(h0:fi p aa=0)(h20:aj0 aa):Rdc p aa.length (Hx aa.length (mx aa)) (RS p (kj aa) aa.length)∧Prd p aa.length (RS p (kj aa) aa.length) (si p (kj aa) aa.length aa.length).2.1:=by
 obtain⟨hp,hl,hg⟩:=sQ (aae h0 h20)
 have XV:=Kh aa
 rw[XV] at hg
 have hI:=PW hp (n:=aa.length) (fun j hj=>(hg j hj).bd) aa.length (Nat.le_refl _)
 exact⟨(aip hI).congr fun r k hr hk=>by rw[OB hr hk];rfl,aiq hI⟩
theorem aj4 {p:Int}{aa:List Cl}(h0:fi p aa=0):Rdc p aa.length (mx aa) (RS p aa aa.length)∧Prd p aa.length (RS p aa aa.length) (si p aa aa.length aa.length).2.1:=by
 obtain⟨hp,hl,hg⟩:=sQ h0
 have hI:=PW hp (n:=aa.length) (fun j hj=>(hg j hj).bd) aa.length (Nat.le_refl _)
 exact⟨aip hI,aiq hI⟩
theorem Prd.range {p:Int}{n:Nat}{R:Nat→Nat→Int}{dt:List Int}(h:Prd p n R dt){t:Tm}(ht:t∈QP dt 0 n):0≤t.1∧t.1<n∧ -1≤t.2.1∧t.2.1<n:=by
 obtain⟨i,_,hi,rfl,h1⟩:=D2.1 ht
 refine⟨by simp only;omega,by simp only;omega,by simp only;omega, ?_⟩
 simp only
 by_cases h0:0≤dt.getD i 0
 ·obtain⟨k,k1,k2,_⟩:=h.lo i (by omega) h0;omega
 ·omega
theorem amr {l:FY}(hl:l.length≤1000000000000000000)(hs:∀s∈l,s.length≤1000000000000000000){values turns:List Int}(hv:values.length≤1000000000000000000)(ht:turns.length≤1000000000000000000)(field:Int):
  mI (l,(values,(field,(turns,()))))=some true:=by
 obtain⟨r,r1,r2⟩:=afl hl hs hv ht field (most:=24) (by omega)
 obtain⟨p,aa,u⟩:=r
 have h0:fi p aa=0:=r2.2.2
 have h20:aj0 aa:=fun j hj=>(r2.2.1 _ (aw (d:=ju) hj)).1.2
 have hz:Sz aa:=r2.sz (by omega)
 have hlen:aa.length≤24:=r2.1
 have d0:=aae h0 h20
 have dz:=aj2 h0 h20 (by omega)
 have e24:((24:Nat):Int)=24:=rfl
 have e0:((0:Nat):Int)=0:=rfl
 have XV:=Kh aa
 rw[e24] at r1
 have s1:=Wc hz h0
 have s2:=Wc dz d0
 rw[XV] at s2
 obtain⟨a1,a2⟩:=aj4 h0
 obtain⟨b1,b2⟩:=air h0 h20
 have c1:Rdc p aa.length (Hx aa.length (Hx aa.length (mx aa))) (RS p aa aa.length):=a1.congr fun r k hr hk=>by
  unfold Hx
  rw[show aa.length - 1 - (aa.length - 1 - r)=r by omega,show aa.length - 1 - (aa.length - 1 - k)=k by omega]
 have f1:∀t∈QP (si p aa aa.length aa.length).2.1 0 aa.length,flp aa.length t∈QP (si p (kj aa) aa.length aa.length).2.1 0 aa.length:=fun t ht=>adg a1 b1 a2 b2 ht
 have f2:∀t∈QP (si p (kj aa) aa.length aa.length).2.1 0 aa.length,flp aa.length t∈QP (si p aa aa.length aa.length).2.1 0 aa.length:=fun t ht=>adg b1 c1 b2 a2 ht
 have g1:=adi f1
 have g2:=adi f2
 have hL:=TK (si p aa aa.length aa.length).2.1 aa.length 0
 rw[BU,ry,ahT,bS,Bool.not_true,cF]
 simp only
 rw[r1,bS]
 simp only
 rw[UB hz,if_pos h0,bS]
 simp only
 rw[s1,bS,s2,bS]
 simp only
 rw[mi rfl,mi rfl,mi rfl,mi (by omega)]
 have:=JP (n:=aa.length) (by omega) (by omega) (by omega) (fun t ht=>a2.range ht) f1 (QP (si p aa aa.length aa.length).2.1 0 aa.length).length 0 (by omega)
 rw[e0] at this
 exact this
theorem aj5 (r:abH.den)(hr:Bnd abH r):mI r=some true:=by
 obtain⟨l,v,f,t,u'⟩:=r
 obtain⟨h1,h2,h3,h4⟩:=aeZ hr
 exact amr h1 h2 h3 h4 f
end Go.Proofs.YtofjebmoebhiiaaGreatDoor.Ev
namespace Go.Proofs.YtofjebmoebhiiaaGreatDoor.clearDuality
open Go.ChangeShapes Go.WideShapes Go.ChangeAt Go.RowKit
theorem laidOut:laidOutB Tryz.prog=true:=by kernel_rfl
theorem aoF:Go.Abs.lays Tryz.prog Go.Abs.abH 28=true:=by kernel_rfl
theorem walk (W:World)(h:laidMetH Tryz.prog clearLaid.laid W)(l0:Array Value)(x0:Go.Abs.abH.den)(w0:Go.Abs.Rel (Go.Abs.wv W) Go.Abs.abH x0 l0.toList)(b0:Go.Abs.Bnd Go.Abs.abH x0):Calls Tryz.prog 9 #[.agg l0] W fun e w'=>e= .returned (.bool true)∧Below W.heap.size W w':=
 Go.Abs.anF (T:=Ev.T) (V0:=fun key u=>∃ad:Addr,key= .cell ad∧W.cell? ad=some u) (w:=W) (v:=9) (xh:=x0) (yh:=true) ((Go.Abs.aei Ev.acD Ev.ajv Ev.alG) 9 x0 true (Ev.aj5 x0 b0) rfl) rfl HEq.rfl
   (fun ad u ⟨OR,e,hc⟩=>by cases e;exact hc) (clearLaid.ajq h) ⟨_,rfl,Go.Abs.wB.mono (fun key u ⟨ad,e,h⟩=>⟨ad,e,by rw[←e];exact⟨ad,e,h⟩⟩) (Go.Abs.alC w0)⟩
theorem lifted (os:Os)(started:os.Started)(H:Type)(enc:TypeId×Value→H):
  ReturnsInHanded {} Tryz.checked os 9 .any (fun w args=>(Rows.clearDualitySpec.pre enc Tryz.prog Tryz.f9 [] false w args∧laidMetH Tryz.prog clearLaid.laid w)∧sizedMet enc Tryz.prog Tryz.f9 (OpenSpec.ofChange Rows.clearDualitySpec) false w args)
   (Rows.clearDualitySpec.post enc Tryz.prog Tryz.f9 false true false false):=by
 refine returnsInHanded_of_change_and (C:=Tryz.checked) (X:=fun w _=>laidMetH Tryz.prog clearLaid.laid w) (fun _ _ _ hh h=>h.of_heap hh) clearLaid.own started (by kernel_rfl) Tryz.func9
  (ChangeSpec.witness_shaped (enc:=enc) (C:=Tryz.checked) (os:=os) (X:=fun w _=>laidMetH Tryz.prog clearLaid.laid w) false (World.doorLaid Tryz.prog 19 os) #[.agg #[.slice none 0 0, .slice none 0 0, .int .i64 0, .slice none 0 0]] 8 rfl (World.shaped_of_RefB (by kernel_rfl) (by kernel_rfl)) (by kernel_rfl) (by kernel_rfl) (by kernel_rfl) (clearLaid.ag5 os _)) ?_
 intro W base args ds gs before akL hW _ aoG hL _
 have hsz:(DataW.weightsEach Tryz.prog (Tryz.f9.params.toList++Rows.clearDualitySpec.plain.varTypes Tryz.prog) (ds++gs)).all (· ≤reachBytes)=true:=aoG
 have hval:∀(j:Nat) t v,Tryz.f9.params[j]? =some t→args[j]? =some v→Value.okWide Tryz.prog W .any base t v:=akL
 have hW':=hW
 obtain⟨p,q,hA0,hV,rfl,hfz,hnd⟩:=hW
 have hA:DataW.TrodAll enc Tryz.prog W 0 (fun _=>true) true Tryz.f9.params.toList args.toList ds p:=hA0
 rw[Tryz.params9] at hA hval hsz
 obtain⟨v0,vs0,d0,ds0,q0_,q0,hargs,rfl,rfl,h0,r0⟩:=trodAll_cons hA
 obtain⟨rfl,rfl,rfl⟩:=trodAll_nil r0
 obtain rfl:args= #[v0]:=by cases args;simp_all
 obtain⟨rfl,rfl⟩:=trodVars_none hV
 obtain⟨l0,rfl,z0⟩:=okWide_struct Tryz.underlying28 (hval 0 28 v0 rfl rfl)
 have lt0:∀x∈q0_,x.block<W.heap.size:=by obtain⟨m,hm⟩:=h0;exact DataW.trod_lt m _ _ _ hm
 obtain⟨x0,w0,b0⟩:=Go.Abs.alB aoF h0 hsz (j:=0) rfl rfl
 clear hA0 akL aoG hsz
 refine(walk W hL l0 x0 w0 b0).mono fun e W' ⟨he,bel⟩=> ?_
 subst he
 exact⟨_,rfl,_,_,_,[],_,[],hW',trodAll_mk1 (shut_bool Tryz.underlying4 _),(trodAll_cons_mk (Below.trod laidOut (by kernel_rfl) (of_decide_eq_true (by kernel_rfl)) h0 bel lt0) trodAll_mk0),rfl,bel.frame _,fun h=>by cases h⟩
theorem over:Rows.clearDualityRow.holds Tryz.pinned (OpenSpec.ofChange Rows.clearDualitySpec):=
 OpenClaim.holds_of_wide 9 Tryz.f9 rfl rfl rfl rfl rfl rfl rfl ⟨rfl,rfl,rfl,rfl,rfl⟩ rfl rfl rfl rfl rfl (by kernel_rfl) Tryz.func9 (by kernel_rfl)
  (of_decide_eq_true (by kernel_rfl)) (by unfold Func.isWrapper;first | (rw[if_pos (by decide+kernel)];kernel_rfl) | (rw[if_neg (by decide+kernel)];exact⟨rfl,rfl⟩))
  (fun os started H enc _=>lifted os started H enc)
theorem aqL:Rows.ClearDualityCardSaid:=
 Claim7.holds_tied_plain_at .later [] [.funcs, .funcs] true (true, "646fabaf2cebbacc9a084797f15646a8f53b2861734cfa52447632ca260b63f2") false
  over (fun _ h=>by cases h) (by kernel_rfl) (fun _ h=>by cases h) clearDuality_row_tie rfl ⟨rfl,rfl⟩ (by kernel_rfl) rfl
  (fun f fn hf hfn=>by
   obtain rfl:f=9:=Option.some.inj ((show Tryz.prog.funcNamed "torus/toruslaw22.ClearDuality" =some 9 by kernel_rfl).symm.trans hf) |>.symm
   obtain rfl:fn=Tryz.f9:=(Option.some.inj (Tryz.func9.symm.trans hfn)).symm
   exact⟨by kernel_rfl,fun j t ht=>by
    rw[Tryz.params9] at ht
    have hj:j<1:=by
     rcases Nat.lt_or_ge j 1 with h |h
     ·exact h
     ·rw[Array.getElem?_eq_none (by simpa using h)] at ht;cases ht
    match j,hj with
    |0,_=>(obtain rfl:t=28:=by simpa using ht.symm);exact(show Tryz.prog.wantsStandIn 28=false by kernel_rfl)⟩)
  (by kernel_rfl)
end Go.Proofs.YtofjebmoebhiiaaGreatDoor.clearDuality
namespace Go.Proofs.YtofjebmoebhiiaaGreatDoor
theorem clearDuality_holds:Rows.ClearDualityCardSaid:=clearDuality.aqL
#print axioms clearDuality_holds
end Go.Proofs.YtofjebmoebhiiaaGreatDoor
