/- YtofjebmoebhiiaaGreatDoorZf: a part of the proof (Ve, Vf, Sa ..). No condition. -/
import Derived.Test.YtofjebmoebhiiaaGreatDoorZe
import Derived.Shelf.SlLaysF0
import Derived.Test.YtofjebmoebhiiaaGreatDoorProg
import Derived.Shelf.SlSortCmp.NoneTotal
import Derived.WalkKit
import Derived.Lib.Bytealg
import Derived.Laws.StandIn
import Derived.Test.YtofjebmoebhiiaaGreatDoorTie
import Derived.Test.YtofjebmoebhiiaaGreatDoorCards
import Derived.ProofKit
import Derived.OpenShut
import Derived.ShutString
import Derived.ChangeOld
import Derived.Below
import Derived.SizedLaws
import Derived.LaidMore
import Derived.Stop.Joined
set_option linter.unusedVariables false
set_option linter.unusedSimpArgs false
set_option maxRecDepth 100000
set_option exponentiation.threshold 2000
namespace Go.Abs
abbrev tTm:Ty:= .st (.pair (.int .i64) (.pair (.int .i64) .unit))
abbrev tCl:Ty:= .st (.pair (.int .i64) (.pair (.str) (.pair (.slice tTm) (.unit))))
abbrev tCh:Ty:= .st (.pair (.int .i64) (.pair (.slice tCl) (.unit)))
theorem ajz (ae:List aV)(y:Cl):snap ae tCl (flat tCl y)=some (y,[]):=by
 obtain⟨a,b,c,u⟩:=y
 rfl
theorem Nk {ae:List aV}{hp:List (Option (List Cl))}(h0:ae[0]? =some ⟨42,tCl,0,true,hp⟩){p:Int}{n:Nat}{l:List Cl}(hg:ah hp n=some l):
  typed ae tCh (.rv (.agg [⟨.int .i64,p⟩,⟨.ref 0,n⟩]))=some (p,(l,())):=by
 unfold typed
 simp only
 have e:snap ae (.slice tCl) [⟨.ref 0,n⟩]=some (l,[]):=by
  unfold snap Is
  simp only
  rw[h0]
  simp only
  cases n with
  |zero=>
   have:l=[]:=by simpa [ah] using hg.symm
   subst this
   rfl
  |succ k=>
   have hb:Nat.beq (k+1) 0=false:=rfl
   rw[hb,hg]
   simp only[cond_false,Option.bind_some]
   rw[zD (g:=fun x:Cl=>x) l (fun y _=>by rw[ajz])]
   simp
 unfold yL
 rw[show snap ae (.pair (.int .i64) (.pair (.slice tCl) (.unit))) [⟨.int .i64,p⟩,⟨.ref 0,n⟩]=some ((p,(l,())),[]) from by
  unfold snap
  rw[show snap ae (.int .i64) [⟨.int .i64,p⟩,⟨.ref 0,n⟩]=some (p,[⟨.ref 0,n⟩]) from rfl]
  simp only
  unfold snap
  rw[e]
  rfl]
theorem T5 {p:Int}{n:Nat}{v:List Int}(hv:v.length≤n)(hr:Rs p v):Vc p n (F8 0 v):=⟨abI v 0 (-1) (by omega),fun t ht=>by
 obtain⟨h1,h2,h3,h4⟩:=XN ht
 obtain⟨k,hk,he⟩:=List.getElem_of_mem h3
 have:=hr k
 simp only[List.getD,List.getElem?_eq_getElem hk,Option.getD_some] at this
 omega⟩
theorem Rs.rep {p:Int}(hp:0<p)(n:Nat):Rs p (List.replicate n 0):=fun j=>by rw[C2];omega
end Go.Abs
namespace Go.Proofs.YtofjebmoebhiiaaGreatDoor.Ev
open Go.Abs Go.IntWalk
def Gd (p:Int)(aa:List Cl)(n:Nat):Prop:=∀x∈aa,At x.2.1∧Vc p n x.2.2.1
theorem Gd.set {p:Int}{aa:List Cl}{n:Nat}(h:Gd p aa n){x:Cl}(hx:At x.2.1∧Vc p n x.2.2.1)(k:Nat):Gd p (aa.set k x) n:=fun y hy=>by
 rcases List.mem_or_eq_of_mem_set hy with hy |rfl
 ·exact h y hy
 ·exact hx
def Go1 (p:Int)(aa:List Cl):Prop:=aa.length≤30∧(aa=[]∨Pr p)∧Gd p aa aa.length
theorem UO {v:Nat}{aC:List (Option (List Int))}{l:List Int}(hg:ah aC v=some l)(hl:l.length≤1000000):∀(m i:Nat) (out:List Tm),m+i=l.length→out.length≤i→bK v i out aC=some (out++F8 i (l.drop i)):=by
 intro m
 induction m with
 |zero=>intro i out hi ho;rw[kh,gI,hg,bS,ak (by omega),List.drop_eq_nil_of_le (by omega),F8,List.append_nil]
 |succ m ih=>
  intro i out hi ho
  have g:l[(i:Int).toNat]? =some (l.getD i 0):=by rw[Int.toNat_natCast];simp[List.getD,show i<l.length by omega]
  have hb:∀{β:Type} {f:Int→Option β},(idx l (i:Int)).bind f=f (l.getD i 0):=dD 0 (by omega)
  rw[kh,gI,hg,bS,aq (by omega),bS,hb,bS,g,bS,drop_eq (by omega),F8,bN (by omega)]
  by_cases h:l.getD i 0=0
  ·rw[lJ h,ih (i+1) out (by omega) (by omega),if_neg (by omega)]
  ·rw[A4 h,bS,hb,bS,g,bS,jb (by omega) (by omega),if_pos h]
   simp only
   rw[ih (i+1) _ (by omega) (by simp;omega),List.append_assoc]
   rfl
theorem JY {v:Nat}{aC:List (Option (List Int))}{l:List Int}(hg:ah aC v=some l)(hl:l.length≤1000000):aR v aC=some (F8 0 l):=by
 rw[uN,oC]
 have:=UO hg hl l.length 0 [] (by omega) (by simp)
 simpa using this
theorem ahL (n:Int):∃p,q7 n=some p∧Pr p:=by
 have h1:=Int.tmod_lt_of_pos n (show (0:Int)<6 by omega)
 have h2:=Int.lt_tmod_of_pos n (show (0:Int)<6 by omega)
 rw[KZ,Cu]
 rw[i64_in (n.tmod 6+6) (by omega),bD (by omega)]
 have h3:=Int.emod_nonneg (n.tmod 6+6) (show (6:Int)≠0 by omega)
 have h4:=Int.emod_lt_of_pos (n.tmod 6+6) (show (0:Int)<6 by omega)
 obtain⟨i,hi⟩:=Int.eq_ofNat_of_zero_le h3
 rw[hi] at h4 ⊢
 have h5:i<6:=by omega
 match i,h5 with
 |0,_=>exact⟨2,rfl,by decide⟩
 |1,_=>exact⟨3,rfl,by decide⟩
 |2,_=>exact⟨5,rfl,by decide⟩
 |3,_=>exact⟨2,rfl,by decide⟩
 |4,_=>exact⟨251,rfl,by decide+kernel⟩
 |5,_=>exact⟨7,rfl,by decide⟩
theorem aoe {k p:Int}(hk:0≤k)(hp:2≤p∧p≤251):IntKind.wrap .i64 (k.tmod 2*IntKind.wrap .i64 (p - 2))=(k % 2)*(p - 2)∧0≤(k % 2)*(p - 2)∧(k % 2)*(p - 2)≤251:=by
 have h1:=Int.emod_nonneg k (show (2:Int)≠0 by omega)
 have h2:=Int.emod_lt_of_pos k (show (0:Int)<2 by omega)
 have e:k.tmod 2=k % 2:=bD (by omega)
 rw[e,i64_in (p - 2) (by omega)]
 rcases (show k % 2=0∨k % 2=1 by omega) with h |h
 ·rw[h,Int.zero_mul];exact⟨by rw[i64_in _ (by omega)],by omega,by omega⟩
 ·rw[h,Int.one_mul];exact⟨by rw[i64_in _ (by omega)],by omega,by omega⟩
end Go.Proofs.YtofjebmoebhiiaaGreatDoor.Ev
namespace Go.Proofs.YtofjebmoebhiiaaGreatDoor.Ev
open Go.Abs Go.IntWalk
theorem Q2 {β:Type}{xs:List Cl}{k:Nat}{f:Cl→Option β}(h:k<xs.length):(idx xs (k:Int)).bind f=f (xs.getD k fM):=dD fM h
theorem aky {xs:List Cl}{k:Nat}(h:k<xs.length):xs[(k:Int).toNat]? =some (xs.getD k fM):=by rw[Int.toNat_natCast];simp[List.getD,h]
theorem JZ {β:Type}{xs:List Int}{k:Nat}{f:Int→Option β}(h:k<xs.length):(idx xs (k:Int)).bind f=f (xs.getD k 0):=dD 0 h
theorem We {xs:List Int}{k:Nat}(h:k<xs.length):xs[(k:Int).toNat]? =some (xs.getD k 0):=by rw[Int.toNat_natCast];simp[List.getD,h]
theorem UP {p:Int}{aa:List Cl}(hl:aa.length≤30)(hb:∀x∈aa,x.2.2.1.length≤1000){t:Int}{t2:Nat}:∀(q i ai:Nat) (kX:List (Option (List Cl))) (r:List Cl),q+i=aa.length→ah kX ai=some r→r=aa.take i→
  ∃Q3 Z9,ft i p aa t t2 p ai kX=some ((p,(Q3,())),Z9)∧ah Z9 Q3=some aa:=by
 intro q
 induction q with
 |zero=>
  intro i ai kX r hi hg hr
  rw[uH,oo,ak (by omega)]
  refine⟨ai,kX,rfl, ?_⟩
  rw[hg,hr,List.take_of_length_le (by omega)]
 |succ q ih=>
  intro i ai kX r hi hg hr
  have hm:=hb _ (au (d:=fM) (show i<aa.length by omega))
  rw[uH,oo,aq (by omega),Q2 (by omega),jb (by omega) (by omega)]
  simp only
  rw[hg,bS,jb (by omega) (by rw[hr];simp;omega),bN (by omega)]
  refine ih (i+1) _ _ _ (by omega) lK ?_
  rw[hr,List.take_add_one]
  congr 1
  simp[List.getD,show i<aa.length by omega]
theorem aaa {p:Int}{aa:List Cl}(hl:aa.length≤30)(hb:∀x∈aa,x.2.2.1.length≤1000):∃Q3 Z9,p6 (p,(aa,())) []=some ((p,(Q3,())),Z9)∧ah Z9 Q3=some aa:=by
 rw[Jk,AF]
 exact UP hl hb aa.length 0 0 [] [] (by omega) rfl (by simp)
theorem aab {x:List Tm}{n:Nat}(hl:x.length≤1000000000)(hx:∀t∈x,0≤t.1∧t.1<n){out:Nat}(ho0:out≠0):∀(m i:Nat) (aC:List (Option (List Int))) (l:List Int),m+i=x.length→ah aC out=some l→l.length=n→
  ∃Be,dc x out i aC=some (out,Be)∧ah Be out=some (l9 l (x.drop i)):=by
 intro m
 induction m with
 |zero=>intro i aC l hi hg ho;rw[qd,kf,ak (by omega),List.drop_eq_nil_of_le (by omega)];exact⟨aC,rfl,hg⟩
 |succ m ih=>
  intro i aC l hi hg ho
  have hb:∀{β:Type} {f:Tm→Option β},(idx x (i:Int)).bind f=f (x.getD i ni):=dD ni (by omega)
  have hr:=hx _ (au (d:=ni) (show i<x.length by omega))
  rw[qd,kf,aq (by omega),hb,hb,hg,bS,gN (by omega) (by omega),bS,wM (by omega),bN (by omega),cV ni (show i<x.length by omega),l9]
  exact ih (i+1) _ _ (by omega) (rE hg ho0) (by rw[List.length_set];exact ho)
theorem ae1 {a b:Int}{A B:Int}(ha:0≤a∧a≤A)(hb:0≤b∧b≤B):0≤a*b∧a*b≤A*B:=⟨Int.mul_nonneg ha.1 hb.1,Int.mul_le_mul ha.2 hb.2 hb.1 (by omega)⟩
theorem vt1 {x c:Int}(hc:1≤c∧c≤1000):0≤(IntKind.wrap .i64 (x.tmod c+c)).tmod c∧(IntKind.wrap .i64 (x.tmod c+c)).tmod c<c:=by
 have h1:=Int.tmod_lt_of_pos x (show 0<c by omega)
 have h2:=Int.lt_tmod_of_pos x (show 0<c by omega)
 rw[i64_in _ (by omega),bD (by omega)]
 exact⟨Int.emod_nonneg _ (by omega),Int.emod_lt_of_pos _ (by omega)⟩
theorem Go1.sz {p:Int}{aa:List Cl}(h:Go1 p aa):Sz aa:=⟨fun j=>by
 by_cases hj:j<aa.length
 ·have:=(h.2.2 _ (au (d:=fM) hj)).1.2
  unfold fI;omega
 ·have:aa.getD j fM=fM:=by simp[List.getD,List.getElem?_eq_none (show aa.length≤j by omega)]
  unfold fI;rw[this];decide,fun j=>by
 by_cases hj:j<aa.length
 ·have h1:=(h.2.2 _ (au (d:=fM) hj)).2.length (by omega)
  have:=h.1
  omega
 ·have:aa.getD j fM=fM:=by simp[List.getD,List.getElem?_eq_none (show aa.length≤j by omega)]
  rw[this];simp⟩
end Go.Proofs.YtofjebmoebhiiaaGreatDoor.Ev
namespace Go.Abs
theorem Hf {s:List Int}{all:List (List Int)}{n:Nat}(ha:all.length≤n):∀(l out:List (List Int)) (d:Bool),out.length+l.length+(if d=true then 0 else 1)≤n+1→(zx s all l d out).length≤n+1
 | [],out,d,h=>by
   rw[zx]
   cases d with
   |true=>simp at h ⊢;omega
   |false=>simp at h ⊢;omega
 |x::r,out,d,h=>by
  rw[zx]
  split
  ·omega
  ·split
   ·rename_i h1 h2
    obtain⟨_,rfl⟩:=h2
    exact Hf ha r _ true (by simp at h ⊢;omega)
   ·exact Hf ha r _ d (by simp at h ⊢;omega)
theorem u7 (l:List (List Int))(s:List Int):(wN l s).length≤l.length+1:=Hf (Nat.le_refl _) l [] false (by simp)
def bW (s:List Int):List (List Int):=if s.length>1 then (List.range s.length).map fun k=>s.eraseIdx k else []
end Go.Abs
namespace Go.Proofs.YtofjebmoebhiiaaGreatDoor.Ev
open Go.Abs Go.IntWalk
theorem aof {a:List Int}(hl:a.length≤1000000)(v:Int):o6 a v=some (decide (v∈a)):=by
 have key:∀(m i:Nat),m+i=a.length→jO a v i=some (decide (v∈a.drop i)):=by
  intro m
  induction m with
  |zero=>
   intro i hi
   rw[As,tL,ak (by omega),List.drop_eq_nil_of_le (by omega)]
   simp
  |succ m ih=>
   intro i hi
   rw[As,tL,aq (by omega),gN (by omega) (by omega),Int.toNat_natCast,cV 0 (by omega)]
   by_cases e:a.getD i 0=v
   ·rw[lH e]
    have h2:v∈a.getD i 0::a.drop (i+1):=by rw[e];exact List.mem_cons_self
    simp only[h2,decide_true]
   ·rw[gz e,bN (by omega),ih (i+1) (by omega)]
    have e':¬v=a.getD i 0:=fun h=>e h.symm
    simp only[List.mem_cons,e',false_or]
 have:=key a.length 0 (by omega)
 rw[PK,Hw]
 simpa using this
theorem aog {a b:List Int}(ha:a.length≤1000000)(hl:b.length≤1000000):vm a b=some (b.all fun v=>decide (v∈a)):=by
 have key:∀(m i:Nat),m+i=b.length→iI a b i=some ((b.drop i).all fun v=>decide (v∈a)):=by
  intro m
  induction m with
  |zero=>
   intro i hi
   rw[zf,sn,ak (by omega),List.drop_eq_nil_of_le (by omega)]
   rfl
  |succ m ih=>
   intro i hi
   rw[zf,sn,aq (by omega),gN (by omega) (by omega),Int.toNat_natCast,aof ha,bS,cV 0 (by omega)]
   cases h:decide (b.getD i 0∈a) with
   |true=>rw[Bool.not_true,cF,bN (by omega),ih (i+1) (by omega),List.all_cons,h,Bool.true_and]
   |false=>rw[Bool.not_false,cT,List.all_cons,h,Bool.false_and]
 have:=key b.length 0 (by omega)
 rw[Oe,Fy]
 simpa using this
theorem T6 {a b:List Int}(hl:a.length≤1000000):aT a b=some (nb a b):=by
 rw[DM,xY]
 unfold nb
 by_cases e:a.length=b.length
 ·have key:∀(m i:Nat),m+i=a.length→eK a b i=some (EP (a.drop i) (b.drop i)):=by
   intro m
   induction m with
   |zero=>
    intro i hi
    rw[qE,mi,ak (by omega),List.drop_eq_nil_of_le (by omega),List.drop_eq_nil_of_le (by omega)]
    rfl
   |succ m ih=>
    intro i hi
    have hb:∀{β:Type} {f:Int→Option β},(idx b (i:Int)).bind f=f (b.getD i 0):=dD 0 (by omega)
    have ha:∀{β:Type} {f:Int→Option β},(idx a (i:Int)).bind f=f (a.getD i 0):=dD 0 (by omega)
    rw[qE,mi,aq (by omega),ha,hb,cV 0 (l:=a) (by omega),cV 0 (l:=b) (by omega),EP]
    by_cases h1:a.getD i 0<b.getD i 0
    ·rw[aq h1,if_pos h1]
    ·rw[ak h1,if_neg h1,ha,hb]
     by_cases h2:a.getD i 0>b.getD i 0
     ·rw[ch h2,if_pos h2]
     ·rw[cp h2,if_neg h2,bN (by omega),ih (i+1) (by omega)]
  have:=key a.length 0 (by omega)
  rw[lJ (by omega),if_neg (by omega)]
  simpa using this
 ·rw[A4 (by omega),if_pos e]
  by_cases h:a.length<b.length
  ·rw[aq (by omega),if_pos h]
  ·rw[ak (by omega),if_neg h]
theorem ae2 {s:List Int}(hs:s.length≤1000)(k:Nat):gX s k=some (s.eraseIdx k):=by
 have k2:∀(m i:Nat) (out:List Int),m+i=s.length→k<i→out.length≤i→bH s k i out=some (out++s.drop i):=by
  intro m
  induction m with
  |zero=>
   intro i out hi hk ho
   rw[fa,dC,ak (by omega),List.drop_eq_nil_of_le (by omega),List.append_nil]
  |succ m ih=>
   intro i out hi hk ho
   rw[fa,dC,aq (by omega),A4 (by omega),gN (by omega) (by omega),Int.toNat_natCast,jb (by omega) (by omega),bN (by omega),ih (i+1) _ (by omega) (by omega) (by simp;omega),cV 0 (show i<s.length by omega),List.append_assoc]
   rfl
 have key:∀(m i:Nat) (out:List Int),m+i=s.length→i≤k→out.length≤i→bH s k i out=some (out++(s.drop i).eraseIdx (k - i)):=by
  intro m
  induction m with
  |zero=>
   intro i out hi hk ho
   rw[fa,dC,ak (by omega),List.drop_eq_nil_of_le (by omega)]
   simp
  |succ m ih=>
   intro i out hi hk ho
   rw[fa,dC,aq (by omega)]
   by_cases e:i=k
   ·subst e
    rw[lJ rfl,bN (by omega),k2 m (i+1) out (by omega) (by omega) (by omega),cV 0 (show i<s.length by omega),Nat.sub_self]
    rfl
   ·rw[A4 (by omega),gN (by omega) (by omega),Int.toNat_natCast,jb (by omega) (by omega),bN (by omega),ih (i+1) _ (by omega) (by omega) (by simp;omega),cV 0 (show i<s.length by omega),show k - i=k - (i+1)+1 by omega,List.eraseIdx_cons_succ,List.append_assoc]
    rfl
 have:=key s.length 0 [] (by omega) (by omega) (by simp)
 rw[w9,qF]
 simpa using this
theorem OQ {s:List Int}(hs:s.length≤1000):bB s=some (bW s):=by
 rw[ze,sj]
 unfold bW
 by_cases h:s.length>1
 ·have key:∀(m i:Nat),m+i=s.length→cO s i ((List.range i).map fun k=>s.eraseIdx k)=some ((List.range s.length).map fun k=>s.eraseIdx k):=by
   intro m
   induction m with
   |zero=>
    intro i hi
    obtain rfl:i=s.length:=by omega
    rw[iP,fR,ch (by omega),ak (by omega)]
   |succ m ih=>
    intro i hi
    have:=ih (i+1) (by omega)
    rw[List.range_succ,List.map_append] at this
    rw[iP,fR,ch (by omega),aq (by omega),ae2 hs,bS,jb (by omega) (by simp;omega),bN (by omega)]
    exact this
  rw[if_pos h]
  exact key s.length 0 (by omega)
 ·rw[if_neg h,iP,fR,cp (by omega)]
theorem adb {l:Ge}{s:List Int}(hl:l.length≤1000)(hs:s.length≤1000000):eZ l s=some (wN l s):=by
 have key:∀(m i:Nat) (d:Bool) (out:Ge),m+i=l.length→out.length≤2*i→iL l s d i out=some (zx s l (l.drop i) d out):=by
  intro m
  induction m with
  |zero=>
   intro i d out hi ho
   rw[zg,sq,ak (by omega),List.drop_eq_nil_of_le (by omega),zx]
   cases d with
   |true=>rw[Bool.not_true,cF];rfl
   |false=>rw[Bool.not_false,cT,jb (by omega) (by omega)];rfl
  |succ m ih=>
   intro i d out hi ho
   rw[zg,sq,aq (by omega),oS (by omega),T6 hs,bS,bN (by omega),cV [] (show i<l.length by omega),zx]
   by_cases e:nb s (l.getD i [])=0
   ·rw[lH e,if_pos e]
   ·rw[gz e,if_neg e]
    by_cases f:nb s (l.getD i [])<0
    ·rw[aq f]
     cases d with
     |true=>
      rw[Bool.not_true,cF,oS (by omega),jb (by omega) (by omega),if_neg (by simp)]
      exact ih (i+1) true _ (by omega) (by simp;omega)
     |false=>
      rw[Bool.not_false,cT,jb (by omega) (by omega),oS (by omega),jb (by omega) (by simp;omega),if_pos ⟨f,rfl⟩]
      exact ih (i+1) true _ (by omega) (by simp;omega)
    ·rw[ak f,oS (by omega),jb (by omega) (by omega),if_neg (fun g=>f g.1)]
     exact ih (i+1) d _ (by omega) (by simp;omega)
 have:=key l.length 0 false [] (by omega) (by simp)
 rw[Of,Fz]
 simpa [wN] using this
theorem Wf:∀m:Nat,m<17→∀i:Nat,i<5→shr .i64 (m:Int) (i:Int)=((m / 2^i:Nat):Int):=by decide
theorem ahM {s:List Int}(hs:s.length≤4){m:Nat}(hm:m<17){out:Ge}(ho:out.length≤900):∀(q i:Nat) (f:List Int),q+i=s.length→f.length≤i→
  fC s out m i f=cQ s (wN out (f++Ad (s.drop i) (m / 2^i))) (IntKind.wrap .i64 ((m:Int)+1)):=by
 intro q
 induction q with
 |zero=>
  intro i f hi hf
  rw[uB,nV,ak (by omega),adb (by omega) (by omega),bS,List.drop_eq_nil_of_le (by omega),Ad,List.append_nil]
 |succ q ih=>
  intro i f hi hf
  have e:m / 2^(i+1)=m / 2^i / 2:=by rw[Nat.pow_succ,Nat.div_div_eq_div_mul]
  have hm2:∀x:Nat,(((x:Nat):Int).tmod 2==1)=decide (x % 2=1):=fun x=>by
   rw[Bool.eq_iff_iff,beq_iff_eq,decide_eq_true_iff,Int.tmod_eq_emod_of_nonneg (by omega)]
   omega
  have hmod:=hm2 (m / 2^i)
  rw[uB,nV,aq (by omega),LV (by omega),bN (by omega),Wf m hm i (by omega),hmod,cV 0 (show i<s.length by omega),Ad]
  by_cases h:m / 2^i % 2=1
  ·rw[decide_eq_true h,cT,gN (by omega) (by omega),Int.toNat_natCast,jb (by omega) (by omega),if_pos h,ih (i+1) _ (by omega) (by simp;omega),e,List.append_assoc]
   rfl
  ·rw[decide_eq_false h,cF,if_neg h,ih (i+1) f (by omega) (by omega),e]
theorem ae3 {s:List Int}(hs:s.length≤4){m:Nat}(hm:m<17){out:Ge}(ho:out.length≤900):∀(q i:Nat) (f:List Int),q+i=s.length→f.length≤i→
  gm s m i out f=cQ s (wN out (f++Ad (s.drop i) (m / 2^i))) (IntKind.wrap .i64 ((m:Int)+1)):=by
 intro q
 induction q with
 |zero=>
  intro i f hi hf
  rw[vP,pk,ak (by omega),adb (by omega) (by omega),bS,List.drop_eq_nil_of_le (by omega),Ad,List.append_nil]
 |succ q ih=>
  intro i f hi hf
  have e:m / 2^(i+1)=m / 2^i / 2:=by rw[Nat.pow_succ,Nat.div_div_eq_div_mul]
  have hm2:∀x:Nat,(((x:Nat):Int).tmod 2==1)=decide (x % 2=1):=fun x=>by
   rw[Bool.eq_iff_iff,beq_iff_eq,decide_eq_true_iff,Int.tmod_eq_emod_of_nonneg (by omega)]
   omega
  have hmod:=hm2 (m / 2^i)
  rw[vP,pk,aq (by omega),LV (by omega),bN (by omega),Wf m hm i (by omega),hmod,cV 0 (show i<s.length by omega),Ad]
  by_cases h:m / 2^i % 2=1
  ·rw[decide_eq_true h,cT,gN (by omega) (by omega),Int.toNat_natCast,jb (by omega) (by omega),if_pos h,ih (i+1) _ (by omega) (by simp;omega),e,List.append_assoc]
   rfl
  ·rw[decide_eq_false h,cF,if_neg h,ih (i+1) f (by omega) (by omega),e]
theorem ae4 {s:List Int}(hs:s.length≤4):∀(q m:Nat) (out:Ge),q+m=2^s.length→out.length≤500+m→cQ s out m=some (tn s q m out):=by
 obtain⟨hsh,hp⟩:=Wc hs
 intro q
 induction q with
 |zero=>
  intro m out hm ho
  rw[uA,nU,LV (by omega),hsh,ak (by omega)]
  rfl
 |succ q ih=>
  intro m out hm ho
  have h1:=ahM hs (m:=m) (by omega) (out:=out) (by omega) s.length 0 [] (by omega) (by simp)
  have e0:((0:Nat):Int)=0:=rfl
  rw[e0,List.nil_append,List.drop_zero,Nat.pow_zero,Nat.div_one,bN (by omega)] at h1
  rw[uA,nU,LV (by omega),hsh,aq (by omega),h1]
  exact ih (m+1) _ (by omega) (by have:=u7 out (Ad s m);omega)
theorem ade {s:List Int}(hs:s.length≤4):jP s=some (ju s):=by
 obtain⟨hsh,hp⟩:=Wc hs
 rw[KK,Cb,GZ,xd,LV (by omega),hsh]
 by_cases h:(1:Int)<((2^s.length:Nat):Int)
 ·have e0:((0:Nat):Int)=0:=rfl
  have e1:IntKind.wrap .i64 ((1:Nat)+1:Int)=((2:Nat):Int):=rfl
  have h1:=ae3 hs (m:=1) (by omega) (out:=[]) (by simp) s.length 0 [] (by omega) (by simp)
  rw[e0,e1,List.nil_append,List.drop_zero,Nat.pow_zero,Nat.div_one] at h1
  have h2:=ae4 hs (2^s.length - 2) 2 (wN [] (Ad s 1)) (by omega) (by have:=u7 [] (Ad s 1);simp at this ⊢;omega)
  have e2:((1:Nat):Int)=1:=rfl
  rw[e2] at h1
  rw[aq h,h1,h2]
  unfold ju
  have e3:2^s.length - 1=(2^s.length - 2)+1:=by omega
  rw[e3,tn]
 ·rw[ak h]
  unfold ju
  have e3:2^s.length - 1=0:=by omega
  rw[e3,tn]
end Go.Proofs.YtofjebmoebhiiaaGreatDoor.Ev
namespace Go.Abs
structure SS (s:List Int):Prop where
 ne:s≠ []
 len:s.length≤4
 up:s.Pairwise (· < ·)
 rg:∀v∈s,0≤v∧v<6
theorem SS.sub {s t:List Int}(h:SS s)(ht:t.Sublist s)(h0:t≠ []):SS t:=⟨h0,Nat.le_trans ht.length_le h.len,h.up.sublist ht,fun v hv=>h.rg v (ht.mem hv)⟩
theorem J0 {s:List Int}:∀(q m:Nat) (out:List (List Int)),(tn s q m out).length≤out.length+q
 |0,m,out=>by simp[tn]
 |q+1,m,out=>by
  rw[tn]
  have:=J0 (s:=s) q (m+1) (wN out (Ad s m))
  have:=u7 out (Ad s m)
  omega
theorem ET {s:List Int}(h:s.length≤4):(ju s).length≤15:=by
 have h1:=J0 (s:=s) (2^s.length - 1) 1 []
 have h2:2^s.length≤2^4:=Nat.pow_le_pow_right (by omega) h
 unfold ju
 simp at h1;omega
theorem tp:∀(f out:List (List Int)),(f.foldl wN out).length≤out.length+f.length
 | [],out=>by simp
 |s::f,out=>by
  rw[List.foldl_cons,List.length_cons]
  have:=tp f (wN out s)
  have:=u7 out s
  omega
structure Cx (c:List (List Int)):Prop where
 asc:Asc c
 ss:∀s∈c,SS s
 abS:∀s∈c,∀t:List Int,t.Sublist s→t≠ []→t∈c
 len:c.length≤80
theorem C3:∀(l out:List (List Int)),(∀s∈l,s.length≤4)→(l.foldl (fun out s=>(ju s).foldl wN out) out).length≤out.length+15*l.length
 | [],out,_=>by simp
 |s::l,out,h=>by
  rw[List.foldl_cons,List.length_cons]
  have h1:=C3 l ((ju s).foldl wN out) fun t ht=>h t (List.mem_cons_of_mem _ ht)
  have h2:=tp (ju s) out
  have h3:=ET (h s List.mem_cons_self)
  omega
theorem abT {QF:List (List Int)}(h:∀s∈QF,SS s)(hl:QF.length≤5):Cx (Hd QF):=by
 refine⟨Zz QF,fun s hs=> ?_,fun s hs t ht h0=> ?_, ?_⟩
 ·obtain⟨h0,u,hu,hsub⟩:=JO.1 hs
  exact(h u hu).sub hsub h0
 ·obtain⟨_,u,hu,hsub⟩:=JO.1 hs
  exact JO.2 ⟨h0,u,hu,ht.trans hsub⟩
 ·have:=C3 QF [] fun s hs=>(h s hs).len
  unfold Hd
  simp at this;omega
end Go.Abs
namespace Go.Proofs.YtofjebmoebhiiaaGreatDoor.Ev
open Go.Abs Go.IntWalk
theorem aqf {x:Int}:0≤(IntKind.wrap .i64 (x.tmod 6+6)).tmod 6∧(IntKind.wrap .i64 (x.tmod 6+6)).tmod 6<6:=by
 have h1:=Int.tmod_lt_of_pos x (b:=6) (by omega)
 have h2:=Int.lt_tmod_of_pos x (show (0:Int)<6 by omega)
 rw[i64_in _ (by omega),bD (by omega)]
 exact⟨Int.emod_nonneg _ (by omega),Int.emod_lt_of_pos _ (by omega)⟩
theorem Hg {α:Type}(d:α){l:List α}{i:Nat}(h:i<l.length):l.take (i+1)=l.take i++[l.getD i d]:=by
 rw[List.take_add_one,List.getElem?_eq_getElem h];simp[List.getD,h]
theorem aac {A B:List Int}{x:Int}{k:Nat}(h:A.length=k):(A++x::B).getD k 0=x:=by
 subst h
 simp[List.getD]
theorem ajA {i:Nat}{R:List Int}:∀(k:Nat) (n:Int) (A B:List Int) (x:Int),A.length=k→k+B.length=i→i+1+R.length≤1000000→(A++B).Pairwise (· ≤ ·)→(∀b∈B,x<b)→
  ∃n' S,fB n i k (A++x::B++R)=dJ n' ((i+1:Nat):Int) (S++R)∧S.Perm (A++x::B)∧S.Pairwise (· ≤ ·):=by
 intro k
 induction k with
 |zero=>
  intro n A B x hA hB hR hp hx
  obtain rfl:=List.eq_nil_of_length_eq_zero hA
  refine⟨n,x::B, ?_,List.Perm.refl _,List.pairwise_cons.2 ⟨fun b hb=>by have:=hx b hb;omega,by simpa using hp⟩⟩
  rw[uz,nS,cp (by omega),bN (by omega)]
  rfl
 |succ k ih=>
  intro n A B x hA hB hR hp hx
  obtain⟨A',y,rfl⟩:∃A' y,A=A'++[y]:=⟨A.dropLast,A.getLast (fun e=>by subst e;simp at hA),(List.dropLast_concat_getLast _).symm⟩
  have hA':A'.length=k:=by simp at hA;omega
  have hl:(A'++[y]++x::B++R).length=i+1+R.length:=by simp;omega
  have e1:IntKind.wrap .i64 (((k+1:Nat):Int) - 1)=(k:Int):=by rw[i64_in _ (by omega)];omega
  have g1:(A'++[y]++x::B++R).getD k 0=y:=by
   have e:A'++[y]++x::B++R=A'++y::(x::B++R):=by simp
   rw[e];exact aac hA'
  have g2:(A'++[y]++x::B++R).getD (k+1) 0=x:=by
   have e:A'++[y]++x::B++R=(A'++[y])++x::(B++R):=by simp
   rw[e];exact aac (by simp;omega)
  rw[uz,nS,ch (by omega),e1,gN (by omega) (by omega),wM (by omega),gN (by omega) (by omega),wM (by omega)]
  by_cases h0:(A'++[y]++x::B++R).getD (k:Int).toNat 0>(A'++[y]++x::B++R).getD ((k+1:Nat):Int).toNat 0
  ·have h:y>x:=by
    have h2:=h0
    rw[Int.toNat_natCast,Int.toNat_natCast,g1,g2] at h2
    exact h2
   rw[ch h0,gN (by omega) (by omega),wM (by omega),gN (by omega) (by omega),wM (by omega),gN (by omega) (by omega),wM (by omega)]
   simp only
   rw[gN (by omega) (by rw[List.length_set];omega),wM (by rw[List.length_set];omega)]
   simp only[Int.toNat_natCast]
   rw[g1,g2]
   have e2:((A'++[y]++x::B++R).set k x).set (k+1) y=A'++x::(y::B)++R:=by
    have e:A'++[y]++x::B++R=A'++y::x::(B++R):=by simp
    rw[e,List.set_append_right _ _ (by omega),List.set_append_right _ _ (by omega),hA',Nat.sub_self,show k+1 - k=1 by omega]
    simp
   rw[e2]
   obtain⟨n',S,k1,k2,k3⟩:=ih (IntKind.wrap .i64 (1 - n)) A' (y::B) x hA' (by simp;omega) hR (by simpa using hp) (fun b hb=>by
    rcases List.mem_cons.1 hb with rfl |hb
    ·exact h
    ·exact hx b hb)
   refine⟨n',S,k1,k2.trans ?_,k3⟩
   have e3:A'++[y]++x::B=A'++(y::x::B):=by simp
   rw[e3]
   exact List.Perm.append_left A' (List.Perm.swap y x B)
  ·have h:¬y>x:=by
    have h2:=h0
    rw[Int.toNat_natCast,Int.toNat_natCast,g1,g2] at h2
    exact h2
   rw[cp h0,bN (by omega)]
   refine⟨n,A'++[y]++x::B,rfl,List.Perm.refl _, ?_⟩
   obtain⟨p1,p2,p3⟩:=List.pairwise_append.1 hp
   refine List.pairwise_append.2 ⟨p1,List.pairwise_cons.2 ⟨fun b hb=>by have:=hx b hb;omega,p2⟩,fun a ha b hb=> ?_⟩
   rcases List.mem_cons.1 hb with rfl |hb
   ·rcases List.mem_append.1 ha with ha |ha
    ·have:=(List.pairwise_append.1 p1).2.2 a ha y (by simp);omega
    ·simp only[List.mem_singleton] at ha;subst ha;omega
   ·exact p3 a ha b hb
theorem ahN:∀(R:List Int) (i:Nat) (n:Int) (S:List Int),S.length=i→i+R.length≤1000000→S.Pairwise (· ≤ ·)→∃n' r,dJ n i (S++R)=some (r,n')∧r.Perm (S++R)∧r.Pairwise (· ≤ ·):=by
 intro R
 induction R with
 |nil=>
  intro i n S hS hl hp
  rw[uy,nQ,ak (by simp;omega)]
  exact⟨n,_,rfl,List.Perm.refl _,by simpa using hp⟩
 |cons x R ih=>
  intro i n S hS hl hp
  simp only[List.length_cons] at hl
  obtain⟨n',S',k1,k2,k3⟩:=ajA (i:=i) (R:=R) i n S [] x hS (by simp) (by omega) (by simpa using hp) (fun b hb=>by cases hb)
  have hS':S'.length=i+1:=by rw[k2.length_eq];simp;omega
  obtain⟨n2,r,h1,h2,h3⟩:=ih (i+1) n' S' hS' (by omega) k3
  have e:S++[x]++R=S++x::R:=by simp
  rw[e] at k1
  rw[uy,nQ,aq (by simp;omega),k1,h1]
  refine⟨n2,r,rfl,h2.trans ?_,h3⟩
  rw[←e]
  exact List.Perm.append_right R k2
theorem aad {l:List Int}(hl:l.length≤1000000):∃n' r,iK l=some (r,n')∧r.Perm l∧r.Pairwise (· ≤ ·):=by
 rw[Jg,Au,jb (by omega) (by omega),List.nil_append]
 exact ahN l 0 0 [] rfl (by omega) List.Pairwise.nil
theorem akz {l r:List Int}(hp:r.Perm l)(hs:r.Pairwise (· ≤ ·))(hn:l.Nodup)(h0:l≠ [])(h4:l.length≤4)(hr:∀v∈l,0≤v∧v<6):SS r:=by
 have hn':r.Nodup:=hp.nodup_iff.2 hn
 refine⟨fun e=>by subst e;exact h0 hp.symm.eq_nil,by rw[hp.length_eq];exact h4,(hs.and hn').imp fun⟨a,b⟩=>by omega,fun v hv=>hr v (hp.mem_iff.1 hv)⟩
theorem adf {out:List Int}(ho:out.length≤4)(hn:out.Nodup)(hr:∀v∈out,0≤v∧v<6):∃s,(bif ((out.length:Int)==0) then bif (aD 8 1 out.length 1) then (iK (out++([(0:Int)]:List Int))).bind fun r3=>some r3.1 else none else (iK out).bind fun r4=>some r4.1)=some s∧SS s:=by
 by_cases h:(out.length:Int)=0
 ·obtain rfl:out=[]:=List.eq_nil_of_length_eq_zero (by omega)
  obtain⟨n',s,h1,h2,h3⟩:=aad (l:=[0]) (by simp)
  rw[lH h,jb (by omega) (by simp),List.nil_append,h1,bS]
  exact⟨s,rfl,akz h2 h3 (by simp) (by simp) (by simp) (by simp)⟩
 ·obtain⟨n',s,h1,h2,h3⟩:=aad (l:=out) (by omega)
  rw[gz h,h1,bS]
  exact⟨s,rfl,akz h2 h3 hn (fun e=>by subst e;simp at h) ho hr⟩
theorem ahO {l:List Int}(hl:l.length≤1000000000000000000):∀(m i:Nat) (out:List Int),m+i=l.length→out.length≤4→out.Nodup→(∀v∈out,0≤v∧v<6)→∃s,gh l 4 6 i out=some s∧SS s:=by
 intro m
 induction m with
 |zero=>
  intro i out hi ho hn hr
  rw[vO,pj,ak (by omega)]
  exact adf ho hn hr
 |succ m ih=>
  intro i out hi ho hn hr
  rw[vO,pj,aq (by omega)]
  by_cases h:(out.length:Int)<4
  ·have e1:IntKind.wrap .i64 ((i:Int)+1)=((i+1:Nat):Int):=by rw[i64_in _ (by omega)];omega
   rw[aq h,gN (by omega) (by omega),lI (by omega),lI (by omega),e1,aof (by omega),bS]
   have hv:=aqf (x:=l.getD (i:Int).toNat 0)
   generalize (IntKind.wrap .i64 ((l.getD (i:Int).toNat 0).tmod 6+6)).tmod 6=v at hv ⊢
   by_cases hm:v∈out
   ·rw[decide_eq_true hm,Bool.not_true,cF];exact ih (i+1) out (by omega) ho hn hr
   ·rw[decide_eq_false hm,Bool.not_false,cT,jb (by omega) (by omega)]
    refine ih (i+1) _ (by omega) (by simp;omega) (List.nodup_append.2 ⟨hn,by simp,fun a ha b hb=>by simp only[List.mem_singleton] at hb;subst hb;exact fun e=>hm (e ▸ ha)⟩) (fun w hw=> ?_)
    rcases List.mem_append.1 hw with hw |hw
    ·exact hr w hw
    ·simp only[List.mem_singleton] at hw;subst hw;exact hv
  ·rw[ak h]
   exact adf ho hn hr
theorem ae5 {l:List Int}(hl:l.length≤1000000000000000000):∃s,ri l 4 6=some s∧SS s:=by
 rw[KJ,Ca]
 exact ahO hl l.length 0 [] (by omega) (by simp) (by simp) (by simp)
theorem Wg {l f:Ge}(hf:f.length≤16)(hf4:∀s∈f,s.length≤4){i:Int}:∀(q k:Nat) (out:Ge),q+k=f.length→out.length+q≤900→cm l out i f k=gK l ((f.drop k).foldl wN out) (IntKind.wrap .i64 (i+1)):=by
 intro q
 induction q with
 |zero=>intro k out hk ho;rw[sX,mU,ak (by omega),List.drop_eq_nil_of_le (by omega)];rfl
 |succ q ih=>
  intro k out hk ho
  have h4:=hf4 _ (au (d:=[]) (show k<f.length by omega))
  rw[sX,mU,aq (by omega),oS (by omega),adb (by omega) (by omega),bS,bN (by omega),cV [] (show k<f.length by omega),List.foldl_cons]
  exact ih (k+1) _ (by omega) (by have:=u7 out (f.getD k []);omega)
theorem aae {s:List Int}(h:s.length≤4):∀t∈ju s,t.length≤4:=fun t ht=>Nat.le_trans (TN.1 ht).2.length_le h
theorem abU {l:Ge}(hl:Sx 5 l):∀(q i:Nat) (out:Ge),q+i=l.length→out.length+15*q≤800→gK l out i=some ((l.drop i).foldl (fun out s=>(ju s).foldl wN out) out):=by
 have hll:=hl.1
 intro q
 induction q with
 |zero=>intro i out hi ho;rw[sY,mV,ak (by omega),List.drop_eq_nil_of_le (by omega)];rfl
 |succ q ih=>
  intro i out hi ho
  have h4:=hl.getD (show i<l.length by omega)
  have OV:=ET h4
  have h3:=Wg (l:=l) (f:=ju (l.getD i [])) (by omega) (aae h4) (i:=(i:Int)) _ 0 out (Nat.add_zero _) (by omega)
  have e0:((0:Nat):Int)=0:=rfl
  rw[e0,List.drop_zero,bN (by omega)] at h3
  rw[sY,mV,aq (by omega),oS (by omega),ade h4,bS,h3,cV [] (show i<l.length by omega),List.foldl_cons]
  exact ih (i+1) _ (by omega) (by have:=tp (ju (l.getD i [])) out;omega)
theorem ae6 {l:Ge}(hl:Sx 5 l):∀(q i:Nat) (out:Ge),q+i=l.length→out.length+15*q≤800→fy l i out=some ((l.drop i).foldl (fun out s=>(ju s).foldl wN out) out):=by
 have hll:=hl.1
 intro q
 induction q with
 |zero=>intro i out hi ho;rw[uD,nY,ak (by omega),List.drop_eq_nil_of_le (by omega)];rfl
 |succ q ih=>
  intro i out hi ho
  have h4:=hl.getD (show i<l.length by omega)
  have OV:=ET h4
  have hle:=aae h4
  rw[uD,nY,aq (by omega),oS (by omega),ade h4,bS,FA,vT,cV [] (show i<l.length by omega),List.foldl_cons]
  have hfo:=tp (ju (l.getD i [])) out
  by_cases hf:(ju (l.getD i [])).length=0
  ·have e:=List.eq_nil_of_length_eq_zero hf
   rw[ak (by omega),bN (by omega),e]
   exact ih (i+1) out (by omega) (by omega)
  ·have hf4:=hle _ (au (d:=[]) (show 0<(ju (l.getD i [])).length by omega))
   generalize ju (l.getD i [])=f at*
   have hpl:=u7 out (f.getD 0 [])
   have h5:=Wg (l:=l) (f:=f) (by omega) hle (i:=(i:Int)) (f.length - 1) 1 (wN out (f.getD 0 [])) (by omega) (by omega)
   have e0:((0:Nat):Int)=0:=rfl
   have e1:IntKind.wrap .i64 ((0:Int)+1)=((1:Nat):Int):=rfl
   have hb:∀{β:Type} {g:List Int→Option β},(idx f (0:Int)).bind g=g (f.getD 0 []):=fun {β g}=>by
    have:=oS (xs:=f) (k:=0) (f:=g) (by omega)
    rw[e0] at this;exact this
   have e2:f.foldl wN out=(f.drop 1).foldl wN (wN out (f.getD 0 [])):=by
    have:=cV [] (show 0<f.length by omega)
    rw[List.drop_zero] at this
    rw[this,List.foldl_cons]
    simp
   rw[aq (by omega),hb,adb (by omega) (by omega),bS,e1,h5,bN (by omega), ←e2]
   exact abU hl q (i+1) _ (by omega) (by omega)
theorem ahP {l:Ge}(hl:Sx 5 l):lk l=some (Hd l):=by
 have:=hl.1
 rw[Jh,Ax]
 have h:=ae6 hl l.length 0 [] (by omega) (by simp;omega)
 rw[List.drop_zero] at h
 exact h
theorem ahQ {t:Ge}(ht:t.length≤800):∀(q i:Nat),q+i=t.length→eE t (t.length:Int) i (t.take i)=some t:=by
 intro q
 induction q with
 |zero=>intro i hi;rw[vS,py,ak (by omega),List.take_of_length_le (by omega)]
 |succ q ih=>
  intro i hi
  have:=ih (i+1) (by omega)
  rw[Hg [] (show i<t.length by omega)] at this
  rw[vS,py,aq (by omega),oS (by omega),jb (by omega) (by simp;omega),bN (by omega)]
  exact this
theorem adg {QF:Ge}(hf:∀s∈QF,SS s)(hl:QF.length≤5):∃c,((lk QF).bind fun r3=>eE r3 (r3.length:Int) (0:Int) ([]:List (List Int)))=some c∧Cx c:=by
 have hc:=abT hf hl
 rw[ahP ⟨hl,fun s hs=>(hf s hs).len⟩,bS]
 exact⟨_,ahQ (by have:=hc.len;omega) (Hd QF).length 0 (by omega),hc⟩
theorem alV {l:Ge}(hl:l.length≤1000000)(hs:∀s∈l,s.length≤1000000000000000000):∀(q i:Nat) (QF:Ge),q+i=l.length→QF.length=i→(∀s∈QF,SS s)→i≤5→∃c,gf l 5 3 6 i QF=some c∧Cx c:=by
 intro q
 induction q with
 |zero=>
  intro i QF hi hf hS h5
  rw[vR,pw,ak (by omega)]
  exact adg hS (by omega)
 |succ q ih=>
  intro i QF hi hf hS h5
  rw[vR,pw,aq (by omega)]
  by_cases h:i<5
  ·obtain⟨s,h1,h2⟩:=ae5 (hs _ (au (d:=[]) (show i<l.length by omega)))
   have e4:IntKind.wrap .i64 ((3:Int)+1)=4:=rfl
   rw[aq (by omega),oS (by omega),e4,h1,bS,jb (by omega) (by omega),bN (by omega)]
   refine ih (i+1) _ (by omega) (by simp;omega) (fun t ht=> ?_) (by omega)
   rcases List.mem_append.1 ht with ht |ht
   ·exact hS t ht
   ·rw[List.mem_singleton.1 ht];exact h2
  ·rw[ak (by omega)]
   exact adg hS (by omega)
theorem ae7 {l:Ge}(hl:l.length≤1000000)(hs:∀s∈l,s.length≤1000000000000000000):∃c,ra l 5 3 6=some c∧Cx c:=by
 rw[KM,Cd]
 exact alV hl hs l.length 0 [] (by omega) rfl (by simp) (by omega)
theorem ajB {l:Ge}(hl:l.length≤800)(h4:∀s∈l,s.length≤4):q9 l=some l:=by
 have key:∀(q i:Nat),q+i=l.length→gd l i (l.take i)=some l:=by
  intro q
  induction q with
  |zero=>intro i hi;rw[vQ,pq,ak (by omega),List.take_of_length_le (by omega)]
  |succ q ih=>
   intro i hi
   have hg:=h4 _ (au (d:=[]) (show i<l.length by omega))
   have:=ih (i+1) (by omega)
   rw[Hg [] (show i<l.length by omega)] at this
   rw[vQ,pq,aq (by omega),oS (by omega),jb (by omega) (by omega),jb (by omega) (by simp;omega),bN (by omega),List.nil_append]
   exact this
 rw[KL,Cc]
 exact key l.length 0 (by omega)
end Go.Proofs.YtofjebmoebhiiaaGreatDoor.Ev
namespace Go.Proofs.YtofjebmoebhiiaaGreatDoor.Ev
open Go.Abs Go.IntWalk
def uf (a b:ByteArray):Int:=lW ((jd a).1*(jd b).2) ((jd b).1*(jd a).2)
theorem At.den {s:ByteArray}(h:At s):0<(jd s).2:=by
 obtain⟨n,d,hR⟩:=nc.1 h.1
 rw[hR.val]
 exact(hR.bounds (by have:=h.2;omega)).2.2
theorem XR {a b:ByteArray}(ha:At a)(hb:At b):aX a b=some (uf a b):=by
 obtain⟨n,d,h⟩:=nc.1 ha.1
 obtain⟨m,k,g⟩:=nc.1 hb.1
 rw[ON h g (by have:=ha.2;omega) (by have:=hb.2;omega)]
 unfold uf
 rw[h.val,g.val]
theorem ahR (x y:Int):lW y x= -(lW x y):=by
 rcases Int.lt_trichotomy x y with h |h |h
 ·rw[mv h,oH h];rfl
 ·rw[wD h,wD h.symm];rfl
 ·rw[oH h,mv h]
theorem C4 (a b:ByteArray):uf b a= -(uf a b):=ahR _ _
theorem ajC {x y:Int}:lW x y≤0↔x≤y:=by
 rcases Int.lt_trichotomy x y with h |h |h
 ·rw[mv h];omega
 ·rw[wD h];omega
 ·rw[oH h];omega
theorem ahS {x y:Int}:lW x y<0↔x<y:=by
 rcases Int.lt_trichotomy x y with h |h |h
 ·rw[mv h];omega
 ·rw[wD h];omega
 ·rw[oH h];omega
theorem yK {a b c:ByteArray}(ha:At a)(hb:At b)(hc:At c)(h1:uf a b≤0)(h2:uf b c≤0):uf a c≤0:=by
 unfold uf at*
 rw[ajC] at*
 have p1:=ha.den
 have p2:=hb.den
 have p3:=hc.den
 generalize (jd a).1=n at*
 generalize (jd a).2=d at*
 generalize (jd b).1=m at*
 generalize (jd b).2=k at*
 generalize (jd c).1=u at*
 generalize (jd c).2=v at*
 have e1:=Int.mul_le_mul_of_nonneg_right h1 (Int.le_of_lt p3)
 have e2:=Int.mul_le_mul_of_nonneg_right h2 (Int.le_of_lt p1)
 have e3:m*d*v=m*v*d:=by rw[Int.mul_assoc,Int.mul_comm d v, ←Int.mul_assoc]
 have e4:k*(n*v)≤k*(u*d):=by
  have q1:k*(n*v)=n*k*v:=by rw[Int.mul_comm n k,Int.mul_assoc]
  have q2:k*(u*d)=u*k*d:=by rw[Int.mul_comm u k,Int.mul_assoc]
  rw[q1,q2]
  exact Int.le_trans e1 (by rw[e3];exact e2)
 exact Int.le_of_mul_le_mul_left e4 p2
theorem Wh (a:ByteArray):uf a a=0:=wD rfl
def RP (x y:Ce):Prop:=uf x.2.1 y.2.1<0∨(uf x.2.1 y.2.1=0∧nb x.1 y.1<0)
theorem Wi {x y z:Ce}(hx:At x.2.1)(hy:At y.2.1)(hz:At z.2.1)(h1:RP x y)(h2:RP y z):RP x z:=by
 have n1:=C4 x.2.1 y.2.1
 have n2:=C4 y.2.1 z.2.1
 have n3:=C4 x.2.1 z.2.1
 unfold RP at*
 have a1:uf x.2.1 y.2.1≤0:=by rcases h1 with h | ⟨h,_⟩<;>omega
 have a2:uf y.2.1 z.2.1≤0:=by rcases h2 with h | ⟨h,_⟩<;>omega
 have a3:=yK hx hy hz a1 a2
 by_cases e:uf x.2.1 z.2.1=0
 · -- all are of one value
   have b1:=yK hz hx hy (by omega) a1
   have b2:=yK hy hz hx a2 (by omega)
   rcases h1 with h | ⟨_,h1⟩
   ·omega
   ·rcases h2 with h | ⟨_,h2⟩
    ·omega
    ·exact .inr ⟨e,Na h1 h2⟩
 ·exact .inl (by omega)
theorem ae8 {x y:Ce}(h:x.1≠y.1)(hn:¬RP x y):RP y x:=by
 have n1:=C4 x.2.1 y.2.1
 have n2:=TK x.1 y.1
 unfold RP at*
 by_cases e:uf x.2.1 y.2.1=0
 ·refine .inr ⟨by omega, ?_⟩
  have h0:nb x.1 y.1≠0:=fun e=>h (Hc.1 e)
  have:¬nb x.1 y.1<0:=fun g=>hn (.inr ⟨e,g⟩)
  omega
 ·refine .inl ?_
  have:¬uf x.2.1 y.2.1<0:=fun g=>hn (.inl g)
  omega
def cellOf (aC:List (Option (List Int)))(r:OW):Ce:=((ah aC r.1).getD [],(r.2.1,()))
theorem aaf {l:List Ce}(hl:Cs l):∀(q i out:Nat) (aC:List (Option (List Int))) (ko:List (Option (List OW))) (rows:List OW),q+i=l.length→ah ko out=some rows→rows.map (cellOf aC)=l.take i→Cr aC rows→
  ∃out' Be F9 L6,fE l out i aC ko=some (out',(F9,Be))∧ah F9 out'=some L6∧L6.map (cellOf Be)=l∧Cr Be L6:=by
 have hll:=hl.1
 intro q
 induction q with
 |zero=>
  intro i out aC ko rows hi hg hr hc
  rw[uG,oi,ak (by omega)]
  exact⟨_,_,_,rows,rfl,hg,by rw[hr,List.take_of_length_le (by omega)],hc⟩
 |succ q ih=>
  intro i out aC ko rows hi hg hr hc
  obtain⟨hx1,hx2⟩:=hl.2 _ (au (d:=fW) (show i<l.length by omega))
  have hb:∀{β:Type} {f:Ce→Option β},(idx l (i:Int)).bind f=f (l.getD i fW):=dD fW (by omega)
  have hts:=Hg fW (show i<l.length by omega)
  have hrl:rows.length=i:=by have:=congrArg List.length hr;simpa [show i≤l.length by omega] using this
  have same:∀ys:List (Option (List Int)),rows.map (cellOf (aC++ys))=rows.map (cellOf aC):=fun ys=>List.map_congr_left fun y hy=>by
   obtain⟨⟨s,h1,_⟩,_⟩:=hc y hy
   unfold cellOf
   rw[h1,Ee h1]
  rw[uG,oi,aq (by omega),hb,lK,bS,List.length_nil,jb (by omega) (by omega),bN (by omega)]
  generalize l.getD i fW=x at hx1 hx2 hb hts ⊢
  cases he:x.1.isEmpty with
  |true=>
   rw[cT,hb]
   simp only
   have h1:ah (ko++[some [((aC.length+1:Nat),(x.2.1,()))]]) out=some rows:=Ee hg
   rw[h1,bS,lK,bS,List.length_singleton,jb (by omega) (by omega)]
   have e1:([((aC.length+1:Nat),(x.2.1,()))]:List OW).isEmpty=false:=rfl
   rw[e1,cF]
   exact ih (i+1) _ _ _ (rows++[((aC.length+1:Nat),(x.2.1,()))]) (by omega) lK (by
    rw[List.map_append,same,hr,hts]
    congr 1
    have e9:cellOf (aC++[some []]) ((aC.length+1:Nat),(x.2.1,()))=x:=by
     unfold cellOf
     rw[lK]
     have:x.1=[]:=List.isEmpty_iff.1 he
     obtain⟨a,b,u⟩:=x
     simp only at this
     subst this
     rfl
    rw[List.map_cons,List.map_nil,e9]) (fun y hy=>by
    rcases List.mem_append.1 hy with hy |hy
    ·exact hc.append y hy
    ·rw[List.mem_singleton.1 hy]
     exact⟨⟨[],lK,by simp⟩,hx2⟩)
  |false=>
   rw[cF,hb]
   simp only
   rw[abQ,List.length_append,List.length_singleton]
   have h1:ah (ko++[some [((aC.length+1+1:Nat),(x.2.1,()))]]) out=some rows:=Ee hg
   rw[h1,bS,lK,bS,List.length_singleton,jb (by omega) (by omega)]
   have e1:([((aC.length+1+1:Nat),(x.2.1,()))]:List OW).isEmpty=false:=rfl
   rw[e1,cF]
   have h2:ah (aC++[none]++[some ([]++x.1)]) (aC.length+1+1)=some ([]++x.1):=by
    have:=lK (xs:=aC++[none]) (l:=[]++x.1)
    rw[List.length_append,List.length_singleton] at this
    exact this
   exact ih (i+1) _ _ _ (rows++[((aC.length+1+1:Nat),(x.2.1,()))]) (by omega) lK (by
    rw[List.append_assoc,List.map_append,same,hr,hts]
    congr 1
    have e9:cellOf (aC++([none]++[some ([]++x.1)])) ((aC.length+1+1:Nat),(x.2.1,()))=x:=by
     unfold cellOf
     rw[←List.append_assoc,h2]
     rfl
    rw[List.map_cons,List.map_nil,e9]) (fun y hy=>by
    rcases List.mem_append.1 hy with hy |hy
    ·rw[List.append_assoc];exact hc.append y hy
    ·rw[List.mem_singleton.1 hy]
     exact⟨⟨_,h2,by simpa using hx1⟩,hx2⟩)
theorem ahT {l:List Ce}(hl:Cs l):∃out' Be F9 L6,qa l [] []=some (out',(F9,Be))∧ah F9 out'=some L6∧L6.map (cellOf Be)=l∧Cr Be L6:=by
 rw[Jj,AE]
 exact aaf hl l.length 0 0 [] [] [] (by omega) rfl rfl (fun x hx=>by cases hx)
theorem Wj {A B:List OW}{x:OW}{k:Nat}(h:A.length=k):(A++x::B).getD k ae0=x:=by
 subst h
 simp[List.getD]
theorem ae9 {out:Nat}{i:Nat}{aC:List (Option (List Int))}{R:List OW}:∀(k:Nat) (ko:List (Option (List OW))) (A B:List OW) (x:OW),ah ko out=some (A++x::B++R)→A.length=k→k+B.length=i→i+1+R.length≤800→Cr aC (A++x::B++R)→((A++B).map (cellOf aC)).Pairwise RP→(∀b∈B,RP (cellOf aC x) (cellOf aC b))→(∀a∈A,(cellOf aC x).1≠(cellOf aC a).1)→
  ∃F9 S,dH out i k aC ko=bu out ((i+1:Nat):Int) aC F9∧ah F9 out=some (S++R)∧S.Perm (A++x::B)∧(S.map (cellOf aC)).Pairwise RP:=by
 intro k
 induction k with
 |zero=>
  intro ko A B x hg hA hB hR hc hp hx hne
  obtain rfl:=List.eq_nil_of_length_eq_zero hA
  refine⟨ko,x::B, ?_,hg,List.Perm.refl _, ?_⟩
  ·rw[uF,oe,cp (by omega),bN (by omega)]
  ·rw[List.map_cons]
   exact List.pairwise_cons.2 ⟨fun b hb=>by
    obtain⟨b',hb',rfl⟩:=List.mem_map.1 hb
    exact hx b' hb',by simpa using hp⟩
 |succ k ih=>
  intro ko A B x hg hA hB hR hc hp hx hne
  obtain⟨A',y,rfl⟩:∃A' y,A=A'++[y]:=⟨A.dropLast,A.getLast (fun e=>by subst e;simp at hA),(List.dropLast_concat_getLast _).symm⟩
  have hA':A'.length=k:=by simp at hA;omega
  have cx:=hc x (by simp)
  have cy:=hc y (by simp)
  have hl:(A'++[y]++x::B++R).length=i+1+R.length:=by simp;omega
  have gk:(A'++[y]++x::B++R).getD k ae0=y:=by
   have e:A'++[y]++x::B++R=A'++y::(x::B++R):=by simp
   rw[e];exact Wj hA'
  have gk1:(A'++[y]++x::B++R).getD (k+1) ae0=x:=by
   have e:A'++[y]++x::B++R=(A'++[y])++x::(B++R):=by simp
   rw[e];exact Wj (by simp;omega)
  have e2:((A'++[y]++x::B++R).set (k+1) (y.1,(y.2.1,()))).set k (x.1,(x.2.1,()))=A'++x::(y::B)++R:=by
   have e:A'++[y]++x::B++R=A'++y::x::(B++R):=by simp
   rw[e,List.set_append_right _ _ (by omega),List.set_append_right _ _ (by omega),hA',Nat.sub_self,show k+1 - k=1 by omega]
   simp
  generalize hrows:A'++[y]++x::B++R=rows at*
  have e1:IntKind.wrap .i64 (((k+1:Nat):Int) - 1)=(k:Int):=by rw[i64_in _ (by omega)];omega
  have hout:out≠0:=XQ hg (fun e=>by rw[e] at hl;simp at hl;omega)
  have b1:∀{β:Type} {f:OW→Option β},(idx rows ((k+1:Nat):Int)).bind f=f x:=fun {β f}=>by rw[dD ae0 (by omega),gk1]
  have b2:∀{β:Type} {f:OW→Option β},(idx rows (k:Int)).bind f=f y:=fun {β f}=>by rw[dD ae0 (by omega),gk]
  have g1:rows[((k+1:Nat):Int).toNat]? =some x:=by rw[Int.toNat_natCast, ←gk1];simp[List.getD,show k+1<rows.length by omega]
  have g2:rows[((k:Nat):Int).toNat]? =some y:=by rw[Int.toNat_natCast, ←gk];simp[List.getD,show k<rows.length by omega]
  obtain⟨⟨s1,p1,q1⟩,a1⟩:=cx
  obtain⟨⟨s2,p2,q2⟩,a2⟩:=cy
  have hcmp:=XR a1 a2
  have hfx:(cellOf aC x).1=s1:=by unfold cellOf;rw[p1];rfl
  have hfy:(cellOf aC y).1=s2:=by unfold cellOf;rw[p2];rfl
  have aoh:s1≠s2:=by have:=hne y (by simp);rw[hfx,hfy] at this;exact this
  obtain⟨pw1,pw2,pw3⟩:=List.pairwise_append.1 (by rw[List.map_append] at hp;exact hp)
  -- Kh exchange
  have swap:RP (cellOf aC x) (cellOf aC y)→∃F9 S,((ah ko out).bind fun v30=>(idx v30 (k:Int)).bind fun _=>(ah ko out).bind fun v31=>(v31[(k:Int).toNat]?).bind fun v32=>(ah ko out).bind fun v33=>(idx v33 ((k+1:Nat):Int)).bind fun _=>(ah ko out).bind fun v34=>(v34[((k+1:Nat):Int).toNat]?).bind fun v35=>(ah ko out).bind fun v36=>(idx v36 ((k+1:Nat):Int)).bind fun _=>(ah ko out).bind fun v37=>(v37[((k+1:Nat):Int).toNat]?).bind fun v38=>
    let e39:List (Option (List (Nat×ByteArray×Unit))):=(je ko out (v37.set ((k+1:Nat):Int).toNat (v32.1,(v32.2.1,()))))
    (ah e39 out).bind fun v40=>(idx v40 (k:Int)).bind fun _=>(ah e39 out).bind fun v41=>(v41[(k:Int).toNat]?).bind fun v42=>
    let e43:List (Option (List (Nat×ByteArray×Unit))):=(je e39 out (v41.set (k:Int).toNat (v35.1,(v35.2.1,()))))
    dH out i (k:Int) aC e43)=bu out ((i+1:Nat):Int) aC F9∧ah F9 out=some (S++R)∧S.Perm (A'++[y]++x::B)∧(S.map (cellOf aC)).Pairwise RP:=by
   intro hlt
   rw[hg,bS,b2,bS,g2,bS,bS,b1,bS,g1,bS,bS,b1,bS,g1,bS]
   simp only
   have hs:=rE (l':=rows.set ((k+1:Nat):Int).toNat (y.1,(y.2.1,()))) hg hout
   have hl2:(rows.set ((k+1:Nat):Int).toNat (y.1,(y.2.1,()))).length=i+1+R.length:=by rw[List.length_set];exact hl
   have gy:(rows.set ((k+1:Nat):Int).toNat (y.1,(y.2.1,())))[((k:Nat):Int).toNat]? =some y:=by
    rw[Int.toNat_natCast,Int.toNat_natCast,List.getElem?_set_ne (by omega), ←Int.toNat_natCast k];exact g2
   rw[hs,bS,dD ae0 (by omega),bS,gy,bS]
   have hs2:=rE (l':=(rows.set ((k+1:Nat):Int).toNat (y.1,(y.2.1,()))).set ((k:Nat):Int).toNat (x.1,(x.2.1,()))) hs hout
   have e3:(rows.set ((k+1:Nat):Int).toNat (y.1,(y.2.1,()))).set ((k:Nat):Int).toNat (x.1,(x.2.1,()))=A'++x::(y::B)++R:=by rw[Int.toNat_natCast,Int.toNat_natCast];exact e2
   rw[e3] at hs2 ⊢
   obtain⟨F9,S,k1,k2,k3,k4⟩:=ih _ A' (y::B) x hs2 hA' (by simp;omega) hR (fun z hz=>hc z (by rw[←hrows];simp at hz ⊢;rcases hz with hz |hz |hz |hz |hz<;>simp[hz])) (by
    have e4:A'++y::B=A'++[y]++B:=by simp
    rw[e4];exact hp) (fun b hb=>by
    rcases List.mem_cons.1 hb with rfl |hb
    ·exact hlt
    ·exact hx b hb) (fun a ha=>hne a (by simp[ha]))
   refine⟨F9,S,k1,k2,k3.trans ?_,k4⟩
   have e5:A'++[y]++x::B=A'++(y::x::B):=by simp
   rw[e5]
   exact List.Perm.append_left A' (List.Perm.swap y x B)
  have stop:¬RP (cellOf aC x) (cellOf aC y)→∃F9 S,bu out (IntKind.wrap .i64 ((i:Int)+1)) aC ko=bu out ((i+1:Nat):Int) aC F9∧ah F9 out=some (S++R)∧S.Perm (A'++[y]++x::B)∧(S.map (cellOf aC)).Pairwise RP:=by
   intro hn
   have hyx:RP (cellOf aC y) (cellOf aC x):=ae8 (by rw[hfx,hfy];exact aoh) hn
   refine⟨ko,A'++[y]++x::B,by rw[bN (by omega)],by rw[hrows];exact hg,List.Perm.refl _, ?_⟩
   rw[List.map_append]
   refine List.pairwise_append.2 ⟨pw1, ?_,fun a ha b hb=> ?_⟩
   ·rw[List.map_cons]
    exact List.pairwise_cons.2 ⟨fun b hb=>by
     obtain⟨b',hb',rfl⟩:=List.mem_map.1 hb
     exact hx b' hb',pw2⟩
   ·rw[List.map_cons] at hb
    rcases List.mem_cons.1 hb with rfl |hb
    ·obtain⟨a',ha',rfl⟩:=List.mem_map.1 ha
     rcases List.mem_append.1 ha' with ha2 |ha2
     ·rw[List.map_append] at pw1
      have:=(List.pairwise_append.1 pw1).2.2 _ (List.mem_map.2 ⟨a',ha2,rfl⟩) (cellOf aC y) (by simp)
      exact Wi (hc a' (by rw[←hrows];simp[ha2])).2 a2 a1 this hyx
     ·simp only[List.mem_singleton] at ha2
      subst ha2
      exact hyx
    ·exact pw3 a ha b hb
  rw[uF,oe,ch (by omega),e1]
  have pre:∀{β:Type} {f:OW→OW→Option β},((ah ko out).bind fun v0=>(idx v0 ((k+1:Nat):Int)).bind fun _=>(ah ko out).bind fun v1=>(v1[((k+1:Nat):Int).toNat]?).bind fun v2=>(ah ko out).bind fun v3=>(idx v3 (k:Int)).bind fun _=>(ah ko out).bind fun v4=>(v4[(k:Int).toNat]?).bind fun v5=>f v2 v5)=f x y:=fun {β f}=>by
   rw[hg,bS,b1,bS,g1,bS,bS,b2,bS,g2,bS]
  rw[pre,hcmp,bS]
  by_cases h1:uf x.2.1 y.2.1>0
  ·rw[ch h1]
   exact stop (fun g=>by
    have g':uf x.2.1 y.2.1<0∨(uf x.2.1 y.2.1=0∧_):=g
    rcases g' with g | ⟨g,_⟩<;>omega)
  ·rw[cp h1]
   by_cases h2:uf x.2.1 y.2.1=0
   ·rw[lH h2,pre,T4 rfl p1,bS,T4 rfl p2,bS,T6 (by omega),bS]
    by_cases h3:nb s1 s2>0
    ·rw[ch h3]
     exact stop (fun g=>by
      have g':uf x.2.1 y.2.1<0∨(uf x.2.1 y.2.1=0∧nb (cellOf aC x).1 (cellOf aC y).1<0):=g
      rw[hfx,hfy] at g'
      rcases g' with g | ⟨_,g⟩<;>omega)
    ·rw[cp h3]
     refine swap (.inr ⟨h2, ?_⟩)
     rw[hfx,hfy]
     have:nb s1 s2≠0:=fun e=>aoh (Hc.1 e)
     omega
   ·rw[gz h2]
    exact swap (.inl (by show uf x.2.1 y.2.1<0;omega))
theorem abV {out:Nat}{aC:List (Option (List Int))}:∀(R:List OW) (i:Nat) (ko:List (Option (List OW))) (S:List OW),ah ko out=some (S++R)→S.length=i→i+R.length≤800→Cr aC (S++R)→(S.map (cellOf aC)).Pairwise RP→((S++R).map (cellOf aC)).Pairwise (fun x y=>x.1≠y.1)→
  ∃r,bu out i aC ko=some r∧r.Perm ((S++R).map (cellOf aC))∧r.Pairwise RP:=by
 intro R
 induction R with
 |nil=>
  intro i ko S hg hS hl hc hp hn
  rw[List.append_nil] at hg hc hn ⊢
  rw[uE,od,hg,bS,ak (by omega),abR rfl rfl hg (fun x hx=>by obtain⟨⟨s,h1,_⟩,_⟩:=hc x hx;exact⟨s,h1⟩),bS]
  exact⟨_,rfl,List.Perm.refl _,hp⟩
 |cons x R ih=>
  intro i ko S hg hS hl hc hp hn
  simp only[List.length_cons] at hl
  have e:S++[x]++R=S++x::R:=by simp
  obtain⟨F9,S',k1,k2,k3,k4⟩:=ae9 (i:=i) (R:=R) i ko S [] x (by rw[e];exact hg) hS (by simp) (by omega) (by rw[e];exact hc) (by simpa using hp) (fun b hb=>by cases hb) (fun a ha=>by
   rw[List.map_append] at hn
   exact Ne.symm ((List.pairwise_append.1 hn).2.2 _ (List.mem_map.2 ⟨a,ha,rfl⟩) _ (by simp)))
  have hS':S'.length=i+1:=by rw[k3.length_eq];simp;omega
  have k5:(S'++R).Perm (S++x::R):=by rw[←e];exact List.Perm.append_right R k3
  obtain⟨r,h1,h2,h3⟩:=ih (i+1) F9 S' k2 hS' (by omega) (fun y hy=>hc y (k5.mem_iff.1 hy)) k4 ((k5.map (cellOf aC)).pairwise_iff (R:=fun x y:Ce=>x.1≠y.1) (fun h=>Ne.symm h) |>.2 hn)
  rw[uE,od,hg,bS,aq (by simp;omega),k1,h1]
  exact⟨r,rfl,h2.trans (k5.map (cellOf aC)),h3⟩
theorem abW {l:List Ce}(hl:Cs l)(hn:l.Pairwise fun x y=>x.1≠y.1):∃r,ll l=some r∧r.Perm l∧r.Pairwise RP:=by
 obtain⟨out',Be,F9,L6,h1,h2,h3,h4⟩:=ahT hl
 have hlen:L6.length=l.length:=by rw[←h3];simp
 have hll:=hl.1
 obtain⟨r,g1,g2,g3⟩:=abV (out:=out') L6 0 F9 [] h2 rfl (by omega) h4 List.Pairwise.nil (by rw[List.nil_append,h3];exact hn)
 rw[List.nil_append,h3] at g2
 have e0:((0:Nat):Int)=0:=rfl
 rw[e0] at g1
 rw[Ji,AD,h1,bS]
 exact⟨r,g1,g2,g3⟩
end Go.Proofs.YtofjebmoebhiiaaGreatDoor.Ev
namespace Go.Abs
theorem Ef {s t:List Int}(h:t∈bW s):t.Sublist s∧t≠ []∧t≠s:=by
 unfold bW at h
 split at h
 ·obtain⟨k,hk,rfl⟩:=List.mem_map.1 h
  have hk':k<s.length:=by simpa using hk
  have hl:(s.eraseIdx k).length=s.length - 1:=List.length_eraseIdx_of_lt hk'
  exact⟨List.eraseIdx_sublist s k,fun e=>by rw[e] at hl;simp at hl;omega,fun e=>by rw[e] at hl;omega⟩
 ·cases h
theorem Nl {s:List Int}{n:Nat}(h:s.length≤n):(bW s).length≤n:=by
 unfold bW
 split
 ·rw[List.length_map,List.length_range];exact h
 ·simp
theorem abX {a b:List Int}(h:a.length<b.length):nb a b<0:=by unfold nb;rw[if_pos (by omega),if_pos h];decide
theorem afa {s t:List Int}(h:t.Sublist s)(hn:t≠s):t.length<s.length:=by
 have h1:=h.length_le
 rcases Nat.lt_or_ge t.length s.length with h2 |h2
 ·exact h2
 ·exact absurd (h.eq_of_length (by omega)) hn
end Go.Abs
namespace Go.Proofs.YtofjebmoebhiiaaGreatDoor.Ev
open Go.Abs Go.IntWalk
theorem Wk {s:List Int}(h:SS s):fD s=some 0:=by
 have h4:=h.len
 have h0:s.length≠0:=fun e=>h.ne (List.eq_nil_of_length_eq_zero e)
 have k1:∀(q i:Nat),q+i=s.length→1≤i→di s i=some 0:=by
  intro q
  induction q with
  |zero=>intro i hi h1;rw[nX,kH,ak (by omega)]
  |succ q ih=>
   intro i hi h1
   have e1:IntKind.wrap .i64 ((i:Int) - 1)=((i - 1:Nat):Int):=by rw[i64_in _ (by omega)];omega
   have hlt:s.getD (i - 1) 0<s.getD i 0:=by
    have:=List.pairwise_iff_getElem.1 h.up (i - 1) i (by omega) (by omega) (by omega)
    simpa [List.getD,show i - 1<s.length by omega,show i<s.length by omega] using this
   rw[nX,kH,aq (by omega),dD 0 (by omega),e1,dD 0 (by omega),QX (by omega),bN (by omega)]
   exact ih (i+1) (by omega) (by omega)
 have k0:∀(q i:Nat),q+i=s.length→dh s i=some 0:=by
  intro q
  induction q with
  |zero=>
   intro i hi
   rw[nW,kG,ak (by omega)]
   exact k1 (s.length - 1) 1 (by omega) (by omega)
  |succ q ih=>
   intro i hi
   have hr:=h.rg _ (au (d:=0) (show i<s.length by omega))
   rw[nW,kG,aq (by omega),dD 0 (by omega),ak (by omega),dD 0 (by omega),qS (by omega),bN (by omega)]
   exact ih (i+1) (by omega)
 rw[Av,tN,gz (by omega),cp (by omega)]
 exact k0 s.length 0 (by omega)
theorem afb {l:Ge}(hl:l.length≤1000000)(hs:∀s∈l,s.length≤4){t:List Int}(ht:t∈l):∃r:Int,0≤r∧rk l t=some r:=by
 have key:∀(q i:Nat),q+i=l.length→t∈l.drop i→∃r:Int,0≤r∧gp l t i=some r:=by
  intro q
  induction q with
  |zero=>intro i hi h;rw[List.drop_eq_nil_of_le (by omega)] at h;cases h
  |succ q ih=>
   intro i hi h
   have h4:=hs _ (au (d:=[]) (show i<l.length by omega))
   rw[cV [] (show i<l.length by omega)] at h
   rw[G1,xe,aq (by omega),oS (by omega),T6 (by omega),bS]
   by_cases e:nb (l.getD i []) t=0
   ·rw[lH e];exact⟨i,by omega,rfl⟩
   ·rw[gz e,bN (by omega)]
    refine ih (i+1) (by omega) ?_
    rcases List.mem_cons.1 h with h |h
    ·exact absurd (by rw[h];exact F1 _) e
    ·exact h
 rw[KO,Cg]
 exact key l.length 0 (by omega) (by simpa using ht)
theorem afc {c:Ge}(h:Cx c):rj c=some 0:=by
 have hl:=h.len
 have h4:∀s∈c,s.length≤4:=fun s hs=>(h.ss s hs).len
 have k1:∀(f:Ge) (i:Nat),i<c.length→(∀t∈f,t∈c)→f.length≤4→eG c ((i+1:Nat):Int)=some 0→∀(q k:Nat),q+k=f.length→gj c i f k=some 0:=by
  intro f i hi hf OV nxt q
  induction q with
  |zero=>intro k hk;rw[vV,pA,ak (by omega),bN (by omega)];exact nxt
  |succ q ih=>
   intro k hk
   obtain⟨r,h0,h1⟩:=afb (by omega) h4 (hf _ (au (d:=[]) (show k<f.length by omega)))
   rw[vV,pA,aq (by omega),oS (by omega),h1,bS,ak (by omega),bN (by omega)]
   exact ih (k+1) (by omega)
 have k0:∀(q i:Nat),q+i=c.length→eG c i=some 0:=by
  intro q
  induction q with
  |zero=>intro i hi;rw[vU,pz,ak (by omega)]
  |succ q ih=>
   intro i hi
   have hmem:=au (d:=[]) (show i<c.length by omega)
   have hss:=h.ss _ hmem
   have X1:=hss.len
   have aqh:∀t∈bW (c.getD i []),t∈c:=fun t ht=>by
    obtain⟨a,b,_⟩:=Ef ht
    exact h.abS _ hmem t a b
   have OV:(bW (c.getD i [])).length≤4:=Nl X1
   have e0:((0:Nat):Int)=0:=rfl
   have fin:=k1 _ i (by omega) aqh OV (ih (i+1) (by omega)) _ 0 (Nat.add_zero _)
   rw[e0] at fin
   rw[vU,pz,aq (by omega),oS (by omega),Wk hss,bS,lJ rfl]
   by_cases hi0:(i:Int)>0
   ·have e1:IntKind.wrap .i64 ((i:Int) - 1)=((i - 1:Nat):Int):=by rw[i64_in _ (by omega)];omega
    have hlt:nb (c.getD (i - 1) []) (c.getD i [])<0:=by
     have:=List.pairwise_iff_getElem.1 h.asc (i - 1) i (by omega) (by omega) (by omega)
     simpa [List.getD,show i - 1<c.length by omega,show i<c.length by omega] using this
    have hneg:=TK (c.getD (i - 1) []) (c.getD i [])
    rw[ch hi0,oS (by omega),e1,oS (by omega),T6 (by omega),bS,gz (by omega),ch hi0,oS (by omega),oS (by omega),T6 (by omega),bS,ak (by omega),oS (by omega),OQ (by omega),bS]
    exact fin
   ·rw[cp hi0,cp hi0,oS (by omega),OQ (by omega),bS]
    exact fin
 rw[KN,Cf,cp (by omega)]
 exact k0 c.length 0 (by omega)
structure Mx (c:Ge) (values:List ByteArray) (i:Nat) (a:ByteArray):Prop where
 is:∃k,k<c.length∧(∀v∈c.getD k [],v∈c.getD i [])∧a=values.getD k ByteArray.empty
 le:∀k,k<c.length→(∀v∈c.getD k [],v∈c.getD i [])→uf (values.getD k ByteArray.empty) a≤0
theorem ajD {c:Ge}(hc:Cx c){values:List ByteArray}(hv:Ats c.length values){i:Nat}(hi:i<c.length){out:List Ce}(ho:out.length≤800):∀(q k:Nat) (a:ByteArray),q+k=c.length→
  (∃k,k<c.length∧(∀v∈c.getD k [],v∈c.getD i [])∧a=values.getD k ByteArray.empty)→(∀j,j<k→(∀v∈c.getD j [],v∈c.getD i [])→uf (values.getD j ByteArray.empty) a≤0)→
  ∃a',Mx c values i a'∧jM c values i a k out=gV c values ((i+1:Nat):Int) (out++[(c.getD i [],(a',()))]):=by
 have hl:=hc.len
 have hvl:=hv.1
 have XT:∀k,k<c.length→At (values.getD k ByteArray.empty):=fun k hk=>hv.2 _ (au (by omega))
 have h4:∀k,k<c.length→(c.getD k []).length≤4:=fun k hk=>(hc.ss _ (au hk)).len
 intro q
 induction q with
 |zero=>
  intro k a hk h1 h2
  refine⟨a,⟨h1,fun j hj=>h2 j (by omega)⟩, ?_⟩
  rw[AA,tU,ak (by omega),oS hi,jb (by omega) (by omega),bN (by omega)]
 |succ q ih=>
  intro k a hk h1 h2
  have hk':k<c.length:=by omega
  have hlk:=h4 k hk'
  have hli:=h4 i hi
  have hA:At a:=by obtain⟨k0,a1,_,rfl⟩:=h1;exact XT k0 a1
  have hall:((c.getD k []).all fun v=>decide (v∈c.getD i []))=true↔∀v∈c.getD k [],v∈c.getD i []:=by simp[List.all_eq_true]
  rw[AA,tU,aq (by omega),oS hi,oS hk',aog (by omega) (by omega),bS]
  cases hb:(c.getD k []).all fun v=>decide (v∈c.getD i []) with
  |false=>
   rw[cF,bN (by omega)]
   refine ih (k+1) a (by omega) h1 fun j hj hs=> ?_
   by_cases e:j=k
   ·subst e;have:=hall.2 hs;rw[hb] at this;cases this
   ·exact h2 j (by omega) hs
  |true=>
   have hs:=hall.1 hb
   rw[cT,ada (by omega),XR (XT k hk') hA,bS]
   by_cases g:uf (values.getD k ByteArray.empty) a>0
   ·rw[ch g,ada (by omega),bN (by omega)]
    refine ih (k+1) _ (by omega) ⟨k,hk',hs,rfl⟩ fun j hj hsj=> ?_
    by_cases e:j=k
    ·subst e;rw[Wh];omega
    ·have n1:=C4 (values.getD k ByteArray.empty) a
     exact yK (XT j (by omega)) hA (XT k hk') (h2 j (by omega) hsj) (by omega)
   ·rw[cp g,bN (by omega)]
    refine ih (k+1) a (by omega) h1 fun j hj hsj=> ?_
    by_cases e:j=k
    ·subst e;omega
    ·exact h2 j (by omega) hsj
structure Fi (f:List Ce):Prop where
 len:f.length≤80
 ss:∀x∈f,SS x.1
 at_:∀x∈f,At x.2.1
 up:f.Pairwise RP
 aoi:f.Pairwise fun x y=>x.1≠y.1
 abS:∀j,j<f.length→∀t:List Int,t.Sublist (f.getD j fW).1→t≠ []→t≠(f.getD j fW).1→∃i,i<j∧(f.getD i fW).1=t
theorem Fi.take {f:List Ce}(h:Fi f)(n:Nat):Fi (f.take n):=by
 have hsub:=List.take_sublist n f
 refine⟨by have:=h.len;simp;omega,fun x hx=>h.ss x (hsub.mem hx),fun x hx=>h.at_ x (hsub.mem hx),h.up.sublist hsub,h.aoi.sublist hsub,fun j hj t ht h0 hn=> ?_⟩
 have hj':j<n∧j<f.length:=by simp at hj;omega
 have e:∀i,i≤j→(f.take n).getD i fW=f.getD i fW:=fun i hi=>by simp[List.getD,show i<n by omega]
 rw[e j (Nat.le_refl _)] at ht hn
 obtain⟨i,hi,he⟩:=h.abS j hj'.2 t ht h0 hn
 exact⟨i,hi,by rw[e i (by omega)];exact he⟩
theorem alY {f:List Ce}(ha:∀x∈f,At x.2.1)(hu:f.Pairwise RP){i j:Nat}(hi:i<f.length)(hj:j<f.length)(h:RP (f.getD i fW) (f.getD j fW)):i<j:=by
 have irr:∀x:Ce,¬RP x x:=fun x hx=>by
  rcases hx with hx | ⟨_,hx⟩
  ·rw[Wh] at hx;omega
  ·rw[F1] at hx;omega
 rcases Nat.lt_trichotomy i j with g |g |g
 ·exact g
 ·subst g;exact absurd h (irr _)
 ·have:=List.pairwise_iff_getElem.1 hu j i hj hi g
  have e1:f.getD i fW=f[i]:=by simp[List.getD,hi]
  have e2:f.getD j fW=f[j]:=by simp[List.getD,hj]
  rw[e1,e2] at h
  exact absurd (Wi (ha _ (List.getElem_mem hi)) (ha _ (List.getElem_mem hj)) (ha _ (List.getElem_mem hi)) h this) (irr _)
theorem ahU {c:Ge}(hc:Cx c){values:List ByteArray}(hv:Ats c.length values):∀(q i:Nat) (out:List Ce),q+i=c.length→out.length=i→(∀j,j<i→(out.getD j fW).1=c.getD j []∧Mx c values j (out.getD j fW).2.1)→
  ∃o,o.length=c.length∧(∀j,j<c.length→(o.getD j fW).1=c.getD j []∧Mx c values j (o.getD j fW).2.1)∧gV c values i out=(ll o).bind fun r=>some (r,0):=by
 have hl:=hc.len
 have hvl:=hv.1
 intro q
 induction q with
 |zero=>
  intro i out hi ho h
  obtain rfl:i=c.length:=by omega
  refine⟨out,ho,h, ?_⟩
  rw[Az,tT,ak (by omega)]
 |succ q ih=>
  intro i out hi ho h
  have hi':i<c.length:=by omega
  obtain⟨a,h1,h2⟩:=ajD hc hv hi' (out:=out) (by omega) c.length 0 (values.getD i ByteArray.empty) (by omega) ⟨i,hi',fun v hv=>hv,rfl⟩ (fun j hj=>by omega)
  have e0:((0:Nat):Int)=0:=rfl
  rw[e0] at h2
  rw[Az,tT,aq (by omega),ada (by omega),h2]
  refine ih (i+1) _ (by omega) (by simp;omega) fun j hj=> ?_
  by_cases e:j<i
  ·have e2:(out++[(c.getD i [],(a,()))]).getD j fW=out.getD j fW:=by simp only[List.getD];rw[List.getElem?_append_left (by omega)]
   rw[e2];exact h j e
  ·obtain rfl:j=i:=by omega
   have e2:(out++[(c.getD j [],(a,()))]).getD j fW=(c.getD j [],(a,())):=by simp only[List.getD];rw[List.getElem?_append_right (by omega),ho,Nat.sub_self];rfl
   rw[e2];exact⟨rfl,h1⟩
theorem alZ {c:Ge}(hc:Cx c){values:List ByteArray}(hv:Ats c.length values):∃r,ym c values=some (r,0)∧Fi r:=by
 have hl:=hc.len
 have hvl:=hv.1
 have XT:∀k,k<c.length→At (values.getD k ByteArray.empty):=fun k hk=>hv.2 _ (au (by omega))
 obtain⟨o,o1,o2,o3⟩:=ahU hc hv c.length 0 [] (by omega) rfl (fun j hj=>by omega)
 have oat:∀j,j<c.length→At (o.getD j fW).2.1:=fun j hj=>by
  obtain⟨k,hk,_,e⟩:=(o2 j hj).2.is
  rw[e];exact XT k hk
 have memo:∀x∈o,∃j,j<c.length∧x=o.getD j fW:=fun x hx=>by
  obtain⟨j,hj,e⟩:=List.getElem_of_mem hx
  exact⟨j,by omega,by simp[List.getD,hj,e]⟩
 have aoj:∀i j,i<c.length→j<c.length→i≠j→c.getD i []≠c.getD j []:=fun i j hi hj hij e=>by
  have lt:∀i j,i<j→j<c.length→nb (c.getD i []) (c.getD j [])<0:=fun i j hij hj=>by
   have:=List.pairwise_iff_getElem.1 hc.asc i j (by omega) hj hij
   simpa [List.getD,show i<c.length by omega,hj] using this
  rcases Nat.lt_or_ge i j with g |g
  ·have:=lt i j g hj;rw[e,F1] at this;omega
  ·have:=lt j i (by omega) hi;rw[e,F1] at this;omega
 have akA:o.Pairwise fun x y=>x.1≠y.1:=List.pairwise_iff_getElem.2 fun i j hi hj hij=>by
  have h1:=(o2 i (by omega)).1
  have h2:=(o2 j (by omega)).1
  have e1:o.getD i fW=o[i]:=by simp[List.getD,hi]
  have e2:o.getD j fW=o[j]:=by simp[List.getD,hj]
  rw[e1] at h1
  rw[e2] at h2
  rw[h1,h2]
  exact aoj i j (by omega) (by omega) (by omega)
 have ocs:Cs o:=⟨by omega,fun x hx=>by
  obtain⟨j,hj,rfl⟩:=memo x hx
  rw[(o2 j hj).1]
  exact⟨(hc.ss _ (au hj)).len,oat j hj⟩⟩
 obtain⟨r,r1,r2,r3⟩:=abW ocs akA
 have al0:∀x∈r,∃j,j<c.length∧x=o.getD j fW:=fun x hx=>memo x (r2.mem_iff.1 hx)
 have rat:∀x∈r,At x.2.1:=fun x hx=>by obtain⟨j,hj,rfl⟩:=al0 x hx;exact oat j hj
 refine⟨r, ?_,by rw[r2.length_eq];omega,fun x hx=> ?_,rat,r3,(r2.pairwise_iff (R:=fun x y:Ce=>x.1≠y.1) (fun h=>Ne.symm h)).2 akA,fun j hj t ht h0 hn=> ?_⟩
 ·have k0:∀(q i:Nat),q+i=values.length→jL c values i=some (r,0):=by
   intro q
   induction q with
   |zero=>
    intro i hi
    have e0:((0:Nat):Int)=0:=rfl
    rw[e0] at o3
    rw[Ay,tQ,ak (by omega),o3,r1,bS]
   |succ q ih=>
    intro i hi
    have ha:=XT i (by omega)
    rw[Ay,tQ,aq (by omega),ada (by omega),Ng (by have:=ha.2;omega),bS,ha.1,Bool.not_true,cF,bN (by omega)]
    exact ih (i+1) (by omega)
  rw[PM,Hx,afc hc,bS,lJ rfl,lJ (by omega)]
  exact k0 values.length 0 (by omega)
 ·obtain⟨j,hj,rfl⟩:=al0 x hx
  rw[(o2 j hj).1]
  exact hc.ss _ (au hj)
 ·obtain⟨b,hb,eb⟩:=al0 _ (au (d:=fW) hj)
  rw[eb,(o2 b hb).1] at ht hn
  have htc:t∈c:=hc.abS _ (au hb) t ht h0
  obtain⟨a,ha,ea⟩:=List.getElem_of_mem htc
  have ea':c.getD a []=t:=by simp[List.getD,ha,ea]
  have hya:o.getD a fW∈r:=r2.mem_iff.2 (au (by omega))
  obtain⟨i,hi,ei⟩:=List.getElem_of_mem hya
  have ei':r.getD i fW=o.getD a fW:=by simp[List.getD,hi,ei]
  refine⟨i,alY rat r3 hi hj ?_,by rw[ei',(o2 a ha).1,ea']⟩
  rw[ei',eb]
  obtain⟨k,hk,hks,ek⟩:=(o2 a ha).2.is
  have hle:uf (o.getD a fW).2.1 (o.getD b fW).2.1≤0:=by
   rw[ek]
   exact(o2 b hb).2.le k hk fun v hv=>by
    have h1:=hks v hv
    rw[ea'] at h1
    exact ht.mem h1
  have hsh:nb (o.getD a fW).1 (o.getD b fW).1<0:=by rw[(o2 a ha).1,(o2 b hb).1,ea'];exact abX (afa ht hn)
  by_cases e:uf (o.getD a fW).2.1 (o.getD b fW).2.1=0
  ·exact .inr ⟨e,hsh⟩
  ·exact .inl (by omega)
theorem abY {values:List Int}(hvl:values.length≤1000000000000000000){c:Ge}(hc:Cx c):∀(q i:Nat) (a:List ByteArray),q+i=c.length→Ats i a→∃r,fZ values c i a=some r∧Fi r:=by
 have hcl:=hc.len
 intro q
 induction q with
 |zero=>
  intro i a hi ha
  obtain⟨r,h1,h2⟩:=alZ hc (values:=a) ⟨by have:=ha.1;omega,ha.2⟩
  rw[vW,pD,ak (by omega),h1,bS]
  exact⟨r,rfl,h2⟩
 |succ q ih=>
  intro i a hi ha
  have hal:=ha.1
  have push:∀s,At s→Ats (i+1) (a++[s]):=fun s hs=>⟨by simp;omega,fun x hx=>by
   rcases List.mem_append.1 hx with h |h
   ·exact ha.2 x h
   ·rw[List.mem_singleton.1 h];exact hs⟩
  rw[vW,pD,aq (by omega),bN (by omega)]
  by_cases hv:(values.length:Int)>0
  ·have h1:=Int.emod_nonneg (i:Int) (show (values.length:Int)≠0 by omega)
   have h2:=Int.emod_lt_of_pos (i:Int) hv
   have e:(i:Int).tmod (values.length:Int)=(i:Int) % (values.length:Int):=bD (by omega)
   rw[ch hv,lI (by omega),e,gN h1 h2,lI (by omega)]
   obtain⟨s,h3,h4⟩:=Z8 (IntKind.wrap .i64 (values.getD ((i:Int) % (values.length:Int)).toNat 0+IntKind.wrap .i64 ((i:Int).tdiv (values.length:Int))))
   simp only
   rw[h3,bS,jb (by omega) (by omega)]
   exact ih (i+1) _ (by omega) (push s h4)
  ·obtain⟨s,h3,h4⟩:=Z8 (i:Int)
   rw[cp hv,h3,bS,jb (by omega) (by omega)]
   exact ih (i+1) _ (by omega) (push s h4)
theorem afd {l:Ge}(hl:l.length≤1000000)(hs:∀s∈l,s.length≤1000000000000000000){values:List Int}(hv:values.length≤1000000000000000000):∃r,q6 l values 5 3 6=some r∧Fi r:=by
 obtain⟨c,h1,h2⟩:=ae7 hl hs
 rw[KP,Ci,h1,bS,ajB (by have:=h2.len;omega) (fun s hs=>(h2.ss s hs).len),bS]
 exact abY hv h2 c.length 0 [] (by omega) ⟨rfl,fun s hs=>by cases hs⟩
theorem Wl {f:List Ce}(hf:Fi f){n:Nat}(hn:n≤f.length){s:List Int}:∀(q i:Nat),q+i=n→(∃r:Int,0≤r∧cz f n s i=some r∧∃j,i≤j∧j<n∧(f.getD j fW).1=s)∨(cz f n s i=some (-1)∧∀j,i≤j→j<n→(f.getD j fW).1≠s):=by
 have hl:=hf.len
 intro q
 induction q with
 |zero=>
  intro i hi
  right
  rw[og,kN,ak (by omega)]
  exact⟨rfl,fun j h1 h2=>by omega⟩
 |succ q ih=>
  intro i hi
  have h4:=(hf.ss _ (au (d:=fW) (show i<f.length by omega))).len
  rw[og,kN,aq (by omega),JX (by omega),T6 (by omega),bS]
  by_cases e:nb (f.getD i fW).1 s=0
  ·left
   rw[lH e]
   exact⟨i,by omega,rfl,i,by omega,by omega,Hc.1 e⟩
  ·rw[gz e,bN (by omega)]
   rcases ih (i+1) (by omega) with ⟨r,h1,h2,j,h3,h5,h6⟩ | ⟨h1,h2⟩
   ·exact .inl ⟨r,h1,h2,j,by omega,h5,h6⟩
   ·refine .inr ⟨h1,fun j h3 h5=> ?_⟩
    by_cases g:j=i
    ·subst g;exact fun g2=>e (Hc.2 g2)
    ·exact h2 j (by omega) h5
theorem afe {f:List Ce}(hf:Fi f){n:Nat}(hn:n≤f.length){s:List Int}(h:∃j,j<n∧(f.getD j fW).1=s):∃r:Int,0≤r∧ef f n s=some r:=by
 rw[sr,oh]
 have e0:((0:Nat):Int)=0:=rfl
 rcases Wl hf hn (s:=s) n 0 (by omega) with ⟨r,h1,h2,_⟩ | ⟨_,h2⟩
 ·rw[e0] at h2;exact⟨r,h1,h2⟩
 ·obtain⟨j,h3,h4⟩:=h
  exact absurd h4 (h2 j (Nat.zero_le _) h3)
theorem aff {f:List Ce}(hf:Fi f){n:Nat}(hn:n≤f.length){s:List Int}(h:∀j,j<n→(f.getD j fW).1≠s):ef f n s=some (-1):=by
 rw[sr,oh]
 have e0:((0:Nat):Int)=0:=rfl
 rcases Wl hf hn (s:=s) n 0 (by omega) with ⟨r,_,_,j,_,h3,h4⟩ | ⟨h1,_⟩
 ·exact absurd h4 (h j h3)
 ·rw[e0] at h1;exact h1
theorem Fi.ne {f:List Ce}(hf:Fi f){i j:Nat}(hi:i<f.length)(hj:j<f.length)(h:i≠j):(f.getD i fW).1≠(f.getD j fW).1:=by
 have lt:∀i j,i<j→(hj:j<f.length)→(f.getD i fW).1≠(f.getD j fW).1:=fun i j hij hj=>by
  have:=List.pairwise_iff_getElem.1 hf.aoi i j (by omega) hj hij
  simpa [List.getD,show i<f.length by omega,hj] using this
 rcases Nat.lt_or_ge i j with g |g
 ·exact lt i j g hj
 ·exact Ne.symm (lt j i (by omega) hi)
theorem afg {f:List Ce}(hf:Fi f):jN f=some 0:=by
 have hl:=hf.len
 have aok:∀i,i<f.length→kY f i=some 0:=fun i hi=>by
  have hm:=au (d:=fW) hi
  have ha:=hf.at_ _ hm
  rw[Ck,vX,JX hi,Wk (hf.ss _ hm),bS,lJ rfl,JX hi,Ng (by have:=ha.2;omega),bS,ha.1,Bool.not_true,cF,JX hi,aff hf (by omega) (fun j hj=>hf.ne (by omega) hi (by omega)),bS]
  rfl
 have k1:∀(fc:Ge) (i:Nat),i<f.length→(∀t∈fc,∃j,j<i∧(f.getD j fW).1=t)→fc.length≤4→cw f ((i+1:Nat):Int)=some 0→∀(q k:Nat),q+k=fc.length→dd f i fc k=some 0:=by
  intro fc i hi hfc OV nxt q
  induction q with
  |zero=>
   intro k hk
   rw[oc,kL,ak (by omega)]
   by_cases hi0:(i:Int)>0
   ·have e1:IntKind.wrap .i64 ((i:Int) - 1)=((i - 1:Nat):Int):=by rw[i64_in _ (by omega)];omega
    have a1:=hf.at_ _ (au (d:=fW) hi)
    have a2:=hf.at_ _ (au (d:=fW) (show i - 1<f.length by omega))
    have hlt:RP (f.getD (i - 1) fW) (f.getD i fW):=by
     have:=List.pairwise_iff_getElem.1 hf.up (i - 1) i (by omega) hi (by omega)
     simpa [List.getD,show i - 1<f.length by omega,hi] using this
    have hneg:=C4 (f.getD (i - 1) fW).2.1 (f.getD i fW).2.1
    have hle:uf (f.getD (i - 1) fW).2.1 (f.getD i fW).2.1≤0:=by rcases hlt with h | ⟨h,_⟩<;>omega
    rw[ch hi0,JX hi,e1,JX (by omega),XR a1 a2,bS,ak (by omega),bN (by omega)]
    exact nxt
   ·rw[cp hi0,bN (by omega)];exact nxt
  |succ q ih=>
   intro k hk
   obtain⟨r,h0,h1⟩:=afe hf (n:=i) (by omega) (hfc _ (au (d:=[]) (show k<fc.length by omega)))
   rw[oc,kL,aq (by omega),oS (by omega),h1,bS,ak (by omega),bN (by omega)]
   exact ih (k+1) (by omega)
 have k0:∀(q i:Nat),q+i=f.length→cw f i=some 0:=by
  intro q
  induction q with
  |zero=>intro i hi;rw[oa,kK,ak (by omega)]
  |succ q ih=>
   intro i hi
   have hi':i<f.length:=by omega
   have h4:=(hf.ss _ (au (d:=fW) hi')).len
   have OV:(bW (f.getD i fW).1).length≤4:=Nl h4
   have e0:((0:Nat):Int)=0:=rfl
   have fin:=k1 (bW (f.getD i fW).1) i hi' (fun t ht=>by
    obtain⟨a,b,c⟩:=Ef ht
    exact hf.abS i hi' t a b c) OV (ih (i+1) (by omega)) _ 0 (Nat.add_zero _)
   rw[e0] at fin
   rw[oa,kK,aq (by omega),aok i hi',bS,lJ rfl,JX hi',OQ (by omega),bS]
   exact fin
 rw[AB,tW,cp (by omega)]
 exact k0 f.length 0 (by omega)
end Go.Proofs.YtofjebmoebhiiaaGreatDoor.Ev
namespace Go.Proofs.YtofjebmoebhiiaaGreatDoor.Ev
open Go.Abs Go.IntWalk
def RQ (p:Int)(k:Nat):Int:=(1+((k:Int) % 2)*(p - 2)) % p
def co (p:Int)(fc:Ge)(s:List Int):Nat→Int
 |0=>0
 |k+1=>if s=fc.getD k [] then RQ p k else co p fc s k
def vec (f:List Ce)(p:Int)(j:Nat):List Int:=(List.range j).map fun i=>co p (bW (f.getD j fW).1) (f.getD i fW).1 (bW (f.getD j fW).1).length
def ofc (f:List Ce)(p:Int)(j:Nat):Cl:=(((f.getD j fW).1.length:Int) - 1,((f.getD j fW).2.1,(F8 0 (vec f p j),())))
theorem afh {a b:List Int}(hl:a.length=b.length)(h:∀r,r<a.length→a.getD r 0=b.getD r 0):a=b:=by
 apply List.ext_getElem hl
 intro r h1 h2
 have:=h r h1
 simpa [List.getD,h1,h2] using this
theorem yf (f:List Ce)(p:Int)(j:Nat):(vec f p j).length=j:=by simp[vec]
theorem OR {f:List Ce}{p:Int}{j i:Nat}(h:i<j):(vec f p j).getD i 0=co p (bW (f.getD j fW).1) (f.getD i fW).1 (bW (f.getD j fW).1).length:=by
 unfold vec;simp[List.getD,h]
theorem ahV {f:List Ce}(hf:Fi f){p:Int}(hp:Pr p){j:Nat}(hj:j≤f.length){fc:Ge}{k:Nat}(hk:k<fc.length)(hk4:fc.length≤4){v t2 ai:Nat}{t out:Int}{kX:List (Option (List Cl))}(hv:v≠0):
  ∀(q i:Nat) (aC:List (Option (List Int))) (l:List Int),q+i=j→ah aC v=some l→l.length=j→(∀r,r<j→l.getD r 0=if r<i then co p fc (f.getD r fW).1 (k+1) else co p fc (f.getD r fW).1 k)→
   ∃Be l',eJ f p j v fc k i t t2 out ai kX aC=dw f p j v fc ((k+1:Nat):Int) t t2 out ai kX Be∧ah Be v=some l'∧l'.length=j∧∀r,r<j→l'.getD r 0=co p fc (f.getD r fW).1 (k+1):=by
 have OV:=hf.len
 intro q
 induction q with
 |zero=>
  intro i aC l hi hg hl hr
  rw[qK,mq,ak (by omega),bN (by omega)]
  exact⟨aC,l,rfl,hg,hl,fun r h=>by rw[hr r h,if_pos (by omega)]⟩
 |succ q ih=>
  intro i aC l hi hg hl hr
  have hc:=(hf.ss _ (au (d:=fW) (show i<f.length by omega))).len
  rw[qK,mq,aq (by omega),JX (by omega),oS hk,T6 (by omega),bS,bN (by omega)]
  have hp1:=hp.1
  have hp2:=hp.2.1
  obtain⟨m1,m2,m3⟩:=aoe (k:=(k:Int)) (by omega) ⟨hp1,hp2⟩
  by_cases e:nb (f.getD i fW).1 (fc.getD k [])=0
  ·have g:l[(i:Int).toNat]? =some (l.getD i 0):=by rw[Int.toNat_natCast];simp[List.getD,show i<l.length by omega]
   have hb:∀{β:Type} {f:Int→Option β},(idx l (i:Int)).bind f=f (l.getD i 0):=dD 0 (by omega)
   rw[lH e]
   simp only
   rw[m1,lI (by omega),hg,bS,hb,bS,g,bS,i64_in _ (by omega),bD (by omega)]
   refine ih (i+1) _ _ (by omega) (Go.Abs.rE hg hv) (by rw[List.length_set];exact hl) fun r hrj=> ?_
   rw[Int.toNat_natCast,oR]
   by_cases e2:i=r
   ·subst e2
    rw[if_pos ⟨rfl,by omega⟩,if_pos (by omega),co,if_pos (Hc.1 e)]
    rfl
   ·rw[if_neg (fun h=>e2 h.1),hr r hrj]
    by_cases e3:r<i
    ·rw[if_pos e3,if_pos (by omega)]
    ·rw[if_neg e3,if_neg (by omega)]
  ·rw[gz e]
   refine ih (i+1) aC l (by omega) hg hl fun r hrj=> ?_
   rw[hr r hrj]
   by_cases e3:r<i
   ·rw[if_pos e3,if_pos (by omega)]
   ·rw[if_neg e3]
    by_cases e2:r=i
    ·subst e2
     rw[if_pos (by omega),co,if_neg fun h=>e (Hc.2 h)]
    ·rw[if_neg (by omega)]
theorem ahW {f:List Ce}(hf:Fi f){p:Int}(hp:Pr p){j:Nat}(hj:j<f.length){v t2 ai:Nat}{t out:Int}{kX:List (Option (List Cl))}(hv:v≠0){aa:List Cl}(hc:ah kX ai=some aa)(hcl:aa.length=j):
  ∀(q k:Nat) (aC:List (Option (List Int))) (l:List Int),q+k=(bW (f.getD j fW).1).length→ah aC v=some l→l.length=j→(∀r,r<j→l.getD r 0=co p (bW (f.getD j fW).1) (f.getD r fW).1 k)→
   ∃Q3 Z9 Be,ah Z9 Q3=some (aa++[ofc f p j])∧dw f p j v (bW (f.getD j fW).1) k t t2 out ai kX aC=cL f p ((j+1:Nat):Int) t t2 out Q3 Z9 Be:=by
 have OV:=hf.len
 have h4:=(hf.ss _ (au (d:=fW) hj)).len
 have hs4:(bW (f.getD j fW).1).length≤4:=Nl h4
 intro q
 induction q with
 |zero=>
  intro k aC l hk hg hl hr
  have hlv:l=vec f p j:=afh (by rw[hl,yf]) fun r hrl=>by rw[hr r (by omega),OR (by omega)];congr 1;omega
  rw[qJ,mn,ak (by omega),JX hj]
  simp only
  rw[JX hj,JY hg (by omega),bS,hc,bS,jb (by omega) (by omega),bN (by omega),i64_in _ (by omega),hlv]
  exact⟨_,_,_,lK,rfl⟩
 |succ q ih=>
  intro k aC l hk hg hl hr
  have e0:((0:Nat):Int)=0:=rfl
  obtain⟨Be,l',h1,h2,h3,h5⟩:=ahV (t:=t) (t2:=t2) (out:=out) (ai:=ai) (kX:=kX) hf hp (show j≤f.length by omega) (show k<(bW (f.getD j fW).1).length by omega) hs4 hv j 0 aC l (by omega) hg hl (fun r hrj=>by rw[hr r hrj,if_neg (by omega)])
  rw[e0] at h1
  rw[qJ,mn,aq (by omega),h1]
  exact ih (k+1) Be l' (by omega) h2 h3 h5
theorem ahX {f:List Ce}(hf:Fi f){p:Int}(hp:Pr p){t:Int}{t2:Nat}:∀(q j ai:Nat) (kX:List (Option (List Cl))) (aC:List (Option (List Int))),q+j=f.length→ah kX ai=some ((List.range j).map (ofc f p))→
  cL f p j t t2 p ai kX aC=some ((p,((List.range f.length).map (ofc f p),())),0):=by
 have OV:=hf.len
 intro q
 induction q with
 |zero=>
  intro j ai kX aC hj hc
  obtain rfl:j=f.length:=by omega
  rw[qI,ml,ak (by omega),Nk rfl hc]
  rfl
 |succ q ih=>
  intro j ai kX aC hj hc
  have hj':j<f.length:=by omega
  have h4:=(hf.ss _ (au (d:=fW) hj')).len
  have e0:((0:Nat):Int)=0:=rfl
  obtain⟨o,h0,h4',k1,k2⟩:=ahW (t:=t) (t2:=t2) (out:=p) (v:=aC.length+1) hf hp hj' (by omega) hc (by simp) _ 0 (aC++[some (List.replicate j 0)]) (List.replicate j 0) (Nat.add_zero _) lK (by simp) (fun r hr=>by rw[C2];rfl)
  rw[e0] at k2
  rw[qI,ml,aq (by omega),OE (by omega) (by omega) (by omega),JX hj',OQ (by omega),bS,Int.toNat_natCast,k2]
  exact ih (j+1) o h0 h4' (by omega) (by rw[k1,List.range_succ,List.map_append];rfl)
theorem afi {f:List Ce}{p j t out:Int}{t2 o:Nat}:jK f p j t t2 out o=cL f p j t t2 out o [] []:=rfl
theorem al1 {f:List Ce}(hf:Fi f){p:Int}(hp:Pr p):jy f p=some ((p,((List.range f.length).map (ofc f p),())),0):=by
 have hpr:ed p=some true:=by rw[Wb,decide_eq_true hp]
 have:=ahX hf hp (t:=0) (t2:=0) f.length 0 0 [] [] (by omega) rfl
 have e0:((0:Nat):Int)=0:=rfl
 rw[e0] at this
 rw[FC,Aa,hpr,bS,Bool.not_true,cF,afg hf,bS,lJ rfl,afi]
 exact this
theorem al2 {p:Int}{aa:List Cl}{j:Nat}(h:Good p aa j)(hj:j≤1024):nf p aa j=0:=by
 have hb:=fV aa j
 unfold nf
 have h1:=h.QE
 have h2:=h.at_
 have h3:=h.bd
 have h5:=h.alQ
 rw[hb] at h3 h5
 have h6:TY p (aa.getD j fM).2.2.1=0:=by rw[←hb];exact F7.2 (h.low hj)
 have h7:Di p aa [] (aa.getD j fM).2.2.1=[]:=by rw[←hb];exact h.cyc
 rw[if_neg (fun g=>by
  rcases g with g |g |g
  ·omega
  ·omega
  ·rw[h2] at g;cases g),if_neg (fun g=>g h6),if_neg (fun g=>by
  obtain⟨t,ht,e⟩:=List.any_eq_true.1 g
  have:=(h3.r t ht).1
  simp only[decide_eq_true_eq] at e
  omega),if_neg (fun g=>by
  obtain⟨t,ht,e⟩:=List.any_eq_true.1 g
  rw[h5 t ht] at e
  simp at e),if_neg (fun g=>g h7),if_neg (by rw[h.ord];simp)]
theorem abZ {p:Int}{aa:List Cl}(hp:Pr p)(hl:aa.length≤1024)(h:∀j,j<aa.length→Good p aa j):fk p aa=0:=by
 unfold fk
 rw[if_pos hp,if_neg (by omega)]
 have key:∀(m j:Nat),m+j=aa.length→L5 p aa j m=0:=by
  intro m
  induction m with
  |zero=>intro j hj;rfl
  |succ m ih=>
   intro j hj
   rw[L5,if_neg (by rw[al2 (h j (by omega)) (by omega)];simp)]
   exact ih (j+1) (by omega)
 exact key aa.length 0 (by omega)
theorem Ga {p:Int}(hp:2≤p)(k:Nat):RQ p k=if k % 2=0 then 1 else p - 1:=by
 unfold RQ
 have:(k:Int) % 2=((k % 2:Nat):Int):=by omega
 rw[this]
 by_cases h:k % 2=0
 ·rw[if_pos h,h,show (((0:Nat):Int))=0 from rfl,Int.zero_mul,Int.add_zero,Int.emod_eq_of_lt (by omega) (by omega)]
 ·rw[if_neg h,show k % 2=1 by omega,show (((1:Nat):Int))=1 from rfl,Int.one_mul,Int.emod_eq_of_lt (by omega) (by omega)];omega
def cb (p:Int)(s t:List Int):Int:=co p (bW s) t (bW s).length
def ahY (p:Int)(fc:Ge)(g:List Int→Int):Nat→Int
 |0=>0
 |k+1=>ahY p fc g k+RQ p k*g (fc.getD k [])
theorem adh {p:Int}{fc:Ge}{s:List Int}:∀{k:Nat},(∀i,i<k→s≠fc.getD i [])→co p fc s k=0
 |0,_=>rfl
 |k+1,h=>by rw[co,if_neg (h k (by omega)),adh fun i hi=>h i (by omega)]
theorem T7 {f:List Ce}(hf:Fi f){p:Int}{fc:Ge}{g:List Int→Int}{n:Nat}(hn:n≤f.length):∀{k:Nat},k≤fc.length→(∀i,i<k→∃a,a<n∧(f.getD a fW).1=fc.getD i [])→(∀a b,a<k→b<k→a≠b→fc.getD a []≠fc.getD b [])→
  sm (fun i=>co p fc (f.getD i fW).1 k*g (f.getD i fW).1) n=ahY p fc g k
 |0,_,_,_=>by
  rw[ahY]
  exact RO fun i hi=>by rw[co,Int.zero_mul]
 |k+1,hk,hx,hd=>by
  have ih:=T7 hf (p:=p) (fc:=fc) (g:=g) (n:=n) hn (k:=k) (by omega) (fun i hi=>hx i (by omega)) (fun a b ha hb=>hd a b (by omega) (by omega))
  obtain⟨a,ha,ea⟩:=hx k (by omega)
  rw[ahY, ←ih]
  have e1:RQ p k*g (fc.getD k [])=sm (fun i=>if i=a then RQ p k*g (fc.getD k []) else 0) n:=by
   rw[T3 (a:=a) ha fun i hi hne=>by rw[if_neg hne],if_pos rfl]
  rw[e1, ←Nj]
  refine ng fun i hi=> ?_
  by_cases e:i=a
  ·subst e
   have hz:co p fc (f.getD i fW).1 k=0:=adh fun b hb=>by rw[ea];exact hd k b (by omega) (by omega) (by omega)
   rw[if_pos rfl,co,if_pos ea,hz,ea];omega
  ·rw[if_neg e,co,if_neg (fun h=>hf.ne (by omega) (by omega) e (h.trans ea.symm))];omega
theorem ajE {p:Int}(hp:2≤p){s:List Int}(hs:SS s)(t:List Int):ahY p (bW s) (fun u=>cb p u t) (bW s).length % p=0:=by
 have h4:=hs.len
 have g0:RQ p 0=1:=by rw[Ga hp];rfl
 have g1:RQ p 1=p - 1:=by rw[Ga hp];rfl
 have g2:RQ p 2=1:=by rw[Ga hp];rfl
 have g3:RQ p 3=p - 1:=by rw[Ga hp];rfl
 match s,hs with
 | [],_=>rfl
 | [a],_=>rfl
 | [a,b],_=>
   have e1:cb p [b] t=0:=rfl
   have e2:cb p [a] t=0:=rfl
   show (0+RQ p 0*cb p [b] t+RQ p 1*cb p [a] t) % p=0
   rw[e1,e2];simp
 | [a,b,c],hs=>
   have hne:a<b∧b<c:=by have:=hs.up;simp at this;omega
   have w:∀x y:Int,x≠y→cb p [x,y] t=(if t=[y] then 1 else 0)+(if t=[x] then (p - 1) else 0):=fun x y hxy=>by
    show (if t=[x] then RQ p 1 else if t=[y] then RQ p 0 else 0)=_
    rw[g0,g1]
    by_cases h1:t=[x]
    ·have:t≠ [y]:=fun h=>hxy (by rw[h1] at h;simpa using h)
     rw[if_pos h1,if_neg this,if_pos h1];omega
    ·rw[if_neg h1,if_neg h1];omega
   show (0+RQ p 0*cb p [b,c] t+RQ p 1*cb p [a,c] t+RQ p 2*cb p [a,b] t) % p=0
   rw[g0,g1,g2,w b c (by omega),w a c (by omega),w a b (by omega)]
   have key:∀xa xb xc ya yb:Int,ya=xa*(p - 1)→yb=xb*(p - 1)→(0+1*(xc+yb)+(p - 1)*(xc+ya)+1*(xb+ya)) % p=0:=fun xa xb xc ya yb h1 h2=>by
    have:0+1*(xc+yb)+(p - 1)*(xc+ya)+1*(xb+ya)=p*(xc+xb+xa*(p - 1)):=by rw[h1,h2];grind
    rw[this,Int.mul_emod_right]
   refine key (if t=[a] then 1 else 0) (if t=[b] then 1 else 0) _ _ _ ?_ ?_<;>split<;>omega
 | [a,b,c,d],hs=>
   have hne:a<b∧b<c∧c<d:=by have:=hs.up;simp at this;omega
   have w:∀x y z:Int,x<y→y<z→cb p [x,y,z] t=(if t=[y,z] then 1 else 0)+(if t=[x,z] then (p - 1) else 0)+(if t=[x,y] then 1 else 0):=fun x y z hxy hyz=>by
    show (if t=[x,y] then RQ p 2 else if t=[x,z] then RQ p 1 else if t=[y,z] then RQ p 0 else 0)=_
    rw[g0,g1,g2]
    by_cases h1:t=[x,y]
    ·have n1:t≠ [x,z]:=fun h=>by rw[h1] at h;simp at h;omega
     have n2:t≠ [y,z]:=fun h=>by rw[h1] at h;simp at h;omega
     rw[if_pos h1,if_neg n1,if_neg n2,if_pos h1];omega
    ·rw[if_neg h1]
     by_cases h2:t=[x,z]
     ·have n2:t≠ [y,z]:=fun h=>by rw[h2] at h;simp at h;omega
      rw[if_pos h2,if_neg n2,if_pos h2,if_neg h1];omega
     ·rw[if_neg h2,if_neg h2,if_neg h1];omega
   show (0+RQ p 0*cb p [b,c,d] t+RQ p 1*cb p [a,c,d] t+RQ p 2*cb p [a,b,d] t+RQ p 3*cb p [a,b,c] t) % p=0
   rw[g0,g1,g2,g3,w b c d (by omega) (by omega),w a c d (by omega) (by omega),w a b d (by omega) (by omega),w a b c (by omega) (by omega)]
   have key:∀cd bd bc ad ac ab bd' Pb ac':Int,bd'=bd*(p - 1)→Pb=ad*(p - 1)→ac'=ac*(p - 1)→
     (0+1*(cd+bd'+bc)+(p - 1)*(cd+Pb+ac)+1*(bd+Pb+ab)+(p - 1)*(bc+ac'+ab)) % p=0:=fun cd bd bc ad ac ab bd' Pb ac' h1 h2 h3=>by
    have:0+1*(cd+bd'+bc)+(p - 1)*(cd+Pb+ac)+1*(bd+Pb+ab)+(p - 1)*(bc+ac'+ab)=p*(cd+bd+bc+ad*(p - 1)+ac*(p - 1)+ab):=by rw[h1,h2,h3];grind
    rw[this,Int.mul_emod_right]
   refine key _ (if t=[b,d] then 1 else 0) _ (if t=[a,d] then 1 else 0) (if t=[a,c] then 1 else 0) _ _ _ _ ?_ ?_ ?_<;>split<;>omega
 |_::_::_::_::_::_,hs=>simp at h4
end Go.Proofs.YtofjebmoebhiiaaGreatDoor.Ev
namespace Go.Proofs.YtofjebmoebhiiaaGreatDoor.Ev
open Go.Abs Go.IntWalk
def ofL (f:List Ce)(p:Int):List Cl:=(List.range f.length).map (ofc f p)
theorem Hh (f:List Ce)(p:Int):(ofL f p).length=f.length:=by simp[ofL]
theorem OS {f:List Ce}{p:Int}{j:Nat}(h:j<f.length):(ofL f p).getD j fM=ofc f p j:=by simp[ofL,List.getD,h]
theorem T8 {p:Int}(hp:2≤p){fc:Ge}{s:List Int}:∀k,0≤co p fc s k∧co p fc s k<p
 |0=>⟨by rw[co];omega,by rw[co];omega⟩
 |k+1=>by
  rw[co]
  split
  ·rw[Ga hp];split<;>omega
  ·exact T8 hp k
theorem ahZ {p:Int}{fc:Ge}{s:List Int}:∀{k:Nat},co p fc s k≠0→∃i,i<k∧s=fc.getD i []
 |0,h=>absurd rfl h
 |k+1,h=>by
  rw[co] at h
  split at h
  ·rename_i e;exact⟨k,by omega,e⟩
  ·obtain⟨i,h1,h2⟩:=ahZ h;exact⟨i,by omega,h2⟩
theorem Nn {s:List Int}{i:Nat}(h:i<(bW s).length):(bW s).getD i []=s.eraseIdx i∧i<s.length∧s.length>1:=by
 unfold bW at*
 split at h
 ·rename_i h1
  have h2:i<s.length:=by simpa using h
  rw[if_pos h1]
  exact⟨by simp[List.getD,h2],h2,h1⟩
 ·simp at h
theorem ab0 {s:List Int}(hs:SS s){a b:Nat}(ha:a<(bW s).length)(hb:b<(bW s).length)(h:a≠b):(bW s).getD a []≠(bW s).getD b []:=by
 obtain⟨e1,a1,_⟩:=Nn ha
 obtain⟨e2,b1,_⟩:=Nn hb
 have lt:∀a b,a<b→b<s.length→s.eraseIdx a≠s.eraseIdx b:=fun a b hab hb e=>by
  have h1:(s.eraseIdx a)[a]? =s[a+1]? :=List.getElem?_eraseIdx_of_ge (Nat.le_refl a)
  have h2:(s.eraseIdx b)[a]? =s[a]? :=List.getElem?_eraseIdx_of_lt hab
  rw[e,h2,List.getElem?_eq_getElem (by omega),List.getElem?_eq_getElem (by omega)] at h1
  have:=List.pairwise_iff_getElem.1 hs.up a (a+1) (by omega) (by omega) (by omega)
  simp only[Option.some.injEq] at h1
  omega
 rw[e1,e2]
 rcases Nat.lt_or_ge a b with g |g
 ·exact lt a b g b1
 ·exact Ne.symm (lt b a (by omega) a1)
theorem ah0 {f:List Ce}(hf:Fi f){p:Int}{i j:Nat}(hi:i<f.length)(hj:j<f.length):mx (ofL f p) i j=cb p (f.getD j fW).1 (f.getD i fW).1:=by
 have e:dY (ofL f p) (j:Int)=F8 0 (vec f p j):=by rw[fV,OS hj];rfl
 show cf (dY (ofL f p) (j:Int)) (i:Int)=_
 rw[e,XM,if_pos (Nat.zero_le _),Nat.sub_zero]
 by_cases h:i<j
 ·rw[OR h];rfl
 ·have h1:(vec f p j).getD i 0=0:=by simp[List.getD,List.getElem?_eq_none (show (vec f p j).length≤i by rw[yf];omega)]
  rw[h1]
  by_cases hz:cb p (f.getD j fW).1 (f.getD i fW).1=0
  ·exact hz.symm
  ·obtain⟨k,hk,ek⟩:=ahZ hz
   have hm:(bW (f.getD j fW).1).getD k []∈bW (f.getD j fW).1:=au hk
   obtain⟨m1,m2,m3⟩:=Ef hm
   obtain⟨a,ha,ea⟩:=hf.abS j hj _ m1 m2 m3
   exact absurd (ek.trans ea.symm) (hf.ne hi (by omega) (by omega))
theorem ajF {f:List Ce}(hf:Fi f){p:Int}(hp:Pr p):fk p (ofL f p)=0:=by
 have hl:=hf.len
 have hp2:=hp.1
 have hbd:∀j,j<f.length→dY (ofL f p) (j:Int)=F8 0 (vec f p j):=fun j hj=>by rw[fV,OS hj];rfl
 have hvc:∀j,j<f.length→Vc p j (dY (ofL f p) (j:Int)):=fun j hj=>by
  rw[hbd j hj]
  refine T5 (by rw[yf];omega) fun k=> ?_
  by_cases hk:k<j
  ·rw[OR hk];exact T8 hp2 _
  ·have h1:(vec f p j).getD k 0=0:=by simp[List.getD,List.getElem?_eq_none (show (vec f p j).length≤k by rw[yf];omega)]
   rw[h1];omega
 refine abZ hp (by rw[Hh];omega) fun j hj=> ?_
 rw[Hh] at hj
 have hmem:=au (d:=fW) hj
 have hss:=hf.ss _ hmem
 have h4:=hss.len
 have h0:(f.getD j fW).1.length≠0:=fun e=>hss.ne (List.eq_nil_of_length_eq_zero e)
 have XT:∀i,i<f.length→fI (ofL f p) i=(f.getD i fW).2.1:=fun i hi=>by unfold fI;rw[OS hi];rfl
 have XU:∀i,i<f.length→((ofL f p).getD i fM).1=((f.getD i fW).1.length:Int) - 1:=fun i hi=>by rw[OS hi];rfl
 refine⟨by rw[XU j hj];omega,by rw[XT j hj];exact(hf.at_ _ hmem).1,hvc j hj,fun _=>(hvc j hj).mono (by omega),fun t ht=> ?_, ?_, ?_⟩
 ·have hr:=(hvc j hj).r t ht
  have Yw:=Sr.mem (hvc j hj).s t ht
  obtain⟨i,hi⟩:∃i:Nat,t.1=(i:Int):=⟨t.1.toNat,by omega⟩
  rw[hi,Int.toNat_natCast,XU j hj,XU i (by omega)]
  have hc:=TW (hvc j hj).s t ht
  rw[hi] at hc
  have hm:=ah0 hf (p:=p) (i:=i) (j:=j) (by omega) hj
  have hne:cb p (f.getD j fW).1 (f.getD i fW).1≠0:=by rw[←hm];show cf _ _≠0;rw[hc];omega
  obtain⟨k,hk,ek⟩:=ahZ hne
  obtain⟨e1,e2,e3⟩:=Nn hk
  rw[ek,e1,List.length_eraseIdx_of_lt e2]
  omega
 ·have hv:∀i,i<f.length→Vc p f.length (dY (ofL f p) (i:Int)):=fun i hi=>(hvc i hi).mono (by omega)
  rw[OP (by omega) (n:=f.length) hv hj]
  intro r hr
  have e1:sm (fun i=>mx (ofL f p) i j*mx (ofL f p) r i) f.length=sm (fun i=>co p (bW (f.getD j fW).1) (f.getD i fW).1 (bW (f.getD j fW).1).length*cb p (f.getD i fW).1 (f.getD r fW).1) f.length:=
   ng fun i hi=>by rw[ah0 hf hi hj,ah0 hf hr hi];rfl
  rw[e1,T7 hf (g:=fun u=>cb p u (f.getD r fW).1) (Nat.le_refl _) (Nat.le_refl _) (fun i hi=>by
   have hm:(bW (f.getD j fW).1).getD i []∈bW (f.getD j fW).1:=au hi
   obtain⟨m1,m2,m3⟩:=Ef hm
   obtain⟨a,ha,ea⟩:=hf.abS j hj _ m1 m2 m3
   exact⟨a,by omega,ea⟩) (fun a b ha hb hab=>ab0 hss ha hb hab)]
  exact ajE hp2 hss _
 ·unfold JW
  by_cases hj0:0<j
  ·have hlt:RP (f.getD (j - 1) fW) (f.getD j fW):=by
    have:=List.pairwise_iff_getElem.1 hf.up (j - 1) j (by omega) hj (by omega)
    simpa [List.getD,show j - 1<f.length by omega,hj] using this
   have hneg:=C4 (f.getD (j - 1) fW).2.1 (f.getD j fW).2.1
   have hle:uf (f.getD (j - 1) fW).2.1 (f.getD j fW).2.1≤0:=by rcases hlt with h | ⟨h,_⟩<;>omega
   rw[XT j hj,XT (j - 1) (by omega)]
   have hge:¬uf (f.getD j fW).2.1 (f.getD (j - 1) fW).2.1<0:=by omega
   have e2:decide (lW ((jd (f.getD j fW).2.1).1*(jd (f.getD (j - 1) fW).2.1).2) ((jd (f.getD (j - 1) fW).2.1).1*(jd (f.getD j fW).2.1).2)<0)=false:=decide_eq_false hge
   rw[e2,Bool.and_false]
  ·rw[decide_eq_false hj0,Bool.false_and]
end Go.Proofs.YtofjebmoebhiiaaGreatDoor.Ev
namespace Go.Proofs.YtofjebmoebhiiaaGreatDoor.Ev
open Go.Abs Go.IntWalk
theorem ah1 {p:Int}{x:List Tm}{n:Nat}(hn:n≤1000000)(hx:Vc p n x)(aC:List (Option (List Int))):∃o Be v,kp x n aC=some (o,Be)∧o≠0∧ah Be o=some v∧v.length=n∧∀a:Nat,v.getD a 0=cf x a:=by
 have hl:=hx.length (by omega)
 have hx':∀t∈x,0≤t.1∧t.1<n:=fun t ht=>⟨by have:=Sr.mem hx.s t ht;omega,(hx.r t ht).1⟩
 obtain⟨Be,h1,h2⟩:=aab (out:=aC.length+1) (by omega) hx' (by omega) x.length 0 (aC++[some (List.replicate n 0)]) (List.replicate n 0) (by omega) lK (by simp)
 have e0:((0:Nat):Int)=0:=rfl
 rw[e0] at h1
 rw[ED,uM,OE (by omega) (by omega) (by omega),Int.toNat_natCast]
 simp only
 refine⟨_,Be,_,h1,by omega,h2,by rw[Nh,List.length_replicate],fun a=> ?_⟩
 rw[List.drop_zero,TZ hx.s (by omega) hx.c (fun t ht=>by rw[List.length_replicate];exact(hx' t ht).2),C2]
 split<;>omega
theorem Wm {l:List Cl}{k j:Nat}{v:Cl}:(l.set k v).getD j fM=if k=j∧k<l.length then v else l.getD j fM:=by
 by_cases h:k=j
 ·subst h
  by_cases h2:k<l.length<;>simp[List.getD,h2]
 ·simp[List.getD,h]
theorem ah2 {r:List Cl}{s s' a:Nat}{d:Int}{Uf:ByteArray}{W:List Int}(hs:s<r.length):mx (r.set s (d,(Uf,(F8 0 W,())))) a s'=if s'=s then W.getD a 0 else mx r a s':=by
 show cf (dY _ (s':Int)) (a:Int)=_
 rw[fV,Wm]
 by_cases e:s'=s
 ·subst e
  rw[if_pos ⟨rfl,hs⟩,if_pos rfl]
  simp only
  rw[XM,if_pos (Nat.zero_le _),Nat.sub_zero]
 ·rw[if_neg (fun h=>e h.1.symm),if_neg e]
  show _=cf (dY r (s':Int)) (a:Int)
  rw[fV]
def tmx (p:Int)(aa:List Cl)(i j:Nat)(k m inv:Int)(a s:Nat):Int:=
 if s<j then mx aa a s else if s=j then (k*mx aa a j+m*mx aa a i) % p
 else if a=j then mx aa j s*inv % p else if a=i then (mx aa i s+(p - 1)*mx aa j s % p*inv % p*m) % p else mx aa a s
def OT (aa r:List Cl):Prop:=r.length=aa.length∧∀s,s<aa.length→(r.getD s fM).1=(aa.getD s fM).1∧(r.getD s fM).2.1=(aa.getD s fM).2.1
theorem OT.set {aa r:List Cl}(h:OT aa r){s:Nat}{b:List Tm}:OT aa (r.set s ((r.getD s fM).1,((r.getD s fM).2.1,(b,())))):=by
 refine⟨by rw[List.length_set];exact h.1,fun s' hs'=> ?_⟩
 rw[Wm]
 by_cases e:s=s'
 ·subst e
  rw[if_pos ⟨rfl,by rw[h.1];exact hs'⟩]
  exact h.2 s hs'
 ·rw[if_neg fun g=>e g.1]
  exact h.2 s' hs'
theorem ah3 {p:Int}(hp:Pr p){aa:List Cl}(hl:aa.length≤30)(hG:Gd p aa aa.length){i j:Nat}(hi:i<aa.length)(hj:j<aa.length)(hij:i≠j){k m inv:Int}(hm:0≤m∧m<p)(hv:0≤inv∧inv<p){t:Int}{t2 ai:Nat}:
  ∀(q s:Nat) (kX:List (Option (List Cl))) (aC:List (Option (List Int))) (r:List Cl),q+s=aa.length→j<s→ah kX ai=some r→OT aa r→Gd p r aa.length→(∀a s',s'<aa.length→mx r a s'=if s'<s then tmx p aa i j k m inv a s' else mx aa a s')→
   ∃r',gU i j m inv s p aa t t2 p ai kX aC=some (p,(r',()))∧OT aa r'∧Gd p r' aa.length∧∀a s',s'<aa.length→mx r' a s'=tmx p aa i j k m inv a s':=by
 have hp1:=hp.1
 have hp2:=hp.2.1
 intro q
 induction q with
 |zero=>
  intro s kX aC r hs hjs hg hr hR hM
  rw[xi,qO,ak (by omega),Nk rfl hg]
  exact⟨r,rfl,hr,hR,fun a s' hs'=>by rw[hM a s' hs',if_pos (by omega)]⟩
 |succ q ih=>
  intro s kX aC r hs hjs hg hr hR hM
  have hrl:=hr.1
  have hne:ai≠0:=XQ hg (fun e=>by rw[e] at hrl;simp at hrl;omega)
  have hcs:=hG _ (au (d:=fM) (show s<aa.length by omega))
  obtain⟨o,Be,w,h1,h2,h3,h4,h6⟩:=ah1 (by omega) hcs.2 aC
  have h5:Rs p w:=fun a=>by rw[h6];exact JV (by omega) hcs.2.c a
  have hw:∀a:Nat,w.getD a 0=mx aa a s:=fun a=>by rw[h6];show _=cf (dY aa (s:Int)) (a:Int);rw[fV]
  have wi:=h5 i
  have wj:=h5 j
  have n1:=ae1 (a:=p - 1) (b:=w.getD j 0) (A:=250) (B:=250) (by omega) (by omega)
  have n2:=Int.emod_nonneg ((p - 1)*w.getD j 0) (show p≠0 by omega)
  have n3:=Int.emod_lt_of_pos ((p - 1)*w.getD j 0) (show 0<p by omega)
  have n4:=ae1 (a:=(p - 1)*w.getD j 0 % p) (b:=inv) (A:=250) (B:=250) (by omega) (by omega)
  have n5:=Int.emod_nonneg ((p - 1)*w.getD j 0 % p*inv) (show p≠0 by omega)
  have n6:=Int.emod_lt_of_pos ((p - 1)*w.getD j 0 % p*inv) (show 0<p by omega)
  have n7:=ae1 (a:=(p - 1)*w.getD j 0 % p*inv % p) (b:=m) (A:=250) (B:=250) (by omega) (by omega)
  have n8:=Int.emod_nonneg (w.getD i 0+(p - 1)*w.getD j 0 % p*inv % p*m) (show p≠0 by omega)
  have n9:=Int.emod_lt_of_pos (w.getD i 0+(p - 1)*w.getD j 0 % p*inv % p*m) (show 0<p by omega)
  have e1:IntKind.wrap .i64 (IntKind.wrap .i64 (p - 1)*w.getD j 0)=(p - 1)*w.getD j 0:=by rw[i64_in (p - 1) (by omega),i64_in _ (by omega)]
  have e2:IntKind.wrap .i64 ((IntKind.wrap .i64 (((p - 1)*w.getD j 0).tmod p*inv)).tmod p*m)=(p - 1)*w.getD j 0 % p*inv % p*m:=by
   rw[bD (a:=(p - 1)*w.getD j 0) (by omega),i64_in ((p - 1)*w.getD j 0 % p*inv) (by omega),bD (a:=(p - 1)*w.getD j 0 % p*inv) (by omega),i64_in _ (by omega)]
  rw[xi,qO,aq (by omega),Q2 (by omega),h1,bS]
  simp only
  rw[h3,bS,JZ (by omega),bS,We (by omega),bS,bS,JZ (by omega),bS,We (by omega),bS,e1,lI (by omega),lI (by omega),e2,lI (by omega),bS,JZ (by omega),bS,We (by omega),bS,i64_in _ (by omega),bD (a:=w.getD i 0+_) (by omega),Int.toNat_natCast]
  have g1:=Go.Abs.rE (l':=w.set i ((w.getD i 0+(p - 1)*w.getD j 0 % p*inv % p*m) % p)) h3 h2
  have r1:Rs p (w.set i ((w.getD i 0+(p - 1)*w.getD j 0 % p*inv % p*m) % p)):=h5.set ⟨n8,n9⟩ i
  have l1:(w.set i ((w.getD i 0+(p - 1)*w.getD j 0 % p*inv % p*m) % p)).length=aa.length:=by rw[List.length_set];exact h4
  have gW:∀a:Nat,(w.set i ((w.getD i 0+(p - 1)*w.getD j 0 % p*inv % p*m) % p)).getD a 0=if a=i then (mx aa i s+(p - 1)*mx aa j s % p*inv % p*m) % p else mx aa a s:=fun a=>by
   rw[oR,hw i,hw j,hw a]
   by_cases e:i=a
   ·subst e;rw[if_pos ⟨rfl,by omega⟩,if_pos rfl]
   ·rw[if_neg fun h=>e h.1,if_neg (Ne.symm e)]
  generalize w.set i ((w.getD i 0+(p - 1)*w.getD j 0 % p*inv % p*m) % p)=W at g1 r1 l1 gW ⊢
  have wj2:=r1 j
  have k1:=ae1 (a:=W.getD j 0) (b:=inv) (A:=250) (B:=250) (by omega) (by omega)
  rw[g1,bS,JZ (by omega),bS,We (by omega),bS,lI (by omega),bS,JZ (by omega),bS,We (by omega),bS,i64_in (W.getD j 0*inv) (by omega),bD (a:=W.getD j 0*inv) (by omega),Int.toNat_natCast]
  have g2:=Go.Abs.rE (l':=W.set j (W.getD j 0*inv % p)) g1 h2
  have r2:Rs p (W.set j (W.getD j 0*inv % p)):=r1.set ⟨Int.emod_nonneg _ (by omega),Int.emod_lt_of_pos _ (by omega)⟩ j
  have l2:(W.set j (W.getD j 0*inv % p)).length=aa.length:=by rw[List.length_set];exact l1
  rw[JY g2 (by omega),bS,hg,bS,Q2 (by omega),bS,aky (by omega),bS,bN (by omega),Int.toNat_natCast]
  have hrs:=hR _ (au (d:=fM) (show s<r.length by omega))
  have hq:Gd p (r.set s ((r.getD s fM).1,((r.getD s fM).2.1,(F8 0 (W.set j (W.getD j 0*inv % p)),())))) aa.length:=by
   refine hR.set ?_ _
   exact⟨hrs.1,T5 (Nat.le_of_eq l2) r2⟩
  refine ih (s+1) _ _ _ (by omega) (by omega) (Go.Abs.rE hg hne) hr.set hq fun a s' hs'=> ?_
  rw[ah2 (by omega)]
  by_cases e:s'=s
  ·subst e
   rw[if_pos rfl,if_pos (by omega)]
   unfold tmx
   rw[if_neg (by omega),if_neg (by omega),oR,gW j,if_neg (Ne.symm hij),gW a]
   by_cases ea:a=j
   ·subst ea;rw[if_pos ⟨rfl,by omega⟩,if_pos rfl]
   ·rw[if_neg fun h=>ea h.1.symm,if_neg ea]
  ·rw[if_neg e,hM a s' hs']
   by_cases e3:s'<s
   ·rw[if_pos e3,if_pos (by omega)]
   ·rw[if_neg e3,if_neg (by omega)]
theorem ah4 {p:Int}(hp:Pr p){aa:List Cl}(hl:aa.length≤30)(hG:Gd p aa aa.length){i j:Nat}(hi:i<aa.length)(hj:j<aa.length)(hij:i≠j){k m inv:Int}(hk:0≤k∧k<p)(hm:0≤m∧m<p)(hv:0≤inv∧inv<p){t:Int}{t2 ai v:Nat}(hv0:v≠0)
  {a b:List Int} (ha:a.length=aa.length) (hb:b.length=aa.length) (hra:Rs p a) (hrb:Rs p b) (p5:∀x,x<aa.length→a.getD x 0=mx aa x j) (hbv:∀x,x<aa.length→b.getD x 0=mx aa x i) {kX:List (Option (List Cl))} (hg:ah kX ai=some aa):
  ∀(q s:Nat) (aC:List (Option (List Int))) (w:List Int),q+s=aa.length→ah aC v=some w→w.length=aa.length→Rs p w→(∀x,x<s→w.getD x 0=(k*mx aa x j+m*mx aa x i) % p)→
   ∃r',gT i j k m inv v a b s p aa t t2 p ai kX aC=some (p,(r',()))∧OT aa r'∧Gd p r' aa.length∧∀a s',s'<aa.length→mx r' a s'=tmx p aa i j k m inv a s':=by
 have hp1:=hp.1
 have hp2:=hp.2.1
 intro q
 induction q with
 |zero=>
  intro s aC w hs hw hwl hwr hwv
  have hne:ai≠0:=XQ hg (fun e=>by rw[e] at hj;simp at hj)
  have hrs:=hG _ (au (d:=fM) hj)
  rw[xg,qL,hw,bS,ak (by omega),JY hw (by omega),bS,hg,bS,Q2 (by omega),bS,aky (by omega),bS,bN (by omega),Int.toNat_natCast]
  have hs0:OT aa aa:=⟨rfl,fun s hs=>⟨rfl,rfl⟩⟩
  have hq:Gd p (aa.set j ((aa.getD j fM).1,((aa.getD j fM).2.1,(F8 0 w,())))) aa.length:=by
   refine hG.set ?_ _
   exact⟨hrs.1,T5 (by omega) hwr⟩
  refine ah3 hp hl hG hi hj hij hm hv (aa.length - (j+1)) (j+1) _ aC _ (by omega) (by omega) (Go.Abs.rE hg hne) hs0.set hq fun x s' hs'=> ?_
  rw[ah2 hj]
  by_cases e:s'=j
  ·subst e
   rw[if_pos rfl,if_pos (by omega)]
   unfold tmx
   rw[if_neg (by omega),if_pos rfl]
   by_cases hx:x<aa.length
   ·exact hwv x (by omega)
   ·have z1:w.getD x 0=0:=by simp[List.getD,List.getElem?_eq_none (show w.length≤x by omega)]
    have z2:∀y,y<aa.length→mx aa x y=0:=fun y hy=>by
     have hvc:=(hG _ (au (d:=fM) hy)).2
     show cf (dY aa (y:Int)) (x:Int)=0
     rw[fV]
     by_cases hz:cf (aa.getD y fM).2.2.1 (x:Int)=0
     ·exact hz
     ·obtain⟨t,ht,e⟩:=Wa hz
      have:=(hvc.r t ht).1
      omega
    rw[z1,z2 s' hj,z2 i hi];simp
  ·rw[if_neg e]
   by_cases e3:s'<j+1
   ·rw[if_pos e3];unfold tmx;rw[if_pos (by omega)]
   ·rw[if_neg e3]
 |succ q ih=>
  intro s aC w hs hw hwl hwr hwv
  have as1:=hra s
  have bs1:=hrb s
  have n1:=ae1 (a:=k) (b:=a.getD s 0) (A:=250) (B:=250) (by omega) (by omega)
  have n2:=ae1 (a:=m) (b:=b.getD s 0) (A:=250) (B:=250) (by omega) (by omega)
  rw[xg,qL,hw,bS,aq (by omega),JZ (by omega),JZ (by omega)]
  simp only
  rw[i64_in (k*a.getD s 0) (by omega),i64_in (m*b.getD s 0) (by omega),i64_in (k*a.getD s 0+m*b.getD s 0) (by omega),lI (by omega),bS,JZ (by omega),bS,We (by omega),bS,bD (by omega),bN (by omega),Int.toNat_natCast]
  refine ih (s+1) _ _ (by omega) (Go.Abs.rE hw hv0) (by rw[List.length_set];exact hwl) (hwr.set ⟨Int.emod_nonneg _ (by omega),Int.emod_lt_of_pos _ (by omega)⟩ _) fun x hx=> ?_
  rw[oR]
  by_cases e:s=x
  ·subst e;rw[if_pos ⟨rfl,by omega⟩,p5 s (by omega),hbv s (by omega)]
  ·rw[if_neg fun h=>e h.1];exact hwv x (by omega)
theorem al3 {p:Int}(hp:Pr p){aa:List Cl}(hl:aa.length≤30)(hG:Gd p aa aa.length){i j:Nat}(hi:i<aa.length)(hj:j<aa.length)(hij:i≠j){k m:Int}(hk:1≤k∧k<p)(hm:0≤m∧m<p):
  ∃r',tg (p,(aa,())) i j k m=some (p,(r',()))∧OT aa r'∧Gd p r' aa.length∧∀a s',s'<aa.length→mx r' a s'=tmx p aa i j k m (iv p k) a s':=by
 have hp1:=hp.1
 obtain⟨o,h0,g1,g2⟩:=aaa (p:=p) hl (fun x hx=>by have:=(hG x hx).2.length (by omega);omega)
 obtain⟨a,e1,e2,e3⟩:=Z0 (by omega) (hG _ (au (d:=fM) hj)).2
 obtain⟨b,f1,f2,f3⟩:=Z0 (by omega) (hG _ (au (d:=fM) hi)).2
 have hiv:=ZY hp hk
 rw[MR,DP]
 simp only
 rw[g1,bS,abH hp hk,bS,OE (by omega) (by omega) (by omega),Q2 hj,e1,bS,Q2 hi,f1,bS]
 have e0:((0:Nat):Int)=0:=rfl
 have:=ah4 hp hl hG hi hj hij (k:=k) (m:=m) (inv:=iv p k) (t:=0) (t2:=0) (v:=([]:List (Option (List Int))).length+1) (by omega) hm (by omega) (by omega) e2.len f2.len (e3 (by omega)) (f3 (by omega)) (fun x hx=>by rw[e2.at_ x hx];show _=cf (dY aa (j:Int)) (x:Int);rw[fV]) (fun x hx=>by rw[f2.at_ x hx];show _=cf (dY aa (i:Int)) (x:Int);rw[fV]) g2 aa.length 0 ([]++[some (List.replicate aa.length 0)]) (List.replicate aa.length 0) (by omega) lK (by simp) (Rs.rep (by omega) _) (fun x hx=>by omega)
 rw[e0] at this
 simp only[Int.toNat_natCast]
 exact this
end Go.Proofs.YtofjebmoebhiiaaGreatDoor.Ev
namespace Go.Proofs.YtofjebmoebhiiaaGreatDoor.Ev
open Go.Abs Go.IntWalk
theorem adi {p:Int}(hp:0<p){aa:List Cl}{i j:Nat}(hij:i<j){k m v:Int}{n:Nat}(hZ:∀s,s<n→∀a,s≤a→mx aa a s=0)(hj:j<n){a s:Nat}(hs:s<n):tmx p aa i j k m v a s % p=tE (fun x y=>mx aa x y) i j k m v a s % p:=by
 unfold tmx tE eR uC
 by_cases h1:s<j
 ·rw[if_pos h1]
  have hz:mx aa j s=0:=hZ s hs j (by omega)
  by_cases e:a=j
  ·subst e
   simp only[if_neg (show ¬s=a by omega),if_pos,hz,Int.zero_mul]
  ·by_cases f:a=i
   ·subst f
    simp only[if_neg e,if_neg (show ¬s=j by omega),if_pos,hz,Int.zero_mul,Int.sub_zero]
   ·simp only[if_neg e,if_neg f,if_neg (show ¬s=j by omega)]
 ·rw[if_neg h1]
  by_cases h2:s=j
  ·subst h2
   have z1:mx aa s s=0:=hZ s hs s (Nat.le_refl _)
   have z2:mx aa s i=0:=hZ i (by omega) s (by omega)
   rw[if_pos rfl,Int.emod_emod_of_dvd _ (Int.dvd_refl p)]
   by_cases e:a=s
   ·subst e
    simp only[if_pos,z1,z2,Int.mul_zero,Int.add_zero,Int.zero_mul]
   ·by_cases f:a=i
    ·subst f
     simp only[if_neg e,if_pos,z1,z2,Int.mul_zero,Int.add_zero,Int.zero_mul,Int.sub_zero]
    ·simp only[if_neg e,if_neg f,if_pos]
  ·rw[if_neg h2]
   by_cases e:a=j
   ·subst e
    simp only[if_neg h2,if_pos,Int.emod_emod_of_dvd _ (Int.dvd_refl p)]
   ·by_cases f:a=i
    ·subst f
     simp only[if_neg e,if_neg h2,if_pos,Int.emod_emod_of_dvd _ (Int.dvd_refl p)]
     generalize mx aa a s=y
     generalize mx aa j s=x
     have q1:(p - 1)*x % p=(p - 1)*x - p*((p - 1)*x / p):=Int.emod_def _ _
     have q2:(p - 1)*x % p*v % p=(p - 1)*x % p*v - p*((p - 1)*x % p*v / p):=Int.emod_def _ _
     generalize (p - 1)*x % p*v / p=z2 at q2
     generalize (p - 1)*x / p=z1 at q1
     have q3:y+(p - 1)*x % p*v % p*m=(y - x*v*m)+p*(x*v*m - z1*v*m - z2*m):=by rw[q2,q1];grind
     rw[q3,Int.add_mul_emod_self_left]
    ·simp only[if_neg e,if_neg f,if_neg h2]
theorem ah5 {p:Int}{aa r':List Cl}(h0:fk p aa=0){i j:Nat}(hij:i<j)(hj:j<aa.length)(hd:(aa.getD i fM).1=(aa.getD j fM).1){k m:Int}(hk:1≤k∧k<p)(hm:0≤m∧m<p)(hS:OT aa r')(hG:Gd p r' aa.length)(hM:∀a s',s'<aa.length→mx r' a s'=tmx p aa i j k m (iv p k) a s'):fk p r'=0:=by
 obtain⟨hp,hl,hg⟩:=zA h0
 have hp1:=hp.1
 obtain⟨hSl,hSd⟩:=hS
 have hne:∀a s,s<aa.length→mx aa a s≠0→a<s∧(aa.getD a fM).1=(aa.getD s fM).1 - 1:=fun a s hs hz=>by
  have hgs:=hg s hs
  obtain⟨t,ht,e⟩:=Wa hz
  have h1:=(hgs.bd.r t ht).1
  have h2:=hgs.alQ t ht
  rw[e,Int.toNat_natCast] at h2
  exact⟨by omega,h2⟩
 have hZ:∀s,s<aa.length→∀a,s≤a→mx aa a s=0:=fun s hs a ha=>by
  by_cases hz:mx aa a s=0
  ·exact hz
  ·have:=(hne a s hs hz).1;omega
 have tz:∀a s,s<aa.length→tmx p aa i j k m (iv p k) a s≠0→a<s∧(aa.getD a fM).1=(aa.getD s fM).1 - 1:=fun a s hs ht=>by
  unfold tmx at ht
  split at ht
  ·exact hne a s hs ht
  ·split at ht
   ·rename_i h1 h2
    subst h2
    by_cases y1:mx aa a s=0
    ·by_cases y2:mx aa a i=0
     ·rw[y1,y2] at ht;simp at ht
     ·have:=hne a i (by omega) y2
      exact⟨by omega,by rw[←hd];exact this.2⟩
    ·exact hne a s hs y1
   ·split at ht
    ·rename_i h1 h2 h3
     subst h3
     by_cases y1:mx aa a s=0
     ·rw[y1] at ht;simp at ht
     ·exact hne a s hs y1
    ·split at ht
     ·rename_i h1 h2 h3 h4
      subst h4
      by_cases y1:mx aa a s=0
      ·by_cases y2:mx aa j s=0
       ·rw[y1,y2] at ht;simp at ht
       ·have:=hne j s hs y2
        exact⟨by omega,by rw[hd];exact this.2⟩
      ·exact hne a s hs y1
     ·exact hne a s hs ht
 have Xr:∀s,s<aa.length→Vc p aa.length (dY r' (s:Int)):=fun s hs=>by
  rw[fV]
  exact(hG _ (au (by omega))).2
 have hvs:∀s,s<aa.length→Vc p s (dY r' (s:Int))∧∀t∈dY r' (s:Int),(aa.getD t.1.toNat fM).1=(aa.getD s fM).1 - 1:=fun s hs=>by
  have hv:=Xr s hs
  have key:∀t∈dY r' (s:Int),t.1.toNat<s∧(aa.getD t.1.toNat fM).1=(aa.getD s fM).1 - 1:=fun t ht=>by
   have h1:=Sr.mem hv.s t ht
   have h2:=(hv.r t ht).2
   have h3:=TW hv.s t ht
   have e:t.1=((t.1.toNat:Nat):Int):=by omega
   refine tz _ s hs ?_
   rw[←hM _ s hs]
   show cf (dY r' (s:Int)) ((t.1.toNat:Nat):Int)≠0
   rw[←e,h3];omega
  exact⟨⟨hv.s,fun t ht=>⟨by have:=(key t ht).1;have:=Sr.mem hv.s t ht;omega,(hv.r t ht).2⟩⟩,fun t ht=>(key t ht).2⟩
 have XT:∀s,s<aa.length→fI r' s=fI aa s:=fun s hs=>(hSd s hs).2
 refine abZ hp (by omega) fun s hs=> ?_
 rw[hSl] at hs
 have hgs:=hg s hs
 obtain⟨v1,v2⟩:=hvs s hs
 refine⟨by rw[(hSd s hs).1];exact hgs.QE,by rw[XT s hs];exact hgs.at_,v1,fun _=>v1.mono (by omega),fun t ht=> ?_, ?_, ?_⟩
 ·have h1:=Sr.mem v1.s t ht
  have h2:=(v1.r t ht).1
  rw[(hSd s hs).1,(hSd t.1.toNat (by omega)).1]
  exact v2 t ht
 ·rw[OP (by omega) Xr hs]
  intro r hr
  have e1:sm (fun x=>mx r' x s*mx r' r x) aa.length % p=sm (fun x=>tE (fun x y=>mx aa x y) i j k m (iv p k) x s*tE (fun x y=>mx aa x y) i j k m (iv p k) r x) aa.length % p:=
   ahJ fun x hx=>by
    rw[hM x s hs,hM r x hx,Int.mul_emod,adi (by omega) hij hZ hj hs,adi (by omega) hij hZ hj hx, ←Int.mul_emod]
  rw[e1]
  refine Int.emod_eq_zero_of_dvd (alR (by omega) hj (by omega) ?_ (fun c hc r hr=> ?_) hs hr)
  ·have h1:=XK hp hk
   refine Int.dvd_of_emod_eq_zero ?_
   rw[Int.mul_comm (iv p k) k,Int.sub_emod,h1]
   have:(1:Int) % p=1:=Int.emod_eq_of_lt (by omega) (by omega)
   rw[this];simp
  ·exact Int.dvd_of_emod_eq_zero ((OP (by omega) (fun y hy=>(hg y hy).bd.mono (by omega)) hc).1 (hg c hc).cyc r hr)
 ·have h1:=hgs.ord
  unfold JW at h1 ⊢
  by_cases hs0:0<s
  ·rw[XT s hs,XT (s - 1) (by omega)];exact h1
  ·rw[decide_eq_false hs0,Bool.false_and]
def Go2 (p:Int)(aa:List Cl)(most:Nat):Prop:=aa.length≤most∧Gd p aa aa.length∧fk p aa=0
theorem aah {p:Int}(hp:Pr p){aa:List Cl}(hl:aa.length≤30)(hG:Gd p aa aa.length)(h0:fk p aa=0){n:Nat}{x:List (List Int)}{x2 x4:List Int}{x3 t:Int}{t2 most:Nat}(hn:n+2<x4.length)(hn2:n<24){j:Nat}(hj:j<aa.length){k:Int}(hk:1≤k∧k<p)
  (nxt:∀Wn:List Cl,Wn.length=aa.length→Gd p Wn aa.length→fk p Wn=0→∃r,eB ((n+3:Nat):Int) x x2 x3 x4 t t2 p Wn=some r∧Go2 r.1 r.2.1 most):
  ∀(q:Nat),q≤j→∃r,fX n j k ((q:Int) - 1) x x2 x3 x4 t t2 p aa=some r∧Go2 r.1 r.2.1 most:=by
 have hp1:=hp.1
 have hp2:=hp.2.1
 have e2:IntKind.wrap .i64 ((n:Int)+2)=((n+2:Nat):Int):=by rw[i64_in _ (by omega)];omega
 have e3:IntKind.wrap .i64 ((n:Int)+3)=((n+3:Nat):Int):=by rw[i64_in _ (by omega)];omega
 intro q
 induction q with
 |zero=>
  intro hq
  have c1:(((0:Nat):Int) - 1≥0)=False:=by simp
  rw[vZ,pI,e3]
  simp only[c1,decide_false]
  rw[cF,cF]
  exact nxt aa rfl hG h0
 |succ q ih=>
  intro hq
  have e1:(((q+1:Nat):Int) - 1)=(q:Int):=by omega
  have c1:((q:Int)≥0)=True:=by simp
  rw[vZ,pI,e1,e2,e3]
  simp only[c1,decide_true]
  rw[cT,Q2 (by omega),Q2 (by omega),i64_in ((q:Int) - 1) (by omega)]
  cases hdd:((aa.getD q fM).1 != (aa.getD j fM).1) with
  |true=>rw[cT];exact ih (by omega)
  |false=>
   have XU:(aa.getD q fM).1=(aa.getD j fM).1:=by simpa using hdd
   rw[cF,cT,JZ (by omega),lI (by omega),lI (by omega)]
   have hmm:=vt1 (x:=x4.getD (n+2) 0) (c:=p) (by omega)
   obtain⟨r,h1,h2,h3,h4⟩:=al3 hp hl hG (i:=q) (by omega) hj (by omega) hk hmm
   rw[h1,bS]
   exact nxt r h2.1 h3 (ah5 h0 (by omega) hj XU hk hmm h2 h3 h4)
theorem aai {p:Int}(hp:Pr p){x:List (List Int)}{x2 x4:List Int}{x3 t:Int}{t2 most:Nat}(hmo:most≤30)(hx4:x4.length≤1000000000000000000):∀(q n:Nat) (aa:List Cl),24≤q+n→aa.length≤most→Gd p aa aa.length→fk p aa=0→∃r,eB n x x2 x3 x4 t t2 p aa=some r∧Go2 r.1 r.2.1 most:=by
 have hp1:=hp.1
 have hp2:=hp.2.1
 intro q
 induction q with
 |zero=>
  intro n aa hq hl hG h0
  have hgo:Go2 p aa most:=⟨hl,hG,h0⟩
  rw[vY,pG]
  rw[ak (a:=(n:Int)) (b:=24) (by omega)]
  cases decide (IntKind.wrap .i64 ((n:Int)+2)<(x4.length:Int)) with
  |true=>exact⟨_,rfl,hgo⟩
  |false=>exact⟨_,rfl,hgo⟩
 |succ q ih=>
  intro n aa hq hl hG h0
  have hgo:Go2 p aa most:=⟨hl,hG,h0⟩
  rw[vY,pG]
  by_cases h24:(n:Int)<24
  ·have e1:IntKind.wrap .i64 ((n:Int)+1)=((n+1:Nat):Int):=by rw[i64_in _ (by omega)];omega
   have e2:IntKind.wrap .i64 ((n:Int)+2)=((n+2:Nat):Int):=by rw[i64_in _ (by omega)];omega
   rw[e1,e2,aq h24]
   by_cases hn:((n+2:Nat):Int)<x4.length
   ·rw[aq hn]
    by_cases hc:(aa.length:Int)>0
    ·have ep:IntKind.wrap .i64 (p - 1)=p - 1:=i64_in _ (by omega)
     obtain⟨j1,j2⟩:=vt1 (x:=x4.getD n 0) (c:=(aa.length:Int)) (by omega)
     obtain⟨j,hj⟩:=Int.eq_ofNat_of_zero_le j1
     have k0:=Int.tmod_lt_of_pos (x4.getD (n+1) 0) (show 0<p - 1 by omega)
     have k1:=Int.lt_tmod_of_pos (x4.getD (n+1) 0) (show 0<p - 1 by omega)
     have k2:IntKind.wrap .i64 (IntKind.wrap .i64 ((x4.getD (n+1) 0).tmod (p - 1)+p) - 1)=(x4.getD (n+1) 0).tmod (p - 1)+p - 1:=by rw[i64_in ((x4.getD (n+1) 0).tmod (p - 1)+p) (by omega),i64_in _ (by omega)]
     have k3:((x4.getD (n+1) 0).tmod (p - 1)+p - 1).tmod (p - 1)=((x4.getD (n+1) 0).tmod (p - 1)+p - 1) % (p - 1):=bD (by omega)
     have k4:=Int.emod_nonneg ((x4.getD (n+1) 0).tmod (p - 1)+p - 1) (show p - 1≠0 by omega)
     have k5:=Int.emod_lt_of_pos ((x4.getD (n+1) 0).tmod (p - 1)+p - 1) (show 0<p - 1 by omega)
     rw[ch hc,JZ (by omega),lI (by omega),lI (by omega),JZ (by omega),ep,lI (by omega),lI (by omega)]
     simp only
     rw[k2,k3,hj,i64_in (1+_) (by omega),i64_in ((j:Int) - 1) (by omega)]
     exact aah hp (by omega) hG h0 (by omega) (by omega) (show j<aa.length by omega) (by omega) (fun Wn g1 g2 g3=>ih (n+3) Wn (by omega) (by omega) (by rw[g1];exact g2) g3) j (by omega)
    ·rw[cp hc];exact⟨_,rfl,hgo⟩
   ·rw[ak hn];exact⟨_,rfl,hgo⟩
  ·rw[ak h24]
   cases decide (IntKind.wrap .i64 ((n:Int)+2)<(x4.length:Int)) with
   |true=>exact⟨_,rfl,hgo⟩
   |false=>exact⟨_,rfl,hgo⟩
theorem afj {l:Ge}(hl:l.length≤1000000000000000000)(hs:∀s∈l,s.length≤1000000000000000000){values turns:List Int}(hv:values.length≤1000000000000000000)(ht:turns.length≤1000000000000000000)(field:Int){most:Nat}(hmo:most≤30):
  ∃r,qY (l,(values,(field,(turns,())))) most=some r∧Go2 r.1 r.2.1 most:=by
 rw[KT,Cm]
 simp only
 have ahy:∃n:Nat,(bif decide ((40:Int)<(l.length:Int)) then (40:Int) else (l.length:Int))=n∧n≤40∧n≤l.length:=by
  by_cases h:(40:Int)<l.length
  ·rw[aq h];exact⟨40,rfl,by omega,by omega⟩
  ·rw[ak h];exact⟨l.length,rfl,by omega,by omega⟩
 obtain⟨n,e1,e2,e3⟩:=ahy
 rw[e1,FZ (by omega) (by omega) (by omega)]
 have hcl:(cut l 0 (n:Int)).length≤40:=by simp[cut];omega
 have hcm:∀s∈cut l 0 (n:Int),s∈l:=fun s h=>by
  simp only[cut] at h
  exact List.mem_of_mem_take (List.mem_of_mem_drop h)
 obtain⟨f,h1,h2⟩:=afd (l:=cut l 0 (n:Int)) (by omega) (fun s h=>hs s (hcm s h)) hv
 have hf:=h2.len
 rw[h1,bS]
 have ahy:∃n:Nat,(bif decide ((most:Int)<(f.length:Int)) then (most:Int) else (f.length:Int))=n∧n≤most∧n≤f.length:=by
  by_cases h:(most:Int)<f.length
  ·rw[aq h];exact⟨most,rfl,by omega,by omega⟩
  ·rw[ak h];exact⟨f.length,rfl,by omega,by omega⟩
 obtain⟨k,g1,g2,g3⟩:=ahy
 obtain⟨p,p1,p2⟩:=ahL field
 rw[g1,FZ (by omega) (by omega) (by omega),p1,bS]
 have hct:cut f 0 (k:Int)=f.take k:=by simp[cut]
 have hfi:=h2.take k
 have OV:(f.take k).length≤most:=by simp;omega
 have hlen:(ofL (f.take k) p).length≤most:=by rw[Hh];exact OV
 rw[hct,al1 hfi p2,bS]
 have e0:((0:Nat):Int)=0:=rfl
 have:=aai (x:=l) (x2:=values) (x3:=field) (x4:=turns) (t:=0) (t2:=0) p2 hmo ht 24 0 (ofL (f.take k) p) (by omega) hlen (fun y hy=>by
  obtain⟨j,hj,rfl⟩:=List.mem_map.1 hy
  have hj':j<(f.take k).length:=by simpa using hj
  refine⟨hfi.at_ _ (au (d:=fW) hj'), ?_⟩
  rw[Hh]
  have hp2:=p2.1
  refine T5 (by rw[yf];omega) fun x=> ?_
  by_cases hx:x<j
  ·rw[OR hx];exact T8 hp2 _
  ·have h1:(vec (f.take k) p j).getD x 0=0:=by simp[List.getD,List.getElem?_eq_none (show (vec (f.take k) p j).length≤x by rw[yf];omega)]
   rw[h1];omega) (ajF hfi p2)
 rw[e0] at this
 exact this
theorem Go2.go1 {p:Int}{aa:List Cl}{most:Nat}(h:Go2 p aa most)(hm:most≤30):Go1 p aa:=⟨Nat.le_trans h.1 hm, .inr (zA h.2.2).1,h.2.1⟩
theorem Go2.sz {p:Int}{aa:List Cl}{most:Nat}(h:Go2 p aa most)(hm:most≤30):Sz aa:=(h.go1 hm).sz
end Go.Proofs.YtofjebmoebhiiaaGreatDoor.Ev
namespace Go.Proofs.YtofjebmoebhiiaaGreatDoor.Ev
open Go.Abs Go.IntWalk
theorem ah6:jJ=some true:=(Ll 300).symm.trans (by kernel_rfl)
end Go.Proofs.YtofjebmoebhiiaaGreatDoor.Ev
namespace Go.Abs
abbrev ab1:Ty:= .st (.pair (.slice (.slice (.int .i64))) (.pair (.slice (.int .i64)) (.pair (.int .i64) (.pair (.slice (.int .i64)) .unit))))
end Go.Abs
namespace Go.Proofs.YtofjebmoebhiiaaGreatDoor.Ev
open Go.Abs
theorem afk {l:List (List Int)}{v t:List Int}{f:Int}(h:Bnd ab1 (l,(v,(f,(t,()))))):l.length≤1000000000000000000∧(∀s∈l,s.length≤1000000000000000000)∧v.length≤1000000000000000000∧t.length≤1000000000000000000:=by
 obtain⟨⟨h1,h2⟩,⟨h3,_⟩,_,⟨h4,_⟩,_⟩:=h
 refine⟨Nat.le_trans h1 (by decide),fun s hs=>Nat.le_trans (h2 s hs).1 (by decide),Nat.le_trans h3 (by decide),Nat.le_trans h4 (by decide)⟩
end Go.Proofs.YtofjebmoebhiiaaGreatDoor.Ev
namespace Go.Proofs.YtofjebmoebhiiaaGreatDoor.Ev
open Go.Abs Go.IntWalk
def RT (n d:Int):ByteArray:=if d=1 then fL n else (fL n++bs [47])++fL d
def UQ (s:ByteArray):ByteArray:=RT (-(jd s).1) (jd s).2
theorem ah7 {z:Int}(h:nd z≤1000):(fL z).size≤1001:=Nat.le_trans (uZ z) (by omega)
theorem XV:(bs [47]).size=1:=rfl
theorem cbl {a b:Nat}{α:Type}{x y:α}(h:a≤b):(bif Nat.ble a b then x else y)=x:=by rw[Nat.ble_eq_true_of_le h];rfl
theorem al5 {n d:Int}(hn:nd n≤1000):oV (WR n d)=some (WR (-n) d):=by
 have l1:=Ec n
 rw[Fj,zO]
 simp only[wF]
 rw[P3 (by omega),bS]
theorem ajH {n d:Int}(hn:nd n≤1000)(hd:nd d≤1000)(h0:0<d):mC (WR n d)=some (RT n d):=by
 have l1:=Ec n
 have l2:=Ec d
 have l3:=aeO
 have s1:=ah7 hn
 have s2:=ah7 hd
 rw[DC,xQ]
 simp only[wF]
 rw[abC h0,bS,aeN,bS]
 simp only[wF]
 rw[jT (by omega) (by omega),bS,Ea (by omega),RT]
 by_cases e:d=1
 ·subst e
  rw[if_pos rfl,lJ (wD rfl),bS]
 ·have hc:lW d 1≠0:=by unfold lW;split<;>(try split)<;>omega
  rw[if_neg e,A4 hc,bS,cbl (by rw[XV];omega),Ea (by omega),bS,cbl (by rw[ByteArray.size_append,XV];omega)]
theorem RR {s:ByteArray}{n d:Int}(h:Rt s n d):UQ s=RT (-n) d:=by unfold UQ;rw[h.val]
end Go.Proofs.YtofjebmoebhiiaaGreatDoor.Ev
namespace Go.Proofs.YtofjebmoebhiiaaGreatDoor.Ev
open Go.Abs Go.IntWalk
theorem ah8:∀{l:List Int} {k:Nat},fs l=some k→l=l.take k++47::l.drop (k+1)
 | [],k,h=>by cases h
 |x::r,k,h=>by
  rw[fs] at h
  by_cases e:x=47
  ·rw[if_pos e] at h
   obtain rfl:0=k:=by simpa using h
   subst e
   rfl
  ·rw[if_neg e] at h
   obtain⟨m,hm,rfl⟩:=Option.map_eq_some_iff.1 h
   have ih:=ah8 hm
   rw[List.take_succ_cons,List.drop_succ_cons,List.cons_append, ←ih]
theorem ah9:∀{a b:List Int},(∀x∈a,x≠47)→fs (a++47::b)=some a.length
 | [],b,_=>by rw[List.nil_append,fs,if_pos rfl];rfl
 |x::r,b,h=>by
  rw[List.cons_append,fs,if_neg (h x List.mem_cons_self),ah9 fun y hy=>h y (List.mem_cons_of_mem _ hy)]
  rfl
theorem aia:∀A B:List Int,(A++47::B).drop (A.length+1)=B
 | [],B=>rfl
 |x::A,B=>aia A B
theorem al6 {z:Int}:∀x∈bytesOf (fL z),x≠47:=fun x hx=>by
 rw[dn] at hx
 unfold qT at hx
 rcases List.mem_append.1 hx with hx |hx
 ·split at hx
  ·simp at hx;omega
  ·cases hx
 ·have:=oI _ x hx;omega
theorem Rt.text {s:ByteArray}{n d:Int}(h:Rt s n d):RT n d=s:=by
 unfold RT
 cases h with
 |whole=>rw[if_pos rfl]
 |UL hk h1 h2 hn hd hg=>
  rw[if_neg (by omega)]
  apply jH
  rw[wE,wE,alL, ←h1, ←h2,gA,gA,List.drop_zero, ←aL,List.take_length,List.append_assoc]
  exact(ah8 hk).symm
theorem aom {n d:Int}(hn:n≠0)(hd:2≤d)(hg:Int.gcd n d=1):Rt (RT n d) n d:=by
 have e:bytesOf (RT n d)=bytesOf (fL n)++47::bytesOf (fL d):=by
  unfold RT
  rw[if_neg (by omega),wE,wE,alL,List.append_assoc];rfl
 have hl:(bytesOf (fL n)).length=(bytesOf (fL n)).length:=rfl
 refine Rt.UL (k:=(bytesOf (fL n)).length) (by rw[e];exact ah9 al6) ?_ ?_ hn hd hg
 ·apply jH
  rw[gA,List.drop_zero,e,List.take_left]
 ·apply jH
  rw[gA, ←aL,List.take_length,e]
  exact aia _ _
theorem Rt.opp {s:ByteArray}{n d:Int}(h:Rt s n d):Rt (UQ s) (-n) d:=by
 rw[RR h]
 cases h with
 |whole=>unfold RT;rw[if_pos rfl];exact Rt.whole _
 |UL hk h1 h2 hn hd hg=>exact aom (by omega) hd (by rw[Int.neg_gcd];exact hg)
theorem Rt.ajI {s:ByteArray}{n d:Int}(h:Rt s n d):UQ (UQ s)=s:=by
 rw[RR h.opp,Int.neg_neg,h.text]
theorem Rt.aql {s:ByteArray}{n d:Int}(h:Rt s n d)(hs:s.size≤20):nd n≤20∧nd d≤20:=by
 cases h with
 |whole=>exact⟨by have:=wJ n;omega,by have:=JT (x:=1) (by decide);omega⟩
 |UL hk h1 h2 hn hd hg=>
  refine⟨?_, ?_⟩
  ·have e1:=wJ n;rw[←h1] at e1;exact Nat.le_trans e1 (Nat.le_trans (extract_size s _ _) hs)
  ·have e1:=wJ d;rw[←h2] at e1;exact Nat.le_trans e1 (Nat.le_trans (extract_size s _ _) hs)
theorem aib {s:ByteArray}{n d:Int}(h:Rt s n d)(hs:s.size≤20):(UQ s).size≤100:=by
 obtain⟨h1,h2⟩:=h.aql hs
 have s1:=uZ (-n)
 have s2:=uZ d
 rw[TH] at s1
 rw[RR h]
 unfold RT
 split
 ·omega
 ·rw[ByteArray.size_append,ByteArray.size_append,XV];omega
end Go.Proofs.YtofjebmoebhiiaaGreatDoor.Ev
namespace Go.Abs
abbrev aon:Ty:= .st (.pair (.int .i64) (.pair (.str) (.pair (.ref 2) (.unit))))
end Go.Abs
namespace Go.Proofs.YtofjebmoebhiiaaGreatDoor.Ev
open Go.Abs Go.IntWalk
theorem T9:∀(v:List Int) (i:Nat) (x:Int),F8 i (v++[x])=F8 i v++(if x=0 then [] else [(((i+v.length:Nat):Int),(x,()))])
 | [],i,x=>by by_cases h:x=0<;>simp[F8,h]
 |y::r,i,x=>by
  have e:i+1+r.length=i+(r.length+1):=by omega
  by_cases h:y=0
  ·simp only[List.cons_append,F8,h,ne_eq,not_true_eq_false,if_false,T9 r (i+1) x,List.length_cons,e]
  ·simp only[List.cons_append,F8,h,ne_eq,not_false_eq_true,if_true,T9 r (i+1) x,List.length_cons,e]
def dvv (aa:List Cl)(n m j:Nat):List Int:=(List.range m).map fun i=>cf (dY aa ((n - 1 - i:Nat):Int)) ((n - 1 - j:Nat):Int)
def Dv (aa:List Cl)(n m j:Nat):List Tm:=F8 0 (dvv aa n m j)
def pt (l:List Tm)(r:Int)(m:Nat):List Tm:=if cf l r=0 then [] else [((m:Int),(cf l r,()))]
theorem ajJ (aa:List Cl)(n m j:Nat):Dv aa n (m+1) j=Dv aa n m j++pt (dY aa ((n - 1 - m:Nat):Int)) ((n - 1 - j:Nat):Int) m:=by
 unfold Dv dvv pt
 rw[List.range_succ,List.map_append,List.map_cons,List.map_nil,T9]
 simp
theorem Wo (aa:List Cl)(n m j:Nat):(Dv aa n m j).length≤m:=by
 have:=T0 (dvv aa n m j) 0
 have e:(dvv aa n m j).length=m:=by simp[dvv]
 unfold Dv;omega
theorem al7 (r:Int)(m:Nat):pt [] r m=[]:=by unfold pt;rw[ER,if_pos rfl]
theorem Ua {t:Tm}{r:Int}(h:t.1≠r):∀l:List Tm,cf (l++[t]) r=cf l r
 | []=>by rw[List.nil_append,qg,if_neg h]
 |x::l=>by rw[List.cons_append,qg,qg,Ua h l]
theorem adj {t:Tm}:∀(l:List Tm) (lo:Int),Sr lo (l++[t])→cf l t.1=0∧cf (l++[t]) t.1=t.2.1
 | [],lo,h=>⟨rfl,by rw[List.nil_append,qg,if_pos rfl]⟩
 |x::l,lo,h=>by
  have h2:Sr x.1 (l++[t]):=h.2
  have hlt:=h2.mem t (by simp)
  rw[List.cons_append,qg,qg,if_neg (by omega),if_neg (by omega)]
  exact adj l x.1 h2
theorem Sr.left {b:List Tm}:∀{a:List Tm} {lo:Int},Sr lo (a++b)→Sr lo a
 | [],_,_=>trivial
 |_::_,_,h=>⟨h.1,Sr.left h.2⟩
theorem afl {l:List Tm}{i:Nat}(h:i<l.length):l.take (i+1)=l.take i++[l.getD i ni]:=by
 rw[List.take_add_one,List.getElem?_eq_getElem h];simp[List.getD,h]
theorem ajK {l:List Tm}{i:Nat}(hs:Sr (-1) l)(h:i<l.length):cf (l.take i) (l.getD i ni).1=0∧cf (l.take (i+1)) (l.getD i ni).1=(l.getD i ni).2.1∧∀r,(l.getD i ni).1≠r→cf (l.take (i+1)) r=cf (l.take i) r:=by
 have h2:Sr (-1) (l.take (i+1)):=by
  have h3:=hs
  rw[←List.take_append_drop (i+1) l] at h3
  exact Sr.left h3
 rw[afl h] at h2 ⊢
 obtain⟨h4,h5⟩:=adj _ _ h2
 exact⟨h4,h5,fun r hr=>Ua hr _⟩
abbrev CR:=Int×ByteArray×Nat×Unit
abbrev Gf:CR:=(0,(ByteArray.empty,(0,())))
theorem Qc {α:Type}(d:α){l:List α}{k j:Nat}{v:α}:(l.set k v).getD j d=if k=j∧k<l.length then v else l.getD j d:=by
 by_cases h:k=j
 ·subst h
  by_cases h2:k<l.length<;>simp[List.getD,h2]
 ·simp[List.getD,h]
theorem Kt {α:Type}(xs:List (Option (List α)))(m:Nat):(dF xs m).length=xs.length:=by cases m<;>simp[dF]
theorem afm {α:Type}{xs:List (Option (List α))}{m r:Nat}{l:List α}{o:Option (List α)}(h:ah xs r=some l)(hne:r=m→r=0):ah (dF xs m++[o]) r=some l:=by
 cases r with
 |zero=>exact h
 |succ r=>
  have atT:r+1≠m:=fun e=>by have:=hne e;omega
  have hx:xs[r]? =some (some l):=by
   have h':(match xs[r]? with |some o=>o |none=>none)=some l:=h
   cases hr:xs[r]? with
   |none=>rw[hr] at h';cases h'
   |some o=>rw[hr] at h';simp only at h';rw[h']
  have hlt:r<xs.length:=(List.getElem?_eq_some_iff.1 hx).1
  have hk:(dF xs m)[r]? =some (some l):=by
   cases m with
   |zero=>exact hx
   |succ m=>show (xs.set m none)[r]? =_;rw[List.getElem?_set_ne (by omega)];exact hx
  show (match (dF xs m++[o])[r]? with |some o=>o |none=>none)=some l
  rw[List.getElem?_append_left (by rw[Kt];exact hlt),hk]
theorem UR {α:Type}{xs:List (Option (List α))}{m:Nat}{l:List α}:ah (dF xs m++[some l]) ((dF xs m).length+1)=some l:=lK
structure DS (n:Nat) (ds:Nat→Int×ByteArray) (rs:List CR) (hp2:List (Option (List Tm))) (L:Nat→List Tm):Prop where
 len:rs.length=n
 get:∀j,j<n→ah hp2 (rs.getD j Gf).2.2.1=some (L j)
 inj:∀i j,i<n→j<n→i≠j→(rs.getD i Gf).2.2.1=(rs.getD j Gf).2.2.1→(rs.getD i Gf).2.2.1=0
 lt:∀j,j<n→(rs.getD j Gf).2.2.1≤hp2.length
 ds:∀j,j<n→(rs.getD j Gf).1=(ds j).1∧(rs.getD j Gf).2.1=(ds j).2
theorem DS.congr {n:Nat}{ds:Nat→Int×ByteArray}{rs:List CR}{hp2:List (Option (List Tm))}{L L':Nat→List Tm}(h:DS n ds rs hp2 L)(e:∀j,j<n→L j=L' j):DS n ds rs hp2 L':=
 ⟨h.len,fun j hj=>by rw[h.get j hj,e j hj],h.inj,h.lt,h.ds⟩
theorem DS.step {n:Nat}{ds:Nat→Int×ByteArray}{rs:List CR}{hp2:List (Option (List Tm))}{L:Nat→List Tm}(h:DS n ds rs hp2 L){j:Nat}(hj:j<n){x:Tm}:
  DS n ds (rs.set j ((rs.getD j Gf).1,((rs.getD j Gf).2.1,((dF hp2 (rs.getD j Gf).2.2.1).length+1,())))) (dF hp2 (rs.getD j Gf).2.2.1++[some (L j++[x])]) (fun i=>if i=j then L j++[x] else L i):=by
 have hl:=h.len
 have nw:∀i,(rs.set j ((rs.getD j Gf).1,((rs.getD j Gf).2.1,((dF hp2 (rs.getD j Gf).2.2.1).length+1,())))).getD i Gf=if i=j then ((rs.getD j Gf).1,((rs.getD j Gf).2.1,((dF hp2 (rs.getD j Gf).2.2.1).length+1,()))) else rs.getD i Gf:=fun i=>by
  rw[Qc]
  by_cases e:i=j
  ·subst e;rw[if_pos ⟨rfl,by omega⟩,if_pos rfl]
  ·rw[if_neg (fun h=>e h.1.symm),if_neg e]
 refine⟨by rw[List.length_set];exact hl,fun i hi=> ?_,fun a b ha hb hab=> ?_,fun i hi=> ?_,fun i hi=> ?_⟩
 ·rw[nw]
  by_cases e:i=j
  ·subst e
   rw[if_pos rfl]
   simp only[if_true]
   exact UR
  ·rw[if_neg e]
   simp only[if_neg e]
   exact afm (h.get i hi) fun h2=>h.inj i j hi hj e h2
 ·rw[nw,nw]
  by_cases ea:a=j
  ·subst ea
   rw[if_pos rfl,if_neg (Ne.symm hab)]
   intro e2
   have:=h.lt b hb
   simp only at e2
   rw[Kt] at e2
   omega
  ·rw[if_neg ea]
   by_cases eb:b=j
   ·subst eb
    rw[if_pos rfl]
    intro e2
    have:=h.lt a ha
    simp only at e2
    rw[Kt] at e2
    omega
   ·rw[if_neg eb]
    exact h.inj a b ha hb hab
 ·rw[nw,List.length_append,Kt]
  by_cases e:i=j
  ·rw[if_pos e];simp
  ·rw[if_neg e];exact Nat.le_succ_of_le (h.lt i hi)
 ·rw[nw]
  by_cases e:i=j
  ·subst e;rw[if_pos rfl];exact h.ds i hi
  ·rw[if_neg e];exact h.ds i hi
theorem ajL (ae:List aV)(y:Tm):snap ae tTm (flat tTm y)=some (y,[]):=by
 obtain⟨a,b,u⟩:=y
 rfl
theorem ajM {ae:List aV}{hp2:List (Option (List Tm))}(h2:ae[2]? =some ⟨44,tTm,0,true,hp2⟩){r:CR}{l:List Tm}(h:ah hp2 r.2.2.1=some l):snap ae tCl (flat aon r)=some ((r.1,(r.2.1,(l,()))),[]):=by
 obtain⟨a,b,m,u⟩:=r
 simp only at h ⊢
 have e:snap ae (.slice tTm) [⟨.ref 2,m⟩]=some (l,[]):=by
  unfold snap Is
  simp only
  rw[h2]
  simp only
  cases m with
  |zero=>
   have:l=[]:=by simpa [ah] using h.symm
   subst this
   rfl
  |succ k=>
   have hb:Nat.beq (k+1) 0=false:=rfl
   rw[hb,h]
   simp only[cond_false,Option.bind_some]
   rw[zD (g:=fun x:Tm=>x) l (fun y _=>by rw[ajL])]
   simp
 show snap ae (.pair (.int .i64) (.pair .str (.pair (.slice tTm) .unit))) [⟨.int .i64,a⟩,⟨.str,b⟩,⟨.ref 2,m⟩]=_
 unfold snap
 rw[show snap ae (.int .i64) [⟨.int .i64,a⟩,⟨.str,b⟩,⟨.ref 2,m⟩]=some (a,[⟨.str,b⟩,⟨.ref 2,m⟩]) from rfl]
 simp only
 unfold snap
 rw[show snap ae .str [⟨.str,b⟩,⟨.ref 2,m⟩]=some (b,[⟨.ref 2,m⟩]) from rfl]
 simp only
 unfold snap
 rw[e]
 rfl
theorem ab2 {ae:List aV}{hp1:List (Option (List CR))}{hp2:List (Option (List Tm))}(h1:ae[1]? =some ⟨42,aon,0,true,hp1⟩)(h2:ae[2]? =some ⟨44,tTm,0,true,hp2⟩){p:Int}{n:Nat}{rs:List CR}(hg:ah hp1 n=some rs){g:CR→List Tm}(hr:∀r∈rs,ah hp2 r.2.2.1=some (g r)):
  typed ae tCh (.rv (.agg [⟨.int .i64,p⟩,⟨.ref 1,n⟩]))=some (p,(rs.map fun r=>(r.1,(r.2.1,(g r,()))),())):=by
 unfold typed
 simp only
 have e:snap ae (.slice tCl) [⟨.ref 1,n⟩]=some (rs.map fun r=>(r.1,(r.2.1,(g r,()))),[]):=by
  unfold snap Is
  simp only
  rw[h1]
  simp only
  cases n with
  |zero=>
   have:rs=[]:=by simpa [ah] using hg.symm
   subst this
   rfl
  |succ k=>
   have hb:Nat.beq (k+1) 0=false:=rfl
   rw[hb,hg]
   simp only[cond_false,Option.bind_some]
   rw[zD (g:=fun r:CR=>(r.1,(r.2.1,(g r,())))) rs (fun y hy=>by rw[ajM h2 (hr y hy)])]
   simp
 unfold yL
 rw[show snap ae (.pair (.int .i64) (.pair (.slice tCl) (.unit))) [⟨.int .i64,p⟩,⟨.ref 1,n⟩]=some ((p,(rs.map fun r=>(r.1,(r.2.1,(g r,()))),())),[]) from by
  unfold snap
  rw[show snap ae (.int .i64) [⟨.int .i64,p⟩,⟨.ref 1,n⟩]=some (p,[⟨.ref 1,n⟩]) from rfl]
  simp only
  unfold snap
  rw[e]
  rfl]
end Go.Proofs.YtofjebmoebhiiaaGreatDoor.Ev
namespace Go.Proofs.YtofjebmoebhiiaaGreatDoor.Ev
open Go.Abs Go.IntWalk
theorem adk {α β:Type}(d:α){xs:List α}{k:Nat}{f:α→Option β}(h:k<xs.length):(xs[k]?).bind f=f (xs.getD k d):=by rw[List.getElem?_eq_getElem h];simp[List.getD,h]
theorem XW {last k c t4 p:Int}{aa:List Cl}{t5 o:Nat}{hp1:List (Option (List CR))}:ib last k c aa t4 t5 p o hp1=iz last k c aa t4 t5 p o hp1 []:=rfl
theorem XX {aa:List Cl}{n:Nat}(hc:aa.length=n)(hn:n≤1024){q0:Int}{m:Nat}(hm:m<n)(hv:Vc q0 n (dY aa ((n - 1 - m:Nat):Int))){ds:Nat→Int×ByteArray}{c t4 p:Int}{t5:Nat}:
  ∀(q i:Nat) (rs:List CR) (hp2:List (Option (List Tm))),q+i=(dY aa ((n - 1 - m:Nat):Int)).length→DS n ds rs hp2 (fun j=>Dv aa n m j++pt ((dY aa ((n - 1 - m:Nat):Int)).take i) ((n - 1 - j:Nat):Int) m)→
  ∃rs' afn,DS n ds rs' afn (Dv aa n (m+1))∧eY ((n:Int) - 1) ((n - 1 - m:Nat):Int) (dY aa ((n - 1 - m:Nat):Int)) (dY aa ((n - 1 - m:Nat):Int)).length i c aa t4 t5 p 1 [some rs] hp2=
   iz ((n:Int) - 1) (((n - 1 - m:Nat):Int) - 1) c aa t4 t5 p 1 [some rs'] afn:=by
 intro q
 induction q with
 |zero=>
  intro i rs hp2 hi h
  refine⟨rs,hp2,h.congr fun j hj=> ?_, ?_⟩
  ·rw[List.take_of_length_le (by omega),ajJ]
  ·rw[vq,rq,ak (by omega),i64_in (((n - 1 - m:Nat):Int) - 1) (by omega)]
 |succ q ih=>
  intro i rs hp2 hi h
  generalize hb:dY aa ((n - 1 - m:Nat):Int)=b at*
  have hi':i<b.length:=by omega
  have hlen:b.length≤1024:=by have:=hv.length (by omega);omega
  have ht:b.getD i ni∈b:=au hi'
  obtain⟨c1,c2,c3⟩:=ajK hv.s hi'
  have r1:=hv.r _ ht
  have r0:=Sr.mem hv.s _ ht
  generalize hte:b.getD i ni=t at*
  obtain⟨j,hj⟩:∃j:Nat,(n:Int) - 1 - t.1=(j:Int):=⟨((n:Int) - 1 - t.1).toNat,by omega⟩
  have hjn:j<n:=by omega
  have ej:((n - 1 - j:Nat):Int)=t.1:=by omega
  have g1:ah [some rs] 1=some rs:=rfl
  have ew:IntKind.wrap .i64 ((n:Int) - 1 - t.1)=(j:Int):=by rw[hj,i64_in _ (by omega)]
  have em:IntKind.wrap .i64 ((n:Int) - 1 - ((n - 1 - m:Nat):Int))=(m:Int):=by rw[i64_in _ (by omega)];omega
  have hjl:j<rs.length:=by rw[h.len];exact hjn
  have hg:=h.get j hjn
  have st:=h.step hjn (x:=((m:Int),(t.2.1,())))
  rw[ej,show pt (b.take i) t.1 m=[] from by unfold pt;rw[if_pos c1],List.append_nil] at hg
  have hll:=Wo aa n m j
  have hs1:∀rs',je [some rs] 1 rs'=[some rs']:=fun _=>rfl
  obtain⟨rs',afn,k1,k2⟩:=ih (i+1) _ _ (by omega) (st.congr fun j' hj'=>by
   by_cases e:j'=j
   ·subst e
    rw[if_pos rfl,ej,show pt (b.take i) t.1 m=[] from by unfold pt;rw[if_pos c1],show pt (b.take (i+1)) t.1 m=[((m:Int),(t.2.1,()))] from by unfold pt;rw[c2,if_neg (by omega)],List.append_nil]
   ·rw[if_neg e]
    have:cf (b.take (i+1)) ((n - 1 - j':Nat):Int)=cf (b.take i) ((n - 1 - j':Nat):Int):=c3 _ (by omega)
    unfold pt
    rw[this])
  refine⟨rs',afn,k1, ?_⟩
  rw[←k2,vq,rq,aq (by omega),dD ni hi',hte,g1,bS,ew,dD Gf hjl,bS,Int.toNat_natCast,adk Gf hjl,hg,bS,jb (by omega) (by omega),bS,adk Gf hjl,hs1,em,bN (by omega)]
  simp only[ej,show pt (b.take i) t.1 m=[] from by unfold pt;rw[if_pos c1],List.append_nil]
theorem XY {aa:List Cl}{n:Nat}(hc:aa.length=n)(hn:n≤1024){q0:Int}(hv:∀j,j<n→Vc q0 n (dY aa j)){ds:Nat→Int×ByteArray}{c t4 p:Int}{t5:Nat}:
  ∀(q m:Nat) (rs:List CR) (hp2:List (Option (List Tm))),q+m=n→DS n ds rs hp2 (Dv aa n m)→
  iz ((n:Int) - 1) ((n:Int) - 1 - m) c aa t4 t5 p 1 [some rs] hp2=some ((p,((List.range n).map fun j=>((ds j).1,((ds j).2,(Dv aa n n j,()))),())),0):=by
 intro q
 induction q with
 |zero=>
  intro m rs hp2 hq h
  obtain rfl:m=n:=by omega
  have hr:∀r∈rs,ah hp2 r.2.2.1=some ((ah hp2 r.2.2.1).getD []):=fun r hr=>by
   obtain⟨j,hj,e⟩:=List.getElem_of_mem hr
   have:=h.get j (by rw[←h.len];exact hj)
   have e2:rs.getD j Gf=r:=by simp[List.getD,hj,e]
   rw[e2] at this
   rw[this];rfl
  rw[vr,ry,qS (by omega),ab2 (hp1:=[some rs]) (hp2:=hp2) rfl rfl (rs:=rs) rfl hr]
  have e:(rs.map fun r=>(r.1,(r.2.1,((ah hp2 r.2.2.1).getD [],()))))=((List.range m).map fun j=>((ds j).1,((ds j).2,(Dv aa m m j,())))):=by
   apply List.ext_getElem
   ·simp[h.len]
   ·intro j hj1 hj2
    have hj:j<m:=by simpa using hj2
    have hjl:j<rs.length:=by rw[h.len];exact hj
    have e2:rs.getD j Gf=rs[j]:=by simp[List.getD,hjl]
    obtain⟨d1,d2⟩:=h.ds j hj
    have d3:=h.get j hj
    rw[e2] at d1 d2 d3
    simp only[List.getElem_map,List.getElem_range]
    rw[d1,d2,d3];rfl
  rw[e];rfl
 |succ q ih=>
  intro m rs hp2 hq h
  have hm:m<n:=by omega
  have ek:(n:Int) - 1 - m=((n - 1 - m:Nat):Int):=by omega
  have hv':=hv (n - 1 - m) (by omega)
  obtain⟨rs',afn,k1,k2⟩:=XX hc hn hm hv' (c:=c) (t4:=t4) (p:=p) (t5:=t5) (dY aa ((n - 1 - m:Nat):Int)).length 0 rs hp2 (by omega) (h.congr fun j hj=>by rw[List.take_zero,al7,List.append_nil])
  have e0:((0:Nat):Int)=0:=rfl
  rw[e0] at k2
  have ek2:((n - 1 - m:Nat):Int) - 1=(n:Int) - 1 - ((m+1:Nat):Int):=by omega
  rw[ek,vr,ry,tb (by omega),dD fM (by omega), ←fV,k2,ek2]
  exact ih (m+1) rs' afn (by omega) k1
def dsf (aa:List Cl)(n j:Nat):Int×ByteArray:=(4 - (aa.getD (n - 1 - j) fM).1,UQ (fI aa (n - 1 - j)))
def cN (aa:List Cl):List Cl:=(List.range aa.length).map fun j=>((dsf aa aa.length j).1,((dsf aa aa.length j).2,(Dv aa aa.length aa.length j,())))
theorem XZ {aa:List Cl}{n:Nat}(hc:aa.length=n)(hn:n≤1024)(hd:∀j,j<n→0≤(aa.getD j fM).1∧(aa.getD j fM).1≤4)(ha:∀j,j<n→u6 (fI aa j)=true∧(fI aa j).size≤1000){c t3 p:Int}{t4:Nat}:
  ∀(q j:Nat) (rs:List CR),q+j=n→rs.length=n→(∀i,i<n→rs.getD i Gf=if i<j then ((dsf aa n i).1,((dsf aa n i).2,(0,()))) else Gf)→
  ∃rs',rs'.length=n∧(∀i,i<n→rs'.getD i Gf=((dsf aa n i).1,((dsf aa n i).2,(0,()))))∧
   jx ((n:Int) - 1) n j c aa t3 t4 p 1 [some rs]=ib ((n:Int) - 1) ((n:Int) - 1) c aa t3 t4 p 1 [some rs']:=by
 intro q
 induction q with
 |zero=>
  intro j rs hq hl h
  refine⟨rs,hl,fun i hi=>by rw[h i hi,if_pos (by omega)], ?_⟩
  rw[xN,th,ak (by omega)]
 |succ q ih=>
  intro j rs hq hl h
  have hj:j<n:=by omega
  have hk:n - 1 - j<n:=by omega
  obtain⟨a1,a2⟩:=ha _ hk
  obtain⟨d1,d2⟩:=hd _ hk
  obtain⟨m,d,hR⟩:=nc.1 a1
  obtain⟨b1,b2,b3⟩:=hR.bounds a2
  have ew:IntKind.wrap .i64 ((n:Int) - 1 - (j:Int))=((n - 1 - j:Nat):Int):=by rw[i64_in _ (by omega)];omega
  have g1:∀rs:List CR,ah [some rs] 1=some rs:=fun _=>rfl
  have hs1:∀rs rs':List CR,je [some rs] 1 rs'=[some rs']:=fun _ _=>rfl
  have hjl:j<rs.length:=by omega
  have hr:gr (aa.getD (n - 1 - j) fM).2.1=some (WR m d,true):=P9 a2 hR
  obtain⟨rs',k1,k2,k3⟩:=ih (j+1) (rs.set j (4 - (aa.getD (n - 1 - j) fM).1,(RT (-m) d,(0,())))) (by omega) (by rw[List.length_set];exact hl) (fun i hi=>by
   rw[Qc]
   by_cases e:j=i
   ·subst e
    rw[if_pos ⟨rfl,hjl⟩,if_pos (by omega)]
    unfold dsf
    rw[RR hR]
   ·rw[if_neg (fun h=>e h.1),h i hi]
    by_cases e2:i<j
    ·rw[if_pos e2,if_pos (by omega)]
    ·rw[if_neg e2,if_neg (by omega)])
  refine⟨rs',k1,k2, ?_⟩
  rw[←k3,xN,th,aq (by omega),ew,dD fM (by omega),hr,bS]
  simp only[wF]
  rw[al5 b1,bS]
  simp only[wF]
  have hj0:rs.getD j Gf=Gf:=by rw[h j hj,if_neg (by omega)]
  rw[ajH (by rw[TH];exact b1) b2 b3,bS,g1,bS,dD Gf hjl,bS,Int.toNat_natCast,adk Gf hjl,hs1,g1,bS,dD Gf (by rw[List.length_set];exact hjl),bS,adk Gf (by rw[List.length_set];exact hjl),Qc,if_pos ⟨rfl,hjl⟩,hs1,List.set_set,hj0,bN (by omega),i64_in (4 - _) (by omega)]
theorem L7 {p:Int}{aa:List Cl}(hs:Sz aa):lN (p,(aa,()))=some (if fk p aa=0 then ((p,(cN aa,())),0) else ((0,([],())),fk p aa)):=by
 rw[LA,GK]
 simp only
 rw[T1 hs,bS]
 by_cases h0:fk p aa=0
 ·obtain⟨hp,hl,hg⟩:=zA h0
  obtain⟨n,hn⟩:∃n,aa.length=n:=⟨_,rfl⟩
  have hv:∀j,j<n→Vc p n (dY aa j):=fun j hj=>(hg j (by omega)).bd.mono (by omega)
  rw[if_pos h0,lJ h0,OE (by omega) (by omega) (by omega),i64_in ((aa.length:Int) - 1) (by omega),Int.toNat_natCast,hn]
  have g0:ah (([]:List (Option (List CR)))++[some (List.replicate n Gf)]) (([]:List (Option (List CR))).length+1)=some (List.replicate n Gf):=rfl
  have g1:(([]:List (Option (List CR)))++[some (List.replicate n Gf)])=[some (List.replicate n Gf)]:=rfl
  rw[g0,bS,List.length_replicate,g1]
  obtain⟨rs',k1,k2,k3⟩:=XZ hn (by omega) (fun j hj=>(hg j (by omega)).QE) (fun j hj=>⟨(hg j (by omega)).at_,hs.at_ j⟩) (c:=p) (t3:=0) (p:=p) (t4:=0) n 0 (List.replicate n Gf) (by omega) (by simp) (fun i hi=>by rw[if_neg (by omega)];simp[List.getD,hi])
  have e0:((0:Nat):Int)=0:=rfl
  rw[e0] at k3
  have e1:(([]:List (Option (List CR))).length+1)=1:=rfl
  rw[e1,k3,XW]
  have key:=XY hn (by omega) hv (ds:=dsf aa n) (c:=p) (t4:=0) (p:=p) (t5:=0) n 0 rs' [] (by omega) ⟨k1,fun j hj=>by rw[k2 j hj];rfl,fun i j hi hj _ _=>by rw[k2 i hi],fun j hj=>by rw[k2 j hj];exact Nat.zero_le _,fun j hj=>by rw[k2 j hj];exact⟨rfl,rfl⟩⟩
  have e2:(n:Int) - 1 - ((0:Nat):Int)=(n:Int) - 1:=by omega
  rw[e2] at key
  rw[key]
  unfold cN
  rw[hn]
 ·rw[if_neg h0,A4 h0,Nk (l:=[]) rfl rfl]
  rfl
end Go.Proofs.YtofjebmoebhiiaaGreatDoor.Ev
namespace Go.Proofs.YtofjebmoebhiiaaGreatDoor.Ev
open Go.Abs Go.IntWalk
end Go.Proofs.YtofjebmoebhiiaaGreatDoor.Ev
namespace Go.Proofs.YtofjebmoebhiiaaGreatDoor.Ev
open Go.Abs Go.IntWalk
end Go.Proofs.YtofjebmoebhiiaaGreatDoor.Ev
namespace Go.Proofs.YtofjebmoebhiiaaGreatDoor.Ev
open Go.Abs Go.IntWalk
theorem ab3 {l:List Tm}(hl:l.length≤1000000):∀(m i:Nat),m+i=l.length→bt l l i=some true:=by
 intro m
 induction m with
 |zero=>intro i hi;rw[jr,fT,ak (by omega)]
 |succ m ih=>
  intro i hi
  rw[jr,fT,aq (by omega),dD ni (by omega),dD ni (by omega),ahK,Bool.not_true,cF,bN (by omega)]
  exact ih (i+1) (by omega)
theorem aic {l:List Tm}(hl:l.length≤1000000):ck l l=some true:=by
 rw[sZ,mW,lJ rfl]
 exact ab3 hl l.length 0 (by omega)
theorem aak {p:Int}{aa:List Cl}(hl:aa.length≤1000000)(hb:∀j,j<aa.length→(aa.getD j fM).2.2.1.length≤1000000):∀(m i:Nat),m+i=aa.length→gQ i p aa p aa=some true:=by
 intro m
 induction m with
 |zero=>intro i hi;rw[xf,qG,ak (by omega)]
 |succ m ih=>
  intro i hi
  have hi':i<aa.length:=by omega
  rw[xf,qG,aq (by omega),dD fM hi',dD fM hi',lJ rfl,dD fM hi',dD fM hi',beq_self_eq_true,Bool.not_true,cF,dD fM hi',dD fM hi',aic (hb i hi'),bS,Bool.not_true,cF,bN (by omega)]
  exact ih (i+1) (by omega)
theorem afo {p:Int}{aa:List Cl}(hl:aa.length≤1000000)(hb:∀j,j<aa.length→(aa.getD j fM).2.2.1.length≤1000000):tf (p,(aa,())) (p,(aa,()))=some true:=by
 rw[MO,DO,lJ rfl,lJ rfl]
 exact aak hl hb aa.length 0 (by omega)
theorem DS.map {aa:List Cl}{rs:List CR}{hp2:List (Option (List Tm))}(h:DS aa.length (dsf aa aa.length) rs hp2 (Dv aa aa.length aa.length)):(∀r∈rs,ah hp2 r.2.2.1=some ((ah hp2 r.2.2.1).getD []))∧(rs.map fun r=>(r.1,(r.2.1,((ah hp2 r.2.2.1).getD [],()))))=cN aa:=by
 refine⟨fun r hr=> ?_, ?_⟩
 ·obtain⟨j,hj,e⟩:=List.getElem_of_mem hr
  have:=h.get j (by rw[←h.len];exact hj)
  have e2:rs.getD j Gf=r:=by simp[List.getD,hj,e]
  rw[e2] at this
  rw[this];rfl
 ·unfold cN
  apply List.ext_getElem
  ·simp[h.len]
  ·intro j hj1 hj2
   have hj:j<aa.length:=by simpa using hj2
   have hjl:j<rs.length:=by rw[h.len];exact hj
   have e2:rs.getD j Gf=rs[j]:=by simp[List.getD,hjl]
   obtain⟨d1,d2⟩:=h.ds j hj
   have d3:=h.get j hj
   rw[e2] at d1 d2 d3
   simp only[List.getElem_map,List.getElem_range]
   rw[d1,d2,d3];rfl
end Go.Proofs.YtofjebmoebhiiaaGreatDoor.Ev
namespace Go.Proofs.YtofjebmoebhiiaaGreatDoor.Ev
open Go.Abs Go.IntWalk
def ajN (aa:List Cl):Prop:=∀j,j<aa.length→(fI aa j).size≤20
theorem Ku (aa:List Cl):(cN aa).length=aa.length:=by simp[cN]
theorem l7 {aa:List Cl}{j:Nat}(h:j<aa.length):(cN aa).getD j fM=((dsf aa aa.length j).1,((dsf aa aa.length j).2,(Dv aa aa.length aa.length j,()))):=by simp[cN,List.getD,h]
theorem aid {aa:List Cl}{n m j r:Nat}(h:r<m):(dvv aa n m j).getD r 0=cf (dY aa ((n - 1 - r:Nat):Int)) ((n - 1 - j:Nat):Int):=by
 unfold dvv;simp[List.getD,h]
theorem Kv {aa:List Cl}{i j:Nat}(hi:i<aa.length)(hj:j<aa.length):mx (cN aa) i j=mx aa (aa.length - 1 - j) (aa.length - 1 - i):=by
 have e:dY (cN aa) (j:Int)=F8 0 (dvv aa aa.length aa.length j):=by rw[fV,l7 hj];rfl
 show cf (dY (cN aa) (j:Int)) (i:Int)=_
 rw[e,XM,if_pos (Nat.zero_le _),Nat.sub_zero,aid hi]
theorem OU {p:Int}{aa:List Cl}(h0:fk p aa=0){j:Nat}(hj:j<aa.length):Vc p aa.length (dY (cN aa) (j:Int)):=by
 obtain⟨hp,hl,hg⟩:=zA h0
 have hp1:=hp.1
 have e:dY (cN aa) (j:Int)=F8 0 (dvv aa aa.length aa.length j):=by rw[fV,l7 hj];rfl
 rw[e]
 refine T5 (by simp[dvv]) fun k=> ?_
 by_cases hk:k<aa.length
 ·rw[aid hk]
  exact JV (by omega) (hg (aa.length - 1 - k) (by omega)).bd.c _
 ·have:(dvv aa aa.length aa.length j).getD k 0=0:=by simp[List.getD,dvv,hk]
  rw[this];omega
theorem adl {p:Int}{aa:List Cl}(h0:fk p aa=0){a s:Nat}(hs:s<aa.length)(hz:mx aa a s≠0):a<s∧(aa.getD a fM).1=(aa.getD s fM).1 - 1:=by
 obtain⟨hp,hl,hg⟩:=zA h0
 have hgs:=hg s hs
 obtain⟨t,ht,e⟩:=Wa hz
 have h1:=(hgs.bd.r t ht).1
 have h2:=hgs.alQ t ht
 rw[e,Int.toNat_natCast] at h2
 exact⟨by omega,h2⟩
theorem aal {p:Int}{aa:List Cl}(h0:fk p aa=0)(h20:ajN aa):fk p (cN aa)=0:=by
 obtain⟨hp,hl,hg⟩:=zA h0
 have hp1:=hp.1
 obtain⟨n,hn⟩:∃n,aa.length=n:=⟨_,rfl⟩
 have Xu:=Ku aa
 have XU:∀j,j<n→((cN aa).getD j fM).1=4 - (aa.getD (n - 1 - j) fM).1:=fun j hj=>by rw[l7 (by omega)];unfold dsf;rw[hn]
 have XT:∀j,j<n→fI (cN aa) j=UQ (fI aa (n - 1 - j)):=fun j hj=>by unfold fI;rw[l7 (by omega)];unfold dsf;rw[hn];rfl
 have hR:∀j,j<n→∃x d,Rt (fI aa j) x d∧0<d:=fun j hj=>by
  obtain⟨x,d,h⟩:=nc.1 (hg j (by omega)).at_
  exact⟨x,d,h,(h.bounds (by have:=h20 j (by omega);omega)).2.2⟩
 have key:∀j,j<n→∀t∈dY (cN aa) (j:Int),∃i:Nat,t.1=(i:Int)∧i<n∧mx (cN aa) i j≠0:=fun j hj t ht=>by
  have hv:=OU h0 (show j<aa.length by omega)
  have h1:=Sr.mem hv.s t ht
  have h2:=hv.r t ht
  have h3:=TW hv.s t ht
  have e:t.1=((t.1.toNat:Nat):Int):=by omega
  refine⟨t.1.toNat,e,by omega, ?_⟩
  show cf (dY (cN aa) (j:Int)) ((t.1.toNat:Nat):Int)≠0
  rw[←e,h3];omega
 have hvj:∀j,j<n→Vc p j (dY (cN aa) (j:Int)):=fun j hj=>by
  have hv:=OU h0 (show j<aa.length by omega)
  refine⟨hv.s,fun t ht=>⟨?_,(hv.r t ht).2⟩⟩
  obtain⟨i,e,hi,hz⟩:=key j hj t ht
  rw[Kv (by omega) (by omega),hn] at hz
  have:=(adl h0 (by omega) hz).1
  omega
 refine abZ hp (by omega) fun j hj=> ?_
 rw[Xu,hn] at hj
 have hgj:=hg (n - 1 - j) (by omega)
 refine⟨?_, ?_,hvj j hj,fun _=>(hvj j hj).mono (by omega),fun t ht=> ?_, ?_, ?_⟩
 ·rw[XU j hj]
  have:=hgj.QE
  omega
 ·obtain⟨x,d,h,_⟩:=hR (n - 1 - j) (by omega)
  rw[XT j hj]
  exact nc.2 ⟨_,_,h.opp⟩
 ·obtain⟨i,e,hi,hz⟩:=key j hj t ht
  rw[Kv (by omega) (by omega),hn] at hz
  have:=(adl h0 (by omega) hz).2
  rw[e,Int.toNat_natCast,XU i hi,XU j hj]
  omega
 ·rw[OP (n:=n) (by omega) (fun y hy=>by have:=OU h0 (show y<aa.length by omega);rw[hn] at this;exact this) hj]
  intro r hr
  have e1:sm (fun i=>mx (cN aa) i j*mx (cN aa) r i) n=sm (fun i=>(fun x=>mx aa x (n - 1 - r)*mx aa (n - 1 - j) x) (n - 1 - i)) n:=ng fun i hi=>by
   rw[Kv (by omega) (by omega),Kv (by omega) (by omega),hn,Int.mul_comm]
  rw[e1,ahI (fun x=>mx aa x (n - 1 - r)*mx aa (n - 1 - j) x) n]
  exact(OP (by omega) (fun y hy=>(hg y (by omega)).bd.mono (by omega)) (show n - 1 - r<n by omega)).1 (hg (n - 1 - r) (by omega)).cyc (n - 1 - j) (by omega)
 ·unfold JW
  by_cases hj0:0<j
  ·obtain⟨x,d,h1,d1⟩:=hR (n - 1 - j) (by omega)
   obtain⟨y,e,h2,d2⟩:=hR (n - 1 - (j - 1)) (by omega)
   have ho:=(hg (n - 1 - (j - 1)) (by omega)).ord
   unfold JW at ho
   rw[show n - 1 - (j - 1) - 1=n - 1 - j by omega,decide_eq_true (show 0<n - 1 - (j - 1) by omega),Bool.true_and,h1.val,h2.val] at ho
   simp only[decide_eq_false_iff_not] at ho
   rw[XT j hj,XT (j - 1) (by omega),h1.opp.val,h2.opp.val]
   have e3:decide (lW (-x*e) (-y*d)<0)=false:=by
    refine decide_eq_false fun g=>ho ?_
    rw[ahS] at g ⊢
    rw[Int.neg_mul,Int.neg_mul] at g
    omega
   simp only[e3,Bool.and_false]
  ·rw[decide_eq_false hj0,Bool.false_and]
theorem ajP {p:Int}{aa:List Cl}(h0:fk p aa=0)(h20:ajN aa)(hl:aa.length≤1000):Sz (cN aa):=by
 obtain⟨hp,_,hg⟩:=zA h0
 have Xu:=Ku aa
 refine⟨fun j=> ?_,fun j=> ?_⟩
 ·by_cases hj:j<aa.length
  ·obtain⟨x,d,h⟩:=nc.1 (hg (aa.length - 1 - j) (by omega)).at_
   have e:fI (cN aa) j=UQ (fI aa (aa.length - 1 - j)):=by unfold fI;rw[l7 hj];rfl
   have:=aib h (h20 _ (by omega))
   rw[e];omega
  ·have:(cN aa).getD j fM=fM:=by simp[List.getD,List.getElem?_eq_none (show (cN aa).length≤j by omega)]
   unfold fI;rw[this];decide
 ·by_cases hj:j<aa.length
  ·rw[l7 hj]
   have:=Wo aa aa.length aa.length j
   simp only;omega
  ·have:(cN aa).getD j fM=fM:=by simp[List.getD,List.getElem?_eq_none (show (cN aa).length≤j by omega)]
   rw[this];simp
theorem afp {p:Int}{aa:List Cl}(h0:fk p aa=0)(h20:ajN aa):cN (cN aa)=aa:=by
 obtain⟨hp,hl,hg⟩:=zA h0
 have hp1:=hp.1
 have Xu:=Ku aa
 have atW:=Ku (cN aa)
 have h1:=aal h0 h20
 apply List.ext_getElem (by omega)
 intro j hj1 hj2
 have hj:j<aa.length:=hj2
 have a1:(cN (cN aa)).getD j fM=(cN (cN aa))[j]:=by simp[List.getD,hj1]
 have a2:aa.getD j fM=aa[j]:=by simp[List.getD,hj]
 rw[←a1, ←a2,l7 (by omega)]
 obtain⟨x,d,hR⟩:=nc.1 (hg j hj).at_
 have hb:Dv (cN aa) (cN aa).length (cN aa).length j=(aa.getD j fM).2.2.1:=by
  have v1:Vc p aa.length (dY (cN (cN aa)) (j:Int)):=by
   have:=OU h1 (show j<(cN aa).length by omega)
   rw[Xu] at this
   exact this
  have v2:=(hg j hj).bd.mono (m:=(aa.length:Int)) (by omega)
  have e1:dY (cN (cN aa)) (j:Int)=Dv (cN aa) (cN aa).length (cN aa).length j:=by rw[fV,l7 (by omega)]
  rw[←e1, ←fV]
  refine Sr.ext v1.s v2.s v1.c v2.c fun i=> ?_
  by_cases hi:0≤i∧i<aa.length
  ·have e2:i=((i.toNat:Nat):Int):=by omega
   rw[e2]
   show mx (cN (cN aa)) i.toNat j=mx aa i.toNat j
   rw[Kv (by omega) (by omega),Xu,Kv (by omega) (by omega)]
   have e3:aa.length - 1 - (aa.length - 1 - i.toNat)=i.toNat:=by omega
   have e4:aa.length - 1 - (aa.length - 1 - j)=j:=by omega
   rw[e3,e4]
  ·have z:∀l:List Tm,Vc p aa.length l→cf l i=0:=fun l hv=>by
    by_cases hz:cf l i=0
    ·exact hz
    ·obtain⟨t,ht,rfl⟩:=Wa hz
     have:=(hv.r t ht).1
     have:=Sr.mem hv.s t ht
     omega
   rw[z _ v1,z _ v2]
 have e5:aa.length - 1 - (aa.length - 1 - j)=j:=by omega
 have hd:dsf (cN aa) (cN aa).length j=((aa.getD j fM).1,(aa.getD j fM).2.1):=by
  unfold dsf
  have e6:fI (cN aa) ((cN aa).length - 1 - j)=UQ (fI aa j):=by
   unfold fI
   rw[l7 (by omega),Xu]
   unfold dsf
   simp only[e5]
   rfl
  have e7:((cN aa).getD ((cN aa).length - 1 - j) fM).1=4 - (aa.getD j fM).1:=by
   rw[l7 (by omega),Xu]
   unfold dsf
   simp only[e5]
  rw[e6,e7,hR.ajI]
  unfold fI
  congr 1
  omega
 rw[hd,hb]
end Go.Proofs.YtofjebmoebhiiaaGreatDoor.Ev
namespace Go.Proofs.YtofjebmoebhiiaaGreatDoor.Ev
open Go.Abs Go.IntWalk
theorem Go2.aqm {p:Int}{aa:List Cl}{most:Nat}(h:Go2 p aa most):ajN aa:=fun j hj=>(h.2.1 _ (au (d:=fM) hj)).1.2
theorem al8 {l:Ge}(hl:l.length≤1000000000000000000)(hs:∀s∈l,s.length≤1000000000000000000){values turns:List Int}(hv:values.length≤1000000000000000000)(ht:turns.length≤1000000000000000000)(field:Int):
  jZ (l,(values,(field,(turns,()))))=some true:=by
 obtain⟨r,r1,r2⟩:=afj hl hs hv ht field (most:=24) (by omega)
 obtain⟨p,aa,u⟩:=r
 have h0:fk p aa=0:=r2.2.2
 have h20:=r2.aqm
 have hz:Sz aa:=r2.sz (by omega)
 have hlen:aa.length≤24:=r2.1
 have d0:=aal h0 h20
 have dz:=ajP h0 h20 (by omega)
 have e24:((24:Nat):Int)=24:=rfl
 rw[e24] at r1
 rw[y8,oQ,ah6,bS,Bool.not_true,cF]
 simp only
 rw[r1,bS]
 simp only
 rw[L7 hz,if_pos h0,bS]
 simp only
 rw[L7 dz,if_pos d0,bS]
 simp only
 rw[lH rfl,lH rfl,aeZ dz,d0,bS,lH rfl,afp h0 h20,afo (by omega) (fun j hj=>by have:=hz.bd j;omega),bS]
theorem ajQ (r:ab1.den)(hr:Bnd ab1 r):jZ r=some true:=by
 obtain⟨l,v,f,t,u'⟩:=r
 obtain⟨h1,h2,h3,h4⟩:=afk hr
 exact al8 h1 h2 h3 h4 f
end Go.Proofs.YtofjebmoebhiiaaGreatDoor.Ev
namespace Go.Proofs.YtofjebmoebhiiaaGreatDoor.Ev
open Go.Abs
abbrev Up (l:List (Int×Int×Unit)):Prop:=l.Pairwise fun a b=>a.1<b.1
theorem Ub {x y:Int×Int×Unit}:∀{l:List (Int×Int×Unit)},y∈Zj x l↔y=x∨y∈l
 | []=>by simp[Zj]
 |z::r=>by
  unfold Zj
  cases decide (x.1<z.1) with
  |true=>simp
  |false=>simp only[cond_false,List.mem_cons,Ub (l:=r)];constructor<;>rintro (h |h |h)<;>simp[h]
theorem Qd {y:Int×Int×Unit}:∀{l:List (Int×Int×Unit)},y∈Ai l↔y∈l
 | []=>by simp[Ai]
 |x::r=>by rw[Ai,Ub,Qd (l:=r)];simp
theorem adm {x:Int×Int×Unit}:∀{l:List (Int×Int×Unit)},Up l→(∀y∈l,x.1≠y.1)→Up (Zj x l)
 | [],_,_=>by simp[Zj,Up]
 |z::r,h,hn=>by
  unfold Zj
  have h':=List.pairwise_cons.1 h
  by_cases e:x.1<z.1
  ·rw[show decide (x.1<z.1)=true by simpa using e,cond_true]
   exact List.pairwise_cons.2 ⟨fun y hy=>by
    rcases List.mem_cons.1 hy with rfl |hy
    ·exact e
    ·have:=h'.1 y hy;omega,h⟩
  ·rw[show decide (x.1<z.1)=false by simpa using e,cond_false]
   refine List.pairwise_cons.2 ⟨fun y hy=> ?_,adm h'.2 fun y hy=>hn y (List.mem_cons_of_mem _ hy)⟩
   rcases Ub.1 hy with rfl |hy
   ·have:=hn z (List.mem_cons_self);omega
   ·exact h'.1 y hy
abbrev Ds (l:List (Int×Int×Unit)):Prop:=l.Pairwise fun a b=>a.1≠b.1
theorem aam:∀{l:List (Int×Int×Unit)},Ds l→Up (Ai l)
 | [],_=>List.Pairwise.nil
 |x::r,h=>by
  have h':=List.pairwise_cons.1 h
  exact adm (aam h'.2) fun y hy=>h'.1 y (Qd.1 hy)
theorem aie:∀{a b:List (Int×Int×Unit)},Up a→Up b→(∀x,x∈a↔x∈b)→a=b
 | [],[],_,_,_=>rfl
 | [],y::s,_,_,h=>by have:=(h y).2 List.mem_cons_self;cases this
 |x::r,[],_,_,h=>by have:=(h x).1 List.mem_cons_self;cases this
 |x::r,y::s,ha,hb,h=>by
  have ha':=List.pairwise_cons.1 ha
  have hb':=List.pairwise_cons.1 hb
  have e:x=y:=by
   rcases List.mem_cons.1 ((h x).1 List.mem_cons_self) with e |h1
   ·exact e
   ·rcases List.mem_cons.1 ((h y).2 List.mem_cons_self) with e |h2
    ·exact e.symm
    ·have:=hb'.1 x h1;have:=ha'.1 y h2;omega
  subst e
  rw[aie ha'.2 hb'.2 fun z=> ?_]
  constructor
  ·intro hz
   rcases List.mem_cons.1 ((h z).1 (List.mem_cons_of_mem _ hz)) with rfl |h3
   ·have:=ha'.1 _ hz;omega
   ·exact h3
  ·intro hz
   rcases List.mem_cons.1 ((h z).2 (List.mem_cons_of_mem _ hz)) with rfl |h3
   ·have:=hb'.1 _ hz;omega
   ·exact h3
theorem adn:∀{l:List (Int×Int×Unit)},okT l=true↔(∀x∈l,0≤x.1∧x.1<1000000000)∧Ds l
 | []=>by simp[okT,Ds]
 |x::r=>by
  rw[okT]
  simp only[Bool.and_eq_true,decide_eq_true_eq,List.all_eq_true,Bool.not_eq_true',decide_eq_false_iff_not,adn (l:=r),List.mem_cons,forall_eq_or_imp,Ds,List.pairwise_cons]
  constructor
  ·rintro ⟨⟨⟨h1,h2⟩,h3⟩,h4,h5⟩;exact⟨⟨⟨h1,h2⟩,h4⟩,h3,h5⟩
  ·rintro ⟨⟨⟨h1,h2⟩,h4⟩,h3,h5⟩;exact⟨⟨⟨h1,h2⟩,h3⟩,h4,h5⟩
theorem Ds.perm {a b:List (Int×Int×Unit)}(h:a.Perm b)(hd:Ds a):Ds b:=(h.pairwise_iff (R:=fun a b:Int×Int×Unit=>a.1≠b.1) (fun h=>Ne.symm h)).1 hd
theorem aif {l l':List (Int×Int×Unit)}(hd:Ds l)(hp:l'.Perm l)(hs:l'.Pairwise fun a b=>a.1≤b.1):l'=Ai l:=by
 have hd':Ds l':=hd.perm hp.symm
 refine aie ?_ (aam hd) fun x=>by rw[Qd,hp.mem_iff]
 exact(hs.and hd').imp fun⟨h1,h2⟩=>by omega
end Go.Proofs.YtofjebmoebhiiaaGreatDoor.Ev
namespace Go.Proofs.YtofjebmoebhiiaaGreatDoor
open Go.Shelf Go.Proofs
def X0:Go.Shelf.Ren:=⟨fun |6=>50 |15=>91 |14=>90 |28=>132 |29=>133 |20=>124 |21=>125 |22=>126 |23=>127 |24=>128 |25=>129 |26=>130 |27=>131 |46=>156 |47=>157 |48=>158 |49=>159 |50=>160 |57=>172 |n=>n,fun |22=>46 |24=>58 |25=>98 |3=>3 |39=>149 |0=>0 |53=>168 |55=>171 |4=>4 |46=>184 |45=>183 |50=>140 |5=>5 |9=>9 |66=>209 |70=>213 |76=>222 |77=>223 |n=>n,fun |n=>n⟩
theorem aan:Go.Proofs.SlLaysF0.n6 Tryz.prog X0 where
 mixed:=by kernel_rfl
 f6:=⟨"slices.SortFunc[[]torus/api.Pair,torus/api.Pair]",by decide,Tryz.func50.trans (congrArg some (by kernel_rfl))⟩
 f14:=⟨"slices.pdqsortCmpFunc[torus/api.Pair]",by decide,Tryz.func90.trans (congrArg some (by kernel_rfl))⟩
 f15:=Tryz.func91.trans (congrArg some (by kernel_rfl))
 f20:=⟨"slices.insertionSortCmpFunc[torus/api.Pair]",by decide,Tryz.func124.trans (congrArg some (by kernel_rfl))⟩
 f21:=⟨"slices.heapSortCmpFunc[torus/api.Pair]",by decide,Tryz.func125.trans (congrArg some (by kernel_rfl))⟩
 f22:=⟨"slices.breakPatternsCmpFunc[torus/api.Pair]",by decide,Tryz.func126.trans (congrArg some (by kernel_rfl))⟩
 f23:=⟨"slices.choosePivotCmpFunc[torus/api.Pair]",by decide,Tryz.func127.trans (congrArg some (by kernel_rfl))⟩
 f24:=⟨"slices.reverseRangeCmpFunc[torus/api.Pair]",by decide,Tryz.func128.trans (congrArg some (by kernel_rfl))⟩
 f25:=⟨"slices.partialInsertionSortCmpFunc[torus/api.Pair]",by decide,Tryz.func129.trans (congrArg some (by kernel_rfl))⟩
 f26:=⟨"slices.partitionEqualCmpFunc[torus/api.Pair]",by decide,Tryz.func130.trans (congrArg some (by kernel_rfl))⟩
 f27:=⟨"slices.partitionCmpFunc[torus/api.Pair]",by decide,Tryz.func131.trans (congrArg some (by kernel_rfl))⟩
 f28:=Tryz.func132.trans (congrArg some (by kernel_rfl))
 f29:=Tryz.func133.trans (congrArg some (by kernel_rfl))
 f46:=⟨"slices.siftDownCmpFunc[torus/api.Pair]",by decide,Tryz.func156.trans (congrArg some (by kernel_rfl))⟩
 f47:=Tryz.func157.trans (congrArg some (by kernel_rfl))
 f48:=Tryz.func158.trans (congrArg some (by kernel_rfl))
 f49:=⟨"slices.medianAdjacentCmpFunc[torus/api.Pair]",by decide,Tryz.func159.trans (congrArg some (by kernel_rfl))⟩
 f50:=⟨"slices.medianCmpFunc[torus/api.Pair]",by decide,Tryz.func160.trans (congrArg some (by kernel_rfl))⟩
 f57:=⟨"slices.order2CmpFunc[torus/api.Pair]",by decide,Tryz.func172.trans (congrArg some (by kernel_rfl))⟩
 t0:=Tryz.underlying0
 a0:=Tryz.isAgg0
 z0:=Tryz.sizeOf0
 v0:=Tryz.zeroValue0
 t3:=Tryz.underlying3
 a3:=Tryz.isAgg3
 z3:=Tryz.sizeOf3
 v3:=Tryz.zeroValue3
 t4:=Tryz.underlying4
 a4:=Tryz.isAgg4
 z4:=Tryz.sizeOf4
 v4:=Tryz.zeroValue4
 t5:=Tryz.underlying5
 a5:=Tryz.isAgg5
 z5:=Tryz.sizeOf5
 v5:=Tryz.zeroValue5
 t9:=Tryz.underlying9
 a9:=Tryz.isAgg9
 z9:=Tryz.sizeOf9
 v9:=Tryz.zeroValue9
 t22:=Tryz.underlying46
 a22:=Tryz.isAgg46
 z22:=Tryz.sizeOf46
 v22:=Tryz.zeroValue46
 t25:=Tryz.underlying98
 a25:=Tryz.isAgg98
 z25:=Tryz.sizeOf98
 v25:=Tryz.zeroValue98
 t39:=Tryz.underlying149
 a39:=Tryz.isAgg149
 z39:=Tryz.sizeOf149
 v39:=Tryz.zeroValue149
 t45:=Tryz.underlying183
 a45:=Tryz.isAgg183
 z45:=Tryz.sizeOf183
 v45:=Tryz.zeroValue183
 t46:=Tryz.underlying184
 a46:=Tryz.isAgg184
 z46:=Tryz.sizeOf184
 v46:=Tryz.zeroValue184
 t50:=Tryz.underlying140
 a50:=Tryz.isAgg140
 z50:=Tryz.sizeOf140
 v50:=Tryz.zeroValue140
 t53:=Tryz.underlying168
 a53:=Tryz.isAgg168
 z53:=Tryz.sizeOf168
 v53:=Tryz.zeroValue168
 t55:=Tryz.underlying171
 a55:=Tryz.isAgg171
 z55:=Tryz.sizeOf171
 v55:=Tryz.zeroValue171
 t66:=Tryz.underlying209
 a66:=Tryz.isAgg209
 z66:=Tryz.sizeOf209
 v66:=Tryz.zeroValue209
 t70:=Tryz.underlying213
 a70:=Tryz.isAgg213
 z70:=Tryz.sizeOf213
 v70:=Tryz.zeroValue213
 t76:=Tryz.underlying222
 a76:=Tryz.isAgg222
 z76:=Tryz.sizeOf222
 v76:=Tryz.zeroValue222
 t77:=Tryz.underlying223
 a77:=Tryz.isAgg223
 z77:=Tryz.sizeOf223
 v77:=Tryz.zeroValue223
end Go.Proofs.YtofjebmoebhiiaaGreatDoor
namespace Go.Proofs.YtofjebmoebhiiaaGreatDoor.Ev
open Go.Shelf Go.RowKit Go.Lib Go.Sort Go.Proofs
abbrev El:=Fin 1000000000×Int
instance:Inhabited El:=⟨(⟨0,by decide⟩,0)⟩
def J1 (x:El):List Value:=[.int .i64 (x.1.val:Int), .int .i64 x.2]
def US (t:Int×Int×Unit):El:=(⟨t.1.toNat % 1000000000,Nat.mod_lt _ (by decide)⟩,t.2.1)
def ofE (x:El):Int×Int×Unit:=((x.1.val:Int),x.2,())
def cfE (x y:El):Int:=(x.1.val:Int) - y.1.val
theorem ltE (x y:El):ltOf cfE x y=decide (x.1.val<y.1.val):=by
 unfold ltOf cfE
 by_cases h:x.1.val<y.1.val<;>simp[h]<;>omega
theorem aqn:SWO (ltOf cfE) where
 irrefl x:=by rw[ltE];simp
 trans x y z h1 h2:=by rw[ltE] at*;simp at*;omega
 ntrans x y z h1 h2:=by rw[ltE] at*;simp at*;omega
theorem akC {t:Int×Int×Unit}(h:0≤t.1∧t.1<1000000000):ofE (US t)=t:=by
 obtain⟨a,b,u⟩:=t
 simp only at h
 have:((a.toNat % 1000000000:Nat):Int)=a:=by omega
 show (((a.toNat % 1000000000:Nat):Int),b,())=(a,b,u)
 rw[this]
set_option maxHeartbeats 1000000 in
theorem afq (x y:El)(W:World):Calls Tryz.prog 51 #[.agg #[.int .i64 (x.1.val:Int), .int .i64 x.2], .agg #[.int .i64 (y.1.val:Int), .int .i64 y.2]] W fun e w'=>e= .returned (.int .i64 (cfE x y))∧∃q os',w'=grow (W.drewN q) os':=by
 have hw:IntKind.i64.wrap ((x.1.val:Int) - (y.1.val:Int))=cfE x y:=by
  have:=x.1.isLt;have:=y.1.isLt
  unfold cfE;simp[IntKind.wrap,IntKind.bits,IntKind.signed];omega
 generalize cfE x y=r at hw ⊢
 go_enter Tryz.func51,Tryz.ntmps51
 go_wp2
 go_ret
 exact⟨rfl,0,_,by rw[alloc_eq_grow,alloc_eq_grow,grow_grow];rfl⟩
theorem afr (blk off size:Nat)(w:World):CmpLays Tryz.prog 51 #[] J1 2 cfE blk off size w:=fun _ _ _ _ x y=>afq x y _
theorem ajR:∀args w,(callFunc 51 args).run Tryz.prog w= .ok (.enter 51 args) w:=enters_of Tryz.func51 (by kernel_rfl) rfl
theorem ama (blk cap:Nat)(d:Array El)(w:World)(hH:HoldsK J1 2 w blk 0 d)(hblk:blk<w.heap.size)(hsz:d.size<4611686018427387904):
  Calls Tryz.prog 50 #[.slice (some ⟨blk,0,none⟩) d.size cap, .func (.func 51) #[] #[]] w fun e w'=>e= .returned (.tuple #[])∧∃d' n os,PermIn 0 d.size d d'∧SortedIn (ltOf cfE) 0 d.size d'∧w'=sortWorldK J1 2 w blk 0 n d' os:=
 AnyQ.slices_SortFunc aan 2 Tryz.isAgg58 Tryz.sizeOf58 J1 (fun _=>rfl) (fun x v hv=>by simp[J1] at hv;rcases hv with rfl |rfl<;>rfl) cfE aqn 51 #[] blk 0 cap d w ajR (afr blk 0 d.size w) hH hblk hsz
theorem aao (cap:Nat)(p:Option Addr)(fv:Value)(w:World):Calls Tryz.prog 50 #[.slice p 0 cap,fv] w fun e w'=>e= .returned (.tuple #[])∧w'=w:=AnyF.slices_SortFunc_none aan p cap fv w
end Go.Proofs.YtofjebmoebhiiaaGreatDoor.Ev
namespace Go.Proofs.YtofjebmoebhiiaaGreatDoor.Ev
open Go.Abs Go.RowKit Go.Lib Go.Sort
abbrev tTb:Ty:= .st (.pair (.int .i64) (.pair (.int .i64) .unit))
theorem Q4 {V:View}:∀{l:List (Int×Int×Unit)} {bk:List (List Value)},az (Go.Abs.Rel V tTb) l bk→bk=l.map fun t=>[Value.int .i64 t.1,Value.int .i64 t.2.1]
 | [],[],_=>rfl
 |t::l,ys::bk,h=>by
  obtain⟨h1,h2⟩:=h
  have h1':∃a b,ys=a++b∧a=[Value.int .i64 t.1]∧∃c d,b=c++d∧c=[Value.int .i64 t.2.1]∧d=[]:=h1
  obtain⟨a,b,rfl,rfl,c,d,rfl,rfl,rfl⟩:=h1'
  rw[Q4 h2]
  rfl
theorem Q5 {V:View}:∀(l:List (Int×Int×Unit)),az (Go.Abs.Rel V tTb) l (l.map fun t=>[Value.int .i64 t.1,Value.int .i64 t.2.1])
 | []=>trivial
 |t::l=>⟨⟨[Value.int .i64 t.1],[Value.int .i64 t.2.1],rfl,rfl,[Value.int .i64 t.2.1],[],rfl,rfl,rfl⟩,Q5 l⟩
abbrev C5 (xs:List El):List Value:=(xs.map J1).flatten
theorem EU:∀(xs:List El),(C5 xs).length=xs.length*2
 | []=>rfl
 |x::r=>by
  have:=EU r
  simp only[C5,List.map_cons,List.flatten_cons,List.length_append,List.length_cons] at this ⊢
  have e:(J1 x).length=2:=rfl
  omega
theorem Uc:∀(xs:List El) (t:Nat),t<xs.length*2→(C5 xs)[t]? =some ((J1 (xs.getD (t / 2) default))[t % 2]!)
 | [],t,h=>by simp at h
 |x::r,0,_=>rfl
 |x::r,1,_=>rfl
 |x::r,t+2,h=>by
  have ih:=Uc r t (by simp at h;omega)
  have e1:(t+2) / 2=t / 2+1:=by omega
  have e2:(t+2) % 2=t % 2:=by omega
  rw[e1,e2]
  exact ih
theorem aap (d:Array El)(t:Nat)(h:t<d.size*2):(C5 d.toList)[t]? =some (flatK J1 2 d)[t]! :=by
 rw[get_flatK J1 2 d t h,Uc d.toList t (by simpa using h)]
 have:d.toList.getD (t / 2) default=d[t / 2]! :=by simp[List.getD,Array.getElem!_eq_getD]
 rw[this]
theorem aii {w:World}{blk n:Nat}{d:Array El}{os:Array Obj}{cur:Array Value}{e:TypeId}{fr:Nat×Nat}(h:w.heap[blk]? =some (.cells cur e fr))(hs:d.size*2≤cur.size):
  ∃afs,(sortWorldK J1 2 w blk 0 n d os).heap[blk]? =some (.cells afs e fr)∧afs.size=cur.size∧afs.toList.take (d.size*2)=C5 d.toList:=by
 have hlt:blk<w.heap.size:=(Array.getElem?_eq_some_iff.1 h).1
 refine⟨putCells id 0 (flatK J1 2 d) cur, ?_,by simp[putCells], ?_⟩
 ·show ((w.heap.modify blk _)++os)[blk]? =_
  rw[Array.getElem?_append_left (by simpa using hlt),Array.getElem?_modify]
  simp[h,onCells]
 ·apply List.ext_getElem?
  intro t
  by_cases ht:t<d.size*2
  ·rw[aap d t ht,List.getElem?_take,if_pos ht,Array.getElem?_toList,putCells,Array.getElem?_mapIdx,Array.getElem?_eq_getElem (by omega),Option.map_some,if_pos ⟨Nat.zero_le _,by rw[size_flatK];omega⟩]
   rfl
  ·rw[List.getElem?_eq_none (by simp;omega),List.getElem?_eq_none (by rw[EU];simp;omega)]
theorem aij {w:World}{blk n k:Nat}{d:Array El}{os:Array Obj}(hk:k<w.heap.size)(h:k≠blk):(sortWorldK J1 2 w blk 0 n d os).heap[k]? =w.heap[k]? :=by
 show ((w.heap.modify blk _)++os)[k]? =_
 rw[Array.getElem?_append_left (by simpa using hk),Array.getElem?_modify]
 simp[Ne.symm h]
theorem ajS {w:World}{blk n:Nat}{d:Array El}{os:Array Obj}:Grow (fun k=>k=blk) w (sortWorldK J1 2 w blk 0 n d os):=
 ⟨rfl,rfl,rfl,size_sortWorldK_c J1 2 w blk 0 n d os,fun k hk hn=>aij hk hn⟩
theorem holds_of {w:World}{blk:Nat}{l:List (Int×Int×Unit)}{cur:Array Value}{e:TypeId}(h:w.heap[blk]? =some (.cells cur e (0,0)))(hc:cur.toList.take (l.length*2)=C5 (l.map US))(hs:l.length*2≤cur.size):HoldsK J1 2 w blk 0 (l.map US).toArray:=by
 intro j hj
 rw[size_flatK] at hj
 have hj':j<l.length*2:=by simpa using hj
 refine⟨?_, ?_⟩
 ·have:=aap (l.map US).toArray j hj
  rw[←hc,List.getElem?_take,if_pos hj',Array.getElem?_toList] at this
  simp only[World.cell?,h,Nat.zero_add]
  exact this
 ·simp[World.frozen?,h]
theorem Wp:∀{l:List (Int×Int×Unit)},(∀x∈l,0≤x.1∧x.1<1000000000)→(l.map fun t=>[Value.int .i64 t.1,Value.int .i64 t.2.1]).flatten=C5 (l.map US)
 | [],_=>rfl
 |t::l,h=>by
  have ih:=Wp (l:=l) fun x hx=>h x (List.mem_cons_of_mem _ hx)
  have e:=akC (h t List.mem_cons_self)
  have e1:J1 (US t)=[Value.int .i64 t.1,Value.int .i64 t.2.1]:=by
   have e2:((US t).1.val:Int)=t.1:=congrArg (·.1) e
   show [Value.int .i64 ((US t).1.val:Int),Value.int .i64 t.2.1]=_
   rw[e2]
  simp only[C5,List.map_cons,List.flatten_cons,e1] at ih ⊢
  rw[ih]
theorem Qe:∀(xs:List El),C5 xs=((xs.map ofE).map fun t=>[Value.int .i64 t.1,Value.int .i64 t.2.1]).flatten
 | []=>rfl
 |x::r=>by
  have ih:=Qe r
  simp only[C5,List.map_cons,List.flatten_cons] at ih ⊢
  rw[ih];rfl
theorem aaq {l:List (Int×Int×Unit)}{d':Array El}(hr:∀x∈l,0≤x.1∧x.1<1000000000)(hd:Ds l)(hp:PermIn 0 (l.map US).toArray.size (l.map US).toArray d')(hs:SortedIn (ltOf cfE) 0 (l.map US).toArray.size d'):d'.toList.map ofE=Ai l∧d'.size=l.length:=by
 have hsz:d'.size=l.length:=by rw[hp.1];simp
 have hx:(d'.extract 0 (l.map US).toArray.size)=d':=by
  rw[←hp.1];simp
 have hy:((l.map US).toArray.extract 0 (l.map US).toArray.size)=(l.map US).toArray:=by simp;exact List.take_of_length_le (by simp)
 have akD:=hp.2.2
 rw[hx,hy] at akD
 have hb:(l.map US).map ofE=l:=by
  rw[List.map_map]
  have:∀{l:List (Int×Int×Unit)},(∀x∈l,0≤x.1∧x.1<1000000000)→l.map (ofE ∘ US)=l:=fun {l} h=>by
   induction l with
   |nil=>rfl
   |cons t l ih=>
    rw[List.map_cons,ih fun x hx=>h x (List.mem_cons_of_mem _ hx)]
    congr 1
    exact akC (h t List.mem_cons_self)
  exact this hr
 have hq:(d'.toList.map ofE).Perm l:=by
  have:=akD.map ofE
  rwa [hb] at this
 refine⟨aif hd hq ?_,hsz⟩
 rw[List.pairwise_map,List.pairwise_iff_getElem]
 intro i j hi hj hij
 have hi':i<d'.size:=by simpa using hi
 have hj':j<d'.size:=by simpa using hj
 have h1:=hs i j (Nat.zero_le _) hij (by rw[←hp.1];exact hj')
 rw[ltE,getElem!_pos d' i hi',getElem!_pos d' j hj'] at h1
 simp only[decide_eq_false_iff_not,Nat.not_lt] at h1
 show ((d'.toList[i].1.val:Nat):Int)≤((d'.toList[j].1.val:Nat):Int)
 simp only[Array.getElem_toList]
 omega
abbrev hr3 (hp:List (Option (List (Int×Int×Unit)))):aV:=⟨58,tTb,0,true,hp⟩
theorem aoo (hp:List (Option (List (Int×Int×Unit)))):((cg T).set 3 (hr3 hp))[3]? =some (hr3 hp):=rfl
theorem amb (hp:List (Option (List (Int×Int×Unit)))):((cg T).set 3 (hr3 hp)).set 3 (hr3 hp)=(cg T).set 3 (hr3 hp):=rfl
theorem amc (x:(Nat×Unit)×List (Option (List (Int×Int×Unit))))(y:Unit×List (Option (List (Int×Int×Unit))))(h:ag3 x.1.1 x.2=some y):Mn Tryz.prog T 50 x y:=by
 obtain⟨⟨n,u⟩,hp⟩:=x
 obtain⟨yu,hp'⟩:=y
 refine⟨⟨_,Tryz.func50,by kernel_rfl,by kernel_rfl⟩,fun E ν args d hE hG hC hst hargs=> ?_⟩
 replace hst:St E (aE ((cg T).set 3 (hr3 hp))) ⟨#[],[]⟩ E.w0 ν (fun _=>False):=hst
 obtain⟨v1,r1,e1,hv,v2,e2,vs,e3,hvs⟩:∃v1 r1,args.toList=v1::r1∧bA (view E (aE ((cg T).set 3 (hr3 hp))) ν (fun _=>False) E.w0) ⟨.ref 3,n⟩ v1∧∃v2,r1=[v2]∧∃vs:List Value,v2= .func (.func 51) #[] vs.toArray∧vs=[]:=hargs
 subst hvs e3 e2
 obtain rfl:args= #[v1, .func (.func 51) #[] #[]]:=by cases args;simp_all
 have fin:∀(w':World) (ν':Nm→Value),St E (aE (((cg T).set 3 (hr3 hp)).set 3 (hr3 hp'))) ⟨#[],[]⟩ w' ν' (fun _=>False)→Go.Abs.Left T E 50 ((n,u),hp) (yu,hp') d (.returned (.tuple #[])) w':=fun w' ν' hs=>
  ⟨.tuple #[],ν',rfl,hs,⟨[],rfl,trivial⟩⟩
 cases n with
 |zero=>
  have e:v1= .slice none 0 0:=by
   rcases IG hv with ⟨_,e⟩ | ⟨h1,_⟩
   ·exact e
   ·omega
  subst e
  obtain rfl:hp=hp':=by have h':some ((),hp)=some (yu,hp'):=h;simpa using h'
  refine(aao 0 none _ E.w0).mono ?_
  rintro e w' ⟨rfl,rfl⟩
  exact fin _ ν (by rw[amb];exact hst)
 |succ n=>
  have h':((ah hp (n+1)).bind fun l=>bif Nat.ble l.length 1000000&&okT l then some ((),je hp (n+1) (Ai l)) else none)=some (yu,hp'):=h
  obtain⟨l,hl,h2⟩:=Option.bind_eq_some_iff.1 h'
  cases hc:Nat.ble l.length 1000000&&okT l with
  |false=>rw[hc] at h2;cases h2
  |true=>
   rw[hc] at h2
   obtain rfl:je hp (n+1) (Ai l)=hp':=by simpa using h2
   simp only[Bool.and_eq_true,Nat.ble_eq,adn] at hc
   obtain⟨hlen,hr,hd⟩:=hc
   have hh:(aE ((cg T).set 3 (hr3 hp))).ae[3]? =some (hr3 hp):=aoo hp
   obtain⟨⟨bk,hown,hall⟩,hO,E1⟩:=hst.Kc hh hl hv
   rcases E1 with ⟨h0,_⟩ | ⟨h1,_,h3⟩
   ·omega
   ·have hy:=Q4 hall
    subst hy
    obtain⟨_,hown⟩:=hown
    rcases hown with ⟨e,_⟩ | ⟨g,cap,cur,e,_,hg,hn,hm,hcs,Hp⟩
    ·have hnn:=hst.nn 3 (hr3 hp) (n+1) hh h1 (J8 hl)
     rcases hnn with ⟨_,g,m,c,e4⟩ | ⟨e4,_⟩
     ·rw[←h3,e] at e4;cases e4
     ·cases e4
    ·have hcell:cur.toList.take (l.length*2)=C5 (l.map US):=by rw[←Wp hr];exact Hp
     have aop:l.length*2≤cur.size:=by rw[hcs];exact Nat.mul_le_mul_right 2 hn
     have hgl:g<E.w0.heap.size:=(Array.getElem?_eq_some_iff.1 hg).1
     have hsz:(l.map US).toArray.size=l.length:=by simp
     have hs:=ama g cap (l.map US).toArray E.w0 (holds_of hg hcell aop) hgl (by rw[hsz];omega)
     have e5:v1= .slice (some ⟨g,0,none⟩) (l.map US).toArray.size cap:=by rw[hsz];exact e
     rw[e5]
     refine hs.mono ?_
     rintro e6 w' ⟨rfl,d',m,os,hp1,hs1,rfl⟩
     obtain⟨q1,q2⟩:=aaq hr hd hp1 hs1
     have e7:d'.size*2≤cur.size:=by rw[q2];exact aop
     obtain⟨afs,c1,c2,c3⟩:=aii (n:=m) (os:=os) (d:=d') hg e7
     refine fin _ (NG ν 3 (n+1) (ν (.hp 3 (n+1)))) ?_
     refine hst.aga hE (hr:=hr3 hp) (l:=l) (l':=Ai l) hh rfl h1 hl (g:=g) (by rw[←h3,e];rfl) ajS fun V' hV=> ?_
     have amd:(Ai l).length=l.length:=by rw[←q1];simp[q2]
     rw[←h3,e]
     refine⟨⟨_,_,_,rfl⟩,((Ai l).map fun t=>[Value.int .i64 t.1,Value.int .i64 t.2.1]),⟨?_, .inr ⟨g,cap,afs, ?_,Nat.zero_le _,c1, ?_,hm,by rw[c2];exact hcs, ?_⟩⟩,Q5 _⟩
     ·rw[←q1, ←Qe,EU];simp;rfl
     ·show Value.slice (some ⟨g,0,none⟩) l.length cap=Value.slice (some ⟨g,0,none⟩) (Ai l).length cap
      rw[amd]
     ·show (Ai l).length≤cap
      rw[amd];exact hn
     ·show afs.toList.take ((Ai l).length*2)=_
      rw[amd, ←q2,c3,Qe,q1]
end Go.Proofs.YtofjebmoebhiiaaGreatDoor.Ev
namespace Go.Proofs.YtofjebmoebhiiaaGreatDoor.Ev
open Go.Abs Go.RowKit Go.Lib
theorem ame (s:ByteArray)(c:Int)(w:World):(callFunc 177 #[.string s, .int .u8 c]).run Tryz.prog w= .ok (.value (.int .i64 (indexByte s.data.toList c.toNat.toUInt8))) w:=by
 rw[run_callFunc_indexByte Tryz.func177 (by kernel_rfl) (by kernel_rfl) (by kernel_rfl) (by kernel_rfl),run_indexByteString]
 rfl
theorem ajT (s:ByteArray)(c:Int)(W:World):Calls Tryz.prog 165 #[.string s, .int .u8 c] W fun e w'=>e= .returned (.int .i64 (indexByte s.data.toList c.toNat.toUInt8))∧w'=W:=by
 have hd:=ame s c W
 go_enter Tryz.func165,Tryz.ntmps165
 go_wp2
 go_ret
 exact⟨rfl,rfl⟩
theorem J2 (c:Int)(hc:0≤c)(hc2:c<256):∀(l:List UInt8) (i:Nat),Ux c i l=bif Go.Lib.indexByte l c.toNat.toUInt8== -1 then -1 else i+Go.Lib.indexByte l c.toNat.toUInt8
 | [],i=>rfl
 |x::r,i=>by
  have ih:=J2 c hc hc2 r (i+1)
  have hge:=indexByte_ge r c.toNat.toUInt8
  have e:((x.toNat:Int)==c)=(x==c.toNat.toUInt8):=by
   rw[Bool.eq_iff_iff,beq_iff_eq,beq_iff_eq]
   constructor
   ·intro h;subst h;simp
   ·intro h;subst h;simp;omega
  simp only[Ux,indexByte,e,ih]
  generalize c.toNat.toUInt8=u at hge ⊢
  cases hx:(x==u) with
  |true=>simp
  |false=>
   cases hi:(indexByte r u== -1) with
   |true=>simp
   |false=>
    have h1:(indexByte r u+1== -1)=false:=by rw[beq_eq_false_iff_ne];omega
    simp[h1]
    omega
theorem No {T:cj}{v d:Nat}{xh:Bh T v}{yh:xu T v}(hh:(T.sig v).ae=[])(hu:KB d (T.sig v) (u9 _ yh)=[]):wR T v d xh yh=aE (aH T v xh):=by
 unfold wR
 rw[hu]
 have:∀{hs:List Nat} (h:hs=[]) (x:Eg T hs) (l:List aV),qh T hs hs x l=l:=fun h x l=>by subst h;rfl
 unfold qo
 rw[this (by simp[Iq.hout,hh])]
 rfl
theorem ajU (x:ByteArray×Int)(y:Int)(h:(bif decide (0≤x.2)&&decide (x.2<256) then some (Ux x.2 0 x.1.data.toList) else none)=some y):Mn Tryz.prog T 165 x y:=by
 refine⟨⟨_,Tryz.func165,by kernel_rfl,by kernel_rfl⟩,fun E ν args d hE hG hC hst hargs=> ?_⟩
 have hs:wR T 165 d x y=aE (aH T 165 x):=No rfl rfl
 obtain⟨s,c⟩:=x
 obtain⟨v1,r1,e1,h1,v2,e2,h2⟩:mc _ [.v .str, .v (.int .u8)] (s,c) args.toList:=hargs
 have h1': [v1]=[.string s]:=h1
 have h2': [v2]=[.int .u8 c]:=h2
 simp only[List.cons.injEq,and_true] at h1' h2'
 subst h1' h2' e2
 obtain rfl:args= #[.string s, .int .u8 c]:=by cases args;simp_all
 cases hc:decide (0≤c)&&decide (c<256) with
 |false=>simp only[hc,cond_false] at h;cases h
 |true=>
  simp only[Bool.and_eq_true,decide_eq_true_eq] at hc
  refine(ajT s c E.w0).mono fun e w' ⟨he,hw⟩=> ?_
  subst he hw
  refine⟨_,ν,rfl,by rw[hs];exact hst, ?_⟩
  rw[hs]
  have e3:y=indexByte s.data.toList c.toNat.toUInt8:=by
   have h':Ux c 0 s.data.toList=y:=by simpa [hc.1,hc.2] using h
   rw[←h',J2 c hc.1 hc.2]
   cases hi:(indexByte s.data.toList c.toNat.toUInt8== -1) with
   |true=>simpa using (beq_iff_eq.1 hi).symm
   |false=>simp
  rw[e3]
  show [Value.int .i64 _]=[Value.int .i64 _]
  rfl
abbrev aft:bE T:=fun _ _=>none
theorem aqo:YC Tryz.prog T aft:=fun v xh yh h=>by cases h
theorem aoq:Y2 Tryz.prog T aft:=fun v xh yh h=>by cases h
theorem amf:Tryz.f84.body.isSome=true:=by kernel_rfl
noncomputable def Ud:Code:=Tryz.f84.body.get amf
theorem aor:Tryz.f84.body=some Ud:=by kernel_rfl
theorem ab4:ID T Tryz.f84 Ud aft 0 100084 (none:Option (List tTb.den))=some ([]:List tTb.den):=by kernel_rfl
theorem ab5 (x:List tTb.den):ID T Tryz.f84 Ud aft 0 100084 (some x:Option (List tTb.den))=bif aD 16 2 0 x.length then some x else none:=by kernel_rfl
theorem aik {E:Env}{x:Bh T 84}{z:Bh T 100084}(h:Go.Abs.Callee T E 84 x):Go.Abs.Callee T E 100084 z:=
 ⟨h.j,h.m,h.om,h.acc,fun i k hi=>h.hx i k (fun hm:i∈([]:List Nat)=>by cases hm),fun i=>by
   have:=h.ro i
   exact this⟩
theorem ail (o:Option (List tTb.den))(y:List tTb.den)(h:ID T Tryz.f84 Ud aft 0 100084 o=some y):Mn Tryz.prog T 100084 o y:=
 S8 (v:=100084) acN aqo aoq Tryz.func84 aor (by kernel_rfl) rfl h
theorem amg (x y:List tTb.den)(h:(bif aD 16 2 0 x.length then some x else none)=some y):Mn Tryz.prog T 84 x y:=by
 refine⟨⟨_,Tryz.func84,by kernel_rfl,by kernel_rfl⟩,fun E ν args d hE hG hC hst hargs=> ?_⟩
 have hs0:∀z:Bh T 84,aH T 84 z=cg T:=fun z=>Dy rfl
 have hs1:∀z:Bh T 100084,aH T 100084 z=cg T:=fun z=>Dy rfl
 have go:∀o:Option (List tTb.den),ID T Tryz.f84 Ud aft 0 100084 o=some y→mc (view E (aE (cg T)) ν (fun _=>False) E.w0) [.v (.pW tTb)] o args.toList→Calls Tryz.prog 84 args E.w0 (Go.Abs.Left T E 84 x y d):=fun o ho ha=>by
  refine((ail o y ho).2 E ν args d hE hG (aik hC) (by rw[hs1 o];rw[hs0 x] at hst;exact hst) (by rw[hs1 o];exact ha)).mono ?_
  rintro e w' ⟨r,ν',rfl,h1,h2⟩
  have e1:wR T 100084 d o y=aE (cg T):=(No (T:=T) (v:=100084) rfl rfl).trans (congrArg aE (hs1 o))
  have e2:wR T 84 d x y=aE (cg T):=(No (T:=T) (v:=84) rfl rfl).trans (congrArg aE (hs0 x))
  rw[e1] at h1 h2
  refine⟨r,ν',rfl,by rw[e2];exact h1, ?_⟩
  rw[e2]
  exact h2
 rw[hs0 x] at hst hargs
 obtain⟨v,e1,A,c,bk,h1,h2,h3,h4,h5⟩:mc _ [.v (.slice tTb)] x args.toList:=hargs
 simp only[List.cons.injEq,and_true] at h1
 subst h1
 cases A with
 |none=>
  have hx:x=[]:=List.eq_nil_of_length_eq_zero (Nat.le_zero.1 (by have h6:=h4 rfl;subst h6;exact h2))
  have hc:=h4 rfl
  subst hx hc
  have hy:y=[]:=by
   have h':(some []:Option (List tTb.den))=some y:=h
   simpa using h'.symm
  subst hy
  exact go none ab4 ⟨_,e1,rfl⟩
 |some ad=>
  refine go (some x) ((ab5 x).trans h) ⟨_,e1,ad,c,bk,rfl,h2,h3,fun j u hj=> ?_⟩
  obtain⟨Pb,e2,hv⟩:=h5 j u hj
  cases e2
  exact hv
theorem ajV:aa8 Tryz.prog T B:=fun v g hg=>by
 unfold B at hg
 split at hg
 ·cases hg
  exact⟨rfl,amc⟩
 ·cases hg
  exact⟨rfl,amg⟩
 ·cases hg
  exact⟨rfl,ajU⟩
 ·cases hg
end Go.Proofs.YtofjebmoebhiiaaGreatDoor.Ev
namespace Go.Proofs.YtofjebmoebhiiaaGreatDoor.clearLaid
open Go.ChangeShapes Go.WideShapes Go.ChangeAt Go.RowKit
abbrev laid:List (String×DataW Unit):=[("torus/clear.standard",Rows.laid_torus_clear_standard),("torus/clear.twist",Rows.laid_torus_clear_twist)]
theorem own:ownKnob Tryz.prog.godebug=none:=by kernel_rfl
theorem g0:Tryz.prog.globalNamed "torus/clear.standard" =some 0:=by kernel_rfl
theorem g1:Tryz.prog.globalNamed "torus/clear.twist" =some 1:=by kernel_rfl
theorem t0:(Tryz.prog.globals[0]?).map (·.type)=some 86:=by kernel_rfl
theorem t1:(Tryz.prog.globals[1]?).map (·.type)=some 86:=by kernel_rfl
theorem aim (os:Os)(args:Array Value):laidMetH Tryz.prog laid ((World.doorLaid Tryz.prog 19 os).forCall (fun _ _=>0) ⟨#[],args,[]⟩).memory:=
 laidMetH_of_parts3 (fuel:=8) (laidMet_of_run' 8 (by kernel_rfl) (by kernel_rfl)) (by kernel_rfl) (by kernel_rfl)
theorem ajW {W:World}(h:laidMetH Tryz.prog laid W):W.cell? ⟨0,0,none⟩=some (.func (.func 196) #[] #[])∧W.cell? ⟨0,1,none⟩=some (.bool false)∧
  W.cell? ⟨1,0,none⟩=some (.func (.func 198) #[] #[])∧W.cell? ⟨1,1,none⟩=some (.bool true):=by
 have one:∀(name:String) (gn:Nat) (b0:UInt8) (r:List UInt8) (b:Bool) (f0:FuncId),(name,DataW.iface "func table" (.agg [.iface "func" (.lit (.string (b0::r))), .lit (.bool b)]))∈laid→Tryz.prog.globalNamed name=some gn→(Tryz.prog.globals[gn]?).map (·.type)=some 86→
   (((List.range Tryz.prog.funcs.size).filter fun f=>(Tryz.prog.funcs[f]?).any (·.name.toUTF8.data.toList==b0::r))=[f0])→W.cell? ⟨gn,0,none⟩=some (.func (.func f0) #[] #[])∧W.cell? ⟨gn,1,none⟩=some (.bool b):=by
  intro name gn b0 r b f0 hm hgn htn hone
  obtain⟨g,t,cs,fuel,p,hg,ht,hv,hd⟩:=h.funcs hm
  obtain rfl:=Option.some.inj (hgn.symm.trans hg)
  obtain rfl:=Option.some.inj (htn.symm.trans ht)
  have hd':DataW.trod (funcToken Tryz.prog) Tryz.prog W 0 (fun _=>true) true fuel 86 cs.toList=some (.agg [.held (b0::r), .lit (.bool b)],p):=hd
  obtain⟨y0,y1,n,hx,hl,h0,h1⟩:=trod_struct2 Tryz.underlying86 hd'
  have hl':cs.toList.length=2:=hl.trans (by kernel_rfl)
  obtain⟨l⟩:=cs
  simp only at hl' h0 h1
  match l,hl' with
  | [c0,c1],_=>
    have e84:Tryz.prog.cellsOf 84=1:=by kernel_rfl
    have e4:Tryz.prog.cellsOf 4=1:=by kernel_rfl
    rw[e84] at h0
    rw[e4] at h1
    simp only[Prod.mk.injEq,DataW.agg.injEq,List.cons.injEq,and_true] at hx
    have k0:DataW.trod (funcToken Tryz.prog) Tryz.prog W 0 (fun _=>true) true n 84 [c0]=some (.held (b0::r),y0.2):=by
     have h0':DataW.trod (funcToken Tryz.prog) Tryz.prog W 0 (fun _=>true) true n 84 [c0]=some y0:=h0
     rw[h0',hx.1.1]
    obtain rfl:=func_of_trod (f0:=f0) Tryz.underlying84 hone k0
    have v0:=World.var?_cell hgn hv 0
    have v1:=World.var?_cell hgn hv 1
    obtain⟨b',e1,e2⟩:=DataW.trod_bool Tryz.underlying4 (show DataW.trod (funcToken Tryz.prog) Tryz.prog W 0 (fun _=>true) true n 4 [c1]=some y1 from h1)
    simp only[List.cons.injEq,and_true] at e1
    subst e1
    have e3:=hx.1.2
    rw[e2] at e3
    simp only[DataW.lit.injEq,Lit.bool.injEq] at e3
    subst e3
    exact⟨v0,v1⟩
 obtain⟨a1,a2⟩:=one "torus/clear.standard" 0 _ _ false 196 (List.mem_cons_self ..) g0 t0 (by kernel_rfl)
 obtain⟨a3,a4⟩:=one "torus/clear.twist" 1 _ _ true 198 (List.mem_cons_of_mem _ (List.mem_cons_self ..)) g1 t1 (by kernel_rfl)
 exact⟨a1,a2,a3,a4⟩
theorem ajX {W:World}(h:laidMetH Tryz.prog laid W):Go.Abs.WQ Ev.T (fun key u=>∃ad:Addr,key= .cell ad∧∃Pb:Addr,Go.Abs.Key.cell ad= .cell Pb∧W.cell? Pb=some u):=by
 obtain⟨a1,a2,a3,a4⟩:=ajW h
 have one:∀(gn f0:Nat) (b:Bool),W.cell? ⟨gn,0,none⟩=some (.func (.func f0) #[] #[])→W.cell? ⟨gn,1,none⟩=some (.bool b)→
   Go.Abs.ql (fun key u=>∃ad:Addr,key= .cell ad∧∃Pb:Addr,Go.Abs.Key.cell ad= .cell Pb∧W.cell? Pb=some u) [⟨.fn,f0+1⟩,⟨.bool,b⟩] (.pointer (some ⟨gn,0,none⟩)):=fun gn f0 b h1 h2=>
  ⟨⟨gn,0,none⟩,[.func (.func f0) #[] #[], .bool b],rfl,⟨rfl,rfl,trivial⟩,fun j u hj=>by
    match j,hj with
    |0,hj=>cases hj;exact⟨_,rfl,_,rfl,h1⟩
    |1,hj=>cases hj;exact⟨_,rfl,_,rfl,h2⟩
    |j+2,hj=>simp at hj⟩
 intro i x hx
 have hx':Go.Abs.look [(1000000000,Go.Abs.AV.oT [⟨.fn,(197:Nat)⟩,⟨.bool,false⟩]),(1000000001,Go.Abs.AV.oT [⟨.fn,(199:Nat)⟩,⟨.bool,true⟩])] i=some x:=hx
 have hm:=Go.Abs.yN hx'
 simp only[List.mem_cons,List.not_mem_nil,or_false,Prod.mk.injEq] at hm
 rcases hm with ⟨rfl,rfl⟩ | ⟨rfl,rfl⟩
 ·exact⟨0,_,rfl,rfl,one 0 196 false a1 a2⟩
 ·exact⟨1,_,rfl,rfl,one 1 198 true a3 a4⟩
end Go.Proofs.YtofjebmoebhiiaaGreatDoor.clearLaid
namespace Go.Proofs.YtofjebmoebhiiaaGreatDoor.clearInvolution
open Go.ChangeShapes Go.WideShapes Go.ChangeAt Go.RowKit
theorem laidOut:laidOutB Tryz.prog=true:=by kernel_rfl
theorem aos:Go.Abs.lays Tryz.prog Go.Abs.ab1 28=true:=by kernel_rfl
theorem walk (W:World)(h:laidMetH Tryz.prog clearLaid.laid W)(l0:Array Value)(x0:Go.Abs.ab1.den)(w0:Go.Abs.Rel (Go.Abs.wv W) Go.Abs.ab1 x0 l0.toList)(b0:Go.Abs.Bnd Go.Abs.ab1 x0):Calls Tryz.prog 8 #[.agg l0] W fun e w'=>e= .returned (.bool true)∧Below W.heap.size W w':=
 Go.Abs.ant (T:=Ev.T) (V0:=fun key u=>∃ad:Addr,key= .cell ad∧W.cell? ad=some u) (w:=W) (v:=8) (xh:=x0) (yh:=true) ((Go.Abs.aen Ev.acN Ev.ajV Ev.aly) 8 x0 true (Ev.ajQ x0 b0) rfl) rfl HEq.rfl
   (fun ad u ⟨Pb,e,hc⟩=>by cases e;exact hc) (clearLaid.ajX h) ⟨_,rfl,Go.Abs.wL.mono (fun key u ⟨ad,e,h⟩=>⟨ad,e,by rw[←e];exact⟨ad,e,h⟩⟩) (Go.Abs.alu w0)⟩
theorem lifted (os:Os)(started:os.Started)(H:Type)(enc:TypeId×Value→H):
  ReturnsInHanded {} Tryz.checked os 8 .any (fun w args=>(Rows.clearInvolutionSpec.pre enc Tryz.prog Tryz.f8 [] false w args∧laidMetH Tryz.prog clearLaid.laid w)∧sizedMet enc Tryz.prog Tryz.f8 (OpenSpec.ofChange Rows.clearInvolutionSpec) false w args)
   (Rows.clearInvolutionSpec.post enc Tryz.prog Tryz.f8 false true false false):=by
 refine returnsInHanded_of_change_and (C:=Tryz.checked) (X:=fun w _=>laidMetH Tryz.prog clearLaid.laid w) (fun _ _ _ hh h=>h.of_heap hh) clearLaid.own started (by kernel_rfl) Tryz.func8
  (ChangeSpec.witness_shaped (enc:=enc) (C:=Tryz.checked) (os:=os) (X:=fun w _=>laidMetH Tryz.prog clearLaid.laid w) false (World.doorLaid Tryz.prog 19 os) #[.agg #[.slice none 0 0, .slice none 0 0, .int .i64 0, .slice none 0 0]] 8 rfl (World.shaped_of_RefB (by kernel_rfl) (by kernel_rfl)) (by kernel_rfl) (by kernel_rfl) (by kernel_rfl) (clearLaid.aim os _)) ?_
 intro W base args ds gs before akE hW _ aot hL _
 have hsz:(DataW.weightsEach Tryz.prog (Tryz.f8.params.toList++Rows.clearInvolutionSpec.plain.varTypes Tryz.prog) (ds++gs)).all (· ≤reachBytes)=true:=aot
 have hval:∀(j:Nat) t v,Tryz.f8.params[j]? =some t→args[j]? =some v→Value.okWide Tryz.prog W .any base t v:=akE
 have hW':=hW
 obtain⟨p,q,hA0,hV,rfl,hfz,hnd⟩:=hW
 have hA:DataW.TrodAll enc Tryz.prog W 0 (fun _=>true) true Tryz.f8.params.toList args.toList ds p:=hA0
 rw[Tryz.params8] at hA hval hsz
 obtain⟨v0,vs0,d0,ds0,q0_,q0,hargs,rfl,rfl,h0,r0⟩:=trodAll_cons hA
 obtain⟨rfl,rfl,rfl⟩:=trodAll_nil r0
 obtain rfl:args= #[v0]:=by cases args;simp_all
 obtain⟨rfl,rfl⟩:=trodVars_none hV
 obtain⟨l0,rfl,z0⟩:=okWide_struct Tryz.underlying28 (hval 0 28 v0 rfl rfl)
 have lt0:∀x∈q0_,x.block<W.heap.size:=by obtain⟨m,hm⟩:=h0;exact DataW.trod_lt m _ _ _ hm
 obtain⟨x0,w0,b0⟩:=Go.Abs.als aos h0 hsz (j:=0) rfl rfl
 clear hA0 akE aot hsz
 refine(walk W hL l0 x0 w0 b0).mono fun e W' ⟨he,bel⟩=> ?_
 subst he
 exact⟨_,rfl,_,_,_,[],_,[],hW',trodAll_mk1 (shut_bool Tryz.underlying4 _),(trodAll_cons_mk (Below.trod laidOut (by kernel_rfl) (of_decide_eq_true (by kernel_rfl)) h0 bel lt0) trodAll_mk0),rfl,bel.frame _,fun h=>by cases h⟩
theorem over:Rows.clearInvolutionRow.holds Tryz.pinned (OpenSpec.ofChange Rows.clearInvolutionSpec):=
 OpenClaim.holds_of_wide 8 Tryz.f8 rfl rfl rfl rfl rfl rfl rfl ⟨rfl,rfl,rfl,rfl,rfl⟩ rfl rfl rfl rfl rfl (by kernel_rfl) Tryz.func8 (by kernel_rfl)
  (of_decide_eq_true (by kernel_rfl)) (by unfold Func.isWrapper;first | (rw[if_pos (by decide+kernel)];kernel_rfl) | (rw[if_neg (by decide+kernel)];exact⟨rfl,rfl⟩))
  (fun os started H enc _=>lifted os started H enc)
theorem aqq:Rows.ClearInvolutionCardSaid:=
 Claim7.holds_tied_plain_at .later [] [.funcs, .funcs] true (true, "646fabaf2cebbacc9a084797f15646a8f53b2861734cfa52447632ca260b63f2") false
  over (fun _ h=>by cases h) (by kernel_rfl) (fun _ h=>by cases h) clearInvolution_row_tie rfl ⟨rfl,rfl⟩ (by kernel_rfl) rfl
  (fun f fn hf hfn=>by
   obtain rfl:f=8:=Option.some.inj ((show Tryz.prog.funcNamed "torus/toruslaw22.ClearInvolution" =some 8 by kernel_rfl).symm.trans hf) |>.symm
   obtain rfl:fn=Tryz.f8:=(Option.some.inj (Tryz.func8.symm.trans hfn)).symm
   exact⟨by kernel_rfl,fun j t ht=>by
    rw[Tryz.params8] at ht
    have hj:j<1:=by
     rcases Nat.lt_or_ge j 1 with h |h
     ·exact h
     ·rw[Array.getElem?_eq_none (by simpa using h)] at ht;cases ht
    match j,hj with
    |0,_=>(obtain rfl:t=28:=by simpa using ht.symm);exact(show Tryz.prog.wantsStandIn 28=false by kernel_rfl)⟩)
  (by kernel_rfl)
end Go.Proofs.YtofjebmoebhiiaaGreatDoor.clearInvolution
namespace Go.Proofs.YtofjebmoebhiiaaGreatDoor
theorem clearInvolution_holds:Rows.ClearInvolutionCardSaid:=clearInvolution.aqq
#print axioms clearInvolution_holds
end Go.Proofs.YtofjebmoebhiiaaGreatDoor
