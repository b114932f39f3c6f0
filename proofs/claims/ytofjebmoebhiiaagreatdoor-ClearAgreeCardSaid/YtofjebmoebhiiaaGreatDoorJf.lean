/- YtofjebmoebhiiaaGreatDoorJf: a part of the proof (Dc, Dr, Rn ..). No condition. -/
import Derived.Test.YtofjebmoebhiiaaGreatDoorJe
set_option linter.unusedVariables false
set_option linter.unusedSimpArgs false
set_option maxRecDepth 100000
set_option exponentiation.threshold 2000
namespace Go.Proofs.YtofjebmoebhiiaaGreatDoor.Ev
open Go.Abs Go.IntWalk
theorem NN {α β:Type}(d:α){xs:List α}{k:Nat}{f:α→Option β}(h:k<xs.length):(xs[k]?).bind f=f (xs.getD k d):=by rw[List.getElem?_eq_getElem h];simp[List.getD,h]
theorem ZY {last k c t4 p:Int}{aa:List Cl}{t5 o:Nat}{hp1:List (Option (List CR))}:hU last k c aa t4 t5 p o hp1=ig last k c aa t4 t5 p o hp1 []:=rfl
theorem ZZ {aa:List Cl}{n:Nat}(hc:aa.length=n)(hn:n≤1024){q0:Int}{m:Nat}(hm:m<n)(hv:Vc q0 n (ck aa ((n - 1 - m:Nat):Int))){ds:Nat→Int×ByteArray}{c t4 p:Int}{t5:Nat}:
  ∀(q i:Nat) (rs:List CR) (hp2:List (Option (List Tm))),q+i=(ck aa ((n - 1 - m:Nat):Int)).length→DS n ds rs hp2 (fun j=>Dv aa n m j++pt ((ck aa ((n - 1 - m:Nat):Int)).take i) ((n - 1 - j:Nat):Int) m)→
  ∃rs' ahA,DS n ds rs' ahA (Dv aa n (m+1))∧eX ((n:Int) - 1) ((n - 1 - m:Nat):Int) (ck aa ((n - 1 - m:Nat):Int)) (ck aa ((n - 1 - m:Nat):Int)).length i c aa t4 t5 p 1 [some rs] hp2=
   ig ((n:Int) - 1) (((n - 1 - m:Nat):Int) - 1) c aa t4 t5 p 1 [some rs'] ahA:=by
 intro q;induction q with
 |zero=>
  intro i rs hp2 hi h;refine⟨rs,hp2,h.congr fun j hj=> ?_, ?_⟩
  ·rw[List.take_of_length_le (by omega),amR]
  ·rw[xd,te,al (by omega),i64_in (((n - 1 - m:Nat):Int) - 1) (by omega)]
 |succ q ih=>
  intro i rs hp2 hi h;generalize hb:ck aa ((n - 1 - m:Nat):Int)=b at*
  have hi':i<b.length:=by omega
  have hlen:b.length≤1024:=by have:=hv.length (by omega);omega
  have ht:b.getD i wM∈b:=az hi';obtain⟨c1,c2,c3⟩:=amS hv.s hi';have r1:=hv.r _ ht;have r0:=Sr.mem hv.s _ ht;generalize hte:b.getD i wM=t at*
  obtain⟨j,hj⟩:∃j:Nat,(n:Int) - 1 - t.1=(j:Int):=⟨((n:Int) - 1 - t.1).toNat,by omega⟩
  have hjn:j<n:=by omega
  have ej:((n - 1 - j:Nat):Int)=t.1:=by omega
  have g1:ag [some rs] 1=some rs:=rfl;have ew:IntKind.wrap .i64 ((n:Int) - 1 - t.1)=(j:Int):=by rw[hj,i64_in _ (by omega)]
  have em:IntKind.wrap .i64 ((n:Int) - 1 - ((n - 1 - m:Nat):Int))=(m:Int):=by rw[i64_in _ (by omega)];omega
  have hjl:j<rs.length:=by rw[h.len];exact hjn
  have hg:=h.get j hjn;have st:=h.step hjn (x:=((m:Int),(t.2.1,())));rw[ej,show pt (b.take i) t.1 m=[] from by unfold pt;rw[if_pos c1],List.append_nil] at hg;have hll:=ahz aa n m j;have hs1:∀rs',ef [some rs] 1 rs'=[some rs']:=fun _=>rfl;obtain⟨rs',ahA,k1,k2⟩:=ih (i+1) _ _ (by omega) (st.congr fun j' hj'=>by
   by_cases e:j'=j
   ·subst e;rw[if_pos rfl,ej,show pt (b.take i) t.1 m=[] from by unfold pt;rw[if_pos c1],show pt (b.take (i+1)) t.1 m=[((m:Int),(t.2.1,()))] from by unfold pt;rw[c2,if_neg (by omega)],List.append_nil]
   ·rw[if_neg e];have:cf (b.take (i+1)) ((n - 1 - j':Nat):Int)=cf (b.take i) ((n - 1 - j':Nat):Int):=c3 _ (by omega);unfold pt;rw[this])
  refine⟨rs',ahA,k1, ?_⟩;rw[←k2,xd,te,au (by omega),eQ wM hi',hte,g1,bS,ew,eQ Jz hjl,bS,Int.toNat_natCast,NN Jz hjl,hg,bS,iG (by omega) (by omega),bS,NN Jz hjl,hs1,em,aU (by omega)];simp only[ej,show pt (b.take i) t.1 m=[] from by unfold pt;rw[if_pos c1],List.append_nil]
theorem Z0 {aa:List Cl}{n:Nat}(hc:aa.length=n)(hn:n≤1024){q0:Int}(hv:∀j,j<n→Vc q0 n (ck aa j)){ds:Nat→Int×ByteArray}{c t4 p:Int}{t5:Nat}:
  ∀(q m:Nat) (rs:List CR) (hp2:List (Option (List Tm))),q+m=n→DS n ds rs hp2 (Dv aa n m)→
  ig ((n:Int) - 1) ((n:Int) - 1 - m) c aa t4 t5 p 1 [some rs] hp2=some ((p,((List.range n).map fun j=>((ds j).1,((ds j).2,(Dv aa n n j,()))),())),0):=by
 intro q;induction q with
 |zero=>
  intro m rs hp2 hq h;obtain rfl:m=n:=by omega
  have hr:∀r∈rs,ag hp2 r.2.2.1=some ((ag hp2 r.2.2.1).getD []):=fun r hr=>by
   obtain⟨j,hj,e⟩:=List.getElem_of_mem hr;have:=h.get j (by rw[←h.len];exact hj);have e2:rs.getD j Jz=r:=by simp[List.getD,hj,e]
   rw[e2] at this;rw[this];rfl
  rw[xe,tf,wF (by omega),aeg (hp1:=[some rs]) (hp2:=hp2) rfl rfl (rs:=rs) rfl hr];have e:(rs.map fun r=>(r.1,(r.2.1,((ag hp2 r.2.2.1).getD [],()))))=((List.range m).map fun j=>((ds j).1,((ds j).2,(Dv aa m m j,())))):=by
   apply List.ext_getElem
   ·simp[h.len]
   ·intro j hj1 hj2;have hj:j<m:=by simpa using hj2
    have hjl:j<rs.length:=by rw[h.len];exact hj
    have e2:rs.getD j Jz=rs[j]:=by simp[List.getD,hjl]
    obtain⟨d1,d2⟩:=h.ds j hj;have d3:=h.get j hj;rw[e2] at d1 d2 d3;simp only[List.getElem_map,List.getElem_range];rw[d1,d2,d3];rfl
  rw[e];rfl
 |succ q ih=>
  intro m rs hp2 hq h;have hm:m<n:=by omega
  have ek:(n:Int) - 1 - m=((n - 1 - m:Nat):Int):=by omega
  have hv':=hv (n - 1 - m) (by omega);obtain⟨rs',ahA,k1,k2⟩:=ZZ hc hn hm hv' (c:=c) (t4:=t4) (p:=p) (t5:=t5) (ck aa ((n - 1 - m:Nat):Int)).length 0 rs hp2 (by omega) (h.congr fun j hj=>by rw[List.take_zero,apv,List.append_nil]);have e0:((0:Nat):Int)=0:=rfl;rw[e0] at k2;have ek2:((n - 1 - m:Nat):Int) - 1=(n:Int) - 1 - ((m+1:Nat):Int):=by omega
  rw[ek,xe,tf,y7 (by omega),eQ iF (by omega), ←gX,k2,ek2];exact ih (m+1) rs' ahA (by omega) k1
def dsf (aa:List Cl)(n j:Nat):Int×ByteArray:=(4 - (aa.getD (n - 1 - j) iF).1,akH (nV aa (n - 1 - j)))
def ju (aa:List Cl):List Cl:=(List.range aa.length).map fun j=>((dsf aa aa.length j).1,((dsf aa aa.length j).2,(Dv aa aa.length aa.length j,())))
theorem Z1 {aa:List Cl}{n:Nat}(hc:aa.length=n)(hn:n≤1024)(hd:∀j,j<n→0≤(aa.getD j iF).1∧(aa.getD j iF).1≤4)(ha:∀j,j<n→yn (nV aa j)=true∧(nV aa j).size≤1000){c t3 p:Int}{t4:Nat}:
  ∀(q j:Nat) (rs:List CR),q+j=n→rs.length=n→(∀i,i<n→rs.getD i Jz=if i<j then ((dsf aa n i).1,((dsf aa n i).2,(0,()))) else Jz)→
  ∃rs',rs'.length=n∧(∀i,i<n→rs'.getD i Jz=((dsf aa n i).1,((dsf aa n i).2,(0,()))))∧
   jw ((n:Int) - 1) n j c aa t3 t4 p 1 [some rs]=hU ((n:Int) - 1) ((n:Int) - 1) c aa t3 t4 p 1 [some rs']:=by
 intro q;induction q with
 |zero=>intro j rs hq hl h;refine⟨rs,hl,fun i hi=>by rw[h i hi,if_pos (by omega)], ?_⟩;rw[zo,uP,al (by omega)]
 |succ q ih=>
  intro j rs hq hl h;have hj:j<n:=by omega
  have hk:n - 1 - j<n:=by omega
  obtain⟨a1,a2⟩:=ha _ hk;obtain⟨d1,d2⟩:=hd _ hk;obtain⟨m,d,hR⟩:=tk.1 a1;obtain⟨b1,b2,b3⟩:=hR.bounds a2;have ew:IntKind.wrap .i64 ((n:Int) - 1 - (j:Int))=((n - 1 - j:Nat):Int):=by rw[i64_in _ (by omega)];omega
  have g1:∀rs:List CR,ag [some rs] 1=some rs:=fun _=>rfl;have hs1:∀rs rs':List CR,ef [some rs] 1 rs'=[some rs']:=fun _ _=>rfl;have hjl:j<rs.length:=by omega
  have hr:gM (aa.getD (n - 1 - j) iF).2.1=some (WR m d,true):=R5 a2 hR;obtain⟨rs',k1,k2,k3⟩:=ih (j+1) (rs.set j (4 - (aa.getD (n - 1 - j) iF).1,(RT (-m) d,(0,())))) (by omega) (by rw[List.length_set];exact hl) (fun i hi=>by
   rw[kZ];by_cases e:j=i
   ·subst e;rw[if_pos ⟨rfl,hjl⟩,if_pos (by omega)];unfold dsf;rw[afA hR]
   ·rw[if_neg (fun h=>e h.1),h i hi];by_cases e2:i<j
    ·rw[if_pos e2,if_pos (by omega)]
    ·rw[if_neg e2,if_neg (by omega)])
  refine⟨rs',k1,k2, ?_⟩;rw[←k3,zo,uP,au (by omega),ew,eQ iF (by omega),hr,bS];simp only[yj];rw[apu b1,bS];simp only[yj];have hj0:rs.getD j Jz=Jz:=by rw[h j hj,if_neg (by omega)]
  rw[amQ (by rw[ZC];exact b1) b2 b3,bS,g1,bS,eQ Jz hjl,bS,Int.toNat_natCast,NN Jz hjl,hs1,g1,bS,eQ Jz (by rw[List.length_set];exact hjl),bS,NN Jz (by rw[List.length_set];exact hjl),kZ,if_pos ⟨rfl,hjl⟩,hs1,List.set_set,hj0,aU (by omega),i64_in (4 - _) (by omega)]
theorem W0 {p:Int}{aa:List Cl}(hs:Sz aa):pw (p,(aa,()))=some (if gr p aa=0 then ((p,(ju aa,())),0) else ((0,([],())),gr p aa)):=by
 rw[Np,It];simp only;rw[Ez hs,bS];by_cases h0:gr p aa=0
 ·obtain⟨hp,hl,hg⟩:=pe h0;obtain⟨n,hn⟩:∃n,aa.length=n:=⟨_,rfl⟩
  have hv:∀j,j<n→Vc p n (ck aa j):=fun j hj=>(hg j (by omega)).bd.mono (by omega);rw[if_pos h0,pd h0,CD (by omega) (by omega) (by omega),i64_in ((aa.length:Int) - 1) (by omega),Int.toNat_natCast,hn];have g0:ag (([]:List (Option (List CR)))++[some (List.replicate n Jz)]) (([]:List (Option (List CR))).length+1)=some (List.replicate n Jz):=rfl;have g1:(([]:List (Option (List CR)))++[some (List.replicate n Jz)])=[some (List.replicate n Jz)]:=rfl;rw[g0,bS,List.length_replicate,g1];obtain⟨rs',k1,k2,k3⟩:=Z1 hn (by omega) (fun j hj=>(hg j (by omega)).dim) (fun j hj=>⟨(hg j (by omega)).at_,hs.at_ j⟩) (c:=p) (t3:=0) (p:=p) (t4:=0) n 0 (List.replicate n Jz) (by omega) (by simp) (fun i hi=>by rw[if_neg (by omega)];simp[List.getD,hi]);have e0:((0:Nat):Int)=0:=rfl;rw[e0] at k3;have e1:(([]:List (Option (List CR))).length+1)=1:=rfl;rw[e1,k3,ZY];have key:=Z0 hn (by omega) hv (ds:=dsf aa n) (c:=p) (t4:=0) (p:=p) (t5:=0) n 0 rs' [] (by omega) ⟨k1,fun j hj=>by rw[k2 j hj];rfl,fun i j hi hj _ _=>by rw[k2 i hi],fun j hj=>by rw[k2 j hj];exact Nat.zero_le _,fun j hj=>by rw[k2 j hj];exact⟨rfl,rfl⟩⟩;have e2:(n:Int) - 1 - ((0:Nat):Int)=(n:Int) - 1:=by omega
  rw[e2] at key;rw[key];unfold ju;rw[hn]
 ·rw[if_neg h0,Hw h0,O7 (l:=[]) rfl rfl];rfl
theorem LC {a b:List Int}(hl:a.length=b.length)(h:∀r,r<a.length→a.getD r 0=b.getD r 0):a=b:=by apply List.ext_getElem hl;intro r h1 h2;have:=h r h1;simpa [List.getD,h1,h2] using this
abbrev Hi4:=List (Option (List Int))
abbrev W1:=List (Option (List Nat))
theorem QF {α:Type}{xs:List (Option (List α))}{n r:Nat}{l l':List α}(h:ag xs r=some l)(hne:r≠n):ag (ef xs n l') r=some l:=by
 cases n with
 |zero=>exact h
 |succ n=>
  cases r with
  |zero=>exact h
  |succ r=>show (match (xs.set n (some l'))[r]? with |some o=>o |none=>none)=some l;rw[List.getElem?_set_ne (by omega)];exact h
theorem ahC {α:Type}{xs:List (Option (List α))}{n:Nat}{a b:List α}:ef (ef xs n a) n b=ef xs n b:=by
 cases n with
 |zero=>rfl
 |succ n=>exact List.set_set ..
theorem LD {α β:Type}(d:α){xs:List α}{i:Nat}{f:α→Option β}(h:i<xs.length):((idx xs (i:Int)).bind fun _=>(xs[(i:Int).toNat]?).bind f)=f (xs.getD i d):=by rw[eQ d h,Int.toNat_natCast,NN d h]
theorem arW {α β:Type}(d:α){xs:List α}{f:α→Option β}(h:0<xs.length):((idx xs (0:Int)).bind fun _=>(xs[(0:Int).toNat]?).bind f)=f (xs.getD 0 d):=LD (i:=0) d h
theorem arX {a b p:Int}(ha:0≤a∧a<p)(hb:0≤b∧b<p)(hp:p≤251):0≤a*b∧a*b≤63001:=by refine⟨Int.mul_nonneg ha.1 hb.1, ?_⟩;have h1:a*b≤251*b:=Int.mul_le_mul_of_nonneg_right (by omega) hb.1;omega
structure RM (p:Int) (aj:Hi4) (ar:W1) (rows N w:Nat) (rs:List Nat) (M:Nat→List Int):Prop where
 g:ag ar rows=some rs
 n:rs.length=N
 r:∀s,s<N→ag aj (rs.getD s 0)=some (M s)
 w:∀s,s<N→(M s).length=w
 b:∀s,s<N→Rs p (M s)
 i:∀s t,s<N→t<N→rs.getD s 0=rs.getD t 0→s=t
 z:∀s,s<N→rs.getD s 0≠0
section
variable {p:Int}{aj:Hi4}{ar:W1}{rows N w:Nat}{rs:List Nat}{M:Nat→List Int}
theorem RM.congr {M':Nat→List Int}(h:RM p aj ar rows N w rs M)(e:∀s,s<N→M' s=M s):RM p aj ar rows N w rs M':=
 ⟨h.g,h.n,fun s hs=>by rw[e s hs];exact h.r s hs,fun s hs=>by rw[e s hs];exact h.w s hs,fun s hs=>by rw[e s hs];exact h.b s hs,h.i,h.z⟩
theorem RM.nu (h:RM p aj ar rows N w rs M){i:Nat}(hi:i<N){row:List Int}(hl:row.length=w)(hb:Rs p row):RM p (ef aj (rs.getD i 0) row) ar rows N w rs (fun s=>if s=i then row else M s):=by
 refine⟨h.g,h.n,fun s hs=> ?_,fun s hs=> ?_,fun s hs=> ?_,h.i,h.z⟩
 ·by_cases e:s=i
  ·subst e;rw[if_pos rfl];exact fD (h.r s hs) (h.z s hs)
  ·rw[if_neg e];exact QF (h.r s hs) fun q=>e (h.i s i hs hi q)
 ·by_cases e:s=i
  ·rw[if_pos e];exact hl
  ·rw[if_neg e];exact h.w s hs
 ·by_cases e:s=i
  ·rw[if_pos e];exact hb
  ·rw[if_neg e];exact h.b s hs
theorem ahD {a b:Nat}(ha:a<rs.length)(hb:b<rs.length){s:Nat}:((rs.set a (rs.getD b 0)).set b (rs.getD a 0)).getD s 0=rs.getD (sw a b s) 0:=by
 rw[kZ,kZ,List.length_set];unfold sw;by_cases h1:s=a
 ·by_cases h2:b=s
  ·rw[if_pos ⟨h2,hb⟩,if_pos h1];rw[show a=b by omega]
  ·rw[if_neg (fun q=>h2 q.1),if_pos ⟨h1.symm,ha⟩,if_pos h1]
 ·by_cases h2:b=s
  ·rw[if_pos ⟨h2,hb⟩,if_neg h1,if_pos h2.symm]
  ·rw[if_neg (fun q=>h2 q.1),if_neg (fun q=>h1 q.1.symm),if_neg h1,if_neg (fun q=>h2 q.symm)]
theorem RM.swap (h:RM p aj ar rows N w rs M)(h0:rows≠0){a b:Nat}(ha:a<N)(hb:b<N):
  RM p aj (ef ar rows ((rs.set a (rs.getD b 0)).set b (rs.getD a 0))) rows N w ((rs.set a (rs.getD b 0)).set b (rs.getD a 0)) (fun s=>M (sw a b s)):=by
 have hn:=h.n;have hs':∀s,s<N→sw a b s<N:=fun s hs=>by unfold sw;split<;>(try split)<;>omega
 have e:∀s,((rs.set a (rs.getD b 0)).set b (rs.getD a 0)).getD s 0=rs.getD (sw a b s) 0:=fun s=>ahD (by omega) (by omega);refine⟨fD h.g h0,by simp[hn],fun s hs=>by rw[e];exact h.r _ (hs' s hs),fun s hs=>h.w _ (hs' s hs),fun s hs=>h.b _ (hs' s hs),fun s t hs ht q=> ?_,fun s hs=>by rw[e];exact h.z _ (hs' s hs)⟩;rw[e,e] at q;have:=h.i _ _ (hs' s hs) (hs' t ht) q;have e2:=congrArg (sw a b) this;rw[akD,akD] at e2;exact e2
end
def elr (a b:List Int)(k p:Int)(c w j:Nat):List Int:=(List.range w).map fun q=>if c≤q∧q<j then (a.getD q 0+k*b.getD q 0) % p else a.getD q 0
section
variable {a b:List Int}{k p:Int}{c w j q:Nat}
theorem uU:(elr a b k p c w j).length=w:=by simp[elr]
theorem HE (hq:q<w):(elr a b k p c w j).getD q 0=if c≤q∧q<j then (a.getD q 0+k*b.getD q 0) % p else a.getD q 0:=by simp[elr,List.getD,hq]
theorem ahE (ha:a.length=w):elr a b k p c w c=a:=LC (by rw[uU,ha]) fun r hr=>by rw[uU] at hr;rw[HE hr,if_neg (by omega)]
theorem akJ (hc:c≤j)(hj:j<w):(elr a b k p c w j).set j ((a.getD j 0+k*b.getD j 0) % p)=elr a b k p c w (j+1):=LC (by rw[List.length_set,uU,uU]) fun r hr=>by
 rw[List.length_set,uU] at hr;rw[kZ,uU,HE hr,HE hr];by_cases e:j=r
 ·subst e;rw[if_pos ⟨rfl,hj⟩,if_pos (by omega)]
 ·rw[if_neg (fun h=>e h.1)];by_cases e2:c≤r∧r<j
  ·rw[if_pos e2,if_pos (by omega)]
  ·rw[if_neg e2,if_neg (by omega)]
theorem apw (hp:0<p)(ha:Rs p a):Rs p (elr a b k p c w j):=fun q=>by
 by_cases hq:q<w
 ·rw[HE hq];split
  ·exact⟨Int.emod_nonneg _ (by omega),Int.emod_lt_of_pos _ hp⟩
  ·exact ha q
 ·have:(elr a b k p c w j).getD q 0=0:=by have:=uU (a:=a) (b:=b) (k:=k) (p:=p) (c:=c) (w:=w) (j:=j);simp[List.getD,List.getElem?_eq_none (show (elr a b k p c w j).length≤q by omega)]
  omega
end
section
variable {p:Int}{ar:W1}{rows N w:Nat}{rs:List Nat}
theorem amV (hp:Pr p)(hN:N≤1000)(hw:w≤1000){M:Nat→List Int}{r c i:Nat}(hr:r<N)(hi:i<N)(hne:r≠i){inv k:Int}(hk:0<k∧k<p)(hM:Rs p (M i))(hMr:Rs p (M r)):∀(d j:Nat) (aj:Hi4),d+j=w→c≤j→RM p aj ar rows N w rs (fun s=>if s=i then elr (M i) (M r) k p c w j else M s)→
  ∃fT,dd p rows r c inv i k j aj ar=bQ p rows r c inv (i+1:Nat) fT ar∧RM p fT ar rows N w rs (fun s=>if s=i then elr (M i) (M r) k p c w w else M s):=by
 have hp1:=hp.1;have hp2:=hp.2.1;intro d;induction d with
 |zero=>
  intro j aj hd hc h;obtain rfl:j=w:=by omega
  have hn:=h.n;have e1:=h.r i hi;simp only[if_true] at e1;refine⟨aj, ?_,h⟩;rw[nQ,ke,da hk.1,h.g];simp only[bS];rw[LD 0 (by omega),e1,bS,uU,al (by omega),aU (by omega)]
 |succ d ih=>
  intro j aj hd hc h;have hn:=h.n;have hj:j<w:=by omega
  have e1:=h.r i hi;simp only[if_true] at e1;have e2:=h.r r hr;simp only[if_neg hne] at e2;have w2:=h.w r hr;simp only[if_neg hne] at w2;have b1:=hM j;have b2:=hMr j;have b3:=arX ⟨by omega,hk.2⟩ b2 hp2;have hu:=h.nu hi (row:=elr (M i) (M r) k p c w (j+1)) uU (apw (by omega) hM);have hu2:=hu.congr (M':=fun s=>if s=i then elr (M i) (M r) k p c w (j+1) else M s) fun s _=>by
   by_cases e:s=i
   ·simp only[if_pos e]
   ·simp only[if_neg e]
  obtain⟨fT,g1,g2⟩:=ih (j+1) _ (by omega) (by omega) hu2;refine⟨fT, ?_,g2⟩;rw[←g1,nQ,ke,da hk.1,h.g];simp only[bS];rw[LD 0 (by omega),e1];simp only[bS];rw[uU,au (by omega),LD 0 (by omega),LD 0 (by omega),e1];simp only[bS];rw[LD 0 (by rw[uU];exact hj),LD 0 (by omega),e2];simp only[bS];rw[LD 0 (by omega),kg (by omega),LD 0 (by rw[uU];exact hj),HE hj,if_neg (by omega),i64_in (k*_) (by omega),i64_in ((M i).getD j 0+_) (by omega),bD (by omega),Int.toNat_natCast,akJ hc hj,aU (by omega)]
theorem amW (hp:Pr p)(hN:N≤1000)(hw:w≤1000){r c:Nat}(hr:r<N)(hc:c<w){inv:Int}(hv:1≤inv∧inv<p):∀(d i:Nat) (aj:Hi4) (M:Nat→List Int),d+i=N→r<i→RM p aj ar rows N w rs M→(M r).getD c 0*inv % p=1→(∀q,q<c→p ∣ (M r).getD q 0)→
  ∃fT M',bQ p rows r c inv i aj ar=aJ p rows (r+1:Nat) (c+1:Nat) fT ar∧RM p fT ar rows N w rs M'∧(∀s,s<i→M' s=M s)∧∀s,i≤s→s<N→∃kap:Int,(∀q,q<w→p ∣ (M' s).getD q 0 - ((M s).getD q 0+kap*(M r).getD q 0))∧p ∣ (M' s).getD c 0:=by
 have hp1:=hp.1;have hp2:=hp.2.1;intro d;induction d with
 |zero=>
  intro i aj M hd hi h h1 hz;obtain rfl:i=N:=by omega
  have hn:=h.n;refine⟨aj,M, ?_,h,fun _ _=>rfl,fun s h1 h2=>by omega⟩;rw[uG,o9,h.g];simp only[bS];rw[al (by omega),aU (by omega),aU (by omega)]
 |succ d ih=>
  intro i aj M hd hi h h1 hz;have hiN:i<N:=by omega
  have hn:=h.n;have e1:=h.r i hiN;have w1:=h.w i hiN;have hb:=h.b i hiN;have hbr:=h.b r hr;have b1:=hb c;have b2:=arX b1 ⟨by omega,hv.2⟩ hp2;obtain⟨k,hk⟩:∃k,k=(p - (M i).getD c 0*inv % p) % p:=⟨_,rfl⟩
  have k0:0≤k∧k<p:=by rw[hk];exact⟨Int.emod_nonneg _ (by omega),Int.emod_lt_of_pos _ (by omega)⟩
  have b3:0≤(M i).getD c 0*inv % p∧(M i).getD c 0*inv % p<p:=⟨Int.emod_nonneg _ (by omega),Int.emod_lt_of_pos _ (by omega)⟩
  have apx:p ∣ (M i).getD c 0+k*(M r).getD c 0:=by
   rw[hk,Int.emod_def (p - (M i).getD c 0*inv % p) p,Int.emod_def ((M i).getD c 0*inv) p];rw[Int.emod_def] at h1;generalize (p - ((M i).getD c 0*inv - p*((M i).getD c 0*inv / p))) / p=u;generalize (M i).getD c 0*inv / p=v;generalize (M r).getD c 0*inv / p=t at h1;generalize (M r).getD c 0=x at*
   generalize (M i).getD c 0=y at*
   exact⟨x+v*x - u*x - y*t,by grind⟩
  have step:bQ p rows r c inv i aj ar=dd p rows r c inv i k c aj ar:=by rw[uG,o9,h.g];simp only[bS];rw[au (by omega),LD 0 (by omega),e1];simp only[bS];rw[LD 0 (by omega),kg (by omega),kg (by omega),i64_in ((M i).getD c 0*inv) (by omega),bD (a:=(M i).getD c 0*inv) (by omega),i64_in (p - (M i).getD c 0*inv % p) (by omega),bD (by omega), ←hk]
  by_cases hk0:k=0
  ·obtain⟨fT,M',g1,g2,g3,g4⟩:=ih (i+1) aj M (by omega) (by omega) h h1 hz;refine⟨fT,M', ?_,g2,fun s hs=>g3 s (by omega),fun s hs1 hs2=> ?_⟩
   ·rw[←g1,step,nQ,ke,dA (by omega),aU (by omega)]
   ·by_cases e:s=i
    ·subst e;refine⟨0,fun q hq=> ?_, ?_⟩
     ·rw[g3 s (by omega),Int.zero_mul,Int.add_zero,Int.sub_self];exact Int.dvd_zero p
     ·rw[g3 s (by omega)];rw[hk0,Int.zero_mul,Int.add_zero] at apx;exact apx
    ·exact g4 s (by omega) hs2
  ·obtain⟨fT,f1,f2⟩:=amV (ar:=ar) (rows:=rows) (rs:=rs) hp hN hw (M:=M) hr hiN (show r≠i by omega) (inv:=inv) (k:=k) (c:=c) ⟨by omega,k0.2⟩ hb hbr (w - c) c aj (by omega) (Nat.le_refl c) (h.congr fun s hs=>by
    by_cases e:s=i
    ·subst e;rw[if_pos rfl,ahE w1]
    ·rw[if_neg e])
   obtain⟨akK,M',g1,g2,g3,g4⟩:=ih (i+1) fT _ (by omega) (by omega) f2 (by simp only[if_neg (show r≠i by omega)];exact h1) (by simp only[if_neg (show r≠i by omega)];exact hz);refine⟨akK,M', ?_,g2,fun s hs=> ?_,fun s hs1 hs2=> ?_⟩
   ·rw[step,f1,g1]
   ·rw[g3 s (by omega)];simp only[if_neg (show s≠i by omega)]
   ·by_cases e:s=i
    ·subst e;have e5:=g3 s (by omega);simp only[if_true] at e5;have e6:∀q,q<w→p ∣ (M' s).getD q 0 - ((M s).getD q 0+k*(M r).getD q 0):=fun q hq=>by
      rw[e5,HE hq];by_cases hcq:c≤q
      ·rw[if_pos ⟨hcq,hq⟩,Int.emod_def];exact⟨-(((M s).getD q 0+k*(M r).getD q 0) / p),by grind⟩
      ·rw[if_neg (by omega)];obtain⟨t,ht⟩:=hz q (by omega);rw[ht];exact⟨-(k*t),by grind⟩
     exact⟨k,e6,(eG (e6 c hc)).2 apx⟩
    ·obtain⟨kap,q1,q2⟩:=g4 s (by omega) hs2;simp only[if_neg e,if_neg (show r≠i by omega)] at q1;exact⟨kap,q1,q2⟩
theorem amX (hp:Pr p)(hN:N≤1000)(hw:w≤1000){r c:Nat}(hr:r<N)(hc:c<w){aj:Hi4}{M:Nat→List Int}(h0:rows≠0)(h:RM p aj ar rows N w rs M):∀(d P:Nat),d+P=N→r≤P→(∀t,r≤t→t<P→(M t).getD c 0=0)→
  (∃P',r≤P'∧P'<N∧(M P').getD c 0≠0∧bp p rows r c P aj ar=bQ p rows r c (iv p ((M P').getD c 0)) (r+1:Nat) aj (ef ar rows ((rs.set r (rs.getD P' 0)).set P' (rs.getD r 0))))∨
  ((∀t,r≤t→t<N→(M t).getD c 0=0)∧bp p rows r c P aj ar=aJ p rows r (c+1:Nat) aj ar):=by
 have hn:=h.n;have hg:∀l,ag (ef ar rows l) rows=some l:=fun l=>fD h.g h0;intro d;induction d with
 |zero=>
  intro P hd hP hz;obtain rfl:P=N:=by omega
  refine .inr ⟨hz, ?_⟩;rw[nP,kd,h.g];simp only[bS];rw[al (by omega),iZ (by omega),aU (by omega)]
 |succ d ih=>
  intro P hd hP hz;have hPN:P<N:=by omega
  have e1:=h.r P hPN;have w1:=h.w P hPN;by_cases hx:(M P).getD c 0=0
  ·have:=ih (P+1) (by omega) (by omega) fun t h1 h2=>by
    by_cases e:t=P
    ·subst e;exact hx
    ·exact hz t h1 (by omega)
   have st:bp p rows r c P aj ar=bp p rows r c (P+1:Nat) aj ar:=by
    conv=>lhs;rw[nP,kd,h.g]
    simp only[bS];rw[au (by omega),LD 0 (by omega),e1];simp only[bS];rw[LD 0 (by omega),iZ hx,aU (by omega)]
   rw[st];exact this
  ·refine .inl ⟨P,hP,hPN,hx, ?_⟩;have hs:=h.swap h0 hr hPN;have e3:=hs.r r hr;have w3:=hs.w r hr;have hsn:=hs.n;simp only[show sw r P r=P from if_pos rfl] at e3 w3;have hb:=h.b P hPN c;have hl1:(rs.set r (rs.getD P 0)).length=N:=by rw[List.length_set];exact hn
   rw[nP,kd,h.g];simp only[bS,ahC,hg];rw[au (by omega),LD 0 (by omega),e1];simp only[bS];rw[LD 0 (by omega),ft hx,ft (by omega),LD 0 (by omega),LD 0 (by omega),LD 0 (by omega),Int.toNat_natCast,Int.toNat_natCast,eQ 0 (by omega),NN 0 (by omega),eQ 0 (by omega),NN 0 (by omega),e3];simp only[bS];rw[LD 0 (by omega),VW hp (by omega),bS,aU (by omega)]
theorem amY (hp:Pr p)(hN:N≤1000)(hw:w≤1000)(h0:rows≠0)(hN1:0<N){m:Nat→Nat→Int}:∀(d c r:Nat) (aj:Hi4) (ar:W1) (rs:List Nat) (M:Nat→List Int) (pos:Nat→Nat),d+c=w→RM p aj ar rows N w rs M→RI p w N r c m (fun s q=>(M s).getD q 0) pos→
  ∃(k c':Nat) (M':Nat→Nat→Int) (pos':Nat→Nat),aJ p rows r c aj ar=some (k:Int)∧RI p w N k c' m M' pos'∧(k=N∨c'=w):=by
 have hp1:=hp.1;have hp2:=hp.2.1;intro d;induction d with
 |zero=>
  intro c r aj ar rs M pos hd h hR;obtain rfl:c=w:=by omega
  have hn:=h.n;have hle:=hR.le;refine⟨r,c,_,pos, ?_,hR, .inr rfl⟩;rw[nO,kc,h.g];simp only[bS];by_cases hr:r<N
  ·rw[au (by omega),arW 0 (by omega),h.r 0 hN1,bS,h.w 0 hN1,al (by omega)]
  ·rw[al (by omega)]
 |succ d ih=>
  intro c r aj ar rs M pos hd h hR;have hn:=h.n;have hle:=hR.le;have hc:c<w:=by omega
  by_cases hr:r<N
  ·have st:aJ p rows r c aj ar=bp p rows r c r aj ar:=by rw[nO,kc,h.g];simp only[bS];rw[au (by omega),arW 0 (by omega),h.r 0 hN1,bS,h.w 0 hN1,au (by omega)]
   rw[st];rcases amX hp hN hw hr hc h0 h (N - r) r (by omega) (Nat.le_refl r) (fun t h1 h2=>by omega) with ⟨P,q1,q2,q3,q4⟩ | ⟨q1,q2⟩
   ·have hb:=h.b P q2 c;have hx:1≤(M P).getD c 0∧(M P).getD c 0<p:=by omega
    have hs:=h.swap h0 hr q2;have swr:sw r P r=P:=if_pos rfl;obtain⟨fT,M',g1,g2,g3,g4⟩:=amW hp hN hw hr hc (Lx hp hx) (N - (r+1)) (r+1) aj _ (by omega) (by omega) hs (by simp only[swr];exact OX hp hx) (by simp only[swr];exact fun q hq=>hR.z P q1 q2 q hq);simp only[swr] at g4;have:∀s,∃kap:Int,(s≤r→kap=0)∧(s<N→∀q,q<w→p ∣ (M' s).getD q 0 - ((M (sw r P s)).getD q 0+kap*(M P).getD q 0)):=fun s=>by
     by_cases e:s≤r
     ·refine⟨0,fun _=>rfl,fun hs q hq=> ?_⟩;rw[g3 s (by omega),Int.zero_mul,Int.add_zero,Int.sub_self];exact Int.dvd_zero p
     ·by_cases e2:s<N
      ·obtain⟨kap,k1,_⟩:=g4 s (by omega) e2;exact⟨kap,fun q=>absurd q e,fun _=>k1⟩
      ·exact⟨0,fun _=>rfl,fun q=>absurd q e2⟩
    obtain⟨kap,arZ⟩:=Classical.axiomOfChoice this;have hne:¬p ∣ (M P).getD c 0:=fun e=>by have:=Int.le_of_dvd (by omega) e;omega
    have hR':=hR.step hc q1 q2 hne (M':=fun s q=>(M' s).getD q 0) (kap:=kap) (fun i hi=>(arZ i).1 hi) (fun i hi=>(arZ i).2 hi) fun i h1 h2=>by obtain⟨_,_,k2⟩:=g4 i (by omega) h2;exact k2
    obtain⟨k,c',M'',pos',f1,f2⟩:=ih (c+1) (r+1) fT _ _ M' _ (by omega) g2 hR';exact⟨k,c',M'',pos',by rw[q4,g1,f1],f2⟩
   ·obtain⟨k,c',M'',pos',f1,f2⟩:=ih (c+1) r aj ar rs M pos (by omega) h (hR.skip hc fun t h1 h2=>by rw[q1 t h1 h2];exact Int.dvd_zero p);exact⟨k,c',M'',pos',by rw[q2,f1],f2⟩
  ·refine⟨r,c,_,pos, ?_,hR, .inl (by omega)⟩;rw[nO,kc,h.g];simp only[bS];rw[al (by omega)]
theorem amZ {m:List (List Int)}(hN:m.length≤1000)(hw:w≤1000)(hm:∀s,s<m.length→(m.getD s []).length=w∧Rs p (m.getD s [])):∀(d i rows:Nat) (aj:Hi4) (ar:W1) (rs:List Nat),d+i=m.length→(i=0∨rows≠0)→(∀s,s<i→rs.getD s 0≤aj.length)→RM p aj ar rows i w rs (fun s=>m.getD s [])→
  ∃yp fT EA rs',iX p m rows i aj ar=aJ p yp 0 0 fT EA∧(m.length=0∨yp≠0)∧RM p fT EA yp m.length w rs' (fun s=>m.getD s []):=by
 intro d;induction d with
 |zero=>
  intro i rows aj ar rs hd h0 hlt h;obtain rfl:i=m.length:=by omega
  refine⟨rows,aj,ar,rs, ?_,h0,h⟩;rw[uF,o7,al (by omega)]
 |succ d ih=>
  intro i rows aj ar rs hd h0 hlt h;have hi:i<m.length:=by omega
  have hn:=h.n;obtain⟨m1,m2⟩:=hm i hi;have e0:∀(x:Nat),ag (ar++[some [x]]) rows=some rs:=fun x=>pn h.g;have e1:∀(x:Nat),ag (ar++[some [x]]) (ar.length+1)=some [x]:=fun x=>gY
  -- C7 new row
  have key:∀(fT:Hi4) (x:Nat),ag fT x=some (m.getD i [])→x≠0→(∀s,s<i→rs.getD s 0<x)→x≤fT.length→(∀s,s<i→ag fT (rs.getD s 0)=some (m.getD s []))→
    RM p fT (cw (ar++[some [x]]) rows++[some (rs++[x])]) ((cw (ar++[some [x]]) rows).length+1) (i+1) w (rs++[x]) (fun s=>m.getD s [])∧∀s,s<i+1→(rs++[x]).getD s 0≤fT.length:=fun fT x k1 k2 k3 k5 k4=>by
   have gd:∀s,s<i→(rs++[x]).getD s 0=rs.getD s 0:=fun s hs=>by simp only[List.getD];rw[List.getElem?_append_left (by omega)]
   have gx:(rs++[x]).getD i 0=x:=by simp only[List.getD];rw[List.getElem?_append_right (by omega),hn,Nat.sub_self];rfl
   refine⟨⟨gY,by simp[hn],fun s hs=> ?_,fun s hs=>(hm s (by omega)).1,fun s hs=>(hm s (by omega)).2,fun s t hs ht q=> ?_,fun s hs=> ?_⟩,fun s hs=> ?_⟩
   ·by_cases e:s=i
    ·subst e;rw[gx];exact k1
    ·rw[gd s (by omega)];exact k4 s (by omega)
   ·by_cases e:s=i<;>by_cases e2:t=i
    ·omega
    ·subst e;rw[gx,gd t (by omega)] at q;have:=k3 t (by omega);omega
    ·subst e2;rw[gx,gd s (by omega)] at q;have:=k3 s (by omega);omega
    ·rw[gd s (by omega),gd t (by omega)] at q;exact h.i s t (by omega) (by omega) q
   ·by_cases e:s=i
    ·subst e;rw[gx];exact k2
    ·rw[gd s (by omega)];exact h.z s (by omega)
   ·by_cases e:s=i
    ·subst e;rw[gx];exact k5
    ·rw[gd s (by omega)];have:=k3 s (by omega);omega
  have ap:∀(n:Nat),n≤1000000→∀{α:Type} (x y:α),(bif aB 24 1 n 1 then x else y)=x:=fun n hn α x y=>iG (by omega) (by omega);rw[uF,o7,au (by omega),eQ [] hi,gY,bS,iG (by omega) (by rw[m1,List.length_nil];omega)];cases hv:m.getD i [] with
  |nil=>obtain⟨r1,r2⟩:=key (aj++[some []]) (aj.length+1) (by rw[hv];exact gY) (by omega) (fun s hs=>by have:=hlt s hs;omega) (by simp) (fun s hs=>pn (h.r s hs));obtain⟨yp,fT,EA,rs',g1,g2⟩:=ih (i+1) _ _ _ _ (by omega) (.inr (by omega)) r2 r1;refine⟨yp,fT,EA,rs', ?_,g2⟩;rw[←g1];simp only[List.isEmpty_nil];rw[cT,e0,bS,e1,bS,List.length_singleton,iG (by omega) (by omega)];simp only[List.isEmpty_cons];rw[cF,aU (by omega)]
  |cons y ys=>
   have hkl:(cw (aj++[some ([]:List Int)]) (aj.length+1)).length=aj.length+1:=by rw[HD];simp
   obtain⟨r1,r2⟩:=key (cw (aj++[some []]) (aj.length+1)++[some ([]++m.getD i [])]) ((cw (aj++[some ([]:List Int)]) (aj.length+1)).length+1) gY (by omega) (fun s hs=>by have:=hlt s hs;omega) (by simp) (fun s hs=>Yi (pn (h.r s hs)) fun q=>by have:=hlt s hs;omega);obtain⟨yp,fT,EA,rs',g1,g2⟩:=ih (i+1) _ _ _ _ (by omega) (.inr (by omega)) r2 r1;refine⟨yp,fT,EA,rs', ?_,g2⟩;rw[←g1,hv];simp only[List.isEmpty_cons];rw[cF,e0,bS,e1,bS,List.length_singleton,iG (by omega) (by omega)];simp only[List.isEmpty_cons];rw[cF,aU (by omega)]
theorem ahF (hp:Pr p){m:List (List Int)}(hN1:0<m.length)(hN:m.length≤1000)(hw:w≤1000)(hm:∀s,s<m.length→(m.getD s []).length=w∧Rs p (m.getD s [])):
  ∃(k c':Nat) (M':Nat→Nat→Int) (pos':Nat→Nat),jY p m=some (k:Int)∧RI p w m.length k c' (fun s q=>(m.getD s []).getD q 0) M' pos'∧(k=m.length∨c'=w):=by
 have h00:RM p [] [] 0 0 w [] (fun s=>m.getD s []):=⟨rfl,rfl,fun s hs=>by omega,fun s hs=>by omega,fun s hs=>by omega,fun s t hs=>by omega,fun s hs=>by omega⟩
 obtain⟨yp,fT,EA,rs',g1,g2,g3⟩:=amZ hN hw hm m.length 0 0 [] [] [] (by omega) (.inl rfl) (fun s hs=>by omega) h00;obtain⟨k,c',M',pos',f1,f2⟩:=amY hp hN hw (by omega) hN1 w 0 0 fT EA rs' _ (fun _=>0) (by omega) g3 RI.zero;refine⟨k,c',M',pos', ?_,f2⟩;rw[KV,Cg, ←f1];exact g1
end
theorem Tj {β:Type}{xs:List Cl}{k:Nat}{f:Cl→Option β}(h:k<xs.length):(idx xs (k:Int)).bind f=f (xs.getD k iF):=eQ iF h
theorem anZ {xs:List Cl}{k:Nat}(h:k<xs.length):xs[(k:Int).toNat]? =some (xs.getD k iF):=by rw[Int.toNat_natCast];simp[List.getD,h]
theorem LF {β:Type}{xs:List Int}{k:Nat}{f:Int→Option β}(h:k<xs.length):(idx xs (k:Int)).bind f=f (xs.getD k 0):=eQ 0 h
theorem Yj {xs:List Int}{k:Nat}(h:k<xs.length):xs[(k:Int).toNat]? =some (xs.getD k 0):=by rw[Int.toNat_natCast];simp[List.getD,h]
theorem W2 {p:Int}{aa:List Cl}(hl:aa.length≤30)(hb:∀x∈aa,x.2.2.1.length≤1000){t:Int}{t2:Nat}:∀(q i aG:Nat) (sY:List (Option (List Cl))) (r:List Cl),q+i=aa.length→ag sY aG=some r→r=aa.take i→
  ∃Tk acr,eW i p aa t t2 p aG sY=some ((p,(Tk,())),acr)∧ag acr Tk=some aa:=by
 intro q;induction q with
 |zero=>intro i aG sY r hi hg hr;rw[wa,qc,al (by omega)];refine⟨aG,sY,rfl, ?_⟩;rw[hg,hr,List.take_of_length_le (by omega)]
 |succ q ih=>
  intro i aG sY r hi hg hr;have hm:=hb _ (az (d:=iF) (show i<aa.length by omega));rw[wa,qc,au (by omega),Tj (by omega),iG (by omega) (by omega)];simp only;rw[hg,bS,iG (by omega) (by rw[hr];simp;omega),aU (by omega)];refine ih (i+1) _ _ _ (by omega) gY ?_;rw[hr,List.take_add_one]
  congr 1
  simp[List.getD,show i<aa.length by omega]
theorem acs {p:Int}{aa:List Cl}(hl:aa.length≤30)(hb:∀x∈aa,x.2.2.1.length≤1000):∃Tk acr,mR (p,(aa,())) []=some ((p,(Tk,())),acr)∧ag acr Tk=some aa:=by rw[KU,Cd];exact W2 hl hb aa.length 0 0 [] [] (by omega) rfl (by simp)
theorem acu {x:List Tm}{n:Nat}(hl:x.length≤1000000000)(hx:∀t∈x,0≤t.1∧t.1<n){out:Nat}(ho0:out≠0):∀(m i:Nat) (aj:List (Option (List Int))) (l:List Int),m+i=x.length→ag aj out=some l→l.length=n→
  ∃fT,c9 x out i aj=some (out,fT)∧ag fT out=some (nu l (x.drop i)):=by
 intro m;induction m with
 |zero=>intro i aj l hi hg ho;rw[rO,lG,al (by omega),List.drop_eq_nil_of_le (by omega)];exact⟨aj,rfl,hg⟩
 |succ m ih=>intro i aj l hi hg ho;have hb:∀{β:Type} {f:Tm→Option β},(idx x (i:Int)).bind f=f (x.getD i wM):=eQ wM (by omega);have hr:=hx _ (az (d:=wM) (show i<x.length by omega));rw[rO,lG,au (by omega),hb,hb,hg,bS,gV (by omega) (by omega),bS,rS (by omega),aU (by omega),fE wM (show i<x.length by omega),nu];exact ih (i+1) _ _ (by omega) (fD hg ho0) (by rw[List.length_set];exact ho)
theorem ahG {a b:Int}{A B:Int}(ha:0≤a∧a≤A)(hb:0≤b∧b≤B):0≤a*b∧a*b≤A*B:=⟨Int.mul_nonneg ha.1 hb.1,Int.mul_le_mul ha.2 hb.2 hb.1 (by omega)⟩
theorem vt1 {x c:Int}(hc:1≤c∧c≤1000):0≤(IntKind.wrap .i64 (x.tmod c+c)).tmod c∧(IntKind.wrap .i64 (x.tmod c+c)).tmod c<c:=by have h1:=Int.tmod_lt_of_pos x (show 0<c by omega);have h2:=Int.lt_tmod_of_pos x (show 0<c by omega);rw[i64_in _ (by omega),bD (by omega)];exact⟨Int.emod_nonneg _ (by omega),Int.emod_lt_of_pos _ (by omega)⟩
theorem Go1.sz {p:Int}{aa:List Cl}(h:Go1 p aa):Sz aa:=⟨fun j=>by
 by_cases hj:j<aa.length
 ·have:=(h.2.2 _ (az (d:=iF) hj)).1.2;unfold nV;omega
 ·have:aa.getD j iF=iF:=by simp[List.getD,List.getElem?_eq_none (show aa.length≤j by omega)]
  unfold nV;rw[this];decide,fun j=>by
 by_cases hj:j<aa.length
 ·have h1:=(h.2.2 _ (az (d:=iF) hj)).2.length (by omega);have:=h.1;omega
 ·have:aa.getD j iF=iF:=by simp[List.getD,List.getElem?_eq_none (show aa.length≤j by omega)]
  rw[this];simp⟩
theorem akL:kU=some true:=(M7 300).symm.trans (by kernel_rfl)
end Go.Proofs.YtofjebmoebhiiaaGreatDoor.Ev
namespace Go.Abs
abbrev aeh:Ty:= .st (.pair (.slice (.slice (.int .i64))) (.pair (.slice (.int .i64)) (.pair (.int .i64) (.pair (.slice (.int .i64)) .unit))))
end Go.Abs
namespace Go.Proofs.YtofjebmoebhiiaaGreatDoor.Ev
open Go.Abs
theorem ahH {l:List (List Int)}{v t:List Int}{f:Int}(h:Bnd aeh (l,(v,(f,(t,()))))):l.length≤1000000000000000000∧(∀s∈l,s.length≤1000000000000000000)∧v.length≤1000000000000000000∧t.length≤1000000000000000000:=by obtain⟨⟨h1,h2⟩,⟨h3,_⟩,_,⟨h4,_⟩,_⟩:=h;refine⟨Nat.le_trans h1 (by decide),fun s hs=>Nat.le_trans (h2 s hs).1 (by decide),Nat.le_trans h3 (by decide),Nat.le_trans h4 (by decide)⟩
open Go.Abs Go.IntWalk
theorem akM:∀{a b:List Int},(∀x∈a,x≠47)→fs (a++47::b)=some a.length
 | [],b,_=>by rw[List.nil_append,fs,if_pos rfl];rfl
 |x::r,b,h=>by rw[List.cons_append,fs,if_neg (h x List.mem_cons_self),akM fun y hy=>h y (List.mem_cons_of_mem _ hy)];rfl
theorem akN:∀A B:List Int,(A++47::B).drop (A.length+1)=B
 | [],B=>rfl
 |x::A,B=>akN A B
theorem apy {z:Int}:∀x∈bytesOf (ib z),x≠47:=fun x hx=>by
 rw[eF] at hx;unfold sT at hx;rcases List.mem_append.1 hx with hx |hx
 ·split at hx
  ·simp at hx;omega
  ·cases hx
 ·have:=qu _ x hx;omega
theorem ar0 {n d:Int}(hn:n≠0)(hd:2≤d)(hg:Int.gcd n d=1):Rt (RT n d) n d:=by
 have e:bytesOf (RT n d)=bytesOf (ib n)++47::bytesOf (ib d):=by unfold RT;rw[if_neg (by omega),Lq,Lq,arK,List.append_assoc];rfl
 have hl:(bytesOf (ib n)).length=(bytesOf (ib n)).length:=rfl;refine Rt.ab6 (k:=(bytesOf (ib n)).length) (by rw[e];exact akM apy) ?_ ?_ hn hd hg
 ·apply nt;rw[mN,List.drop_zero,e,List.take_left]
 ·apply nt;rw[mN, ←bh,List.take_length,e];exact akN _ _
theorem Rt.opp {s:ByteArray}{n d:Int}(h:Rt s n d):Rt (akH s) (-n) d:=by
 rw[afA h];cases h with
 |whole=>unfold RT;rw[if_pos rfl];exact Rt.whole _
 |ab6 hk h1 h2 hn hd hg=>exact ar0 (by omega) hd (by rw[Int.neg_gcd];exact hg)
end Go.Proofs.YtofjebmoebhiiaaGreatDoor.Ev
namespace Go.Abs
def GB:List Int→List Int→Int
 |x::a,y::b=>if x<y then -1 else if x>y then 1 else GB a b
 |_,_=>0
def pf (a b:List Int):Int:=if a.length≠b.length then (if a.length<b.length then -1 else 1) else GB a b
theorem Yk:∀a:List Int,GB a a=0
 | []=>rfl
 |x::a=>by rw[GB,if_neg (by omega),if_neg (by omega),Yk a]
theorem afD:∀{a b:List Int},a.length=b.length→GB a b=0→a=b
 | [],[],_,_=>rfl
 | [],_::_,h,_=>by simp at h
 |_::_,[],h,_=>by simp at h
 |x::a,y::b,h,e=>by
  rw[GB] at e;split at e
  ·cases e
  ·split at e
   ·cases e
   ·rename_i h1 h2;rw[afD (by simpa using h) e,show x=y by omega]
theorem acv:∀(a b:List Int),GB b a= -(GB a b)
 | [],[]=>rfl
 | [],_::_=>rfl
 |_::_,[]=>rfl
 |x::a,y::b=>by
  have ih:=acv a b;by_cases h:x<y
  ·have h1:¬y<x:=by omega
   simp[GB,h,h1]
  ·by_cases h2:y<x
   ·simp[GB,h,h2]
   ·simp[GB,h,h2,ih]
theorem V9:∀(a b:List Int),GB a b= -1∨GB a b=0∨GB a b=1
 | [],[]=> .inr (.inl rfl)
 | [],_::_=> .inr (.inl rfl)
 |_::_,[]=> .inr (.inl rfl)
 |x::a,y::b=>by
  rw[GB];split
  ·exact .inl rfl
  ·split
   ·exact .inr (.inr rfl)
   ·exact V9 a b
theorem Wa:∀{a b c:List Int},a.length=b.length→b.length=c.length→GB a b<0→GB b c<0→GB a c<0
 | [],[],_,_,_,h,_=>by cases h
 |x::a,y::b,z::c,h1,h2,h3,h4=>by
  rw[GB] at h3 h4 ⊢;by_cases e:x<y
  ·by_cases f:y<z
   ·rw[if_pos (by omega)];decide
   ·rw[if_neg f] at h4;by_cases g:y>z
    ·rw[if_pos g] at h4;cases h4
    ·rw[if_pos (by omega)];decide
  ·rw[if_neg e] at h3;by_cases g:x>y
   ·rw[if_pos g] at h3;cases h3
   ·rw[if_neg g] at h3;by_cases f:y<z
    ·rw[if_pos (by omega)];decide
    ·rw[if_neg f] at h4;by_cases k:y>z
     ·rw[if_pos k] at h4;cases h4
     ·rw[if_neg k] at h4;rw[if_neg (by omega),if_neg (by omega)];exact Wa (by simpa using h1) (by simpa using h2) h3 h4
theorem HF (a:List Int):pf a a=0:=by unfold pf;rw[if_neg (by simp),Yk]
theorem I0 {a b:List Int}:pf a b=0↔a=b:=by
 constructor
 ·intro h;unfold pf at h;split at h
  ·split at h<;>cases h
  ·rename_i h1;exact afD (by omega) h
 ·rintro rfl;exact HF a
theorem Wb (a b:List Int):pf b a= -(pf a b):=by
 unfold pf;by_cases h:a.length=b.length
 ·simp[h,acv a b]
 ·have h':¬b.length=a.length:=fun e=>h e.symm;by_cases h2:a.length<b.length
  ·have h3:¬b.length<a.length:=by omega
   simp[h,h',h2,h3]
  ·have h3:b.length<a.length:=by omega
   simp[h,h',h2,h3]
theorem aei (a b:List Int):pf a b= -1∨pf a b=0∨pf a b=1:=by
 unfold pf;split
 ·split
  ·exact .inl rfl
  ·exact .inr (.inr rfl)
 ·exact V9 a b
theorem O8 {a b c:List Int}(h1:pf a b<0)(h2:pf b c<0):pf a c<0:=by
 unfold pf at*
 by_cases e:a.length=b.length
 ·rw[if_neg (by omega)] at h1;by_cases f:b.length=c.length
  ·rw[if_neg (by omega)] at h2 ⊢;exact Wa e f h1 h2
  ·rw[if_pos (by omega)] at h2 ⊢;by_cases g:b.length<c.length
   ·rw[if_pos (by omega)];decide
   ·rw[if_neg g] at h2;cases h2
 ·rw[if_pos (by omega)] at h1;by_cases g:a.length<b.length
  ·by_cases f:b.length=c.length
   ·rw[if_pos (by omega),if_pos (by omega)];decide
   ·rw[if_pos (by omega)] at h2;by_cases k:b.length<c.length
    ·rw[if_pos (by omega),if_pos (by omega)];decide
    ·rw[if_neg k] at h2;cases h2
  ·rw[if_neg g] at h1;cases h1
abbrev Asc (l:List (List Int)):Prop:=l.Pairwise fun a b=>pf a b<0
def Bg (s:List Int)(all:List (List Int)):List (List Int)→Bool→List (List Int)→List (List Int)
 | [],d,out=>if d then out else out++[s]
 |x::r,d,out=>if pf s x=0 then all else if pf s x<0∧d=false then Bg s all r true (out++[s]++[x]) else Bg s all r d (out++[x])
def yt (l:List (List Int))(s:List Int):List (List Int):=Bg s l l false []
theorem Wc {s:List Int}{all:List (List Int)}:∀(l out:List (List Int)),(∀x∈l,pf s x<0)→Bg s all l true out=out++l
 | [],out,_=>by simp[Bg]
 |x::r,out,h=>by have:=h x List.mem_cons_self;rw[Bg,if_neg (by omega),if_neg (by simp),Wc r _ fun y hy=>h y (List.mem_cons_of_mem _ hy)];simp
theorem O9 {s:List Int}:∀(l out:List (List Int)),Asc (out++l)→(∀x∈out,pf x s<0)→Asc (Bg s (out++l) l false out)∧∀t,t∈Bg s (out++l) l false out↔t=s∨t∈out++l
 | [],out,h,hs=>by
   have e:Bg s (out++[]) [] false out=out++[s]:=by simp[Bg]
   rw[e];refine⟨?_,fun t=>by simp[or_comm]⟩;rw[List.append_nil] at h;exact List.pairwise_append.2 ⟨h,by simp,fun a ha b hb=>by simp only[List.mem_singleton] at hb;subst hb;exact hs a ha⟩
 |x::r,out,h,hs=>by
  obtain⟨p1,p2,p3⟩:=List.pairwise_append.1 h;have p4:=List.pairwise_cons.1 p2;rw[Bg];by_cases e:pf s x=0
  ·rw[if_pos e];have:=I0.1 e;subst this;exact⟨h,fun t=>by simp only[List.mem_append,List.mem_cons];constructor<;>intro h<;>rcases h with h |h<;>simp[h]⟩
  ·rw[if_neg e];by_cases f:pf s x<0
   ·rw[if_pos ⟨f,rfl⟩,Wc _ _ fun y hy=>O8 f (p4.1 y hy)];have eq1:out++[s]++[x]++r=out++(s::x::r):=by simp
    rw[eq1];refine⟨List.pairwise_append.2 ⟨p1,List.pairwise_cons.2 ⟨fun y hy=> ?_,p2⟩,fun a ha b hb=> ?_⟩,fun t=>by simp only[List.mem_append,List.mem_cons];constructor<;>intro h<;>rcases h with h |h |h |h<;>simp[h]⟩
    ·rcases List.mem_cons.1 hy with rfl |hy
     ·exact f
     ·exact O8 f (p4.1 y hy)
    ·rcases List.mem_cons.1 hb with rfl |hb
     ·exact hs a ha
     ·exact p3 a ha b hb
   ·rw[if_neg fun g=>f g.1];have g:pf x s<0:=by have:=Wb s x;rcases aei s x with h1 |h1 |h1<;>omega
    have eq1:out++x::r=(out++[x])++r:=by simp
    have ih:=O9 r (out++[x]) (by rw[←eq1];exact h) (fun y hy=>by
     rcases List.mem_append.1 hy with hy |hy
     ·exact hs y hy
     ·simp only[List.mem_singleton] at hy;subst hy;exact g)
    rw[eq1];exact ih
theorem acw {l:List (List Int)}(h:Asc l)(s:List Int):Asc (yt l s):=(O9 l [] h (fun x hx=>by cases hx)).1
theorem acx {l:List (List Int)}(h:Asc l){s t:List Int}:t∈yt l s↔t=s∨t∈l:=(O9 l [] h (fun x hx=>by cases hx)).2 t
def BK:List Int→Nat→List Int
 | [],_=>[]
 |x::r,m=>if m % 2=1 then x::BK r (m / 2) else BK r (m / 2)
theorem Wd:∀(s:List Int) (m:Nat),(BK s m).Sublist s
 | [],_=>List.Sublist.slnil
 |x::r,m=>by
  rw[BK];split
  ·exact(Wd r _).cons_cons x
  ·exact(Wd r _).cons x
theorem Z2:∀{t s:List Int},t.Sublist s→∃m,m<2^s.length∧BK s m=t
 | [],[],_=>⟨0,by simp,rfl⟩
 |t,x::r,h=>by
  have h2:(2:Nat)^(x::r).length=2*2^r.length:=by rw[List.length_cons,Nat.pow_succ,Nat.mul_comm]
  cases h with
  |cons _ h=>obtain⟨m,h1,e⟩:=Z2 h;refine⟨2*m,by omega, ?_⟩;rw[BK,if_neg (by omega),show 2*m / 2=m by omega,e]
  |cons_cons _ h=>obtain⟨m,h1,e⟩:=Z2 h;refine⟨2*m+1,by omega, ?_⟩;rw[BK,if_pos (by omega),show (2*m+1) / 2=m by omega,e]
theorem acy:∀{s:List Int} {m:Nat},m<2^s.length→BK s m=[]→m=0
 | [],m,h,_=>by simp at h;exact h
 |x::r,m,h,e=>by
  have h2:(2:Nat)^(x::r).length=2*2^r.length:=by rw[List.length_cons,Nat.pow_succ,Nat.mul_comm]
  rw[BK] at e;split at e
  ·cases e
  ·have:=acy (s:=r) (m:=m / 2) (by omega) e;omega
def uV (s:List Int):Nat→Nat→List (List Int)→List (List Int)
 |0,_,out=>out
 |q+1,m,out=>uV s q (m+1) (yt out (BK s m))
def kK (s:List Int):List (List Int):=uV s (2^s.length - 1) 1 []
theorem QG {s:List Int}:∀(q m:Nat) (out:List (List Int)),Asc out→Asc (uV s q m out)∧∀t,t∈uV s q m out↔t∈out∨∃k,m≤k∧k<m+q∧t=BK s k
 |0,m,out,h=>⟨h,fun t=>by simp only[uV];exact⟨.inl,fun h=>h.elim id fun⟨k,h1,h2,_⟩=>by omega⟩⟩
 |q+1,m,out,h=>by
  obtain⟨h1,h2⟩:=QG q (m+1) (yt out (BK s m)) (acw h _);refine⟨h1,fun t=> ?_⟩;rw[uV,h2,acx h];constructor
  ·rintro ((rfl |h) | ⟨k,h3,h4,h5⟩)
   ·exact .inr ⟨m,by omega,by omega,rfl⟩
   ·exact .inl h
   ·exact .inr ⟨k,by omega,by omega,h5⟩
  ·rintro (h | ⟨k,h3,h4,h5⟩)
   ·exact .inl (.inr h)
   ·by_cases e:k=m
    ·subst e;exact .inl (.inl h5)
    ·exact .inr ⟨k,by omega,by omega,h5⟩
theorem We {s t:List Int}:t∈kK s↔t≠ []∧t.Sublist s:=by
 have h0:0<2^s.length:=Nat.pow_pos (by omega);unfold kK;rw[(QG _ _ [] List.Pairwise.nil).2];constructor
 ·rintro (h | ⟨k,h1,h2,rfl⟩)
  ·cases h
  ·exact⟨fun e=>by have:=acy (by omega) e;omega,Wd s k⟩
 ·rintro ⟨h1,h2⟩;obtain⟨m,h3,h4⟩:=Z2 h2;refine .inr ⟨m, ?_,by omega,h4.symm⟩;have:m≠0:=fun e=>by
   subst e;have hz:∀s:List Int,BK s 0=[]:=fun s=>by
    induction s with
    |nil=>rfl
    |cons x r ih=>rw[BK,if_neg (by decide)];exact ih
   rw[hz] at h4;exact h1 h4.symm
  omega
def I1 (l:List (List Int)):List (List Int):=l.foldl (fun out s=>(kK s).foldl yt out) []
theorem acz:∀(f out:List (List Int)),Asc out→Asc (f.foldl yt out)∧∀t,t∈f.foldl yt out↔t∈out∨t∈f
 | [],out,h=>⟨h,fun t=>by simp⟩
 |s::f,out,h=>by
  obtain⟨h1,h2⟩:=acz f (yt out s) (acw h s);refine⟨h1,fun t=> ?_⟩;rw[List.foldl_cons,h2,acx h,List.mem_cons];constructor
  ·rintro ((h |h) |h)<;>simp[h]
  ·rintro (h |h |h)<;>simp[h]
theorem LG:∀(l out:List (List Int)),Asc out→Asc (l.foldl (fun out s=>(kK s).foldl yt out) out)∧∀t,t∈l.foldl (fun out s=>(kK s).foldl yt out) out↔t∈out∨∃s∈l,t∈kK s
 | [],out,h=>⟨h,fun t=>by simp⟩
 |s::l,out,h=>by
  obtain⟨h1,h2⟩:=acz (kK s) out h;obtain⟨h3,h4⟩:=LG l _ h1;refine⟨h3,fun t=> ?_⟩;rw[List.foldl_cons,h4,h2];constructor
  ·rintro ((h |h) | ⟨u,hu,h⟩)
   ·exact .inl h
   ·exact .inr ⟨s,List.mem_cons_self,h⟩
   ·exact .inr ⟨u,List.mem_cons_of_mem _ hu,h⟩
  ·rintro (h | ⟨u,hu,h⟩)
   ·exact .inl (.inl h)
   ·rcases List.mem_cons.1 hu with rfl |hu
    ·exact .inl (.inr h)
    ·exact .inr ⟨u,hu,h⟩
theorem acA (l:List (List Int)):Asc (I1 l):=(LG l [] List.Pairwise.nil).1
theorem LH {l:List (List Int)}{t:List Int}:t∈I1 l↔t≠ []∧∃s∈l,t.Sublist s:=by
 unfold I1;rw[(LG l [] List.Pairwise.nil).2];simp only[List.not_mem_nil,false_or,We];constructor
 ·rintro ⟨s,h1,h2,h3⟩;exact⟨h2,s,h1,h3⟩
 ·rintro ⟨h2,s,h1,h3⟩;exact⟨s,h1,h2,h3⟩
theorem I2 {s:List Int}{all:List (List Int)}{n:Nat}(ha:all.length≤n):∀(l out:List (List Int)) (d:Bool),out.length+l.length+(if d=true then 0 else 1)≤n+1→(Bg s all l d out).length≤n+1
 | [],out,d,h=>by
   rw[Bg];cases d with
   |true=>simp at h ⊢;omega
   |false=>simp at h ⊢;omega
 |x::r,out,d,h=>by
  rw[Bg];split
  ·omega
  ·split
   ·rename_i h1 h2;obtain⟨_,rfl⟩:=h2;exact I2 ha r _ true (by simp at h ⊢;omega)
   ·exact I2 ha r _ d (by simp at h ⊢;omega)
theorem wI (l:List (List Int))(s:List Int):(yt l s).length≤l.length+1:=I2 (Nat.le_refl _) l [] false (by simp)
def cL (s:List Int):List (List Int):=if s.length>1 then (List.range s.length).map fun k=>s.eraseIdx k else []
end Go.Abs
namespace Go.Proofs.YtofjebmoebhiiaaGreatDoor.Ev
open Go.Abs Go.IntWalk
theorem ar1 {a:List Int}(hl:a.length≤1000000)(v:Int):nF a v=some (decide (v∈a)):=by
 have key:∀(m i:Nat),m+i=a.length→jl a v i=some (decide (v∈a.drop i)):=by
  intro m;induction m with
  |zero=>intro i hi;rw[B2,vn,al (by omega),List.drop_eq_nil_of_le (by omega)];simp
  |succ m ih=>
   intro i hi;rw[B2,vn,au (by omega),gV (by omega) (by omega),Int.toNat_natCast,fE 0 (by omega)];by_cases e:a.getD i 0=v
   ·rw[iZ e];have h2:v∈a.getD i 0::a.drop (i+1):=by rw[e];exact List.mem_cons_self
    simp only[h2,decide_true]
   ·rw[ft e,aU (by omega),ih (i+1) (by omega)];have e':¬v=a.getD i 0:=fun h=>e h.symm;simp only[List.mem_cons,e',false_or]
 have:=key a.length 0 (by omega);rw[RA,Ji];simpa using this
theorem ar2 {a b:List Int}(ha:a.length≤1000000)(hl:b.length≤1000000):sh a b=some (b.all fun v=>decide (v∈a)):=by
 have key:∀(m i:Nat),m+i=b.length→il a b i=some ((b.drop i).all fun v=>decide (v∈a)):=by
  intro m;induction m with
  |zero=>intro i hi;rw[AR,tV,al (by omega),List.drop_eq_nil_of_le (by omega)];rfl
  |succ m ih=>
   intro i hi;rw[AR,tV,au (by omega),gV (by omega) (by omega),Int.toNat_natCast,ar1 ha,bS,fE 0 (by omega)];cases h:decide (b.getD i 0∈a) with
   |true=>rw[Bool.not_true,cF,aU (by omega),ih (i+1) (by omega),List.all_cons,h,Bool.true_and]
   |false=>rw[Bool.not_false,cT,List.all_cons,h,Bool.false_and]
 have:=key b.length 0 (by omega);rw[P4,G8];simpa using this
theorem Wf {a b:List Int}(hl:a.length≤1000000):aZ a b=some (pf a b):=by
 rw[Ft,zG];unfold pf;by_cases e:a.length=b.length
 ·have key:∀(m i:Nat),m+i=a.length→eM a b i=some (GB (a.drop i) (b.drop i)):=by
   intro m;induction m with
   |zero=>intro i hi;rw[sE,oh,al (by omega),List.drop_eq_nil_of_le (by omega),List.drop_eq_nil_of_le (by omega)];rfl
   |succ m ih=>
    intro i hi;have hb:∀{β:Type} {f:Int→Option β},(idx b (i:Int)).bind f=f (b.getD i 0):=eQ 0 (by omega);have ha:∀{β:Type} {f:Int→Option β},(idx a (i:Int)).bind f=f (a.getD i 0):=eQ 0 (by omega);rw[sE,oh,au (by omega),ha,hb,fE 0 (l:=a) (by omega),fE 0 (l:=b) (by omega),GB];by_cases h1:a.getD i 0<b.getD i 0
    ·rw[au h1,if_pos h1]
    ·rw[al h1,if_neg h1,ha,hb];by_cases h2:a.getD i 0>b.getD i 0
     ·rw[da h2,if_pos h2]
     ·rw[dA h2,if_neg h2,aU (by omega),ih (i+1) (by omega)]
  have:=key a.length 0 (by omega);rw[pd (by omega),if_neg (by omega)];simpa using this
 ·rw[Hw (by omega),if_pos e];by_cases h:a.length<b.length
  ·rw[au (by omega),if_pos h]
  ·rw[al (by omega),if_neg h]
theorem ahJ {s:List Int}(hs:s.length≤1000)(k:Nat):gD s k=some (s.eraseIdx k):=by
 have k2:∀(m i:Nat) (out:List Int),m+i=s.length→k<i→out.length≤i→bR s k i out=some (out++s.drop i):=by
  intro m;induction m with
  |zero=>intro i out hi hk ho;rw[gq,eT,al (by omega),List.drop_eq_nil_of_le (by omega),List.append_nil]
  |succ m ih=>intro i out hi hk ho;rw[gq,eT,au (by omega),Hw (by omega),gV (by omega) (by omega),Int.toNat_natCast,iG (by omega) (by omega),aU (by omega),ih (i+1) _ (by omega) (by omega) (by simp;omega),fE 0 (show i<s.length by omega),List.append_assoc];rfl
 have key:∀(m i:Nat) (out:List Int),m+i=s.length→i≤k→out.length≤i→bR s k i out=some (out++(s.drop i).eraseIdx (k - i)):=by
  intro m;induction m with
  |zero=>intro i out hi hk ho;rw[gq,eT,al (by omega),List.drop_eq_nil_of_le (by omega)];simp
  |succ m ih=>
   intro i out hi hk ho;rw[gq,eT,au (by omega)];by_cases e:i=k
   ·subst e;rw[pd rfl,aU (by omega),k2 m (i+1) out (by omega) (by omega) (by omega),fE 0 (show i<s.length by omega),Nat.sub_self];rfl
   ·rw[Hw (by omega),gV (by omega) (by omega),Int.toNat_natCast,iG (by omega) (by omega),aU (by omega),ih (i+1) _ (by omega) (by omega) (by simp;omega),fE 0 (show i<s.length by omega),show k - i=k - (i+1)+1 by omega,List.eraseIdx_cons_succ,List.append_assoc];rfl
 have:=key s.length 0 [] (by omega) (by omega) (by simp);rw[yM,sF];simpa using this
theorem QH {s:List Int}(hs:s.length≤1000):bK s=some (cL s):=by
 rw[AQ,tT];unfold cL;by_cases h:s.length>1
 ·have key:∀(m i:Nat),m+i=s.length→cX s i ((List.range i).map fun k=>s.eraseIdx k)=some ((List.range s.length).map fun k=>s.eraseIdx k):=by
   intro m;induction m with
   |zero=>
    intro i hi;obtain rfl:i=s.length:=by omega
    rw[j9,iB,da (by omega),al (by omega)]
   |succ m ih=>intro i hi;have:=ih (i+1) (by omega);rw[List.range_succ,List.map_append] at this;rw[j9,iB,da (by omega),au (by omega),ahJ hs,bS,iG (by omega) (by simp;omega),aU (by omega)];exact this
  rw[if_pos h];exact key s.length 0 (by omega)
 ·rw[if_neg h,j9,iB,dA (by omega)]
theorem afE {l:HL}{s:List Int}(hl:l.length≤1000)(hs:s.length≤1000000):fh l s=some (yt l s):=by
 have key:∀(m i:Nat) (d:Bool) (out:HL),m+i=l.length→out.length≤2*i→iu l s d i out=some (Bg s l (l.drop i) d out):=by
  intro m;induction m with
  |zero=>
   intro i d out hi ho;rw[AT,tX,al (by omega),List.drop_eq_nil_of_le (by omega),Bg];cases d with
   |true=>rw[Bool.not_true,cF];rfl
   |false=>rw[Bool.not_false,cT,iG (by omega) (by omega)];rfl
  |succ m ih=>
   intro i d out hi ho;rw[AT,tX,au (by omega),qz (by omega),Wf hs,bS,aU (by omega),fE [] (show i<l.length by omega),Bg];by_cases e:pf s (l.getD i [])=0
   ·rw[iZ e,if_pos e]
   ·rw[ft e,if_neg e];by_cases f:pf s (l.getD i [])<0
    ·rw[au f];cases d with
     |true=>rw[Bool.not_true,cF,qz (by omega),iG (by omega) (by omega),if_neg (by simp)];exact ih (i+1) true _ (by omega) (by simp;omega)
     |false=>rw[Bool.not_false,cT,iG (by omega) (by omega),qz (by omega),iG (by omega) (by simp;omega),if_pos ⟨f,rfl⟩];exact ih (i+1) true _ (by omega) (by simp;omega)
    ·rw[al f,qz (by omega),iG (by omega) (by omega),if_neg (fun g=>f g.1)];exact ih (i+1) d _ (by omega) (by simp;omega)
 have:=key l.length 0 false [] (by omega) (by simp);rw[P5,G9];simpa [yt] using this
theorem Yl:∀m:Nat,m<17→∀i:Nat,i<5→shr .i64 (m:Int) (i:Int)=((m / 2^i:Nat):Int):=by decide
theorem akO {s:List Int}(hs:s.length≤4){m:Nat}(hm:m<17){out:HL}(ho:out.length≤900):∀(q i:Nat) (f:List Int),q+i=s.length→f.length≤i→
  fg s out m i f=cZ s (yt out (f++BK (s.drop i) (m / 2^i))) (IntKind.wrap .i64 ((m:Int)+1)):=by
 intro q;induction q with
 |zero=>intro i f hi hf;rw[vV,pW,al (by omega),afE (by omega) (by omega),bS,List.drop_eq_nil_of_le (by omega),BK,List.append_nil]
 |succ q ih=>
  intro i f hi hf;have e:m / 2^(i+1)=m / 2^i / 2:=by rw[Nat.pow_succ,Nat.div_div_eq_div_mul]
  have hm2:∀x:Nat,(((x:Nat):Int).tmod 2==1)=decide (x % 2=1):=fun x=>by rw[Bool.eq_iff_iff,beq_iff_eq,decide_eq_true_iff,Int.tmod_eq_emod_of_nonneg (by omega)];omega
  have hmod:=hm2 (m / 2^i);rw[vV,pW,au (by omega),Ll (by omega),aU (by omega),Yl m hm i (by omega),hmod,fE 0 (show i<s.length by omega),BK];by_cases h:m / 2^i % 2=1
  ·rw[decide_eq_true h,cT,gV (by omega) (by omega),Int.toNat_natCast,iG (by omega) (by omega),if_pos h,ih (i+1) _ (by omega) (by simp;omega),e,List.append_assoc];rfl
  ·rw[decide_eq_false h,cF,if_neg h,ih (i+1) f (by omega) (by omega),e]
theorem ahK {s:List Int}(hs:s.length≤4){m:Nat}(hm:m<17){out:HL}(ho:out.length≤900):∀(q i:Nat) (f:List Int),q+i=s.length→f.length≤i→
  fO s m i out f=cZ s (yt out (f++BK (s.drop i) (m / 2^i))) (IntKind.wrap .i64 ((m:Int)+1)):=by
 intro q;induction q with
 |zero=>intro i f hi hf;rw[xG,qV,al (by omega),afE (by omega) (by omega),bS,List.drop_eq_nil_of_le (by omega),BK,List.append_nil]
 |succ q ih=>
  intro i f hi hf;have e:m / 2^(i+1)=m / 2^i / 2:=by rw[Nat.pow_succ,Nat.div_div_eq_div_mul]
  have hm2:∀x:Nat,(((x:Nat):Int).tmod 2==1)=decide (x % 2=1):=fun x=>by rw[Bool.eq_iff_iff,beq_iff_eq,decide_eq_true_iff,Int.tmod_eq_emod_of_nonneg (by omega)];omega
  have hmod:=hm2 (m / 2^i);rw[xG,qV,au (by omega),Ll (by omega),aU (by omega),Yl m hm i (by omega),hmod,fE 0 (show i<s.length by omega),BK];by_cases h:m / 2^i % 2=1
  ·rw[decide_eq_true h,cT,gV (by omega) (by omega),Int.toNat_natCast,iG (by omega) (by omega),if_pos h,ih (i+1) _ (by omega) (by simp;omega),e,List.append_assoc];rfl
  ·rw[decide_eq_false h,cF,if_neg h,ih (i+1) f (by omega) (by omega),e]
theorem ahL {s:List Int}(hs:s.length≤4):∀(q m:Nat) (out:HL),q+m=2^s.length→out.length≤500+m→cZ s out m=some (uV s q m out):=by
 obtain⟨hsh,hp⟩:=Yf hs;intro q;induction q with
 |zero=>intro m out hm ho;rw[vU,pV,Ll (by omega),hsh,al (by omega)];rfl
 |succ q ih=>intro m out hm ho;have h1:=akO hs (m:=m) (by omega) (out:=out) (by omega) s.length 0 [] (by omega) (by simp);have e0:((0:Nat):Int)=0:=rfl;rw[e0,List.nil_append,List.drop_zero,Nat.pow_zero,Nat.div_one,aU (by omega)] at h1;rw[vU,pV,Ll (by omega),hsh,au (by omega),h1];exact ih (m+1) _ (by omega) (by have:=wI out (BK s m);omega)
theorem afF {s:List Int}(hs:s.length≤4):jm s=some (kK s):=by
 obtain⟨hsh,hp⟩:=Yf hs;rw[Mw,DM,IG,yN,Ll (by omega),hsh];by_cases h:(1:Int)<((2^s.length:Nat):Int)
 ·have e0:((0:Nat):Int)=0:=rfl;have e1:IntKind.wrap .i64 ((1:Nat)+1:Int)=((2:Nat):Int):=rfl;have h1:=ahK hs (m:=1) (by omega) (out:=[]) (by simp) s.length 0 [] (by omega) (by simp);rw[e0,e1,List.nil_append,List.drop_zero,Nat.pow_zero,Nat.div_one] at h1;have h2:=ahL hs (2^s.length - 2) 2 (yt [] (BK s 1)) (by omega) (by have:=wI [] (BK s 1);simp at this ⊢;omega);have e2:((1:Nat):Int)=1:=rfl;rw[e2] at h1;rw[au h,h1,h2];unfold kK;have e3:2^s.length - 1=(2^s.length - 2)+1:=by omega
  rw[e3,uV]
 ·rw[al h];unfold kK;have e3:2^s.length - 1=0:=by omega
  rw[e3,uV]
end Go.Proofs.YtofjebmoebhiiaaGreatDoor.Ev
namespace Go.Abs
structure SS (s:List Int):Prop where
 ne:s≠ []
 len:s.length≤4
 up:s.Pairwise (· < ·)
 rg:∀v∈s,0≤v∧v<6
theorem SS.sub {s t:List Int}(h:SS s)(ht:t.Sublist s)(h0:t≠ []):SS t:=⟨h0,Nat.le_trans ht.length_le h.len,h.up.sublist ht,fun v hv=>h.rg v (ht.mem hv)⟩
theorem LI {s:List Int}:∀(q m:Nat) (out:List (List Int)),(uV s q m out).length≤out.length+q
 |0,m,out=>by simp[uV]
 |q+1,m,out=>by rw[uV];have:=LI (s:=s) q (m+1) (yt out (BK s m));have:=wI out (BK s m);omega
theorem GC {s:List Int}(h:s.length≤4):(kK s).length≤15:=by have h1:=LI (s:=s) (2^s.length - 1) 1 [];have h2:2^s.length≤2^4:=Nat.pow_le_pow_right (by omega) h;unfold kK;simp at h1;omega
theorem uW:∀(f out:List (List Int)),(f.foldl yt out).length≤out.length+f.length
 | [],out=>by simp
 |s::f,out=>by rw[List.foldl_cons,List.length_cons];have:=uW f (yt out s);have:=wI out s;omega
structure Cx (c:List (List Int)):Prop where
 asc:Asc c
 ss:∀s∈c,SS s
 aej:∀s∈c,∀t:List Int,t.Sublist s→t≠ []→t∈c
 len:c.length≤80
theorem EB:∀(l out:List (List Int)),(∀s∈l,s.length≤4)→(l.foldl (fun out s=>(kK s).foldl yt out) out).length≤out.length+15*l.length
 | [],out,_=>by simp
 |s::l,out,h=>by rw[List.foldl_cons,List.length_cons];have h1:=EB l ((kK s).foldl yt out) fun t ht=>h t (List.mem_cons_of_mem _ ht);have h2:=uW (kK s) out;have h3:=GC (h s List.mem_cons_self);omega
theorem aek {Vm:List (List Int)}(h:∀s∈Vm,SS s)(hl:Vm.length≤5):Cx (I1 Vm):=by
 refine⟨acA Vm,fun s hs=> ?_,fun s hs t ht h0=> ?_, ?_⟩
 ·obtain⟨h0,u,hu,hsub⟩:=LH.1 hs;exact(h u hu).sub hsub h0
 ·obtain⟨_,u,hu,hsub⟩:=LH.1 hs;exact LH.2 ⟨h0,u,hu,ht.trans hsub⟩
 ·have:=EB Vm [] fun s hs=>(h s hs).len;unfold I1;simp at this;omega
end Go.Abs
namespace Go.Proofs.YtofjebmoebhiiaaGreatDoor.Ev
open Go.Abs Go.IntWalk
theorem auu {x:Int}:0≤(IntKind.wrap .i64 (x.tmod 6+6)).tmod 6∧(IntKind.wrap .i64 (x.tmod 6+6)).tmod 6<6:=by have h1:=Int.tmod_lt_of_pos x (b:=6) (by omega);have h2:=Int.lt_tmod_of_pos x (show (0:Int)<6 by omega);rw[i64_in _ (by omega),bD (by omega)];exact⟨Int.emod_nonneg _ (by omega),Int.emod_lt_of_pos _ (by omega)⟩
theorem Pa {α:Type}(d:α){l:List α}{i:Nat}(h:i<l.length):l.take (i+1)=l.take i++[l.getD i d]:=by rw[List.take_add_one,List.getElem?_eq_getElem h];simp[List.getD,h]
theorem acB {A B:List Int}{x:Int}{k:Nat}(h:A.length=k):(A++x::B).getD k 0=x:=by subst h;simp[List.getD]
theorem am0 {i:Nat}{R:List Int}:∀(k:Nat) (n:Int) (A B:List Int) (x:Int),A.length=k→k+B.length=i→i+1+R.length≤1000000→(A++B).Pairwise (· ≤ ·)→(∀b∈B,x<b)→
  ∃n' S,fe n i k (A++x::B++R)=dJ n' ((i+1:Nat):Int) (S++R)∧S.Perm (A++x::B)∧S.Pairwise (· ≤ ·):=by
 intro k;induction k with
 |zero=>intro n A B x hA hB hR hp hx;obtain rfl:=List.eq_nil_of_length_eq_zero hA;refine⟨n,x::B, ?_,List.Perm.refl _,List.pairwise_cons.2 ⟨fun b hb=>by have:=hx b hb;omega,by simpa using hp⟩⟩;rw[vT,pT,dA (by omega),aU (by omega)];rfl
 |succ k ih=>
  intro n A B x hA hB hR hp hx;obtain⟨A',y,rfl⟩:∃A' y,A=A'++[y]:=⟨A.dropLast,A.getLast (fun e=>by subst e;simp at hA),(List.dropLast_concat_getLast _).symm⟩
  have hA':A'.length=k:=by simp at hA;omega
  have hl:(A'++[y]++x::B++R).length=i+1+R.length:=by simp;omega
  have e1:IntKind.wrap .i64 (((k+1:Nat):Int) - 1)=(k:Int):=by rw[i64_in _ (by omega)];omega
  have g1:(A'++[y]++x::B++R).getD k 0=y:=by
   have e:A'++[y]++x::B++R=A'++y::(x::B++R):=by simp
   rw[e];exact acB hA'
  have g2:(A'++[y]++x::B++R).getD (k+1) 0=x:=by
   have e:A'++[y]++x::B++R=(A'++[y])++x::(B++R):=by simp
   rw[e];exact acB (by simp;omega)
  rw[vT,pT,da (by omega),e1,gV (by omega) (by omega),rS (by omega),gV (by omega) (by omega),rS (by omega)];by_cases h0:(A'++[y]++x::B++R).getD (k:Int).toNat 0>(A'++[y]++x::B++R).getD ((k+1:Nat):Int).toNat 0
  ·have h:y>x:=by have h2:=h0;rw[Int.toNat_natCast,Int.toNat_natCast,g1,g2] at h2;exact h2
   rw[da h0,gV (by omega) (by omega),rS (by omega),gV (by omega) (by omega),rS (by omega),gV (by omega) (by omega),rS (by omega)];simp only;rw[gV (by omega) (by rw[List.length_set];omega),rS (by rw[List.length_set];omega)];simp only[Int.toNat_natCast];rw[g1,g2];have e2:((A'++[y]++x::B++R).set k x).set (k+1) y=A'++x::(y::B)++R:=by
    have e:A'++[y]++x::B++R=A'++y::x::(B++R):=by simp
    rw[e,List.set_append_right _ _ (by omega),List.set_append_right _ _ (by omega),hA',Nat.sub_self,show k+1 - k=1 by omega];simp
   rw[e2];obtain⟨n',S,k1,k2,k3⟩:=ih (IntKind.wrap .i64 (1 - n)) A' (y::B) x hA' (by simp;omega) hR (by simpa using hp) (fun b hb=>by
    rcases List.mem_cons.1 hb with rfl |hb
    ·exact h
    ·exact hx b hb)
   refine⟨n',S,k1,k2.trans ?_,k3⟩;have e3:A'++[y]++x::B=A'++(y::x::B):=by simp
   rw[e3];exact List.Perm.append_left A' (List.Perm.swap y x B)
  ·have h:¬y>x:=by have h2:=h0;rw[Int.toNat_natCast,Int.toNat_natCast,g1,g2] at h2;exact h2
   rw[dA h0,aU (by omega)];refine⟨n,A'++[y]++x::B,rfl,List.Perm.refl _, ?_⟩;obtain⟨p1,p2,p3⟩:=List.pairwise_append.1 hp;refine List.pairwise_append.2 ⟨p1,List.pairwise_cons.2 ⟨fun b hb=>by have:=hx b hb;omega,p2⟩,fun a ha b hb=> ?_⟩;rcases List.mem_cons.1 hb with rfl |hb
   ·rcases List.mem_append.1 ha with ha |ha
    ·have:=(List.pairwise_append.1 p1).2.2 a ha y (by simp);omega
    ·simp only[List.mem_singleton] at ha;subst ha;omega
   ·exact p3 a ha b hb
theorem akP:∀(R:List Int) (i:Nat) (n:Int) (S:List Int),S.length=i→i+R.length≤1000000→S.Pairwise (· ≤ ·)→∃n' r,dJ n i (S++R)=some (r,n')∧r.Perm (S++R)∧r.Pairwise (· ≤ ·):=by
 intro R;induction R with
 |nil=>intro i n S hS hl hp;rw[vS,pR,al (by simp;omega)];exact⟨n,_,rfl,List.Perm.refl _,by simpa using hp⟩
 |cons x R ih=>
  intro i n S hS hl hp;simp only[List.length_cons] at hl;obtain⟨n',S',k1,k2,k3⟩:=am0 (i:=i) (R:=R) i n S [] x hS (by simp) (by omega) (by simpa using hp) (fun b hb=>by cases hb);have hS':S'.length=i+1:=by rw[k2.length_eq];simp;omega
  obtain⟨n2,r,h1,h2,h3⟩:=ih (i+1) n' S' hS' (by omega) k3;have e:S++[x]++R=S++x::R:=by simp
  rw[e] at k1;rw[vS,pR,au (by simp;omega),k1,h1];refine⟨n2,r,rfl,h2.trans ?_,h3⟩;rw[←e];exact List.Perm.append_right R k2
theorem acC {l:List Int}(hl:l.length≤1000000):∃n' r,ir l=some (r,n')∧r.Perm l∧r.Pairwise (· ≤ ·):=by rw[KQ,B3,iG (by omega) (by omega),List.nil_append];exact akP l 0 0 [] rfl (by omega) List.Pairwise.nil
theorem an0 {l r:List Int}(hp:r.Perm l)(hs:r.Pairwise (· ≤ ·))(hn:l.Nodup)(h0:l≠ [])(h4:l.length≤4)(hr:∀v∈l,0≤v∧v<6):SS r:=by have hn':r.Nodup:=hp.nodup_iff.2 hn;refine⟨fun e=>by subst e;exact h0 hp.symm.eq_nil,by rw[hp.length_eq];exact h4,(hs.and hn').imp fun⟨a,b⟩=>by omega,fun v hv=>hr v (hp.mem_iff.1 hv)⟩
theorem afG {out:List Int}(ho:out.length≤4)(hn:out.Nodup)(hr:∀v∈out,0≤v∧v<6):∃s,(bif ((out.length:Int)==0) then bif (aB 8 1 out.length 1) then (ir (out++([(0:Int)]:List Int))).bind fun r3=>some r3.1 else none else (ir out).bind fun r4=>some r4.1)=some s∧SS s:=by
 by_cases h:(out.length:Int)=0
 ·obtain rfl:out=[]:=List.eq_nil_of_length_eq_zero (by omega);obtain⟨n',s,h1,h2,h3⟩:=acC (l:=[0]) (by simp);rw[iZ h,iG (by omega) (by simp),List.nil_append,h1,bS];exact⟨s,rfl,an0 h2 h3 (by simp) (by simp) (by simp) (by simp)⟩
 ·obtain⟨n',s,h1,h2,h3⟩:=acC (l:=out) (by omega);rw[ft h,h1,bS];exact⟨s,rfl,an0 h2 h3 hn (fun e=>by subst e;simp at h) ho hr⟩
theorem akQ {l:List Int}(hl:l.length≤1000000000000000000):∀(m i:Nat) (out:List Int),m+i=l.length→out.length≤4→out.Nodup→(∀v∈out,0≤v∧v<6)→∃s,fL l 4 6 i out=some s∧SS s:=by
 intro m;induction m with
 |zero=>intro i out hi ho hn hr;rw[xF,qU,al (by omega)];exact afG ho hn hr
 |succ m ih=>
  intro i out hi ho hn hr;rw[xF,qU,au (by omega)];by_cases h:(out.length:Int)<4
  ·have e1:IntKind.wrap .i64 ((i:Int)+1)=((i+1:Nat):Int):=by rw[i64_in _ (by omega)];omega
   rw[au h,gV (by omega) (by omega),kg (by omega),kg (by omega),e1,ar1 (by omega),bS];have hv:=auu (x:=l.getD (i:Int).toNat 0);generalize (IntKind.wrap .i64 ((l.getD (i:Int).toNat 0).tmod 6+6)).tmod 6=v at hv ⊢;by_cases hm:v∈out
   ·rw[decide_eq_true hm,Bool.not_true,cF];exact ih (i+1) out (by omega) ho hn hr
   ·rw[decide_eq_false hm,Bool.not_false,cT,iG (by omega) (by omega)];refine ih (i+1) _ (by omega) (by simp;omega) (List.nodup_append.2 ⟨hn,by simp,fun a ha b hb=>by simp only[List.mem_singleton] at hb;subst hb;exact fun e=>hm (e ▸ ha)⟩) (fun w hw=> ?_);rcases List.mem_append.1 hw with hw |hw
    ·exact hr w hw
    ·simp only[List.mem_singleton] at hw;subst hw;exact hv
  ·rw[al h];exact afG ho hn hr
theorem ahM {l:List Int}(hl:l.length≤1000000000000000000):∃s,oK l 4 6=some s∧SS s:=by rw[Mv,DL];exact akQ hl l.length 0 [] (by omega) (by simp) (by simp) (by simp)
theorem Ym {l f:HL}(hf:f.length≤16)(hf4:∀s∈f,s.length≤4){i:Int}:∀(q k:Nat) (out:HL),q+k=f.length→out.length+q≤900→cm l out i f k=fW l ((f.drop k).foldl yt out) (IntKind.wrap .i64 (i+1)):=by
 intro q;induction q with
 |zero=>intro k out hk ho;rw[uB,oY,al (by omega),List.drop_eq_nil_of_le (by omega)];rfl
 |succ q ih=>intro k out hk ho;have h4:=hf4 _ (az (d:=[]) (show k<f.length by omega));rw[uB,oY,au (by omega),qz (by omega),afE (by omega) (by omega),bS,aU (by omega),fE [] (show k<f.length by omega),List.foldl_cons];exact ih (k+1) _ (by omega) (by have:=wI out (f.getD k []);omega)
theorem acD {s:List Int}(h:s.length≤4):∀t∈kK s,t.length≤4:=fun t ht=>Nat.le_trans (We.1 ht).2.length_le h
theorem ael {l:HL}(hl:Sx 5 l):∀(q i:Nat) (out:HL),q+i=l.length→out.length+15*q≤800→fW l out i=some ((l.drop i).foldl (fun out s=>(kK s).foldl yt out) out):=by
 have hll:=hl.1;intro q;induction q with
 |zero=>intro i out hi ho;rw[uD,oZ,al (by omega),List.drop_eq_nil_of_le (by omega)];rfl
 |succ q ih=>intro i out hi ho;have h4:=hl.getD (show i<l.length by omega);have QQ:=GC h4;have h3:=Ym (l:=l) (f:=kK (l.getD i [])) (by omega) (acD h4) (i:=(i:Int)) _ 0 out (Nat.add_zero _) (by omega);have e0:((0:Nat):Int)=0:=rfl;rw[e0,List.drop_zero,aU (by omega)] at h3;rw[uD,oZ,au (by omega),qz (by omega),afF h4,bS,h3,fE [] (show i<l.length by omega),List.foldl_cons];exact ih (i+1) _ (by omega) (by have:=uW (kK (l.getD i [])) out;omega)
theorem ahN {l:HL}(hl:Sx 5 l):∀(q i:Nat) (out:HL),q+i=l.length→out.length+15*q≤800→eZ l i out=some ((l.drop i).foldl (fun out s=>(kK s).foldl yt out) out):=by
 have hll:=hl.1;intro q;induction q with
 |zero=>intro i out hi ho;rw[vW,pZ,al (by omega),List.drop_eq_nil_of_le (by omega)];rfl
 |succ q ih=>
  intro i out hi ho;have h4:=hl.getD (show i<l.length by omega);have QQ:=GC h4;have hle:=acD h4;rw[vW,pZ,au (by omega),qz (by omega),afF h4,bS,Ha,xK,fE [] (show i<l.length by omega),List.foldl_cons];have hfo:=uW (kK (l.getD i [])) out;by_cases hf:(kK (l.getD i [])).length=0
  ·have e:=List.eq_nil_of_length_eq_zero hf;rw[al (by omega),aU (by omega),e];exact ih (i+1) out (by omega) (by omega)
  ·have hf4:=hle _ (az (d:=[]) (show 0<(kK (l.getD i [])).length by omega));generalize kK (l.getD i [])=f at*
   have hpl:=wI out (f.getD 0 []);have h5:=Ym (l:=l) (f:=f) (by omega) hle (i:=(i:Int)) (f.length - 1) 1 (yt out (f.getD 0 [])) (by omega) (by omega);have e0:((0:Nat):Int)=0:=rfl;have e1:IntKind.wrap .i64 ((0:Int)+1)=((1:Nat):Int):=rfl;have hb:∀{β:Type} {g:List Int→Option β},(idx f (0:Int)).bind g=g (f.getD 0 []):=fun {β g}=>by have:=qz (xs:=f) (k:=0) (f:=g) (by omega);rw[e0] at this;exact this
   have e2:f.foldl yt out=(f.drop 1).foldl yt (yt out (f.getD 0 [])):=by have:=fE [] (show 0<f.length by omega);rw[List.drop_zero] at this;rw[this,List.foldl_cons];simp
   rw[au (by omega),hb,afE (by omega) (by omega),bS,e1,h5,aU (by omega), ←e2];exact ael hl q (i+1) _ (by omega) (by omega)
theorem akR {l:HL}(hl:Sx 5 l):jZ l=some (I1 l):=by have:=hl.1;rw[KR,B6];have h:=ahN hl l.length 0 [] (by omega) (by simp;omega);rw[List.drop_zero] at h;exact h
theorem akS {t:HL}(ht:t.length≤800):∀(q i:Nat),q+i=t.length→eD t (t.length:Int) i (t.take i)=some t:=by
 intro q;induction q with
 |zero=>intro i hi;rw[xJ,q8,al (by omega),List.take_of_length_le (by omega)]
 |succ q ih=>intro i hi;have:=ih (i+1) (by omega);rw[Pa [] (show i<t.length by omega)] at this;rw[xJ,q8,au (by omega),qz (by omega),iG (by omega) (by simp;omega),aU (by omega)];exact this
theorem afH {Vm:HL}(hf:∀s∈Vm,SS s)(hl:Vm.length≤5):∃c,((jZ Vm).bind fun r3=>eD r3 (r3.length:Int) (0:Int) ([]:List (List Int)))=some c∧Cx c:=by have hc:=aek hf hl;rw[akR ⟨hl,fun s hs=>(hf s hs).len⟩,bS];exact⟨_,akS (by have:=hc.len;omega) (I1 Vm).length 0 (by omega),hc⟩
theorem apA {l:HL}(hl:l.length≤1000000)(hs:∀s∈l,s.length≤1000000000000000000):∀(q i:Nat) (Vm:HL),q+i=l.length→Vm.length=i→(∀s∈Vm,SS s)→i≤5→∃c,fK l 5 3 6 i Vm=some c∧Cx c:=by
 intro q;induction q with
 |zero=>intro i Vm hi hf hS h5;rw[xI,q6,al (by omega)];exact afH hS (by omega)
 |succ q ih=>
  intro i Vm hi hf hS h5;rw[xI,q6,au (by omega)];by_cases h:i<5
  ·obtain⟨s,h1,h2⟩:=ahM (hs _ (az (d:=[]) (show i<l.length by omega)));have e4:IntKind.wrap .i64 ((3:Int)+1)=4:=rfl;rw[au (by omega),qz (by omega),e4,h1,bS,iG (by omega) (by omega),aU (by omega)];refine ih (i+1) _ (by omega) (by simp;omega) (fun t ht=> ?_) (by omega);rcases List.mem_append.1 ht with ht |ht
   ·exact hS t ht
   ·rw[List.mem_singleton.1 ht];exact h2
  ·rw[al (by omega)];exact afH hS (by omega)
theorem ahO {l:HL}(hl:l.length≤1000000)(hs:∀s∈l,s.length≤1000000000000000000):∃c,oI l 5 3 6=some c∧Cx c:=by rw[Mz,DO];exact apA hl hs l.length 0 [] (by omega) rfl (by simp) (by omega)
theorem am1 {l:HL}(hl:l.length≤800)(h4:∀s∈l,s.length≤4):oH l=some l:=by
 have key:∀(q i:Nat),q+i=l.length→fJ l i (l.take i)=some l:=by
  intro q;induction q with
  |zero=>intro i hi;rw[xH,qY,al (by omega),List.take_of_length_le (by omega)]
  |succ q ih=>intro i hi;have hg:=h4 _ (az (d:=[]) (show i<l.length by omega));have:=ih (i+1) (by omega);rw[Pa [] (show i<l.length by omega)] at this;rw[xH,qY,au (by omega),qz (by omega),iG (by omega) (by omega),iG (by omega) (by simp;omega),aU (by omega),List.nil_append];exact this
 rw[My,DN];exact key l.length 0 (by omega)
def vJ (a b:ByteArray):Int:=nX ((mq a).1*(mq b).2) ((mq b).1*(mq a).2)
theorem At.den {s:ByteArray}(h:At s):0<(mq s).2:=by obtain⟨n,d,hR⟩:=tk.1 h.1;rw[hR.val];exact(hR.bounds (by have:=h.2;omega)).2.2
theorem Z3 {a b:ByteArray}(ha:At a)(hb:At b):bV a b=some (vJ a b):=by obtain⟨n,d,h⟩:=tk.1 ha.1;obtain⟨m,k,g⟩:=tk.1 hb.1;rw[ZN h g (by have:=ha.2;omega) (by have:=hb.2;omega)];unfold vJ;rw[h.val,g.val]
theorem akT (x y:Int):nX y x= -(nX x y):=by
 rcases Int.lt_trichotomy x y with h |h |h
 ·rw[ow h,qs h];rfl
 ·rw[yi h,yi h.symm];rfl
 ·rw[qs h,ow h]
theorem EC (a b:ByteArray):vJ b a= -(vJ a b):=akT _ _
theorem am2 {x y:Int}:nX x y≤0↔x≤y:=by
 rcases Int.lt_trichotomy x y with h |h |h
 ·rw[ow h];omega
 ·rw[yi h];omega
 ·rw[qs h];omega
theorem akU {x y:Int}:nX x y<0↔x<y:=by
 rcases Int.lt_trichotomy x y with h |h |h
 ·rw[ow h];omega
 ·rw[yi h];omega
 ·rw[qs h];omega
theorem Ar {a b c:ByteArray}(ha:At a)(hb:At b)(hc:At c)(h1:vJ a b≤0)(h2:vJ b c≤0):vJ a c≤0:=by
 unfold vJ at*
 rw[am2] at*
 have p1:=ha.den;have p2:=hb.den;have p3:=hc.den;generalize (mq a).1=n at*
 generalize (mq a).2=d at*
 generalize (mq b).1=m at*
 generalize (mq b).2=k at*
 generalize (mq c).1=u at*
 generalize (mq c).2=v at*
 have e1:=Int.mul_le_mul_of_nonneg_right h1 (Int.le_of_lt p3);have e2:=Int.mul_le_mul_of_nonneg_right h2 (Int.le_of_lt p1);have e3:m*d*v=m*v*d:=by rw[Int.mul_assoc,Int.mul_comm d v, ←Int.mul_assoc]
 have e4:k*(n*v)≤k*(u*d):=by
  have q1:k*(n*v)=n*k*v:=by rw[Int.mul_comm n k,Int.mul_assoc]
  have q2:k*(u*d)=u*k*d:=by rw[Int.mul_comm u k,Int.mul_assoc]
  rw[q1,q2];exact Int.le_trans e1 (by rw[e3];exact e2)
 exact Int.le_of_mul_le_mul_left e4 p2
theorem Yn (a:ByteArray):vJ a a=0:=yi rfl
def T6 (x y:Ce):Prop:=vJ x.2.1 y.2.1<0∨(vJ x.2.1 y.2.1=0∧pf x.1 y.1<0)
theorem Yo {x y z:Ce}(hx:At x.2.1)(hy:At y.2.1)(hz:At z.2.1)(h1:T6 x y)(h2:T6 y z):T6 x z:=by
 have n1:=EC x.2.1 y.2.1;have n2:=EC y.2.1 z.2.1;have n3:=EC x.2.1 z.2.1;unfold T6 at*
 have a1:vJ x.2.1 y.2.1≤0:=by rcases h1 with h | ⟨h,_⟩<;>omega
 have a2:vJ y.2.1 z.2.1≤0:=by rcases h2 with h | ⟨h,_⟩<;>omega
 have a3:=Ar hx hy hz a1 a2;by_cases e:vJ x.2.1 z.2.1=0
 · -- all are of one value
   have b1:=Ar hz hx hy (by omega) a1;have b2:=Ar hy hz hx a2 (by omega);rcases h1 with h | ⟨_,h1⟩
   ·omega
   ·rcases h2 with h | ⟨_,h2⟩
    ·omega
    ·exact .inr ⟨e,O8 h1 h2⟩
 ·exact .inl (by omega)
theorem ahP {x y:Ce}(h:x.1≠y.1)(hn:¬T6 x y):T6 y x:=by
 have n1:=EC x.2.1 y.2.1;have n2:=Wb x.1 y.1;unfold T6 at*
 by_cases e:vJ x.2.1 y.2.1=0
 ·refine .inr ⟨by omega, ?_⟩;have h0:pf x.1 y.1≠0:=fun e=>h (I0.1 e);have:¬pf x.1 y.1<0:=fun g=>hn (.inr ⟨e,g⟩);omega
 ·refine .inl ?_;have:¬vJ x.2.1 y.2.1<0:=fun g=>hn (.inl g);omega
def cellOf (aj:List (Option (List Int)))(r:QR):Ce:=((ag aj r.1).getD [],(r.2.1,()))
theorem acE {l:List Ce}(hl:Cs l):∀(q i out:Nat) (aj:List (Option (List Int))) (pg:List (Option (List QR))) (rows:List QR),q+i=l.length→ag pg out=some rows→rows.map (cellOf aj)=l.take i→Cr aj rows→
  ∃out' fT HG yp,fi l out i aj pg=some (out',(HG,fT))∧ag HG out'=some yp∧yp.map (cellOf fT)=l∧Cr fT yp:=by
 have hll:=hl.1;intro q;induction q with
 |zero=>intro i out aj pg rows hi hg hr hc;rw[vZ,qb,al (by omega)];exact⟨_,_,_,rows,rfl,hg,by rw[hr,List.take_of_length_le (by omega)],hc⟩
 |succ q ih=>
  intro i out aj pg rows hi hg hr hc;obtain⟨hx1,hx2⟩:=hl.2 _ (az (d:=iE) (show i<l.length by omega));have hb:∀{β:Type} {f:Ce→Option β},(idx l (i:Int)).bind f=f (l.getD i iE):=eQ iE (by omega);have hts:=Pa iE (show i<l.length by omega);have hrl:rows.length=i:=by have:=congrArg List.length hr;simpa [show i≤l.length by omega] using this
  have same:∀ys:List (Option (List Int)),rows.map (cellOf (aj++ys))=rows.map (cellOf aj):=fun ys=>List.map_congr_left fun y hy=>by obtain⟨⟨s,h1,_⟩,_⟩:=hc y hy;unfold cellOf;rw[h1,pn h1]
  rw[vZ,qb,au (by omega),hb,gY,bS,List.length_nil,iG (by omega) (by omega),aU (by omega)];generalize l.getD i iE=x at hx1 hx2 hb hts ⊢;cases he:x.1.isEmpty with
  |true=>
   rw[cT,hb];simp only;have h1:ag (pg++[some [((aj.length+1:Nat),(x.2.1,()))]]) out=some rows:=pn hg;rw[h1,bS,gY,bS,List.length_singleton,iG (by omega) (by omega)];have e1:([((aj.length+1:Nat),(x.2.1,()))]:List QR).isEmpty=false:=rfl;rw[e1,cF];exact ih (i+1) _ _ _ (rows++[((aj.length+1:Nat),(x.2.1,()))]) (by omega) gY (by
    rw[List.map_append,same,hr,hts]
    congr 1
    have e9:cellOf (aj++[some []]) ((aj.length+1:Nat),(x.2.1,()))=x:=by unfold cellOf;rw[gY];have:x.1=[]:=List.isEmpty_iff.1 he;obtain⟨a,b,u⟩:=x;simp only at this;subst this;rfl
    rw[List.map_cons,List.map_nil,e9]) (fun y hy=>by
    rcases List.mem_append.1 hy with hy |hy
    ·exact hc.append y hy
    ·rw[List.mem_singleton.1 hy];exact⟨⟨[],gY,by simp⟩,hx2⟩)
  |false=>
   rw[cF,hb];simp only;rw[aee,List.length_append,List.length_singleton];have h1:ag (pg++[some [((aj.length+1+1:Nat),(x.2.1,()))]]) out=some rows:=pn hg;rw[h1,bS,gY,bS,List.length_singleton,iG (by omega) (by omega)];have e1:([((aj.length+1+1:Nat),(x.2.1,()))]:List QR).isEmpty=false:=rfl;rw[e1,cF];have h2:ag (aj++[none]++[some ([]++x.1)]) (aj.length+1+1)=some ([]++x.1):=by have:=gY (xs:=aj++[none]) (l:=[]++x.1);rw[List.length_append,List.length_singleton] at this;exact this
   exact ih (i+1) _ _ _ (rows++[((aj.length+1+1:Nat),(x.2.1,()))]) (by omega) gY (by
    rw[List.append_assoc,List.map_append,same,hr,hts]
    congr 1
    have e9:cellOf (aj++([none]++[some ([]++x.1)])) ((aj.length+1+1:Nat),(x.2.1,()))=x:=by unfold cellOf;rw[←List.append_assoc,h2];rfl
    rw[List.map_cons,List.map_nil,e9]) (fun y hy=>by
    rcases List.mem_append.1 hy with hy |hy
    ·rw[List.append_assoc];exact hc.append y hy
    ·rw[List.mem_singleton.1 hy];exact⟨⟨_,h2,by simpa using hx1⟩,hx2⟩)
theorem akV {l:List Ce}(hl:Cs l):∃out' fT HG yp,mY l [] []=some (out',(HG,fT))∧ag HG out'=some yp∧yp.map (cellOf fT)=l∧Cr fT yp:=by rw[KT,Cc];exact acE hl l.length 0 0 [] [] [] (by omega) rfl rfl (fun x hx=>by cases hx)
theorem Yp {A B:List QR}{x:QR}{k:Nat}(h:A.length=k):(A++x::B).getD k ahy=x:=by subst h;simp[List.getD]
theorem ahQ {out:Nat}{i:Nat}{aj:List (Option (List Int))}{R:List QR}:∀(k:Nat) (pg:List (Option (List QR))) (A B:List QR) (x:QR),ag pg out=some (A++x::B++R)→A.length=k→k+B.length=i→i+1+R.length≤800→Cr aj (A++x::B++R)→((A++B).map (cellOf aj)).Pairwise T6→(∀b∈B,T6 (cellOf aj x) (cellOf aj b))→(∀a∈A,(cellOf aj x).1≠(cellOf aj a).1)→
  ∃HG S,dI out i k aj pg=bF out ((i+1:Nat):Int) aj HG∧ag HG out=some (S++R)∧S.Perm (A++x::B)∧(S.map (cellOf aj)).Pairwise T6:=by
 intro k;induction k with
 |zero=>
  intro pg A B x hg hA hB hR hc hp hx hne;obtain rfl:=List.eq_nil_of_length_eq_zero hA;refine⟨pg,x::B, ?_,hg,List.Perm.refl _, ?_⟩
  ·rw[vY,p8,dA (by omega),aU (by omega)]
  ·rw[List.map_cons];exact List.pairwise_cons.2 ⟨fun b hb=>by
    obtain⟨b',hb',rfl⟩:=List.mem_map.1 hb;exact hx b' hb',by simpa using hp⟩
 |succ k ih=>
  intro pg A B x hg hA hB hR hc hp hx hne;obtain⟨A',y,rfl⟩:∃A' y,A=A'++[y]:=⟨A.dropLast,A.getLast (fun e=>by subst e;simp at hA),(List.dropLast_concat_getLast _).symm⟩
  have hA':A'.length=k:=by simp at hA;omega
  have cx:=hc x (by simp);have cy:=hc y (by simp);have hl:(A'++[y]++x::B++R).length=i+1+R.length:=by simp;omega
  have gk:(A'++[y]++x::B++R).getD k ahy=y:=by
   have e:A'++[y]++x::B++R=A'++y::(x::B++R):=by simp
   rw[e];exact Yp hA'
  have gk1:(A'++[y]++x::B++R).getD (k+1) ahy=x:=by
   have e:A'++[y]++x::B++R=(A'++[y])++x::(B++R):=by simp
   rw[e];exact Yp (by simp;omega)
  have e2:((A'++[y]++x::B++R).set (k+1) (y.1,(y.2.1,()))).set k (x.1,(x.2.1,()))=A'++x::(y::B)++R:=by
   have e:A'++[y]++x::B++R=A'++y::x::(B++R):=by simp
   rw[e,List.set_append_right _ _ (by omega),List.set_append_right _ _ (by omega),hA',Nat.sub_self,show k+1 - k=1 by omega];simp
  generalize hrows:A'++[y]++x::B++R=rows at*
  have e1:IntKind.wrap .i64 (((k+1:Nat):Int) - 1)=(k:Int):=by rw[i64_in _ (by omega)];omega
  have hout:out≠0:=ZX hg (fun e=>by rw[e] at hl;simp at hl;omega);have b1:∀{β:Type} {f:QR→Option β},(idx rows ((k+1:Nat):Int)).bind f=f x:=fun {β f}=>by rw[eQ ahy (by omega),gk1]
  have b2:∀{β:Type} {f:QR→Option β},(idx rows (k:Int)).bind f=f y:=fun {β f}=>by rw[eQ ahy (by omega),gk]
  have g1:rows[((k+1:Nat):Int).toNat]? =some x:=by rw[Int.toNat_natCast, ←gk1];simp[List.getD,show k+1<rows.length by omega]
  have g2:rows[((k:Nat):Int).toNat]? =some y:=by rw[Int.toNat_natCast, ←gk];simp[List.getD,show k<rows.length by omega]
  obtain⟨⟨s1,p1,q1⟩,a1⟩:=cx;obtain⟨⟨s2,p2,q2⟩,a2⟩:=cy;have hcmp:=Z3 a1 a2;have hfx:(cellOf aj x).1=s1:=by unfold cellOf;rw[p1];rfl
  have hfy:(cellOf aj y).1=s2:=by unfold cellOf;rw[p2];rfl
  have ar3:s1≠s2:=by have:=hne y (by simp);rw[hfx,hfy] at this;exact this
  obtain⟨pw1,pw2,pw3⟩:=List.pairwise_append.1 (by rw[List.map_append] at hp;exact hp)
  -- C7 exchange
  have swap:T6 (cellOf aj x) (cellOf aj y)→∃HG S,((ag pg out).bind fun v30=>(idx v30 (k:Int)).bind fun _=>(ag pg out).bind fun v31=>(v31[(k:Int).toNat]?).bind fun v32=>(ag pg out).bind fun v33=>(idx v33 ((k+1:Nat):Int)).bind fun _=>(ag pg out).bind fun v34=>(v34[((k+1:Nat):Int).toNat]?).bind fun v35=>(ag pg out).bind fun v36=>(idx v36 ((k+1:Nat):Int)).bind fun _=>(ag pg out).bind fun v37=>(v37[((k+1:Nat):Int).toNat]?).bind fun v38=>
    let e39:List (Option (List (Nat×ByteArray×Unit))):=(ef pg out (v37.set ((k+1:Nat):Int).toNat (v32.1,(v32.2.1,()))))
    (ag e39 out).bind fun v40=>(idx v40 (k:Int)).bind fun _=>(ag e39 out).bind fun v41=>(v41[(k:Int).toNat]?).bind fun v42=>
    let e43:List (Option (List (Nat×ByteArray×Unit))):=(ef e39 out (v41.set (k:Int).toNat (v35.1,(v35.2.1,()))))
    dI out i (k:Int) aj e43)=bF out ((i+1:Nat):Int) aj HG∧ag HG out=some (S++R)∧S.Perm (A'++[y]++x::B)∧(S.map (cellOf aj)).Pairwise T6:=by
   intro hlt;rw[hg,bS,b2,bS,g2,bS,bS,b1,bS,g1,bS,bS,b1,bS,g1,bS];simp only;have hs:=fD (l':=rows.set ((k+1:Nat):Int).toNat (y.1,(y.2.1,()))) hg hout;have hl2:(rows.set ((k+1:Nat):Int).toNat (y.1,(y.2.1,()))).length=i+1+R.length:=by rw[List.length_set];exact hl
   have gy:(rows.set ((k+1:Nat):Int).toNat (y.1,(y.2.1,())))[((k:Nat):Int).toNat]? =some y:=by rw[Int.toNat_natCast,Int.toNat_natCast,List.getElem?_set_ne (by omega), ←Int.toNat_natCast k];exact g2
   rw[hs,bS,eQ ahy (by omega),bS,gy,bS];have hs2:=fD (l':=(rows.set ((k+1:Nat):Int).toNat (y.1,(y.2.1,()))).set ((k:Nat):Int).toNat (x.1,(x.2.1,()))) hs hout;have e3:(rows.set ((k+1:Nat):Int).toNat (y.1,(y.2.1,()))).set ((k:Nat):Int).toNat (x.1,(x.2.1,()))=A'++x::(y::B)++R:=by rw[Int.toNat_natCast,Int.toNat_natCast];exact e2
   rw[e3] at hs2 ⊢;obtain⟨HG,S,k1,k2,k3,k4⟩:=ih _ A' (y::B) x hs2 hA' (by simp;omega) hR (fun z hz=>hc z (by rw[←hrows];simp at hz ⊢;rcases hz with hz |hz |hz |hz |hz<;>simp[hz])) (by
    have e4:A'++y::B=A'++[y]++B:=by simp
    rw[e4];exact hp) (fun b hb=>by
    rcases List.mem_cons.1 hb with rfl |hb
    ·exact hlt
    ·exact hx b hb) (fun a ha=>hne a (by simp[ha]))
   refine⟨HG,S,k1,k2,k3.trans ?_,k4⟩;have e5:A'++[y]++x::B=A'++(y::x::B):=by simp
   rw[e5];exact List.Perm.append_left A' (List.Perm.swap y x B)
  have stop:¬T6 (cellOf aj x) (cellOf aj y)→∃HG S,bF out (IntKind.wrap .i64 ((i:Int)+1)) aj pg=bF out ((i+1:Nat):Int) aj HG∧ag HG out=some (S++R)∧S.Perm (A'++[y]++x::B)∧(S.map (cellOf aj)).Pairwise T6:=by
   intro hn;have hyx:T6 (cellOf aj y) (cellOf aj x):=ahP (by rw[hfx,hfy];exact ar3) hn;refine⟨pg,A'++[y]++x::B,by rw[aU (by omega)],by rw[hrows];exact hg,List.Perm.refl _, ?_⟩;rw[List.map_append];refine List.pairwise_append.2 ⟨pw1, ?_,fun a ha b hb=> ?_⟩
   ·rw[List.map_cons];exact List.pairwise_cons.2 ⟨fun b hb=>by
     obtain⟨b',hb',rfl⟩:=List.mem_map.1 hb;exact hx b' hb',pw2⟩
   ·rw[List.map_cons] at hb;rcases List.mem_cons.1 hb with rfl |hb
    ·obtain⟨a',ha',rfl⟩:=List.mem_map.1 ha;rcases List.mem_append.1 ha' with ha2 |ha2
     ·rw[List.map_append] at pw1;have:=(List.pairwise_append.1 pw1).2.2 _ (List.mem_map.2 ⟨a',ha2,rfl⟩) (cellOf aj y) (by simp);exact Yo (hc a' (by rw[←hrows];simp[ha2])).2 a2 a1 this hyx
     ·simp only[List.mem_singleton] at ha2;subst ha2;exact hyx
    ·exact pw3 a ha b hb
  rw[vY,p8,da (by omega),e1];have pre:∀{β:Type} {f:QR→QR→Option β},((ag pg out).bind fun v0=>(idx v0 ((k+1:Nat):Int)).bind fun _=>(ag pg out).bind fun v1=>(v1[((k+1:Nat):Int).toNat]?).bind fun v2=>(ag pg out).bind fun v3=>(idx v3 (k:Int)).bind fun _=>(ag pg out).bind fun v4=>(v4[(k:Int).toNat]?).bind fun v5=>f v2 v5)=f x y:=fun {β f}=>by rw[hg,bS,b1,bS,g1,bS,bS,b2,bS,g2,bS]
  rw[pre,hcmp,bS];by_cases h1:vJ x.2.1 y.2.1>0
  ·rw[da h1];exact stop (fun g=>by
    have g':vJ x.2.1 y.2.1<0∨(vJ x.2.1 y.2.1=0∧_):=g;rcases g' with g | ⟨g,_⟩<;>omega)
  ·rw[dA h1];by_cases h2:vJ x.2.1 y.2.1=0
   ·rw[iZ h2,pre,V5 rfl p1,bS,V5 rfl p2,bS,Wf (by omega),bS];by_cases h3:pf s1 s2>0
    ·rw[da h3];exact stop (fun g=>by
      have g':vJ x.2.1 y.2.1<0∨(vJ x.2.1 y.2.1=0∧pf (cellOf aj x).1 (cellOf aj y).1<0):=g;rw[hfx,hfy] at g';rcases g' with g | ⟨_,g⟩<;>omega)
    ·rw[dA h3];refine swap (.inr ⟨h2, ?_⟩);rw[hfx,hfy];have:pf s1 s2≠0:=fun e=>ar3 (I0.1 e);omega
   ·rw[ft h2];exact swap (.inl (by show vJ x.2.1 y.2.1<0;omega))
theorem aem {out:Nat}{aj:List (Option (List Int))}:∀(R:List QR) (i:Nat) (pg:List (Option (List QR))) (S:List QR),ag pg out=some (S++R)→S.length=i→i+R.length≤800→Cr aj (S++R)→(S.map (cellOf aj)).Pairwise T6→((S++R).map (cellOf aj)).Pairwise (fun x y=>x.1≠y.1)→
  ∃r,bF out i aj pg=some r∧r.Perm ((S++R).map (cellOf aj))∧r.Pairwise T6:=by
 intro R;induction R with
 |nil=>intro i pg S hg hS hl hc hp hn;rw[List.append_nil] at hg hc hn ⊢;rw[vX,p7,hg,bS,al (by omega),aef rfl rfl hg (fun x hx=>by obtain⟨⟨s,h1,_⟩,_⟩:=hc x hx;exact⟨s,h1⟩),bS];exact⟨_,rfl,List.Perm.refl _,hp⟩
 |cons x R ih=>
  intro i pg S hg hS hl hc hp hn;simp only[List.length_cons] at hl;have e:S++[x]++R=S++x::R:=by simp
  obtain⟨HG,S',k1,k2,k3,k4⟩:=ahQ (i:=i) (R:=R) i pg S [] x (by rw[e];exact hg) hS (by simp) (by omega) (by rw[e];exact hc) (by simpa using hp) (fun b hb=>by cases hb) (fun a ha=>by
   rw[List.map_append] at hn;exact Ne.symm ((List.pairwise_append.1 hn).2.2 _ (List.mem_map.2 ⟨a,ha,rfl⟩) _ (by simp)))
  have hS':S'.length=i+1:=by rw[k3.length_eq];simp;omega
  have k5:(S'++R).Perm (S++x::R):=by rw[←e];exact List.Perm.append_right R k3
  obtain⟨r,h1,h2,h3⟩:=ih (i+1) HG S' k2 hS' (by omega) (fun y hy=>hc y (k5.mem_iff.1 hy)) k4 ((k5.map (cellOf aj)).pairwise_iff (R:=fun x y:Ce=>x.1≠y.1) (fun h=>Ne.symm h) |>.2 hn);rw[vX,p7,hg,bS,au (by simp;omega),k1,h1];exact⟨r,rfl,h2.trans (k5.map (cellOf aj)),h3⟩
theorem aen {l:List Ce}(hl:Cs l)(hn:l.Pairwise fun x y=>x.1≠y.1):∃r,j0 l=some r∧r.Perm l∧r.Pairwise T6:=by
 obtain⟨out',fT,HG,yp,h1,h2,h3,h4⟩:=akV hl;have hlen:yp.length=l.length:=by rw[←h3];simp
 have hll:=hl.1;obtain⟨r,g1,g2,g3⟩:=aem (out:=out') yp 0 HG [] h2 rfl (by omega) h4 List.Pairwise.nil (by rw[List.nil_append,h3];exact hn);rw[List.nil_append,h3] at g2;have e0:((0:Nat):Int)=0:=rfl;rw[e0] at g1;rw[KS,Cb,h1,bS];exact⟨r,g1,g2,g3⟩
end Go.Proofs.YtofjebmoebhiiaaGreatDoor.Ev
namespace Go.Abs
theorem FV {s t:List Int}(h:t∈cL s):t.Sublist s∧t≠ []∧t≠s:=by
 unfold cL at h;split at h
 ·obtain⟨k,hk,rfl⟩:=List.mem_map.1 h;have hk':k<s.length:=by simpa using hk
  have hl:(s.eraseIdx k).length=s.length - 1:=List.length_eraseIdx_of_lt hk';exact⟨List.eraseIdx_sublist s k,fun e=>by rw[e] at hl;simp at hl;omega,fun e=>by rw[e] at hl;omega⟩
 ·cases h
theorem Pb {s:List Int}{n:Nat}(h:s.length≤n):(cL s).length≤n:=by
 unfold cL;split
 ·rw[List.length_map,List.length_range];exact h
 ·simp
theorem aeo {a b:List Int}(h:a.length<b.length):pf a b<0:=by unfold pf;rw[if_pos (by omega),if_pos h];decide
theorem ahR {s t:List Int}(h:t.Sublist s)(hn:t≠s):t.length<s.length:=by
 have h1:=h.length_le;rcases Nat.lt_or_ge t.length s.length with h2 |h2
 ·exact h2
 ·exact absurd (h.eq_of_length (by omega)) hn
end Go.Abs
namespace Go.Proofs.YtofjebmoebhiiaaGreatDoor.Ev
open Go.Abs Go.IntWalk
theorem Yq {s:List Int}(h:SS s):fB s=some 0:=by
 have h4:=h.len;have h0:s.length≠0:=fun e=>h.ne (List.eq_nil_of_length_eq_zero e);have k1:∀(q i:Nat),q+i=s.length→1≤i→dm s i=some 0:=by
  intro q;induction q with
  |zero=>intro i hi h1;rw[pY,mf,al (by omega)]
  |succ q ih=>
   intro i hi h1;have e1:IntKind.wrap .i64 ((i:Int) - 1)=((i - 1:Nat):Int):=by rw[i64_in _ (by omega)];omega
   have hlt:s.getD (i - 1) 0<s.getD i 0:=by have:=List.pairwise_iff_getElem.1 h.up (i - 1) i (by omega) (by omega) (by omega);simpa [List.getD,show i - 1<s.length by omega,show i<s.length by omega] using this
   rw[pY,mf,au (by omega),eQ 0 (by omega),e1,eQ 0 (by omega),Qp (by omega),aU (by omega)];exact ih (i+1) (by omega) (by omega)
 have k0:∀(q i:Nat),q+i=s.length→dk s i=some 0:=by
  intro q;induction q with
  |zero=>intro i hi;rw[pX,me,al (by omega)];exact k1 (s.length - 1) 1 (by omega) (by omega)
  |succ q ih=>intro i hi;have hr:=h.rg _ (az (d:=0) (show i<s.length by omega));rw[pX,me,au (by omega),eQ 0 (by omega),al (by omega),eQ 0 (by omega),wF (by omega),aU (by omega)];exact ih (i+1) (by omega)
 rw[B4,vp,ft (by omega),dA (by omega)];exact k0 s.length 0 (by omega)
theorem ahS {l:HL}(hl:l.length≤1000000)(hs:∀s∈l,s.length≤4){t:List Int}(ht:t∈l):∃r:Int,0≤r∧oM l t=some r:=by
 have key:∀(q i:Nat),q+i=l.length→t∈l.drop i→∃r:Int,0≤r∧fP l t i=some r:=by
  intro q;induction q with
  |zero=>intro i hi h;rw[List.drop_eq_nil_of_le (by omega)] at h;cases h
  |succ q ih=>
   intro i hi h;have h4:=hs _ (az (d:=[]) (show i<l.length by omega));rw[fE [] (show i<l.length by omega)] at h;rw[II,yO,au (by omega),qz (by omega),Wf (by omega),bS];by_cases e:pf (l.getD i []) t=0
   ·rw[iZ e];exact⟨i,by omega,rfl⟩
   ·rw[ft e,aU (by omega)];refine ih (i+1) (by omega) ?_;rcases List.mem_cons.1 h with h |h
    ·exact absurd (by rw[h];exact HF _) e
    ·exact h
 rw[MB,DQ];exact key l.length 0 (by omega) (by simpa using ht)
theorem ahT {c:HL}(h:Cx c):oL c=some 0:=by
 have hl:=h.len;have h4:∀s∈c,s.length≤4:=fun s hs=>(h.ss s hs).len;have k1:∀(f:HL) (i:Nat),i<c.length→(∀t∈f,t∈c)→f.length≤4→eE c ((i+1:Nat):Int)=some 0→∀(q k:Nat),q+k=f.length→fN c i f k=some 0:=by
  intro f i hi hf QQ nxt q;induction q with
  |zero=>intro k hk;rw[xM,ra,al (by omega),aU (by omega)];exact nxt
  |succ q ih=>intro k hk;obtain⟨r,h0,h1⟩:=ahS (by omega) h4 (hf _ (az (d:=[]) (show k<f.length by omega)));rw[xM,ra,au (by omega),qz (by omega),h1,bS,al (by omega),aU (by omega)];exact ih (k+1) (by omega)
 have k0:∀(q i:Nat),q+i=c.length→eE c i=some 0:=by
  intro q;induction q with
  |zero=>intro i hi;rw[xL,q9,al (by omega)]
  |succ q ih=>
   intro i hi;have hmem:=az (d:=[]) (show i<c.length by omega);have hss:=h.ss _ hmem;have YK:=hss.len;have auy:∀t∈cL (c.getD i []),t∈c:=fun t ht=>by obtain⟨a,b,_⟩:=FV ht;exact h.aej _ hmem t a b
   have QQ:(cL (c.getD i [])).length≤4:=Pb YK;have e0:((0:Nat):Int)=0:=rfl;have fin:=k1 _ i (by omega) auy QQ (ih (i+1) (by omega)) _ 0 (Nat.add_zero _);rw[e0] at fin
   rw[xL,q9,au (by omega),qz (by omega),Yq hss,bS,pd rfl];by_cases hi0:(i:Int)>0
   ·have e1:IntKind.wrap .i64 ((i:Int) - 1)=((i - 1:Nat):Int):=by rw[i64_in _ (by omega)];omega
    have hlt:pf (c.getD (i - 1) []) (c.getD i [])<0:=by have:=List.pairwise_iff_getElem.1 h.asc (i - 1) i (by omega) (by omega) (by omega);simpa [List.getD,show i - 1<c.length by omega,show i<c.length by omega] using this
    have hneg:=Wb (c.getD (i - 1) []) (c.getD i []);rw[da hi0,qz (by omega),e1,qz (by omega),Wf (by omega),bS,ft (by omega),da hi0,qz (by omega),qz (by omega),Wf (by omega),bS,al (by omega),qz (by omega),QH (by omega),bS];exact fin
   ·rw[dA hi0,dA hi0,qz (by omega),QH (by omega),bS];exact fin
 rw[MA,DP,dA (by omega)];exact k0 c.length 0 (by omega)
structure Mx (c:HL) (values:List ByteArray) (i:Nat) (a:ByteArray):Prop where
 is:∃k,k<c.length∧(∀v∈c.getD k [],v∈c.getD i [])∧a=values.getD k ByteArray.empty
 le:∀k,k<c.length→(∀v∈c.getD k [],v∈c.getD i [])→vJ (values.getD k ByteArray.empty) a≤0
theorem am3 {c:HL}(hc:Cx c){values:List ByteArray}(hv:Ats c.length values){i:Nat}(hi:i<c.length){out:List Ce}(ho:out.length≤800):∀(q k:Nat) (a:ByteArray),q+k=c.length→
  (∃k,k<c.length∧(∀v∈c.getD k [],v∈c.getD i [])∧a=values.getD k ByteArray.empty)→(∀j,j<k→(∀v∈c.getD j [],v∈c.getD i [])→vJ (values.getD j ByteArray.empty) a≤0)→
  ∃a',Mx c values i a'∧jd c values i a k out=gN c values ((i+1:Nat):Int) (out++[(c.getD i [],(a',()))]):=by
 have hl:=hc.len;have hvl:=hv.1;have Z4:∀k,k<c.length→At (values.getD k ByteArray.empty):=fun k hk=>hv.2 _ (az (by omega));have h4:∀k,k<c.length→(c.getD k []).length≤4:=fun k hk=>(hc.ss _ (az hk)).len;intro q;induction q with
 |zero=>intro k a hk h1 h2;refine⟨a,⟨h1,fun j hj=>h2 j (by omega)⟩, ?_⟩;rw[B9,vA,al (by omega),qz hi,iG (by omega) (by omega),aU (by omega)]
 |succ q ih=>
  intro k a hk h1 h2;have hk':k<c.length:=by omega
  have hlk:=h4 k hk';have hli:=h4 i hi;have hA:At a:=by obtain⟨k0,a1,_,rfl⟩:=h1;exact Z4 k0 a1
  have hall:((c.getD k []).all fun v=>decide (v∈c.getD i []))=true↔∀v∈c.getD k [],v∈c.getD i []:=by simp[List.all_eq_true]
  rw[B9,vA,au (by omega),qz hi,qz hk',ar2 (by omega) (by omega),bS];cases hb:(c.getD k []).all fun v=>decide (v∈c.getD i []) with
  |false=>
   rw[cF,aU (by omega)];refine ih (k+1) a (by omega) h1 fun j hj hs=> ?_;by_cases e:j=k
   ·subst e;have:=hall.2 hs;rw[hb] at this;cases this
   ·exact h2 j (by omega) hs
  |true=>
   have hs:=hall.1 hb;rw[cT,afy (by omega),Z3 (Z4 k hk') hA,bS];by_cases g:vJ (values.getD k ByteArray.empty) a>0
   ·rw[da g,afy (by omega),aU (by omega)];refine ih (k+1) _ (by omega) ⟨k,hk',hs,rfl⟩ fun j hj hsj=> ?_;by_cases e:j=k
    ·subst e;rw[Yn];omega
    ·have n1:=EC (values.getD k ByteArray.empty) a;exact Ar (Z4 j (by omega)) hA (Z4 k hk') (h2 j (by omega) hsj) (by omega)
   ·rw[dA g,aU (by omega)];refine ih (k+1) a (by omega) h1 fun j hj hsj=> ?_;by_cases e:j=k
    ·subst e;omega
    ·exact h2 j (by omega) hsj
structure Fi (f:List Ce):Prop where
 len:f.length≤80
 ss:∀x∈f,SS x.1
 at_:∀x∈f,At x.2.1
 up:f.Pairwise T6
 ar4:f.Pairwise fun x y=>x.1≠y.1
 aej:∀j,j<f.length→∀t:List Int,t.Sublist (f.getD j iE).1→t≠ []→t≠(f.getD j iE).1→∃i,i<j∧(f.getD i iE).1=t
theorem Fi.take {f:List Ce}(h:Fi f)(n:Nat):Fi (f.take n):=by
 have hsub:=List.take_sublist n f;refine⟨by have:=h.len;simp;omega,fun x hx=>h.ss x (hsub.mem hx),fun x hx=>h.at_ x (hsub.mem hx),h.up.sublist hsub,h.ar4.sublist hsub,fun j hj t ht h0 hn=> ?_⟩;have hj':j<n∧j<f.length:=by simp at hj;omega
 have e:∀i,i≤j→(f.take n).getD i iE=f.getD i iE:=fun i hi=>by simp[List.getD,show i<n by omega]
 rw[e j (Nat.le_refl _)] at ht hn;obtain⟨i,hi,he⟩:=h.aej j hj'.2 t ht h0 hn;exact⟨i,hi,by rw[e i (by omega)];exact he⟩
theorem apD {f:List Ce}(ha:∀x∈f,At x.2.1)(hu:f.Pairwise T6){i j:Nat}(hi:i<f.length)(hj:j<f.length)(h:T6 (f.getD i iE) (f.getD j iE)):i<j:=by
 have irr:∀x:Ce,¬T6 x x:=fun x hx=>by
  rcases hx with hx | ⟨_,hx⟩
  ·rw[Yn] at hx;omega
  ·rw[HF] at hx;omega
 rcases Nat.lt_trichotomy i j with g |g |g
 ·exact g
 ·subst g;exact absurd h (irr _)
 ·have:=List.pairwise_iff_getElem.1 hu j i hj hi g;have e1:f.getD i iE=f[i]:=by simp[List.getD,hi]
  have e2:f.getD j iE=f[j]:=by simp[List.getD,hj]
  rw[e1,e2] at h;exact absurd (Yo (ha _ (List.getElem_mem hi)) (ha _ (List.getElem_mem hj)) (ha _ (List.getElem_mem hi)) h this) (irr _)
theorem akW {c:HL}(hc:Cx c){values:List ByteArray}(hv:Ats c.length values):∀(q i:Nat) (out:List Ce),q+i=c.length→out.length=i→(∀j,j<i→(out.getD j iE).1=c.getD j []∧Mx c values j (out.getD j iE).2.1)→
  ∃o,o.length=c.length∧(∀j,j<c.length→(o.getD j iE).1=c.getD j []∧Mx c values j (o.getD j iE).2.1)∧gN c values i out=(j0 o).bind fun r=>some (r,0):=by
 have hl:=hc.len;have hvl:=hv.1;intro q;induction q with
 |zero=>
  intro i out hi ho h;obtain rfl:i=c.length:=by omega
  refine⟨out,ho,h, ?_⟩;rw[B8,vz,al (by omega)]
 |succ q ih=>
  intro i out hi ho h;have hi':i<c.length:=by omega
  obtain⟨a,h1,h2⟩:=am3 hc hv hi' (out:=out) (by omega) c.length 0 (values.getD i ByteArray.empty) (by omega) ⟨i,hi',fun v hv=>hv,rfl⟩ (fun j hj=>by omega);have e0:((0:Nat):Int)=0:=rfl;rw[e0] at h2;rw[B8,vz,au (by omega),afy (by omega),h2];refine ih (i+1) _ (by omega) (by simp;omega) fun j hj=> ?_;by_cases e:j<i
  ·have e2:(out++[(c.getD i [],(a,()))]).getD j iE=out.getD j iE:=by simp only[List.getD];rw[List.getElem?_append_left (by omega)]
   rw[e2];exact h j e
  ·obtain rfl:j=i:=by omega
   have e2:(out++[(c.getD j [],(a,()))]).getD j iE=(c.getD j [],(a,())):=by simp only[List.getD];rw[List.getElem?_append_right (by omega),ho,Nat.sub_self];rfl
   rw[e2];exact⟨rfl,h1⟩
theorem apE {c:HL}(hc:Cx c){values:List ByteArray}(hv:Ats c.length values):∃r,uo c values=some (r,0)∧Fi r:=by
 have hl:=hc.len;have hvl:=hv.1;have Z4:∀k,k<c.length→At (values.getD k ByteArray.empty):=fun k hk=>hv.2 _ (az (by omega));obtain⟨o,o1,o2,o3⟩:=akW hc hv c.length 0 [] (by omega) rfl (fun j hj=>by omega);have oat:∀j,j<c.length→At (o.getD j iE).2.1:=fun j hj=>by obtain⟨k,hk,_,e⟩:=(o2 j hj).2.is;rw[e];exact Z4 k hk
 have memo:∀x∈o,∃j,j<c.length∧x=o.getD j iE:=fun x hx=>by obtain⟨j,hj,e⟩:=List.getElem_of_mem hx;exact⟨j,by omega,by simp[List.getD,hj,e]⟩
 have ar5:∀i j,i<c.length→j<c.length→i≠j→c.getD i []≠c.getD j []:=fun i j hi hj hij e=>by
  have lt:∀i j,i<j→j<c.length→pf (c.getD i []) (c.getD j [])<0:=fun i j hij hj=>by have:=List.pairwise_iff_getElem.1 hc.asc i j (by omega) hj hij;simpa [List.getD,show i<c.length by omega,hj] using this
  rcases Nat.lt_or_ge i j with g |g
  ·have:=lt i j g hj;rw[e,HF] at this;omega
  ·have:=lt j i (by omega) hi;rw[e,HF] at this;omega
 have an1:o.Pairwise fun x y=>x.1≠y.1:=List.pairwise_iff_getElem.2 fun i j hi hj hij=>by
  have h1:=(o2 i (by omega)).1;have h2:=(o2 j (by omega)).1;have e1:o.getD i iE=o[i]:=by simp[List.getD,hi]
  have e2:o.getD j iE=o[j]:=by simp[List.getD,hj]
  rw[e1] at h1;rw[e2] at h2;rw[h1,h2];exact ar5 i j (by omega) (by omega) (by omega)
 have ocs:Cs o:=⟨by omega,fun x hx=>by
  obtain⟨j,hj,rfl⟩:=memo x hx;rw[(o2 j hj).1];exact⟨(hc.ss _ (az hj)).len,oat j hj⟩⟩
 obtain⟨r,r1,r2,r3⟩:=aen ocs an1;have apF:∀x∈r,∃j,j<c.length∧x=o.getD j iE:=fun x hx=>memo x (r2.mem_iff.1 hx);have rat:∀x∈r,At x.2.1:=fun x hx=>by obtain⟨j,hj,rfl⟩:=apF x hx;exact oat j hj
 refine⟨r, ?_,by rw[r2.length_eq];omega,fun x hx=> ?_,rat,r3,(r2.pairwise_iff (R:=fun x y:Ce=>x.1≠y.1) (fun h=>Ne.symm h)).2 an1,fun j hj t ht h0 hn=> ?_⟩
 ·have k0:∀(q i:Nat),q+i=values.length→jc c values i=some (r,0):=by
   intro q;induction q with
   |zero=>intro i hi;have e0:((0:Nat):Int)=0:=rfl;rw[e0] at o3;rw[B7,vt,al (by omega),o3,r1,bS]
   |succ q ih=>intro i hi;have ha:=Z4 i (by omega);rw[B7,vt,au (by omega),afy (by omega),VT (by have:=ha.2;omega),bS,ha.1,Bool.not_true,cF,aU (by omega)];exact ih (i+1) (by omega)
  rw[RD,Jj,ahT hc,bS,pd rfl,pd (by omega)];exact k0 values.length 0 (by omega)
 ·obtain⟨j,hj,rfl⟩:=apF x hx;rw[(o2 j hj).1];exact hc.ss _ (az hj)
 ·obtain⟨b,hb,eb⟩:=apF _ (az (d:=iE) hj);rw[eb,(o2 b hb).1] at ht hn;have htc:t∈c:=hc.aej _ (az hb) t ht h0;obtain⟨a,ha,ea⟩:=List.getElem_of_mem htc;have ea':c.getD a []=t:=by simp[List.getD,ha,ea]
  have hya:o.getD a iE∈r:=r2.mem_iff.2 (az (by omega));obtain⟨i,hi,ei⟩:=List.getElem_of_mem hya;have ei':r.getD i iE=o.getD a iE:=by simp[List.getD,hi,ei]
  refine⟨i,apD rat r3 hi hj ?_,by rw[ei',(o2 a ha).1,ea']⟩;rw[ei',eb];obtain⟨k,hk,hks,ek⟩:=(o2 a ha).2.is;have hle:vJ (o.getD a iE).2.1 (o.getD b iE).2.1≤0:=by rw[ek];exact(o2 b hb).2.le k hk fun v hv=>by have h1:=hks v hv;rw[ea'] at h1;exact ht.mem h1
  have hsh:pf (o.getD a iE).1 (o.getD b iE).1<0:=by rw[(o2 a ha).1,(o2 b hb).1,ea'];exact aeo (ahR ht hn)
  by_cases e:vJ (o.getD a iE).2.1 (o.getD b iE).2.1=0
  ·exact .inr ⟨e,hsh⟩
  ·exact .inl (by omega)
theorem aep {values:List Int}(hvl:values.length≤1000000000000000000){c:HL}(hc:Cx c):∀(q i:Nat) (a:List ByteArray),q+i=c.length→Ats i a→∃r,fH values c i a=some r∧Fi r:=by
 have Uy:=hc.len;intro q;induction q with
 |zero=>intro i a hi ha;obtain⟨r,h1,h2⟩:=apE hc (values:=a) ⟨by have:=ha.1;omega,ha.2⟩;rw[xN,rh,al (by omega),h1,bS];exact⟨r,rfl,h2⟩
 |succ q ih=>
  intro i a hi ha;have hal:=ha.1;have push:∀s,At s→Ats (i+1) (a++[s]):=fun s hs=>⟨by simp;omega,fun x hx=>by
   rcases List.mem_append.1 hx with h |h
   ·exact ha.2 x h
   ·rw[List.mem_singleton.1 h];exact hs⟩
  rw[xN,rh,au (by omega),aU (by omega)];by_cases hv:(values.length:Int)>0
  ·have h1:=Int.emod_nonneg (i:Int) (show (values.length:Int)≠0 by omega);have h2:=Int.emod_lt_of_pos (i:Int) hv;have e:(i:Int).tmod (values.length:Int)=(i:Int) % (values.length:Int):=bD (by omega);rw[da hv,kg (by omega),e,gV h1 h2,kg (by omega)];obtain⟨s,h3,h4⟩:=acq (IntKind.wrap .i64 (values.getD ((i:Int) % (values.length:Int)).toNat 0+IntKind.wrap .i64 ((i:Int).tdiv (values.length:Int))));simp only;rw[h3,bS,iG (by omega) (by omega)];exact ih (i+1) _ (by omega) (push s h4)
  ·obtain⟨s,h3,h4⟩:=acq (i:Int);rw[dA hv,h3,bS,iG (by omega) (by omega)];exact ih (i+1) _ (by omega) (push s h4)
theorem ahU {l:HL}(hl:l.length≤1000000)(hs:∀s∈l,s.length≤1000000000000000000){values:List Int}(hv:values.length≤1000000000000000000):∃r,oF l values 5 3 6=some r∧Fi r:=by obtain⟨c,h1,h2⟩:=ahO hl hs;rw[MC,DT,h1,bS,am1 (by have:=h2.len;omega) (fun s hs=>(h2.ss s hs).len),bS];exact aep hv h2 c.length 0 [] (by omega) ⟨rfl,fun s hs=>by cases hs⟩
theorem Yr {f:List Ce}(hf:Fi f){n:Nat}(hn:n≤f.length){s:List Int}:∀(q i:Nat),q+i=n→(∃r:Int,0≤r∧cA f n s i=some r∧∃j,i≤j∧j<n∧(f.getD j iE).1=s)∨(cA f n s i=some (-1)∧∀j,i≤j→j<n→(f.getD j iE).1≠s):=by
 have hl:=hf.len;intro q;induction q with
 |zero=>intro i hi;right;rw[p9,mo,al (by omega)];exact⟨rfl,fun j h1 h2=>by omega⟩
 |succ q ih=>
  intro i hi;have h4:=(hf.ss _ (az (d:=iE) (show i<f.length by omega))).len;rw[p9,mo,au (by omega),LA (by omega),Wf (by omega),bS];by_cases e:pf (f.getD i iE).1 s=0
  ·left;rw[iZ e];exact⟨i,by omega,rfl,i,by omega,by omega,I0.1 e⟩
  ·rw[ft e,aU (by omega)];rcases ih (i+1) (by omega) with ⟨r,h1,h2,j,h3,h5,h6⟩ | ⟨h1,h2⟩
   ·exact .inl ⟨r,h1,h2,j,by omega,h5,h6⟩
   ·refine .inr ⟨h1,fun j h3 h5=> ?_⟩;by_cases g:j=i
    ·subst g;exact fun g2=>e (I0.2 g2)
    ·exact h2 j (by omega) h5
theorem ahV {f:List Ce}(hf:Fi f){n:Nat}(hn:n≤f.length){s:List Int}(h:∃j,j<n∧(f.getD j iE).1=s):∃r:Int,0≤r∧eA f n s=some r:=by
 rw[tY,qa];have e0:((0:Nat):Int)=0:=rfl;rcases Yr hf hn (s:=s) n 0 (by omega) with ⟨r,h1,h2,_⟩ | ⟨_,h2⟩
 ·rw[e0] at h2;exact⟨r,h1,h2⟩
 ·obtain⟨j,h3,h4⟩:=h;exact absurd h4 (h2 j (Nat.zero_le _) h3)
theorem ahW {f:List Ce}(hf:Fi f){n:Nat}(hn:n≤f.length){s:List Int}(h:∀j,j<n→(f.getD j iE).1≠s):eA f n s=some (-1):=by
 rw[tY,qa];have e0:((0:Nat):Int)=0:=rfl;rcases Yr hf hn (s:=s) n 0 (by omega) with ⟨r,_,_,j,_,h3,h4⟩ | ⟨h1,_⟩
 ·exact absurd h4 (h j h3)
 ·rw[e0] at h1;exact h1
theorem Fi.ne {f:List Ce}(hf:Fi f){i j:Nat}(hi:i<f.length)(hj:j<f.length)(h:i≠j):(f.getD i iE).1≠(f.getD j iE).1:=by
 have lt:∀i j,i<j→(hj:j<f.length)→(f.getD i iE).1≠(f.getD j iE).1:=fun i j hij hj=>by have:=List.pairwise_iff_getElem.1 hf.ar4 i j (by omega) hj hij;simpa [List.getD,show i<f.length by omega,hj] using this
 rcases Nat.lt_or_ge i j with g |g
 ·exact lt i j g hj
 ·exact Ne.symm (lt j i (by omega) hi)
theorem ahX {f:List Ce}(hf:Fi f):je f=some 0:=by
 have hl:=hf.len;have ar6:∀i,i<f.length→kj f i=some 0:=fun i hi=>by have hm:=az (d:=iE) hi;have ha:=hf.at_ _ hm;rw[DW,xO,LA hi,Yq (hf.ss _ hm),bS,pd rfl,LA hi,VT (by have:=ha.2;omega),bS,ha.1,Bool.not_true,cF,LA hi,ahW hf (by omega) (fun j hj=>hf.ne (by omega) hi (by omega)),bS];rfl
 have k1:∀(fc:HL) (i:Nat),i<f.length→(∀t∈fc,∃j,j<i∧(f.getD j iE).1=t)→fc.length≤4→cz f ((i+1:Nat):Int)=some 0→∀(q k:Nat),q+k=fc.length→dg f i fc k=some 0:=by
  intro fc i hi hfc QQ nxt q;induction q with
  |zero=>
   intro k hk;rw[p6,ml,al (by omega)];by_cases hi0:(i:Int)>0
   ·have e1:IntKind.wrap .i64 ((i:Int) - 1)=((i - 1:Nat):Int):=by rw[i64_in _ (by omega)];omega
    have a1:=hf.at_ _ (az (d:=iE) hi);have a2:=hf.at_ _ (az (d:=iE) (show i - 1<f.length by omega));have hlt:T6 (f.getD (i - 1) iE) (f.getD i iE):=by have:=List.pairwise_iff_getElem.1 hf.up (i - 1) i (by omega) hi (by omega);simpa [List.getD,show i - 1<f.length by omega,hi] using this
    have hneg:=EC (f.getD (i - 1) iE).2.1 (f.getD i iE).2.1;have hle:vJ (f.getD (i - 1) iE).2.1 (f.getD i iE).2.1≤0:=by rcases hlt with h | ⟨h,_⟩<;>omega
    rw[da hi0,LA hi,e1,LA (by omega),Z3 a1 a2,bS,al (by omega),aU (by omega)];exact nxt
   ·rw[dA hi0,aU (by omega)];exact nxt
  |succ q ih=>intro k hk;obtain⟨r,h0,h1⟩:=ahV hf (n:=i) (by omega) (hfc _ (az (d:=[]) (show k<fc.length by omega)));rw[p6,ml,au (by omega),qz (by omega),h1,bS,al (by omega),aU (by omega)];exact ih (k+1) (by omega)
 have k0:∀(q i:Nat),q+i=f.length→cz f i=some 0:=by
  intro q;induction q with
  |zero=>intro i hi;rw[p5,mj,al (by omega)]
  |succ q ih=>
   intro i hi;have hi':i<f.length:=by omega
   have h4:=(hf.ss _ (az (d:=iE) hi')).len;have QQ:(cL (f.getD i iE).1).length≤4:=Pb h4;have e0:((0:Nat):Int)=0:=rfl;have fin:=k1 (cL (f.getD i iE).1) i hi' (fun t ht=>by
    obtain⟨a,b,c⟩:=FV ht;exact hf.aej i hi' t a b c) QQ (ih (i+1) (by omega)) _ 0 (Nat.add_zero _)
   rw[e0] at fin
   rw[p5,mj,au (by omega),ar6 i hi',bS,pd rfl,LA hi',QH (by omega),bS];exact fin
 rw[Ca,vC,dA (by omega)];exact k0 f.length 0 (by omega)
def T7 (p:Int)(k:Nat):Int:=(1+((k:Int) % 2)*(p - 2)) % p
def co (p:Int)(fc:HL)(s:List Int):Nat→Int
 |0=>0
 |k+1=>if s=fc.getD k [] then T7 p k else co p fc s k
def vec (f:List Ce)(p:Int)(j:Nat):List Int:=(List.range j).map fun i=>co p (cL (f.getD j iE).1) (f.getD i iE).1 (cL (f.getD j iE).1).length
def ofc (f:List Ce)(p:Int)(j:Nat):Cl:=(((f.getD j iE).1.length:Int) - 1,((f.getD j iE).2.1,(OZ 0 (vec f p j),())))
theorem ahY {a b:List Int}(hl:a.length=b.length)(h:∀r,r<a.length→a.getD r 0=b.getD r 0):a=b:=by apply List.ext_getElem hl;intro r h1 h2;have:=h r h1;simpa [List.getD,h1,h2] using this
theorem zN (f:List Ce)(p:Int)(j:Nat):(vec f p j).length=j:=by simp[vec]
theorem QI {f:List Ce}{p:Int}{j i:Nat}(h:i<j):(vec f p j).getD i 0=co p (cL (f.getD j iE).1) (f.getD i iE).1 (cL (f.getD j iE).1).length:=by unfold vec;simp[List.getD,h]
theorem akX {f:List Ce}(hf:Fi f){p:Int}(hp:Pr p){j:Nat}(hj:j≤f.length){fc:HL}{k:Nat}(hk:k<fc.length)(hk4:fc.length≤4){v t2 aG:Nat}{t out:Int}{sY:List (Option (List Cl))}(hv:v≠0):
  ∀(q i:Nat) (aj:List (Option (List Int))) (l:List Int),q+i=j→ag aj v=some l→l.length=j→(∀r,r<j→l.getD r 0=if r<i then co p fc (f.getD r iE).1 (k+1) else co p fc (f.getD r iE).1 k)→
   ∃fT l',eL f p j v fc k i t t2 out aG sY aj=dC f p j v fc ((k+1:Nat):Int) t t2 out aG sY fT∧ag fT v=some l'∧l'.length=j∧∀r,r<j→l'.getD r 0=co p fc (f.getD r iE).1 (k+1):=by
 have QQ:=hf.len;intro q;induction q with
 |zero=>intro i aj l hi hg hl hr;rw[sJ,ou,al (by omega),aU (by omega)];exact⟨aj,l,rfl,hg,hl,fun r h=>by rw[hr r h,if_pos (by omega)]⟩
 |succ q ih=>
  intro i aj l hi hg hl hr;have hc:=(hf.ss _ (az (d:=iE) (show i<f.length by omega))).len;rw[sJ,ou,au (by omega),LA (by omega),qz hk,Wf (by omega),bS,aU (by omega)];have hp1:=hp.1;have hp2:=hp.2.1;obtain⟨m1,m2,m3⟩:=arU (k:=(k:Int)) (by omega) ⟨hp1,hp2⟩;by_cases e:pf (f.getD i iE).1 (fc.getD k [])=0
  ·have g:l[(i:Int).toNat]? =some (l.getD i 0):=by rw[Int.toNat_natCast];simp[List.getD,show i<l.length by omega]
   have hb:∀{β:Type} {f:Int→Option β},(idx l (i:Int)).bind f=f (l.getD i 0):=eQ 0 (by omega);rw[iZ e];simp only;rw[m1,kg (by omega),hg,bS,hb,bS,g,bS,i64_in _ (by omega),bD (by omega)];refine ih (i+1) _ _ (by omega) (Go.Abs.fD hg hv) (by rw[List.length_set];exact hl) fun r hrj=> ?_;rw[Int.toNat_natCast,db];by_cases e2:i=r
   ·subst e2;rw[if_pos ⟨rfl,by omega⟩,if_pos (by omega),co,if_pos (I0.1 e)];rfl
   ·rw[if_neg (fun h=>e2 h.1),hr r hrj];by_cases e3:r<i
    ·rw[if_pos e3,if_pos (by omega)]
    ·rw[if_neg e3,if_neg (by omega)]
  ·rw[ft e];refine ih (i+1) aj l (by omega) hg hl fun r hrj=> ?_;rw[hr r hrj];by_cases e3:r<i
   ·rw[if_pos e3,if_pos (by omega)]
   ·rw[if_neg e3];by_cases e2:r=i
    ·subst e2;rw[if_pos (by omega),co,if_neg fun h=>e (I0.2 h)]
    ·rw[if_neg (by omega)]
theorem akY {f:List Ce}(hf:Fi f){p:Int}(hp:Pr p){j:Nat}(hj:j<f.length){v t2 aG:Nat}{t out:Int}{sY:List (Option (List Cl))}(hv:v≠0){aa:List Cl}(hc:ag sY aG=some aa)(Uy:aa.length=j):
  ∀(q k:Nat) (aj:List (Option (List Int))) (l:List Int),q+k=(cL (f.getD j iE).1).length→ag aj v=some l→l.length=j→(∀r,r<j→l.getD r 0=co p (cL (f.getD j iE).1) (f.getD r iE).1 k)→
   ∃Tk acr fT,ag acr Tk=some (aa++[ofc f p j])∧dC f p j v (cL (f.getD j iE).1) k t t2 out aG sY aj=cW f p ((j+1:Nat):Int) t t2 out Tk acr fT:=by
 have QQ:=hf.len;have h4:=(hf.ss _ (az (d:=iE) hj)).len;have hs4:(cL (f.getD j iE).1).length≤4:=Pb h4;intro q;induction q with
 |zero=>
  intro k aj l hk hg hl hr;have hlv:l=vec f p j:=ahY (by rw[hl,zN]) fun r hrl=>by rw[hr r (by omega),QI (by omega)];congr 1;omega
  rw[sI,oq,al (by omega),LA hj];simp only;rw[LA hj,LB hg (by omega),bS,hc,bS,iG (by omega) (by omega),aU (by omega),i64_in _ (by omega),hlv];exact⟨_,_,_,gY,rfl⟩
 |succ q ih=>intro k aj l hk hg hl hr;have e0:((0:Nat):Int)=0:=rfl;obtain⟨fT,l',h1,h2,h3,h5⟩:=akX (t:=t) (t2:=t2) (out:=out) (aG:=aG) (sY:=sY) hf hp (show j≤f.length by omega) (show k<(cL (f.getD j iE).1).length by omega) hs4 hv j 0 aj l (by omega) hg hl (fun r hrj=>by rw[hr r hrj,if_neg (by omega)]);rw[e0] at h1;rw[sI,oq,au (by omega),h1];exact ih (k+1) fT l' (by omega) h2 h3 h5
theorem akZ {f:List Ce}(hf:Fi f){p:Int}(hp:Pr p){t:Int}{t2:Nat}:∀(q j aG:Nat) (sY:List (Option (List Cl))) (aj:List (Option (List Int))),q+j=f.length→ag sY aG=some ((List.range j).map (ofc f p))→
  cW f p j t t2 p aG sY aj=some ((p,((List.range f.length).map (ofc f p),())),0):=by
 have QQ:=hf.len;intro q;induction q with
 |zero=>
  intro j aG sY aj hj hc;obtain rfl:j=f.length:=by omega
  rw[sH,oo,al (by omega),O7 rfl hc];rfl
 |succ q ih=>
  intro j aG sY aj hj hc;have hj':j<f.length:=by omega
  have h4:=(hf.ss _ (az (d:=iE) hj')).len;have e0:((0:Nat):Int)=0:=rfl;obtain⟨o,h0,h4',k1,k2⟩:=akY (t:=t) (t2:=t2) (out:=p) (v:=aj.length+1) hf hp hj' (by omega) hc (by simp) _ 0 (aj++[some (List.replicate j 0)]) (List.replicate j 0) (Nat.add_zero _) gY (by simp) (fun r hr=>by rw[Qz];rfl);rw[e0] at k2;rw[sH,oo,au (by omega),CD (by omega) (by omega) (by omega),LA hj',QH (by omega),bS,Int.toNat_natCast,k2];exact ih (j+1) o h0 h4' (by omega) (by rw[k1,List.range_succ,List.map_append];rfl)
theorem ahZ {f:List Ce}{p j t out:Int}{t2 o:Nat}:ja f p j t t2 out o=cW f p j t t2 out o [] []:=rfl
theorem apG {f:List Ce}(hf:Fi f){p:Int}(hp:Pr p):jx f p=some ((p,((List.range f.length).map (ofc f p),())),0):=by
 have hpr:gL p=some true:=by rw[aho,decide_eq_true hp]
 have:=akZ hf hp (t:=0) (t2:=0) f.length 0 0 [] [] (by omega) rfl;have e0:((0:Nat):Int)=0:=rfl;rw[e0] at this;rw[Hc,BE,hpr,bS,Bool.not_true,cF,ahX hf,bS,pd rfl,ahZ];exact this
theorem apH {p:Int}{aa:List Cl}{j:Nat}(h:Good p aa j)(hj:j≤1024):yo p aa j=0:=by
 have hb:=gX aa j;unfold yo;have h1:=h.dim;have h2:=h.at_;have h3:=h.bd;have h5:=h.amJ;rw[hb] at h3 h5;have h6:aca p (aa.getD j iF).2.2.1=0:=by rw[←hb];exact Lv.2 (h.low hj)
 have h7:JY p aa [] (aa.getD j iF).2.2.1=[]:=by rw[←hb];exact h.cyc
 rw[if_neg (fun g=>by
  rcases g with g |g |g
  ·omega
  ·omega
  ·rw[h2] at g;cases g),if_neg (fun g=>g h6),if_neg (fun g=>by
  obtain⟨t,ht,e⟩:=List.any_eq_true.1 g;have:=(h3.r t ht).1;simp only[decide_eq_true_eq] at e;omega),if_neg (fun g=>by
  obtain⟨t,ht,e⟩:=List.any_eq_true.1 g;rw[h5 t ht] at e;simp at e),if_neg (fun g=>g h7),if_neg (by rw[h.ord];simp)]
theorem aeq {p:Int}{aa:List Cl}(hp:Pr p)(hl:aa.length≤1024)(h:∀j,j<aa.length→Good p aa j):gr p aa=0:=by
 unfold gr;rw[if_pos hp,if_neg (by omega)];have key:∀(m j:Nat),m+j=aa.length→Th p aa j m=0:=by
  intro m;induction m with
  |zero=>intro j hj;rfl
  |succ m ih=>intro j hj;rw[Th,if_neg (by rw[apH (h j (by omega)) (by omega)];simp)];exact ih (j+1) (by omega)
 exact key aa.length 0 (by omega)
theorem HH {p:Int}(hp:2≤p)(k:Nat):T7 p k=if k % 2=0 then 1 else p - 1:=by
 unfold T7;have:(k:Int) % 2=((k % 2:Nat):Int):=by omega
 rw[this];by_cases h:k % 2=0
 ·rw[if_pos h,h,show (((0:Nat):Int))=0 from rfl,Int.zero_mul,Int.add_zero,Int.emod_eq_of_lt (by omega) (by omega)]
 ·rw[if_neg h,show k % 2=1 by omega,show (((1:Nat):Int))=1 from rfl,Int.one_mul,Int.emod_eq_of_lt (by omega) (by omega)];omega
def cb (p:Int)(s t:List Int):Int:=co p (cL s) t (cL s).length
def ak0 (p:Int)(fc:HL)(g:List Int→Int):Nat→Int
 |0=>0
 |k+1=>ak0 p fc g k+T7 p k*g (fc.getD k [])
theorem afI {p:Int}{fc:HL}{s:List Int}:∀{k:Nat},(∀i,i<k→s≠fc.getD i [])→co p fc s k=0
 |0,_=>rfl
 |k+1,h=>by rw[co,if_neg (h k (by omega)),afI fun i hi=>h i (by omega)]
theorem Wg {f:List Ce}(hf:Fi f){p:Int}{fc:HL}{g:List Int→Int}{n:Nat}(hn:n≤f.length):∀{k:Nat},k≤fc.length→(∀i,i<k→∃a,a<n∧(f.getD a iE).1=fc.getD i [])→(∀a b,a<k→b<k→a≠b→fc.getD a []≠fc.getD b [])→
  sm (fun i=>co p fc (f.getD i iE).1 k*g (f.getD i iE).1) n=ak0 p fc g k
 |0,_,_,_=>by rw[ak0];exact CM fun i hi=>by rw[co,Int.zero_mul]
 |k+1,hk,hx,hd=>by
  have ih:=Wg hf (p:=p) (fc:=fc) (g:=g) (n:=n) hn (k:=k) (by omega) (fun i hi=>hx i (by omega)) (fun a b ha hb=>hd a b (by omega) (by omega));obtain⟨a,ha,ea⟩:=hx k (by omega);rw[ak0, ←ih];have e1:T7 p k*g (fc.getD k [])=sm (fun i=>if i=a then T7 p k*g (fc.getD k []) else 0) n:=by rw[Ly (a:=a) ha fun i hi hne=>by rw[if_neg hne],if_pos rfl]
  rw[e1, ←BJ];refine bq fun i hi=> ?_;by_cases e:i=a
  ·subst e;have hz:co p fc (f.getD i iE).1 k=0:=afI fun b hb=>by rw[ea];exact hd k b (by omega) (by omega) (by omega)
   rw[if_pos rfl,co,if_pos ea,hz,ea];omega
  ·rw[if_neg e,co,if_neg (fun h=>hf.ne (by omega) (by omega) e (h.trans ea.symm))];omega
theorem am4 {p:Int}(hp:2≤p){s:List Int}(hs:SS s)(t:List Int):ak0 p (cL s) (fun u=>cb p u t) (cL s).length % p=0:=by
 have h4:=hs.len;have g0:T7 p 0=1:=by rw[HH hp];rfl
 have g1:T7 p 1=p - 1:=by rw[HH hp];rfl
 have g2:T7 p 2=1:=by rw[HH hp];rfl
 have g3:T7 p 3=p - 1:=by rw[HH hp];rfl
 match s,hs with
 | [],_=>rfl
 | [a],_=>rfl
 | [a,b],_=>have e1:cb p [b] t=0:=rfl;have e2:cb p [a] t=0:=rfl;show (0+T7 p 0*cb p [b] t+T7 p 1*cb p [a] t) % p=0;rw[e1,e2];simp
 | [a,b,c],hs=>
   have hne:a<b∧b<c:=by have:=hs.up;simp at this;omega
   have w:∀x y:Int,x≠y→cb p [x,y] t=(if t=[y] then 1 else 0)+(if t=[x] then (p - 1) else 0):=fun x y hxy=>by
    show (if t=[x] then T7 p 1 else if t=[y] then T7 p 0 else 0)=_;rw[g0,g1];by_cases h1:t=[x]
    ·have:t≠ [y]:=fun h=>hxy (by rw[h1] at h;simpa using h);rw[if_pos h1,if_neg this,if_pos h1];omega
    ·rw[if_neg h1,if_neg h1];omega
   show (0+T7 p 0*cb p [b,c] t+T7 p 1*cb p [a,c] t+T7 p 2*cb p [a,b] t) % p=0;rw[g0,g1,g2,w b c (by omega),w a c (by omega),w a b (by omega)];have key:∀xa xb xc ya yb:Int,ya=xa*(p - 1)→yb=xb*(p - 1)→(0+1*(xc+yb)+(p - 1)*(xc+ya)+1*(xb+ya)) % p=0:=fun xa xb xc ya yb h1 h2=>by
    have:0+1*(xc+yb)+(p - 1)*(xc+ya)+1*(xb+ya)=p*(xc+xb+xa*(p - 1)):=by rw[h1,h2];grind
    rw[this,Int.mul_emod_right]
   refine key (if t=[a] then 1 else 0) (if t=[b] then 1 else 0) _ _ _ ?_ ?_<;>split<;>omega
 | [a,b,c,d],hs=>
   have hne:a<b∧b<c∧c<d:=by have:=hs.up;simp at this;omega
   have w:∀x y z:Int,x<y→y<z→cb p [x,y,z] t=(if t=[y,z] then 1 else 0)+(if t=[x,z] then (p - 1) else 0)+(if t=[x,y] then 1 else 0):=fun x y z hxy hyz=>by
    show (if t=[x,y] then T7 p 2 else if t=[x,z] then T7 p 1 else if t=[y,z] then T7 p 0 else 0)=_;rw[g0,g1,g2];by_cases h1:t=[x,y]
    ·have n1:t≠ [x,z]:=fun h=>by rw[h1] at h;simp at h;omega
     have n2:t≠ [y,z]:=fun h=>by rw[h1] at h;simp at h;omega
     rw[if_pos h1,if_neg n1,if_neg n2,if_pos h1];omega
    ·rw[if_neg h1];by_cases h2:t=[x,z]
     ·have n2:t≠ [y,z]:=fun h=>by rw[h2] at h;simp at h;omega
      rw[if_pos h2,if_neg n2,if_pos h2,if_neg h1];omega
     ·rw[if_neg h2,if_neg h2,if_neg h1];omega
   show (0+T7 p 0*cb p [b,c,d] t+T7 p 1*cb p [a,c,d] t+T7 p 2*cb p [a,b,d] t+T7 p 3*cb p [a,b,c] t) % p=0;rw[g0,g1,g2,g3,w b c d (by omega) (by omega),w a c d (by omega) (by omega),w a b d (by omega) (by omega),w a b c (by omega) (by omega)];have key:∀cd bd bc ad ac ab bd' Q3 ac':Int,bd'=bd*(p - 1)→Q3=ad*(p - 1)→ac'=ac*(p - 1)→
     (0+1*(cd+bd'+bc)+(p - 1)*(cd+Q3+ac)+1*(bd+Q3+ab)+(p - 1)*(bc+ac'+ab)) % p=0:=fun cd bd bc ad ac ab bd' Q3 ac' h1 h2 h3=>by
    have:0+1*(cd+bd'+bc)+(p - 1)*(cd+Q3+ac)+1*(bd+Q3+ab)+(p - 1)*(bc+ac'+ab)=p*(cd+bd+bc+ad*(p - 1)+ac*(p - 1)+ab):=by rw[h1,h2,h3];grind
    rw[this,Int.mul_emod_right]
   refine key _ (if t=[b,d] then 1 else 0) _ (if t=[a,d] then 1 else 0) (if t=[a,c] then 1 else 0) _ _ _ _ ?_ ?_ ?_<;>split<;>omega
 |_::_::_::_::_::_,hs=>simp at h4
def ofL (f:List Ce)(p:Int):List Cl:=(List.range f.length).map (ofc f p)
theorem I3 (f:List Ce)(p:Int):(ofL f p).length=f.length:=by simp[ofL]
theorem QJ {f:List Ce}{p:Int}{j:Nat}(h:j<f.length):(ofL f p).getD j iF=ofc f p j:=by simp[ofL,List.getD,h]
theorem Wh {p:Int}(hp:2≤p){fc:HL}{s:List Int}:∀k,0≤co p fc s k∧co p fc s k<p
 |0=>⟨by rw[co];omega,by rw[co];omega⟩
 |k+1=>by
  rw[co];split
  ·rw[HH hp];split<;>omega
  ·exact Wh hp k
theorem ak1 {p:Int}{fc:HL}{s:List Int}:∀{k:Nat},co p fc s k≠0→∃i,i<k∧s=fc.getD i []
 |0,h=>absurd rfl h
 |k+1,h=>by
  rw[co] at h;split at h
  ·rename_i e;exact⟨k,by omega,e⟩
  ·obtain⟨i,h1,h2⟩:=ak1 h;exact⟨i,by omega,h2⟩
theorem Pc {s:List Int}{i:Nat}(h:i<(cL s).length):(cL s).getD i []=s.eraseIdx i∧i<s.length∧s.length>1:=by
 unfold cL at*
 split at h
 ·rename_i h1;have h2:i<s.length:=by simpa using h
  rw[if_pos h1];exact⟨by simp[List.getD,h2],h2,h1⟩
 ·simp at h
theorem aer {s:List Int}(hs:SS s){a b:Nat}(ha:a<(cL s).length)(hb:b<(cL s).length)(h:a≠b):(cL s).getD a []≠(cL s).getD b []:=by
 obtain⟨e1,a1,_⟩:=Pc ha;obtain⟨e2,b1,_⟩:=Pc hb;have lt:∀a b,a<b→b<s.length→s.eraseIdx a≠s.eraseIdx b:=fun a b hab hb e=>by have h1:(s.eraseIdx a)[a]? =s[a+1]? :=List.getElem?_eraseIdx_of_ge (Nat.le_refl a);have h2:(s.eraseIdx b)[a]? =s[a]? :=List.getElem?_eraseIdx_of_lt hab;rw[e,h2,List.getElem?_eq_getElem (by omega),List.getElem?_eq_getElem (by omega)] at h1;have:=List.pairwise_iff_getElem.1 hs.up a (a+1) (by omega) (by omega) (by omega);simp only[Option.some.injEq] at h1;omega
 rw[e1,e2];rcases Nat.lt_or_ge a b with g |g
 ·exact lt a b g b1
 ·exact Ne.symm (lt b a (by omega) a1)
theorem ak2 {f:List Ce}(hf:Fi f){p:Int}{i j:Nat}(hi:i<f.length)(hj:j<f.length):mx (ofL f p) i j=cb p (f.getD j iE).1 (f.getD i iE).1:=by
 have e:ck (ofL f p) (j:Int)=OZ 0 (vec f p j):=by rw[gX,QJ hj];rfl
 show cf (ck (ofL f p) (j:Int)) (i:Int)=_;rw[e,ZS,if_pos (Nat.zero_le _),Nat.sub_zero];by_cases h:i<j
 ·rw[QI h];rfl
 ·have h1:(vec f p j).getD i 0=0:=by simp[List.getD,List.getElem?_eq_none (show (vec f p j).length≤i by rw[zN];omega)]
  rw[h1];by_cases hz:cb p (f.getD j iE).1 (f.getD i iE).1=0
  ·exact hz.symm
  ·obtain⟨k,hk,ek⟩:=ak1 hz;have hm:(cL (f.getD j iE).1).getD k []∈cL (f.getD j iE).1:=az hk;obtain⟨m1,m2,m3⟩:=FV hm;obtain⟨a,ha,ea⟩:=hf.aej j hj _ m1 m2 m3;exact absurd (ek.trans ea.symm) (hf.ne hi (by omega) (by omega))
theorem am5 {f:List Ce}(hf:Fi f){p:Int}(hp:Pr p):gr p (ofL f p)=0:=by
 have hl:=hf.len;have hp2:=hp.1;have hbd:∀j,j<f.length→ck (ofL f p) (j:Int)=OZ 0 (vec f p j):=fun j hj=>by rw[gX,QJ hj];rfl
 have hvc:∀j,j<f.length→Vc p j (ck (ofL f p) (j:Int)):=fun j hj=>by
  rw[hbd j hj];refine V6 (by rw[zN];omega) fun k=> ?_;by_cases hk:k<j
  ·rw[QI hk];exact Wh hp2 _
  ·have h1:(vec f p j).getD k 0=0:=by simp[List.getD,List.getElem?_eq_none (show (vec f p j).length≤k by rw[zN];omega)]
   rw[h1];omega
 refine aeq hp (by rw[I3];omega) fun j hj=> ?_;rw[I3] at hj;have hmem:=az (d:=iE) hj;have hss:=hf.ss _ hmem;have h4:=hss.len;have h0:(f.getD j iE).1.length≠0:=fun e=>hss.ne (List.eq_nil_of_length_eq_zero e);have Z4:∀i,i<f.length→nV (ofL f p) i=(f.getD i iE).2.1:=fun i hi=>by unfold nV;rw[QJ hi];rfl
 have Z5:∀i,i<f.length→((ofL f p).getD i iF).1=((f.getD i iE).1.length:Int) - 1:=fun i hi=>by rw[QJ hi];rfl
 refine⟨by rw[Z5 j hj];omega,by rw[Z4 j hj];exact(hf.at_ _ hmem).1,hvc j hj,fun _=>(hvc j hj).mono (by omega),fun t ht=> ?_, ?_, ?_⟩
 ·have hr:=(hvc j hj).r t ht;have hr0:=Sr.mem (hvc j hj).s t ht;obtain⟨i,hi⟩:∃i:Nat,t.1=(i:Int):=⟨t.1.toNat,by omega⟩
  rw[hi,Int.toNat_natCast,Z5 j hj,Z5 i (by omega)];have hc:=Gz (hvc j hj).s t ht;rw[hi] at hc;have hm:=ak2 hf (p:=p) (i:=i) (j:=j) (by omega) hj;have hne:cb p (f.getD j iE).1 (f.getD i iE).1≠0:=by rw[←hm];show cf _ _≠0;rw[hc];omega
  obtain⟨k,hk,ek⟩:=ak1 hne;obtain⟨e1,e2,e3⟩:=Pc hk;rw[ek,e1,List.length_eraseIdx_of_lt e2];omega
 ·have hv:∀i,i<f.length→Vc p f.length (ck (ofL f p) (i:Int)):=fun i hi=>(hvc i hi).mono (by omega);rw[Mh (by omega) (n:=f.length) hv hj];intro r hr;have e1:sm (fun i=>mx (ofL f p) i j*mx (ofL f p) r i) f.length=sm (fun i=>co p (cL (f.getD j iE).1) (f.getD i iE).1 (cL (f.getD j iE).1).length*cb p (f.getD i iE).1 (f.getD r iE).1) f.length:=
   bq fun i hi=>by rw[ak2 hf hi hj,ak2 hf hr hi];rfl
  rw[e1,Wg hf (g:=fun u=>cb p u (f.getD r iE).1) (Nat.le_refl _) (Nat.le_refl _) (fun i hi=>by
   have hm:(cL (f.getD j iE).1).getD i []∈cL (f.getD j iE).1:=az hi;obtain⟨m1,m2,m3⟩:=FV hm;obtain⟨a,ha,ea⟩:=hf.aej j hj _ m1 m2 m3;exact⟨a,by omega,ea⟩) (fun a b ha hb hab=>aer hss ha hb hab)]
  exact am4 hp2 hss _
 ·unfold O0;by_cases hj0:0<j
  ·have hlt:T6 (f.getD (j - 1) iE) (f.getD j iE):=by have:=List.pairwise_iff_getElem.1 hf.up (j - 1) j (by omega) hj (by omega);simpa [List.getD,show j - 1<f.length by omega,hj] using this
   have hneg:=EC (f.getD (j - 1) iE).2.1 (f.getD j iE).2.1;have hle:vJ (f.getD (j - 1) iE).2.1 (f.getD j iE).2.1≤0:=by rcases hlt with h | ⟨h,_⟩<;>omega
   rw[Z4 j hj,Z4 (j - 1) (by omega)];have hge:¬vJ (f.getD j iE).2.1 (f.getD (j - 1) iE).2.1<0:=by omega
   have e2:decide (nX ((mq (f.getD j iE).2.1).1*(mq (f.getD (j - 1) iE).2.1).2) ((mq (f.getD (j - 1) iE).2.1).1*(mq (f.getD j iE).2.1).2)<0)=false:=decide_eq_false hge;rw[e2,Bool.and_false]
  ·rw[decide_eq_false hj0,Bool.false_and]
section
variable (M:Nat→Nat→Int)(i j:Nat)(k m v:Int)
def uC (c x:Nat):Int:=if c=j then k*M x j+m*M x i else M x c
def eR (u:Nat→Int)(x:Nat):Int:=if x=j then u j*v else if x=i then u i - u j*v*m else u x
def tE (x c:Nat):Int:=eR i j m v (uC M i j k m c) x
end
theorem apI {M:Nat→Nat→Int}{p:Int}{n i j:Nat}(hi:i<n)(hj:j<n)(hij:i≠j){k m v:Int}(hk:p ∣ (v*k - 1))(hM:∀c,c<n→∀r,r<n→p ∣ sm (fun x=>M x c*M r x) n){c r:Nat}(hc:c<n)(hr:r<n):
  p ∣ sm (fun x=>tE M i j k m v x c*tE M i j k m v r x) n:=by
 -- ayc of a changed column
 have hS:∀s,s<n→p ∣ sm (fun x=>uC M i j k m c x*M s x) n:=fun s hs=>by
  by_cases e:c=j
  ·have e1:sm (fun x=>uC M i j k m c x*M s x) n=k*sm (fun x=>M x j*M s x) n+m*sm (fun x=>M x i*M s x) n:=by rw[←uf, ←uf, ←BJ];refine bq fun x hx=> ?_;unfold uC;rw[if_pos e];grind
   rw[e1];exact Int.dvd_add (Int.dvd_mul_of_dvd_right (hM j hj s hs)) (Int.dvd_mul_of_dvd_right (hM i hi s hs))
  ·have e1:sm (fun x=>uC M i j k m c x*M s x) n=sm (fun x=>M x c*M s x) n:=bq fun x hx=>by unfold uC;rw[if_neg e]
   rw[e1];exact hM c hc s hs
 -- rows changed before QC
 have hG:p ∣ sm (fun x=>uC M i j k m c x*eR i j m v (fun y=>M y x) r) n:=by
  by_cases e:r=j
  ·have e1:sm (fun x=>uC M i j k m c x*eR i j m v (fun y=>M y x) r) n=v*sm (fun x=>uC M i j k m c x*M j x) n:=by rw[←uf];refine bq fun x hx=> ?_;unfold eR;rw[if_pos e];grind
   rw[e1];exact Int.dvd_mul_of_dvd_right (hS j hj)
  ·by_cases e2:r=i
   ·have e1:sm (fun x=>uC M i j k m c x*eR i j m v (fun y=>M y x) r) n=sm (fun x=>uC M i j k m c x*M i x) n+(-(v*m))*sm (fun x=>uC M i j k m c x*M j x) n:=by rw[←uf, ←BJ];refine bq fun x hx=> ?_;unfold eR;rw[if_neg e,if_pos e2];grind
    rw[e1];exact Int.dvd_add (hS i hi) (Int.dvd_mul_of_dvd_right (hS j hj))
   ·have e1:sm (fun x=>uC M i j k m c x*eR i j m v (fun y=>M y x) r) n=sm (fun x=>uC M i j k m c x*M r x) n:=bq fun x hx=>by unfold eR;rw[if_neg e,if_neg e2]
    rw[e1];exact hS r hr
 generalize hu:uC M i j k m c=u at*
 generalize hg:(fun x=>eR i j m v (fun y=>M y x) r)=G at*
 have hGe:∀x,eR i j m v (fun y=>M y x) r=G x:=fun x=>by rw[←hg]
 -- C7 rows of C7 changed auA
 have hF:∀x,tE M i j k m v r x=if x=j then k*G j+m*G i else G x:=fun x=>by
  by_cases e:x=j
  ·rw[if_pos e, ←hGe, ←hGe];unfold tE eR uC;rw[if_pos e];by_cases e2:r=j
   ·simp only[if_pos e2,if_pos e];grind
   ·by_cases e3:r=i
    ·simp only[if_neg e2,if_pos e3,if_pos e];grind
    ·simp only[if_neg e2,if_neg e3,if_pos e]
  ·rw[if_neg e, ←hGe];unfold tE eR uC;simp only[if_neg e]
 have key:sm (fun x=>tE M i j k m v x c*tE M i j k m v r x) n=sm (fun x=>u x*G x) n+u j*G j*(v*k - 1):=by
  have e1:u j*v*(k*G j+m*G i) - u j*G j=sm (fun x=>if x=j then u j*v*(k*G j+m*G i) - u j*G j else 0) n:=by rw[Ly (a:=j) hj fun x hx hne=>by rw[if_neg hne],if_pos rfl]
  have e2: -(u j*v*m)*G i=sm (fun x=>if x=i then -(u j*v*m)*G i else 0) n:=by rw[Ly (a:=i) hi fun x hx hne=>by rw[if_neg hne],if_pos rfl]
  have e3:sm (fun x=>u x*G x) n+u j*G j*(v*k - 1)=sm (fun x=>u x*G x) n+(u j*v*(k*G j+m*G i) - u j*G j)+ -(u j*v*m)*G i:=by grind
  rw[e3,e1,e2, ←BJ, ←BJ];refine bq fun x hx=> ?_;rw[hF];unfold tE eR;rw[hu];by_cases e:x=j
  ·subst e;simp only[if_pos,if_neg (Ne.symm hij)]
   grind
  ·by_cases f:x=i
   ·subst f;simp only[if_neg e,if_pos]
    grind
   ·simp only[if_neg e,if_neg f]
    grind
 rw[key];have hG2:p ∣ sm (fun x=>u x*G x) n:=by
  have e:sm (fun x=>u x*G x) n=sm (fun x=>u x*eR i j m v (fun y=>M y x) r) n:=bq fun x hx=>by rw[hGe]
  rw[e];exact hG
 exact Int.dvd_add hG2 (Int.dvd_mul_of_dvd_right hk)
theorem ak3 {p:Int}{x:List Tm}{n:Nat}(hn:n≤1000000)(hx:Vc p n x)(aj:List (Option (List Int))):∃o fT v,iY x n aj=some (o,fT)∧o≠0∧ag fT o=some v∧v.length=n∧∀a:Nat,v.getD a 0=cf x a:=by
 have hl:=hx.length (by omega);have hx':∀t∈x,0≤t.1∧t.1<n:=fun t ht=>⟨by have:=Sr.mem hx.s t ht;omega,(hx.r t ht).1⟩
 obtain⟨fT,h1,h2⟩:=acu (out:=aj.length+1) (by omega) hx' (by omega) x.length 0 (aj++[some (List.replicate n 0)]) (List.replicate n 0) (by omega) gY (by simp);have e0:((0:Nat):Int)=0:=rfl;rw[e0] at h1;rw[Gk,wk,CD (by omega) (by omega) (by omega),Int.toNat_natCast];simp only;refine⟨_,fT,_,h1,by omega,h2,by rw[OY,List.length_replicate],fun a=> ?_⟩;rw[List.drop_zero,VY hx.s (by omega) hx.c (fun t ht=>by rw[List.length_replicate];exact(hx' t ht).2),Qz];split<;>omega
theorem Ys {l:List Cl}{k j:Nat}{v:Cl}:(l.set k v).getD j iF=if k=j∧k<l.length then v else l.getD j iF:=by
 by_cases h:k=j
 ·subst h;by_cases h2:k<l.length<;>simp[List.getD,h2]
 ·simp[List.getD,h]
theorem ak4 {r:List Cl}{s s' a:Nat}{d:Int}{at0:ByteArray}{W:List Int}(hs:s<r.length):mx (r.set s (d,(at0,(OZ 0 W,())))) a s'=if s'=s then W.getD a 0 else mx r a s':=by
 show cf (ck _ (s':Int)) (a:Int)=_;rw[gX,Ys];by_cases e:s'=s
 ·subst e;rw[if_pos ⟨rfl,hs⟩,if_pos rfl];simp only;rw[ZS,if_pos (Nat.zero_le _),Nat.sub_zero]
 ·rw[if_neg (fun h=>e h.1.symm),if_neg e];show _=cf (ck r (s':Int)) (a:Int);rw[gX]
def tmx (p:Int)(aa:List Cl)(i j:Nat)(k m inv:Int)(a s:Nat):Int:=
 if s<j then mx aa a s else if s=j then (k*mx aa a j+m*mx aa a i) % p
 else if a=j then mx aa j s*inv % p else if a=i then (mx aa i s+(p - 1)*mx aa j s % p*inv % p*m) % p else mx aa a s
def QK (aa r:List Cl):Prop:=r.length=aa.length∧∀s,s<aa.length→(r.getD s iF).1=(aa.getD s iF).1∧(r.getD s iF).2.1=(aa.getD s iF).2.1
theorem QK.set {aa r:List Cl}(h:QK aa r){s:Nat}{b:List Tm}:QK aa (r.set s ((r.getD s iF).1,((r.getD s iF).2.1,(b,())))):=by
 refine⟨by rw[List.length_set];exact h.1,fun s' hs'=> ?_⟩;rw[Ys];by_cases e:s=s'
 ·subst e;rw[if_pos ⟨rfl,by rw[h.1];exact hs'⟩];exact h.2 s hs'
 ·rw[if_neg fun g=>e g.1];exact h.2 s' hs'
theorem ak5 {p:Int}(hp:Pr p){aa:List Cl}(hl:aa.length≤30)(hG:Gd p aa aa.length){i j:Nat}(hi:i<aa.length)(hj:j<aa.length)(hij:i≠j){k m inv:Int}(hm:0≤m∧m<p)(hv:0≤inv∧inv<p){t:Int}{t2 aG:Nat}:
  ∀(q s:Nat) (sY:List (Option (List Cl))) (aj:List (Option (List Int))) (r:List Cl),q+s=aa.length→j<s→ag sY aG=some r→QK aa r→Gd p r aa.length→(∀a s',s'<aa.length→mx r a s'=if s'<s then tmx p aa i j k m inv a s' else mx aa a s')→
   ∃r',gz i j m inv s p aa t t2 p aG sY aj=some (p,(r',()))∧QK aa r'∧Gd p r' aa.length∧∀a s',s'<aa.length→mx r' a s'=tmx p aa i j k m inv a s':=by
 have hp1:=hp.1;have hp2:=hp.2.1;intro q;induction q with
 |zero=>intro s sY aj r hs hjs hg hr hR hM;rw[yQ,sN,al (by omega),O7 rfl hg];exact⟨r,rfl,hr,hR,fun a s' hs'=>by rw[hM a s' hs',if_pos (by omega)]⟩
 |succ q ih=>
  intro s sY aj r hs hjs hg hr hR hM;have hrl:=hr.1;have hne:aG≠0:=ZX hg (fun e=>by rw[e] at hrl;simp at hrl;omega);have hcs:=hG _ (az (d:=iF) (show s<aa.length by omega));obtain⟨o,fT,w,h1,h2,h3,h4,h6⟩:=ak3 (by omega) hcs.2 aj;have h5:Rs p w:=fun a=>by rw[h6];exact Lu (by omega) hcs.2.c a
  have hw:∀a:Nat,w.getD a 0=mx aa a s:=fun a=>by rw[h6];show _=cf (ck aa (s:Int)) (a:Int);rw[gX]
  have wi:=h5 i;have wj:=h5 j;have n1:=ahG (a:=p - 1) (b:=w.getD j 0) (A:=250) (B:=250) (by omega) (by omega);have n2:=Int.emod_nonneg ((p - 1)*w.getD j 0) (show p≠0 by omega);have n3:=Int.emod_lt_of_pos ((p - 1)*w.getD j 0) (show 0<p by omega);have n4:=ahG (a:=(p - 1)*w.getD j 0 % p) (b:=inv) (A:=250) (B:=250) (by omega) (by omega);have n5:=Int.emod_nonneg ((p - 1)*w.getD j 0 % p*inv) (show p≠0 by omega);have n6:=Int.emod_lt_of_pos ((p - 1)*w.getD j 0 % p*inv) (show 0<p by omega);have n7:=ahG (a:=(p - 1)*w.getD j 0 % p*inv % p) (b:=m) (A:=250) (B:=250) (by omega) (by omega);have n8:=Int.emod_nonneg (w.getD i 0+(p - 1)*w.getD j 0 % p*inv % p*m) (show p≠0 by omega);have n9:=Int.emod_lt_of_pos (w.getD i 0+(p - 1)*w.getD j 0 % p*inv % p*m) (show 0<p by omega);have e1:IntKind.wrap .i64 (IntKind.wrap .i64 (p - 1)*w.getD j 0)=(p - 1)*w.getD j 0:=by rw[i64_in (p - 1) (by omega),i64_in _ (by omega)]
  have e2:IntKind.wrap .i64 ((IntKind.wrap .i64 (((p - 1)*w.getD j 0).tmod p*inv)).tmod p*m)=(p - 1)*w.getD j 0 % p*inv % p*m:=by rw[bD (a:=(p - 1)*w.getD j 0) (by omega),i64_in ((p - 1)*w.getD j 0 % p*inv) (by omega),bD (a:=(p - 1)*w.getD j 0 % p*inv) (by omega),i64_in _ (by omega)]
  rw[yQ,sN,au (by omega),Tj (by omega),h1,bS];simp only;rw[h3,bS,LF (by omega),bS,Yj (by omega),bS,bS,LF (by omega),bS,Yj (by omega),bS,e1,kg (by omega),kg (by omega),e2,kg (by omega),bS,LF (by omega),bS,Yj (by omega),bS,i64_in _ (by omega),bD (a:=w.getD i 0+_) (by omega),Int.toNat_natCast];have g1:=Go.Abs.fD (l':=w.set i ((w.getD i 0+(p - 1)*w.getD j 0 % p*inv % p*m) % p)) h3 h2;have r1:Rs p (w.set i ((w.getD i 0+(p - 1)*w.getD j 0 % p*inv % p*m) % p)):=h5.set ⟨n8,n9⟩ i;have l1:(w.set i ((w.getD i 0+(p - 1)*w.getD j 0 % p*inv % p*m) % p)).length=aa.length:=by rw[List.length_set];exact h4
  have gW:∀a:Nat,(w.set i ((w.getD i 0+(p - 1)*w.getD j 0 % p*inv % p*m) % p)).getD a 0=if a=i then (mx aa i s+(p - 1)*mx aa j s % p*inv % p*m) % p else mx aa a s:=fun a=>by
   rw[db,hw i,hw j,hw a];by_cases e:i=a
   ·subst e;rw[if_pos ⟨rfl,by omega⟩,if_pos rfl]
   ·rw[if_neg fun h=>e h.1,if_neg (Ne.symm e)]
  generalize w.set i ((w.getD i 0+(p - 1)*w.getD j 0 % p*inv % p*m) % p)=W at g1 r1 l1 gW ⊢;have wj2:=r1 j;have k1:=ahG (a:=W.getD j 0) (b:=inv) (A:=250) (B:=250) (by omega) (by omega);rw[g1,bS,LF (by omega),bS,Yj (by omega),bS,kg (by omega),bS,LF (by omega),bS,Yj (by omega),bS,i64_in (W.getD j 0*inv) (by omega),bD (a:=W.getD j 0*inv) (by omega),Int.toNat_natCast];have g2:=Go.Abs.fD (l':=W.set j (W.getD j 0*inv % p)) g1 h2;have r2:Rs p (W.set j (W.getD j 0*inv % p)):=r1.set ⟨Int.emod_nonneg _ (by omega),Int.emod_lt_of_pos _ (by omega)⟩ j;have l2:(W.set j (W.getD j 0*inv % p)).length=aa.length:=by rw[List.length_set];exact l1
  rw[LB g2 (by omega),bS,hg,bS,Tj (by omega),bS,anZ (by omega),bS,aU (by omega),Int.toNat_natCast];have hrs:=hR _ (az (d:=iF) (show s<r.length by omega));have hq:Gd p (r.set s ((r.getD s iF).1,((r.getD s iF).2.1,(OZ 0 (W.set j (W.getD j 0*inv % p)),())))) aa.length:=by refine hR.set ?_ _;exact⟨hrs.1,V6 (Nat.le_of_eq l2) r2⟩
  refine ih (s+1) _ _ _ (by omega) (by omega) (Go.Abs.fD hg hne) hr.set hq fun a s' hs'=> ?_;rw[ak4 (by omega)];by_cases e:s'=s
  ·subst e;rw[if_pos rfl,if_pos (by omega)];unfold tmx;rw[if_neg (by omega),if_neg (by omega),db,gW j,if_neg (Ne.symm hij),gW a];by_cases ea:a=j
   ·subst ea;rw[if_pos ⟨rfl,by omega⟩,if_pos rfl]
   ·rw[if_neg fun h=>ea h.1.symm,if_neg ea]
  ·rw[if_neg e,hM a s' hs'];by_cases e3:s'<s
   ·rw[if_pos e3,if_pos (by omega)]
   ·rw[if_neg e3,if_neg (by omega)]
theorem ak6 {p:Int}(hp:Pr p){aa:List Cl}(hl:aa.length≤30)(hG:Gd p aa aa.length){i j:Nat}(hi:i<aa.length)(hj:j<aa.length)(hij:i≠j){k m inv:Int}(hk:0≤k∧k<p)(hm:0≤m∧m<p)(hv:0≤inv∧inv<p){t:Int}{t2 aG v:Nat}(hv0:v≠0)
  {a b:List Int} (ha:a.length=aa.length) (hb:b.length=aa.length) (hra:Rs p a) (hrb:Rs p b) (rL:∀x,x<aa.length→a.getD x 0=mx aa x j) (hbv:∀x,x<aa.length→b.getD x 0=mx aa x i) {sY:List (Option (List Cl))} (hg:ag sY aG=some aa):
  ∀(q s:Nat) (aj:List (Option (List Int))) (w:List Int),q+s=aa.length→ag aj v=some w→w.length=aa.length→Rs p w→(∀x,x<s→w.getD x 0=(k*mx aa x j+m*mx aa x i) % p)→
   ∃r',gw i j k m inv v a b s p aa t t2 p aG sY aj=some (p,(r',()))∧QK aa r'∧Gd p r' aa.length∧∀a s',s'<aa.length→mx r' a s'=tmx p aa i j k m inv a s':=by
 have hp1:=hp.1;have hp2:=hp.2.1;intro q;induction q with
 |zero=>
  intro s aj w hs hw hwl hwr hwv;have hne:aG≠0:=ZX hg (fun e=>by rw[e] at hj;simp at hj);have hrs:=hG _ (az (d:=iF) hj);rw[yP,sK,hw,bS,al (by omega),LB hw (by omega),bS,hg,bS,Tj (by omega),bS,anZ (by omega),bS,aU (by omega),Int.toNat_natCast];have hs0:QK aa aa:=⟨rfl,fun s hs=>⟨rfl,rfl⟩⟩
  have hq:Gd p (aa.set j ((aa.getD j iF).1,((aa.getD j iF).2.1,(OZ 0 w,())))) aa.length:=by refine hG.set ?_ _;exact⟨hrs.1,V6 (by omega) hwr⟩
  refine ak5 hp hl hG hi hj hij hm hv (aa.length - (j+1)) (j+1) _ aj _ (by omega) (by omega) (Go.Abs.fD hg hne) hs0.set hq fun x s' hs'=> ?_;rw[ak4 hj];by_cases e:s'=j
  ·subst e;rw[if_pos rfl,if_pos (by omega)];unfold tmx;rw[if_neg (by omega),if_pos rfl];by_cases hx:x<aa.length
   ·exact hwv x (by omega)
   ·have z1:w.getD x 0=0:=by simp[List.getD,List.getElem?_eq_none (show w.length≤x by omega)]
    have z2:∀y,y<aa.length→mx aa x y=0:=fun y hy=>by
     have hvc:=(hG _ (az (d:=iF) hy)).2;show cf (ck aa (y:Int)) (x:Int)=0;rw[gX];by_cases hz:cf (aa.getD y iF).2.2.1 (x:Int)=0
     ·exact hz
     ·obtain⟨t,ht,e⟩:=Te hz;have:=(hvc.r t ht).1;omega
    rw[z1,z2 s' hj,z2 i hi];simp
  ·rw[if_neg e];by_cases e3:s'<j+1
   ·rw[if_pos e3];unfold tmx;rw[if_pos (by omega)]
   ·rw[if_neg e3]
 |succ q ih=>
  intro s aj w hs hw hwl hwr hwv;have as1:=hra s;have bs1:=hrb s;have n1:=ahG (a:=k) (b:=a.getD s 0) (A:=250) (B:=250) (by omega) (by omega);have n2:=ahG (a:=m) (b:=b.getD s 0) (A:=250) (B:=250) (by omega) (by omega);rw[yP,sK,hw,bS,au (by omega),LF (by omega),LF (by omega)];simp only;rw[i64_in (k*a.getD s 0) (by omega),i64_in (m*b.getD s 0) (by omega),i64_in (k*a.getD s 0+m*b.getD s 0) (by omega),kg (by omega),bS,LF (by omega),bS,Yj (by omega),bS,bD (by omega),aU (by omega),Int.toNat_natCast];refine ih (s+1) _ _ (by omega) (Go.Abs.fD hw hv0) (by rw[List.length_set];exact hwl) (hwr.set ⟨Int.emod_nonneg _ (by omega),Int.emod_lt_of_pos _ (by omega)⟩ _) fun x hx=> ?_;rw[db];by_cases e:s=x
  ·subst e;rw[if_pos ⟨rfl,by omega⟩,rL s (by omega),hbv s (by omega)]
  ·rw[if_neg fun h=>e h.1];exact hwv x (by omega)
theorem apJ {p:Int}(hp:Pr p){aa:List Cl}(hl:aa.length≤30)(hG:Gd p aa aa.length){i j:Nat}(hi:i<aa.length)(hj:j<aa.length)(hij:i≠j){k m:Int}(hk:1≤k∧k<p)(hm:0≤m∧m<p):
  ∃r',qw (p,(aa,())) i j k m=some (p,(r',()))∧QK aa r'∧Gd p r' aa.length∧∀a s',s'<aa.length→mx r' a s'=tmx p aa i j k m (iv p k) a s':=by
 have hp1:=hp.1;obtain⟨o,h0,g1,g2⟩:=acs (p:=p) hl (fun x hx=>by have:=(hG x hx).2.length (by omega);omega);obtain⟨a,e1,e2,e3⟩:=V1 (by omega) (hG _ (az (d:=iF) hj)).2;obtain⟨b,f1,f2,f3⟩:=V1 (by omega) (hG _ (az (d:=iF) hi)).2;have hiv:=Lx hp hk;rw[OE,Fv];simp only;rw[g1,bS,VW hp hk,bS,CD (by omega) (by omega) (by omega),Tj hj,e1,bS,Tj hi,f1,bS];have e0:((0:Nat):Int)=0:=rfl;have:=ak6 hp hl hG hi hj hij (k:=k) (m:=m) (inv:=iv p k) (t:=0) (t2:=0) (v:=([]:List (Option (List Int))).length+1) (by omega) hm (by omega) (by omega) e2.len f2.len (e3 (by omega)) (f3 (by omega)) (fun x hx=>by rw[e2.at_ x hx];show _=cf (ck aa (j:Int)) (x:Int);rw[gX]) (fun x hx=>by rw[f2.at_ x hx];show _=cf (ck aa (i:Int)) (x:Int);rw[gX]) g2 aa.length 0 ([]++[some (List.replicate aa.length 0)]) (List.replicate aa.length 0) (by omega) gY (by simp) (Rs.rep (by omega) _) (fun x hx=>by omega);rw[e0] at this;simp only[Int.toNat_natCast];exact this
theorem afJ {p:Int}(hp:0<p){aa:List Cl}{i j:Nat}(hij:i<j){k m v:Int}{n:Nat}(hZ:∀s,s<n→∀a,s≤a→mx aa a s=0)(hj:j<n){a s:Nat}(hs:s<n):tmx p aa i j k m v a s % p=tE (fun x y=>mx aa x y) i j k m v a s % p:=by
 unfold tmx tE eR uC;by_cases h1:s<j
 ·rw[if_pos h1];have hz:mx aa j s=0:=hZ s hs j (by omega);by_cases e:a=j
  ·subst e;simp only[if_neg (show ¬s=a by omega),if_pos,hz,Int.zero_mul]
  ·by_cases f:a=i
   ·subst f;simp only[if_neg e,if_neg (show ¬s=j by omega),if_pos,hz,Int.zero_mul,Int.sub_zero]
   ·simp only[if_neg e,if_neg f,if_neg (show ¬s=j by omega)]
 ·rw[if_neg h1];by_cases h2:s=j
  ·subst h2;have z1:mx aa s s=0:=hZ s hs s (Nat.le_refl _);have z2:mx aa s i=0:=hZ i (by omega) s (by omega);rw[if_pos rfl,Int.emod_emod_of_dvd _ (Int.dvd_refl p)];by_cases e:a=s
   ·subst e;simp only[if_pos,z1,z2,Int.mul_zero,Int.add_zero,Int.zero_mul]
   ·by_cases f:a=i
    ·subst f;simp only[if_neg e,if_pos,z1,z2,Int.mul_zero,Int.add_zero,Int.zero_mul,Int.sub_zero]
    ·simp only[if_neg e,if_neg f,if_pos]
  ·rw[if_neg h2];by_cases e:a=j
   ·subst e;simp only[if_neg h2,if_pos,Int.emod_emod_of_dvd _ (Int.dvd_refl p)]
   ·by_cases f:a=i
    ·subst f;simp only[if_neg e,if_neg h2,if_pos,Int.emod_emod_of_dvd _ (Int.dvd_refl p)];generalize mx aa a s=y;generalize mx aa j s=x;have q1:(p - 1)*x % p=(p - 1)*x - p*((p - 1)*x / p):=Int.emod_def _ _;have q2:(p - 1)*x % p*v % p=(p - 1)*x % p*v - p*((p - 1)*x % p*v / p):=Int.emod_def _ _;generalize (p - 1)*x % p*v / p=z2 at q2;generalize (p - 1)*x / p=z1 at q1;have q3:y+(p - 1)*x % p*v % p*m=(y - x*v*m)+p*(x*v*m - z1*v*m - z2*m):=by rw[q2,q1];grind
     rw[q3,Int.add_mul_emod_self_left]
    ·simp only[if_neg e,if_neg f,if_neg h2]
theorem ak7 {p:Int}{aa r':List Cl}(h0:gr p aa=0){i j:Nat}(hij:i<j)(hj:j<aa.length)(hd:(aa.getD i iF).1=(aa.getD j iF).1){k m:Int}(hk:1≤k∧k<p)(hm:0≤m∧m<p)(hS:QK aa r')(hG:Gd p r' aa.length)(hM:∀a s',s'<aa.length→mx r' a s'=tmx p aa i j k m (iv p k) a s'):gr p r'=0:=by
 obtain⟨hp,hl,hg⟩:=pe h0;have hp1:=hp.1;obtain⟨hSl,hSd⟩:=hS;have hne:∀a s,s<aa.length→mx aa a s≠0→a<s∧(aa.getD a iF).1=(aa.getD s iF).1 - 1:=fun a s hs hz=>by have hgs:=hg s hs;obtain⟨t,ht,e⟩:=Te hz;have h1:=(hgs.bd.r t ht).1;have h2:=hgs.amJ t ht;rw[e,Int.toNat_natCast] at h2;exact⟨by omega,h2⟩
 have hZ:∀s,s<aa.length→∀a,s≤a→mx aa a s=0:=fun s hs a ha=>by
  by_cases hz:mx aa a s=0
  ·exact hz
  ·have:=(hne a s hs hz).1;omega
 have tz:∀a s,s<aa.length→tmx p aa i j k m (iv p k) a s≠0→a<s∧(aa.getD a iF).1=(aa.getD s iF).1 - 1:=fun a s hs ht=>by
  unfold tmx at ht;split at ht
  ·exact hne a s hs ht
  ·split at ht
   ·rename_i h1 h2;subst h2;by_cases y1:mx aa a s=0
    ·by_cases y2:mx aa a i=0
     ·rw[y1,y2] at ht;simp at ht
     ·have:=hne a i (by omega) y2;exact⟨by omega,by rw[←hd];exact this.2⟩
    ·exact hne a s hs y1
   ·split at ht
    ·rename_i h1 h2 h3;subst h3;by_cases y1:mx aa a s=0
     ·rw[y1] at ht;simp at ht
     ·exact hne a s hs y1
    ·split at ht
     ·rename_i h1 h2 h3 h4;subst h4;by_cases y1:mx aa a s=0
      ·by_cases y2:mx aa j s=0
       ·rw[y1,y2] at ht;simp at ht
       ·have:=hne j s hs y2;exact⟨by omega,by rw[hd];exact this.2⟩
      ·exact hne a s hs y1
     ·exact hne a s hs ht
 have Zw:∀s,s<aa.length→Vc p aa.length (ck r' (s:Int)):=fun s hs=>by rw[gX];exact(hG _ (az (by omega))).2
 have hvs:∀s,s<aa.length→Vc p s (ck r' (s:Int))∧∀t∈ck r' (s:Int),(aa.getD t.1.toNat iF).1=(aa.getD s iF).1 - 1:=fun s hs=>by
  have hv:=Zw s hs;have key:∀t∈ck r' (s:Int),t.1.toNat<s∧(aa.getD t.1.toNat iF).1=(aa.getD s iF).1 - 1:=fun t ht=>by
   have h1:=Sr.mem hv.s t ht;have h2:=(hv.r t ht).2;have h3:=Gz hv.s t ht;have e:t.1=((t.1.toNat:Nat):Int):=by omega
   refine tz _ s hs ?_;rw[←hM _ s hs];show cf (ck r' (s:Int)) ((t.1.toNat:Nat):Int)≠0;rw[←e,h3];omega
  exact⟨⟨hv.s,fun t ht=>⟨by have:=(key t ht).1;have:=Sr.mem hv.s t ht;omega,(hv.r t ht).2⟩⟩,fun t ht=>(key t ht).2⟩
 have Z4:∀s,s<aa.length→nV r' s=nV aa s:=fun s hs=>(hSd s hs).2;refine aeq hp (by omega) fun s hs=> ?_;rw[hSl] at hs;have hgs:=hg s hs;obtain⟨v1,v2⟩:=hvs s hs;refine⟨by rw[(hSd s hs).1];exact hgs.dim,by rw[Z4 s hs];exact hgs.at_,v1,fun _=>v1.mono (by omega),fun t ht=> ?_, ?_, ?_⟩
 ·have h1:=Sr.mem v1.s t ht;have h2:=(v1.r t ht).1;rw[(hSd s hs).1,(hSd t.1.toNat (by omega)).1];exact v2 t ht
 ·rw[Mh (by omega) Zw hs];intro r hr;have e1:sm (fun x=>mx r' x s*mx r' r x) aa.length % p=sm (fun x=>tE (fun x y=>mx aa x y) i j k m (iv p k) x s*tE (fun x y=>mx aa x y) i j k m (iv p k) r x) aa.length % p:=
   aky fun x hx=>by rw[hM x s hs,hM r x hx,Int.mul_emod,afJ (by omega) hij hZ hj hs,afJ (by omega) hij hZ hj hx, ←Int.mul_emod]
  rw[e1];refine Int.emod_eq_zero_of_dvd (apI (by omega) hj (by omega) ?_ (fun c hc r hr=> ?_) hs hr)
  ·have h1:=OX hp hk;refine Int.dvd_of_emod_eq_zero ?_;rw[Int.mul_comm (iv p k) k,Int.sub_emod,h1];have:(1:Int) % p=1:=Int.emod_eq_of_lt (by omega) (by omega);rw[this];simp
  ·exact Int.dvd_of_emod_eq_zero ((Mh (by omega) (fun y hy=>(hg y hy).bd.mono (by omega)) hc).1 (hg c hc).cyc r hr)
 ·have h1:=hgs.ord;unfold O0 at h1 ⊢;by_cases hs0:0<s
  ·rw[Z4 s hs,Z4 (s - 1) (by omega)];exact h1
  ·rw[decide_eq_false hs0,Bool.false_and]
def Go2 (p:Int)(aa:List Cl)(most:Nat):Prop:=aa.length≤most∧Gd p aa aa.length∧gr p aa=0
theorem acG {p:Int}(hp:Pr p){aa:List Cl}(hl:aa.length≤30)(hG:Gd p aa aa.length)(h0:gr p aa=0){n:Nat}{x:List (List Int)}{x2 x4:List Int}{x3 t:Int}{t2 most:Nat}(hn:n+2<x4.length)(hn2:n<24){j:Nat}(hj:j<aa.length){k:Int}(hk:1≤k∧k<p)
  (nxt:∀Yt:List Cl,Yt.length=aa.length→Gd p Yt aa.length→gr p Yt=0→∃r,eB ((n+3:Nat):Int) x x2 x3 x4 t t2 p Yt=some r∧Go2 r.1 r.2.1 most):
  ∀(q:Nat),q≤j→∃r,fF n j k ((q:Int) - 1) x x2 x3 x4 t t2 p aa=some r∧Go2 r.1 r.2.1 most:=by
 have hp1:=hp.1;have hp2:=hp.2.1;have e2:IntKind.wrap .i64 ((n:Int)+2)=((n+2:Nat):Int):=by rw[i64_in _ (by omega)];omega
 have e3:IntKind.wrap .i64 ((n:Int)+3)=((n+3:Nat):Int):=by rw[i64_in _ (by omega)];omega
 intro q;induction q with
 |zero=>
  intro hq;have c1:(((0:Nat):Int) - 1≥0)=False:=by simp
  rw[xQ,rm,e3];simp only[c1,decide_false];rw[cF,cF];exact nxt aa rfl hG h0
 |succ q ih=>
  intro hq;have e1:(((q+1:Nat):Int) - 1)=(q:Int):=by omega
  have c1:((q:Int)≥0)=True:=by simp
  rw[xQ,rm,e1,e2,e3];simp only[c1,decide_true];rw[cT,Tj (by omega),Tj (by omega),i64_in ((q:Int) - 1) (by omega)];cases hdd:((aa.getD q iF).1 != (aa.getD j iF).1) with
  |true=>rw[cT];exact ih (by omega)
  |false=>
   have Z5:(aa.getD q iF).1=(aa.getD j iF).1:=by simpa using hdd
   rw[cF,cT,LF (by omega),kg (by omega),kg (by omega)];have hmm:=vt1 (x:=x4.getD (n+2) 0) (c:=p) (by omega);obtain⟨r,h1,h2,h3,h4⟩:=apJ hp hl hG (i:=q) (by omega) hj (by omega) hk hmm;rw[h1,bS];exact nxt r h2.1 h3 (ak7 h0 (by omega) hj Z5 hk hmm h2 h3 h4)
theorem acH {p:Int}(hp:Pr p){x:List (List Int)}{x2 x4:List Int}{x3 t:Int}{t2 most:Nat}(hmo:most≤30)(hx4:x4.length≤1000000000000000000):∀(q n:Nat) (aa:List Cl),24≤q+n→aa.length≤most→Gd p aa aa.length→gr p aa=0→∃r,eB n x x2 x3 x4 t t2 p aa=some r∧Go2 r.1 r.2.1 most:=by
 have hp1:=hp.1;have hp2:=hp.2.1;intro q;induction q with
 |zero=>
  intro n aa hq hl hG h0;have hgo:Go2 p aa most:=⟨hl,hG,h0⟩
  rw[xP,rk];rw[al (a:=(n:Int)) (b:=24) (by omega)];cases decide (IntKind.wrap .i64 ((n:Int)+2)<(x4.length:Int)) with
  |true=>exact⟨_,rfl,hgo⟩
  |false=>exact⟨_,rfl,hgo⟩
 |succ q ih=>
  intro n aa hq hl hG h0;have hgo:Go2 p aa most:=⟨hl,hG,h0⟩
  rw[xP,rk];by_cases h24:(n:Int)<24
  ·have e1:IntKind.wrap .i64 ((n:Int)+1)=((n+1:Nat):Int):=by rw[i64_in _ (by omega)];omega
   have e2:IntKind.wrap .i64 ((n:Int)+2)=((n+2:Nat):Int):=by rw[i64_in _ (by omega)];omega
   rw[e1,e2,au h24];by_cases hn:((n+2:Nat):Int)<x4.length
   ·rw[au hn];by_cases hc:(aa.length:Int)>0
    ·have ep:IntKind.wrap .i64 (p - 1)=p - 1:=i64_in _ (by omega);obtain⟨j1,j2⟩:=vt1 (x:=x4.getD n 0) (c:=(aa.length:Int)) (by omega);obtain⟨j,hj⟩:=Int.eq_ofNat_of_zero_le j1;have k0:=Int.tmod_lt_of_pos (x4.getD (n+1) 0) (show 0<p - 1 by omega);have k1:=Int.lt_tmod_of_pos (x4.getD (n+1) 0) (show 0<p - 1 by omega);have k2:IntKind.wrap .i64 (IntKind.wrap .i64 ((x4.getD (n+1) 0).tmod (p - 1)+p) - 1)=(x4.getD (n+1) 0).tmod (p - 1)+p - 1:=by rw[i64_in ((x4.getD (n+1) 0).tmod (p - 1)+p) (by omega),i64_in _ (by omega)]
     have k3:((x4.getD (n+1) 0).tmod (p - 1)+p - 1).tmod (p - 1)=((x4.getD (n+1) 0).tmod (p - 1)+p - 1) % (p - 1):=bD (by omega);have k4:=Int.emod_nonneg ((x4.getD (n+1) 0).tmod (p - 1)+p - 1) (show p - 1≠0 by omega);have k5:=Int.emod_lt_of_pos ((x4.getD (n+1) 0).tmod (p - 1)+p - 1) (show 0<p - 1 by omega);rw[da hc,LF (by omega),kg (by omega),kg (by omega),LF (by omega),ep,kg (by omega),kg (by omega)];simp only;rw[k2,k3,hj,i64_in (1+_) (by omega),i64_in ((j:Int) - 1) (by omega)];exact acG hp (by omega) hG h0 (by omega) (by omega) (show j<aa.length by omega) (by omega) (fun Yt g1 g2 g3=>ih (n+3) Yt (by omega) (by omega) (by rw[g1];exact g2) g3) j (by omega)
    ·rw[dA hc];exact⟨_,rfl,hgo⟩
   ·rw[al hn];exact⟨_,rfl,hgo⟩
  ·rw[al h24];cases decide (IntKind.wrap .i64 ((n:Int)+2)<(x4.length:Int)) with
   |true=>exact⟨_,rfl,hgo⟩
   |false=>exact⟨_,rfl,hgo⟩
theorem ah0 {l:HL}(hl:l.length≤1000000000000000000)(hs:∀s∈l,s.length≤1000000000000000000){values turns:List Int}(hv:values.length≤1000000000000000000)(ht:turns.length≤1000000000000000000)(field:Int){most:Nat}(hmo:most≤30):
  ∃r,oD (l,(values,(field,(turns,())))) most=some r∧Go2 r.1 r.2.1 most:=by
 rw[MG,DY];simp only;have ako:∃n:Nat,(bif decide ((40:Int)<(l.length:Int)) then (40:Int) else (l.length:Int))=n∧n≤40∧n≤l.length:=by
  by_cases h:(40:Int)<l.length
  ·rw[au h];exact⟨40,rfl,by omega,by omega⟩
  ·rw[al h];exact⟨l.length,rfl,by omega,by omega⟩
 obtain⟨n,e1,e2,e3⟩:=ako;rw[e1,Gy (by omega) (by omega) (by omega)];have Uy:(cut l 0 (n:Int)).length≤40:=by simp[cut];omega
 have hcm:∀s∈cut l 0 (n:Int),s∈l:=fun s h=>by simp only[cut] at h;exact List.mem_of_mem_take (List.mem_of_mem_drop h)
 obtain⟨f,h1,h2⟩:=ahU (l:=cut l 0 (n:Int)) (by omega) (fun s h=>hs s (hcm s h)) hv;have hf:=h2.len;rw[h1,bS];have ako:∃n:Nat,(bif decide ((most:Int)<(f.length:Int)) then (most:Int) else (f.length:Int))=n∧n≤most∧n≤f.length:=by
  by_cases h:(most:Int)<f.length
  ·rw[au h];exact⟨most,rfl,by omega,by omega⟩
  ·rw[al h];exact⟨f.length,rfl,by omega,by omega⟩
 obtain⟨k,g1,g2,g3⟩:=ako;obtain⟨p,p1,p2⟩:=akG field;rw[g1,Gy (by omega) (by omega) (by omega),p1,bS];have hct:cut f 0 (k:Int)=f.take k:=by simp[cut]
 have hfi:=h2.take k;have QQ:(f.take k).length≤most:=by simp;omega
 have hlen:(ofL (f.take k) p).length≤most:=by rw[I3];exact QQ
 rw[hct,apG hfi p2,bS];have e0:((0:Nat):Int)=0:=rfl;have:=acH (x:=l) (x2:=values) (x3:=field) (x4:=turns) (t:=0) (t2:=0) p2 hmo ht 24 0 (ofL (f.take k) p) (by omega) hlen (fun y hy=>by
  obtain⟨j,hj,rfl⟩:=List.mem_map.1 hy;have hj':j<(f.take k).length:=by simpa using hj
  refine⟨hfi.at_ _ (az (d:=iE) hj'), ?_⟩;rw[I3];have hp2:=p2.1;refine V6 (by rw[zN];omega) fun x=> ?_;by_cases hx:x<j
  ·rw[QI hx];exact Wh hp2 _
  ·have h1:(vec (f.take k) p j).getD x 0=0:=by simp[List.getD,List.getElem?_eq_none (show (vec (f.take k) p j).length≤x by rw[zN];omega)]
   rw[h1];omega) (am5 hfi p2)
 rw[e0] at this;exact this
theorem Go2.go1 {p:Int}{aa:List Cl}{most:Nat}(h:Go2 p aa most)(hm:most≤30):Go1 p aa:=⟨Nat.le_trans h.1 hm, .inr (pe h.2.2).1,h.2.1⟩
theorem Go2.sz {p:Int}{aa:List Cl}{most:Nat}(h:Go2 p aa most)(hm:most≤30):Sz aa:=(h.go1 hm).sz
def am7 (aa:List Cl):Prop:=∀j,j<aa.length→(nV aa j).size≤20
theorem R8 (aa:List Cl):(ju aa).length=aa.length:=by simp[ju]
theorem I4 {aa:List Cl}{j:Nat}(h:j<aa.length):(ju aa).getD j iF=((dsf aa aa.length j).1,((dsf aa aa.length j).2,(Dv aa aa.length aa.length j,()))):=by simp[ju,List.getD,h]
theorem ak8 {aa:List Cl}{n m j r:Nat}(h:r<m):(dvv aa n m j).getD r 0=cf (ck aa ((n - 1 - r:Nat):Int)) ((n - 1 - j:Nat):Int):=by unfold dvv;simp[List.getD,h]
theorem Mk {aa:List Cl}{i j:Nat}(hi:i<aa.length)(hj:j<aa.length):mx (ju aa) i j=mx aa (aa.length - 1 - j) (aa.length - 1 - i):=by
 have e:ck (ju aa) (j:Int)=OZ 0 (dvv aa aa.length aa.length j):=by rw[gX,I4 hj];rfl
 show cf (ck (ju aa) (j:Int)) (i:Int)=_;rw[e,ZS,if_pos (Nat.zero_le _),Nat.sub_zero,ak8 hi]
theorem Wi {p:Int}{aa:List Cl}(h0:gr p aa=0){j:Nat}(hj:j<aa.length):Vc p aa.length (ck (ju aa) (j:Int)):=by
 obtain⟨hp,hl,hg⟩:=pe h0;have hp1:=hp.1;have e:ck (ju aa) (j:Int)=OZ 0 (dvv aa aa.length aa.length j):=by rw[gX,I4 hj];rfl
 rw[e];refine V6 (by simp[dvv]) fun k=> ?_;by_cases hk:k<aa.length
 ·rw[ak8 hk];exact Lu (by omega) (hg (aa.length - 1 - k) (by omega)).bd.c _
 ·have:(dvv aa aa.length aa.length j).getD k 0=0:=by simp[List.getD,dvv,hk]
  rw[this];omega
theorem afK {p:Int}{aa:List Cl}(h0:gr p aa=0){a s:Nat}(hs:s<aa.length)(hz:mx aa a s≠0):a<s∧(aa.getD a iF).1=(aa.getD s iF).1 - 1:=by obtain⟨hp,hl,hg⟩:=pe h0;have hgs:=hg s hs;obtain⟨t,ht,e⟩:=Te hz;have h1:=(hgs.bd.r t ht).1;have h2:=hgs.amJ t ht;rw[e,Int.toNat_natCast] at h2;exact⟨by omega,h2⟩
theorem acI {p:Int}{aa:List Cl}(h0:gr p aa=0)(h20:am7 aa):gr p (ju aa)=0:=by
 obtain⟨hp,hl,hg⟩:=pe h0;have hp1:=hp.1;obtain⟨n,hn⟩:∃n,aa.length=n:=⟨_,rfl⟩
 have hdl:=R8 aa;have Z5:∀j,j<n→((ju aa).getD j iF).1=4 - (aa.getD (n - 1 - j) iF).1:=fun j hj=>by rw[I4 (by omega)];unfold dsf;rw[hn]
 have Z4:∀j,j<n→nV (ju aa) j=akH (nV aa (n - 1 - j)):=fun j hj=>by unfold nV;rw[I4 (by omega)];unfold dsf;rw[hn];rfl
 have hR:∀j,j<n→∃x d,Rt (nV aa j) x d∧0<d:=fun j hj=>by obtain⟨x,d,h⟩:=tk.1 (hg j (by omega)).at_;exact⟨x,d,h,(h.bounds (by have:=h20 j (by omega);omega)).2.2⟩
 have key:∀j,j<n→∀t∈ck (ju aa) (j:Int),∃i:Nat,t.1=(i:Int)∧i<n∧mx (ju aa) i j≠0:=fun j hj t ht=>by
  have hv:=Wi h0 (show j<aa.length by omega);have h1:=Sr.mem hv.s t ht;have h2:=hv.r t ht;have h3:=Gz hv.s t ht;have e:t.1=((t.1.toNat:Nat):Int):=by omega
  refine⟨t.1.toNat,e,by omega, ?_⟩;show cf (ck (ju aa) (j:Int)) ((t.1.toNat:Nat):Int)≠0;rw[←e,h3];omega
 have hvj:∀j,j<n→Vc p j (ck (ju aa) (j:Int)):=fun j hj=>by have hv:=Wi h0 (show j<aa.length by omega);refine⟨hv.s,fun t ht=>⟨?_,(hv.r t ht).2⟩⟩;obtain⟨i,e,hi,hz⟩:=key j hj t ht;rw[Mk (by omega) (by omega),hn] at hz;have:=(afK h0 (by omega) hz).1;omega
 refine aeq hp (by omega) fun j hj=> ?_;rw[hdl,hn] at hj;have hgj:=hg (n - 1 - j) (by omega);refine⟨?_, ?_,hvj j hj,fun _=>(hvj j hj).mono (by omega),fun t ht=> ?_, ?_, ?_⟩
 ·rw[Z5 j hj];have:=hgj.dim;omega
 ·obtain⟨x,d,h,_⟩:=hR (n - 1 - j) (by omega);rw[Z4 j hj];exact tk.2 ⟨_,_,h.opp⟩
 ·obtain⟨i,e,hi,hz⟩:=key j hj t ht;rw[Mk (by omega) (by omega),hn] at hz;have:=(afK h0 (by omega) hz).2;rw[e,Int.toNat_natCast,Z5 i hi,Z5 j hj];omega
 ·rw[Mh (n:=n) (by omega) (fun y hy=>by have:=Wi h0 (show y<aa.length by omega);rw[hn] at this;exact this) hj];intro r hr;have e1:sm (fun i=>mx (ju aa) i j*mx (ju aa) r i) n=sm (fun i=>(fun x=>mx aa x (n - 1 - r)*mx aa (n - 1 - j) x) (n - 1 - i)) n:=bq fun i hi=>by rw[Mk (by omega) (by omega),Mk (by omega) (by omega),hn,Int.mul_comm]
  rw[e1,aed (fun x=>mx aa x (n - 1 - r)*mx aa (n - 1 - j) x) n];exact(Mh (by omega) (fun y hy=>(hg y (by omega)).bd.mono (by omega)) (show n - 1 - r<n by omega)).1 (hg (n - 1 - r) (by omega)).cyc (n - 1 - j) (by omega)
 ·unfold O0;by_cases hj0:0<j
  ·obtain⟨x,d,h1,d1⟩:=hR (n - 1 - j) (by omega);obtain⟨y,e,h2,d2⟩:=hR (n - 1 - (j - 1)) (by omega);have ho:=(hg (n - 1 - (j - 1)) (by omega)).ord;unfold O0 at ho;rw[show n - 1 - (j - 1) - 1=n - 1 - j by omega,decide_eq_true (show 0<n - 1 - (j - 1) by omega),Bool.true_and,h1.val,h2.val] at ho;simp only[decide_eq_false_iff_not] at ho;rw[Z4 j hj,Z4 (j - 1) (by omega),h1.opp.val,h2.opp.val];have e3:decide (nX (-x*e) (-y*d)<0)=false:=by refine decide_eq_false fun g=>ho ?_;rw[akU] at g ⊢;rw[Int.neg_mul,Int.neg_mul] at g;omega
   simp only[e3,Bool.and_false]
  ·rw[decide_eq_false hj0,Bool.false_and]
def Cmb (p:Int)(aa:List Cl)(n k:Nat)(x:List Tm):Prop:=Vc p k x∧∃v:Nat→Int,v k=1∧(∀l,k<l→v l=0)∧∀r:Nat,r<n→p ∣ cf x (r:Int) - sm (fun l=>v l*mx aa r l) n
theorem Cmb.self {p:Int}{aa:List Cl}{n k:Nat}(hk:k<n)(h:Vc p k (ck aa k)):Cmb p aa n k (ck aa k):=by
 refine⟨h,fun l=>if l=k then 1 else 0,if_pos rfl,fun l hl=>if_neg (by omega),fun r hr=> ?_⟩;have:sm (fun l=>(if l=k then 1 else 0)*mx aa r l) n=cf (ck aa k) (r:Int):=by rw[Ly (a:=k) hk fun i hi hne=>by rw[if_neg hne,Int.zero_mul],if_pos rfl,Int.one_mul]
 rw[this,Int.sub_self];exact Int.dvd_zero p
theorem Cmb.plus {p:Int}(hp:0<p){aa:List Cl}{n k m:Nat}{x y:List Tm}(c:Int)(hx:Cmb p aa n k x)(hy:Cmb p aa n m y)(hk:m<k):Cmb p aa n k (tv p x c y):=by
 obtain⟨x1,vx,x2,x3,x4⟩:=hx;obtain⟨y1,vy,y2,y3,y4⟩:=hy;obtain⟨h1,h2⟩:=FU (k:=c) hp x1 (y1.mono (m:=(k:Int)) (by omega));refine⟨h1,fun l=>vx l+c*vy l, ?_,fun l hl=> ?_,fun r hr=> ?_⟩
 ·simp only;rw[x2,y3 k hk];simp
 ·simp only;rw[x3 l hl,y3 l (by omega)];simp
 ·rw[h2];have e:sm (fun l=>(vx l+c*vy l)*mx aa r l) n=sm (fun l=>vx l*mx aa r l) n+c*sm (fun l=>vy l*mx aa r l) n:=by rw[←uf, ←BJ];exact bq fun l hl=>by grind
  rw[e];obtain⟨a,ha⟩:=x4 r hr;obtain⟨b,hb⟩:=y4 r hr;rw[Int.emod_def];generalize (cf x (r:Int)+c*cf y (r:Int)) / p=q;exact⟨a+c*b - q,by grind⟩
theorem Yu {p:Int}(hp:Pr p){aa:List Cl}{n k:Nat}{st:List (Option (List Tm))}(hst:Sto p n st)(hk:k≤n)(hc:∀i y,st.getD i none=some y→∃m,m<k∧Cmb p aa n m y):
  ∀(f:Nat) (x:List Tm) (a:Int),Cmb p aa n k x→(∀t∈x,t.1<f)→Cmb p aa n k (kS p st f x a).1∧∀t,(kS p st f x a).1.getLast?=some t→st.getD t.1.toNat none=none
 |0,x,a,hx,hf=>by
  have:x=[]:=by
   cases x with
   |nil=>rfl
   |cons t r=>have h1:=hf t (by simp);have h2:=Sr.mem hx.1.s t (by simp);omega
  subst this;exact⟨hx,fun t ht=>by cases ht⟩
 |f+1,x,a,hx,hf=>by
  rw[kS];cases hl:x.getLast? with
  |none=>exact⟨hx,fun t ht=>by simp only at ht;rw[hl] at ht;cases ht⟩
  |some t=>
   simp only;cases hy:st.getD t.1.toNat none with
   |none=>exact⟨hx,fun u hu=>by simp only at hu;rw[hl] at hu;cases hu;exact hy⟩
   |some y=>simp only;have hpp:=hp.1;obtain⟨hvy,u,hu,hu1⟩:=hst.ok _ y hy;obtain⟨m,hm,hcy⟩:=hc _ y hy;have ht0:=Sr.mem hx.1.s t (b9 hl);have aha:=V3 hp (hx.1.mono (m:=(n:Int)) (by omega)) hvy hl hu (by omega);have hft:=hf t (b9 hl);rw[hu,Option.getD_some];exact Yu hp hst hk hc f _ (a+1) (hx.plus (by omega) _ hcy hm) fun s hs=>by have:=aha s hs;omega
theorem HI {p:Int}{st:List (Option (List Tm))}:∀(f:Nat) (x:List Tm) (a:Int),kS p st f x a=((kS p st f x 0).1,a+(kS p st f x 0).2)∧0≤(kS p st f x 0).2∧(kS p st f x 0).2≤f
 |0,x,a=>by refine⟨?_, ?_, ?_⟩<;>simp[kS]
 |f+1,x,a=>by
  rw[kS,kS];cases hl:x.getLast? with
  |none=>simp only[Int.add_zero];exact⟨trivial,by omega,by omega⟩
  |some t=>
   simp only;cases hy:st.getD t.1.toNat none with
   |none=>simp only[Int.add_zero];exact⟨trivial,by omega,by omega⟩
   |some y=>
    simp only;obtain⟨h1,h2,h3⟩:=HI f (tv p x ((-t.2.1*iv p ((y.getLast?.getD (0,(0,()))).2.1)) % p) y) (a+1);obtain⟨g1,_,_⟩:=HI f (tv p x ((-t.2.1*iv p ((y.getLast?.getD (0,(0,()))).2.1)) % p) y) (0+1);rw[h1,g1];refine⟨?_, ?_, ?_⟩
    ·simp only[Prod.mk.injEq,true_and];omega
    ·simp only;omega
    ·simp only;omega
abbrev StT:=List (Option (List Tm))×List Int×Int
def W3 (s:StT)(j:Nat)(z:List Tm×Int):StT:=match z.1.getLast? with
 |some t=>(s.1.set t.1.toNat (some z.1),(s.2.1.set t.1.toNat (j:Int),z.2))
 |none=>(s.1,((if s.2.1.getD j 0= -2 then s.2.1.set j (-1) else s.2.1),z.2))
def k8 (p:Int)(aa:List Cl)(n:Nat):Nat→StT
 |0=>(List.replicate n none,(List.replicate n (-2),0))
 |j+1=>W3 (k8 p aa n j) j (kS p (k8 p aa n j).1 n (ck aa j) (k8 p aa n j).2.2)
def tn (p:Int)(aa:List Cl)(n j:Nat):List Tm:=(kS p (k8 p aa n j).1 n (ck aa j) 0).1
def Yv (p:Int)(aa:List Cl)(n j:Nat):Int:=(kS p (k8 p aa n j).1 n (ck aa j) 0).2
theorem ak9 {p:Int}{aa:List Cl}{n j:Nat}:k8 p aa n (j+1)=W3 (k8 p aa n j) j (tn p aa n j,(k8 p aa n j).2.2+Yv p aa n j):=by rw[k8,(HI n (ck aa j) (k8 p aa n j).2.2).1];rfl
structure SI (p:Int) (aa:List Cl) (n j:Nat) (s:StT):Prop where
 M9:Sto p n s.1
 ldt:s.2.1.length=n
 s1:∀i y,s.1.getD i none=some y→∃k,k<j∧tn p aa n k=y∧s.2.1.getD i 0=(k:Int)
 s2:∀k,k<j→∀t,(tn p aa n k).getLast?=some t→s.1.getD t.1.toNat none=some (tn p aa n k)∧s.2.1.getD t.1.toNat 0=(k:Int)
 z:∀i,i<n→s.1.getD i none=none→s.2.1.getD i 0=if i<j∧tn p aa n i=[] then -1 else -2
 c:∀k,k<j→Cmb p aa n k (tn p aa n k)∧∀t,(tn p aa n k).getLast?=some t→0≤t.1∧t.1<k
 w:s.2.2=sm (Yv p aa n) j
theorem QL {n i:Nat}:(List.replicate n (none:Option (List Tm))).getD i none=none:=by simp only[List.getD,List.getElem?_replicate];split<;>rfl
theorem SI.zero {p:Int}{aa:List Cl}{n:Nat}:SI p aa n 0 (k8 p aa n 0):=by
 refine⟨⟨by simp[k8],fun i y h=> ?_⟩,by simp[k8],fun i y h=> ?_,fun k hk=>by omega,fun i hi h=> ?_,fun k hk=>by omega,rfl⟩
 ·rw[k8,QL] at h;cases h
 ·rw[k8,QL] at h;cases h
 ·rw[if_neg (by omega)];simp[k8,List.getD,hi]
theorem SI.step {p:Int}(hp:Pr p){aa:List Cl}{n j:Nat}(hj:j<n)(hv:Vc p j (ck aa j))(h:SI p aa n j (k8 p aa n j)):SI p aa n (j+1) (k8 p aa n (j+1)):=by
 have hz:=Yu hp (aa:=aa) (k:=j) h.M9 (by omega) (fun i y e=>by
  obtain⟨k,k1,k2,_⟩:=h.s1 i y e;exact⟨k,k1,k2 ▸ (h.c k k1).1⟩) n (ck aa j) 0 (Cmb.self hj hv) (fun t ht=>by have:=hv.r t ht;omega)
 change Cmb p aa n j (tn p aa n j)∧_ at hz;obtain⟨z1,z2⟩:=hz;change ∀t,(tn p aa n j).getLast?=some t→_ at z2;have hc:∀k,k<j+1→Cmb p aa n k (tn p aa n k)∧∀t,(tn p aa n k).getLast?=some t→0≤t.1∧t.1<k:=fun k hk=>by
  by_cases e:k=j
  ·subst e;exact⟨z1,fun t ht=>⟨by have:=Sr.mem z1.1.s t (b9 ht);omega,(z1.1.r t (b9 ht)).1⟩⟩
  ·exact h.c k (by omega)
 have hw:(k8 p aa n j).2.2+Yv p aa n j=sm (Yv p aa n) (j+1):=by rw[sm,h.w]
 rw[ak9];cases hl:(tn p aa n j).getLast? with
 |some t=>
  have hn:=z2 t hl;have ht:=(hc j (by omega)).2 t hl;have e1:W3 (k8 p aa n j) j (tn p aa n j,(k8 p aa n j).2.2+Yv p aa n j)=((k8 p aa n j).1.set t.1.toNat (some (tn p aa n j)),((k8 p aa n j).2.1.set t.1.toNat (j:Int),(k8 p aa n j).2.2+Yv p aa n j)):=by unfold W3;simp only[hl]
  rw[e1];have ls:=h.M9.len;have ld:=h.ldt;refine⟨⟨by simp[ls],fun i y hy=> ?_⟩,by simp[ld],fun i y hy=> ?_,fun k hk u hu=> ?_,fun i hi hy=> ?_,hc,hw⟩
  ·simp only[O5] at hy;split at hy
   ·rename_i g;obtain rfl:tn p aa n j=y:=by simpa using hy
    exact⟨z1.1.mono (by omega),t,hl,by omega⟩
   ·exact h.M9.ok i y hy
  ·simp only[O5] at hy;split at hy
   ·rename_i g;obtain rfl:tn p aa n j=y:=by simpa using hy
    refine⟨j,by omega,rfl, ?_⟩;simp only[db];rw[if_pos ⟨g.1,by omega⟩]
   ·rename_i g;obtain⟨k,k1,k2,k3⟩:=h.s1 i y hy;refine⟨k,by omega,k2, ?_⟩;simp only[db];rw[if_neg (by rw[ld, ←ls];exact g),k3]
  ·by_cases e:k=j
   ·subst e;rw[hl] at hu;obtain rfl:t=u:=by simpa using hu
    simp only[O5,db];rw[if_pos ⟨trivial,by omega⟩,if_pos ⟨trivial,by omega⟩];exact⟨rfl,rfl⟩
   ·obtain⟨g1,g2⟩:=h.s2 k (by omega) u hu;have hne:t.1.toNat≠u.1.toNat:=fun e=>by rw[←e,hn] at g1;cases g1
    simp only[O5,db];rw[if_neg fun q=>hne q.1,if_neg fun q=>hne q.1];exact⟨g1,g2⟩
  ·simp only[O5] at hy;split at hy
   ·cases hy
   ·rename_i g;simp only[db];rw[if_neg (by rw[ld, ←ls];exact g),h.z i hi hy];have:(i<j+1∧tn p aa n i=[])↔(i<j∧tn p aa n i=[]):=by
     constructor
     ·rintro ⟨q1,q2⟩;refine⟨?_,q2⟩;by_cases e:i=j
      ·subst e;rw[q2] at hl;cases hl
      ·omega
     ·rintro ⟨q1,q2⟩;exact⟨by omega,q2⟩
    simp only[this]
 |none=>
  have hx:tn p aa n j=[]:=List.getLast?_eq_none_iff.1 hl;have e1:W3 (k8 p aa n j) j (tn p aa n j,(k8 p aa n j).2.2+Yv p aa n j)=((k8 p aa n j).1,((if (k8 p aa n j).2.1.getD j 0= -2 then (k8 p aa n j).2.1.set j (-1) else (k8 p aa n j).2.1),(k8 p aa n j).2.2+Yv p aa n j)):=by unfold W3;simp only[hl]
  rw[e1];have ld:=h.ldt;have hd:∀i,i<n→(if (k8 p aa n j).2.1.getD j 0= -2 then (k8 p aa n j).2.1.set j (-1) else (k8 p aa n j).2.1).getD i 0=if i=j∧(k8 p aa n j).1.getD i none=none then -1 else (k8 p aa n j).2.1.getD i 0:=fun i hi=>by
   by_cases e:i=j
   ·subst e;cases hy:(k8 p aa n i).1.getD i none with
    |none=>have:=h.z i hi hy;rw[if_neg (by omega)] at this;rw[if_pos this,db,if_pos ⟨rfl,by omega⟩,if_pos ⟨rfl,rfl⟩]
    |some y=>obtain⟨k,_,_,k3⟩:=h.s1 i y hy;rw[if_neg (by omega),if_neg (by simp)]
   ·have hne:¬(i=j∧(k8 p aa n j).1.getD i none=none):=fun q=>e q.1;rw[if_neg hne];split
    ·rw[db,if_neg (fun q=>e q.1.symm)]
    ·rfl
  refine⟨h.M9,by simp only;split<;>simp[ld],fun i y hy=> ?_,fun k hk u hu=> ?_,fun i hi hy=> ?_,hc,hw⟩
  ·obtain⟨k,k1,k2,k3⟩:=h.s1 i y hy;refine⟨k,by omega,k2, ?_⟩;have hi:i<n:=by
    rcases Nat.lt_or_ge i n with g |g
    ·exact g
    ·have:(k8 p aa n j).1.getD i none=none:=by simp[List.getD,List.getElem?_eq_none (show (k8 p aa n j).1.length≤i by rw[h.M9.len];exact g)]
     rw[this] at hy;cases hy
   have:=hd i hi;simp only at this ⊢;rw[this,if_neg (fun q=>by rw[q.2] at hy;cases hy),k3]
  ·by_cases e:k=j
   ·subst e;rw[hl] at hu;cases hu
   ·obtain⟨g1,g2⟩:=h.s2 k (by omega) u hu;have hu2:=(h.c k (by omega)).2 u hu;have:=hd u.1.toNat (by omega)
    refine⟨g1, ?_⟩;simp only at this ⊢;rw[this,if_neg (fun q=>by rw[q.2] at g1;cases g1),g2]
  ·have:=hd i hi;simp only at this ⊢;rw[this];by_cases e:i=j
   ·subst e;rw[if_pos ⟨rfl,hy⟩,if_pos ⟨by omega,hx⟩]
   ·rw[if_neg (fun q=>e q.1),h.z i hi hy];have:(i<j+1∧tn p aa n i=[])↔(i<j∧tn p aa n i=[]):=⟨fun q=>⟨by omega,q.2⟩,fun q=>⟨by omega,q.2⟩⟩
    simp only[this]
theorem ug {p:Int}(hp:Pr p){aa:List Cl}{n:Nat}(hv:∀j,j<n→Vc p j (ck aa j)):∀j,j≤n→SI p aa n j (k8 p aa n j)
 |0,_=>SI.zero
 |j+1,h=>SI.step hp (by omega) (hv j (by omega)) (ug hp hv j (by omega))
theorem CQ {p:Int}{aa:List Cl}{n j:Nat}:0≤Yv p aa n j∧Yv p aa n j≤n:=(HI n (ck aa j) 0).2
theorem QM {g:Nat→Int}{b:Int}(hb:∀i,0≤g i∧g i≤b):∀n:Nat,0≤sm g n∧sm g n≤n*b
 |0=>by simp[sm]
 |n+1=>by
  have h1:=QM hb n;have h2:=hb n;have:((n+1:Nat):Int)*b=n*b+b:=by grind
  rw[sm];omega
theorem QN {p:Int}{n:Nat}{x:List Tm}(hx:Vc p n x){t:Tm}(ht:x.getLast?=some t){j:Nat}:Bh p n (fun r _=>cf x (r:Int)) j t.1.toNat:=by
 have h1:=hx.r t (b9 ht);have h2:=Sr.mem hx.s t (b9 ht);have h3:=Gz hx.s t (b9 ht);refine⟨by omega, ?_,fun r hr _=> ?_⟩
 ·simp only;rw[Int.toNat_of_nonneg (by omega),h3];intro e;have:=Int.le_of_dvd (by omega) e;omega
 ·simp only;rw[T5 hx.s ht (by omega)];exact Int.dvd_zero p
theorem ala {p:Int}{n:Nat}{x:List Tm}(hx:Vc p n x){i j:Nat}(h:Bh p n (fun r _=>cf x (r:Int)) j i):∃t,x.getLast?=some t∧t.1=i:=by
 cases hl:x.getLast? with
 |none=>have:x=[]:=List.getLast?_eq_none_iff.1 hl;subst this;exact absurd (Int.dvd_zero p) h.2.1
 |some t=>have:=(QN hx hl (j:=j)).uniq h;have h2:=Sr.mem hx.s t (b9 hl);exact⟨t,rfl,by omega⟩
def RS (p:Int)(aa:List Cl)(n:Nat)(r k:Nat):Int:=cf (tn p aa n k) (r:Int)
theorem As {p:Int}{aa:List Cl}{n k i:Nat}(hx:Vc p n (tn p aa n k)):Bh p n (RS p aa n) k i↔∃t,(tn p aa n k).getLast?=some t∧t.1=i:=by
 constructor
 ·exact fun h=>ala (j:=k) hx h
 ·rintro ⟨t,ht,e⟩;have:=QN hx ht (j:=k);rw[e,Int.toNat_natCast] at this;exact this
theorem Wj {p:Int}{aa:List Cl}{n:Nat}(h:SI p aa n n (k8 p aa n n)):Wq p n (mx aa) (RS p aa n):=by
 have hv:∀k,k<n→Vc p n (tn p aa n k):=fun k hk=>(h.c k hk).1.1.mono (by omega);refine⟨?_,fun i j k hj hk h1 h2=> ?_⟩
 ·have:∀k,∃v:Nat→Int,k<n→v k=1∧(∀l,k<l→v l=0)∧∀r:Nat,r<n→p ∣ cf (tn p aa n k) (r:Int) - sm (fun l=>v l*mx aa r l) n:=fun k=>by
   by_cases hk:k<n
   ·obtain⟨v,h1⟩:=(h.c k hk).1.2;exact⟨v,fun _=>h1⟩
   ·exact⟨fun _=>0,fun h=>absurd h hk⟩
  obtain⟨V,hV⟩:=Classical.axiomOfChoice this;exact⟨fun l j=>V j l,fun j hj=>(hV j hj).1,fun j hj k hk=>(hV j hj).2.1 k hk,fun j hj r hr=>(hV j hj).2.2 r hr⟩
 ·obtain⟨t,t1,t2⟩:=(As (hv j hj)).1 h1;obtain⟨u,u1,u2⟩:=(As (hv k hk)).1 h2;have a:=(h.s2 j hj t t1).2;have b:=(h.s2 k hk u u1).2;rw[t2] at a;rw[u2] at b;omega
structure Prd (p:Int) (n:Nat) (R:Nat→Nat→Int) (dt:List Int):Prop where
 hi:∀i,i<n→∀k,k<n→Bh p n R k i→dt.getD i 0=(k:Int)
 lo:∀i,i<n→0≤dt.getD i 0→∃k,k<n∧dt.getD i 0=(k:Int)∧Bh p n R k i
 no:∀i,i<n→dt.getD i 0<0→ -2≤dt.getD i 0∧(dt.getD i 0= -1↔∀r,¬Bh p n R i r)
theorem aes {p:Int}{aa:List Cl}{n:Nat}(h:SI p aa n n (k8 p aa n n)):Prd p n (RS p aa n) (k8 p aa n n).2.1:=by
 have hv:∀k,k<n→Vc p n (tn p aa n k):=fun k hk=>(h.c k hk).1.1.mono (by omega);refine⟨fun i hi k hk hl=> ?_,fun i hi h0=> ?_,fun i hi h0=> ?_⟩
 ·obtain⟨t,t1,t2⟩:=(As (hv k hk)).1 hl;have:=(h.s2 k hk t t1).2;rw[t2,Int.toNat_natCast] at this;exact this
 ·cases hy:(k8 p aa n n).1.getD i none with
  |none=>have:=h.z i hi hy;split at this<;>omega
  |some y=>obtain⟨k,k1,k2,k3⟩:=h.s1 i y hy;obtain⟨_,u,u1,u2⟩:=h.M9.ok i y hy;exact⟨k,k1,k3,(As (hv k k1)).2 ⟨u,by rw[k2];exact u1,u2⟩⟩
 ·cases hy:(k8 p aa n n).1.getD i none with
  |none=>
   have hz:=h.z i hi hy;have hq:tn p aa n i=[]↔∀r,¬Bh p n (RS p aa n) i r:=by
    constructor
    ·intro e r hl;obtain⟨t,t1,_⟩:=(As (hv i hi)).1 hl;rw[e] at t1;cases t1
    ·intro g;cases hl:(tn p aa n i).getLast? with
     |none=>exact List.getLast?_eq_none_iff.1 hl
     |some t=>exact absurd (QN (hv i hi) hl (j:=i)) (g _)
   rw[hz, ←hq];by_cases e:tn p aa n i=[]
   ·rw[if_pos ⟨hi,e⟩];exact⟨by omega,fun _=>e,fun _=>rfl⟩
   ·rw[if_neg (fun q=>e q.2)];exact⟨by omega,fun q=>by omega,fun q=>absurd q e⟩
  |some y=>obtain⟨k,_,_,k3⟩:=h.s1 i y hy;omega
theorem ah2 {j out:Nat}{s:StT}{z:List Tm×Int}{e:Bool}{p w2:Int}{aa:List Cl}{cO:V4}{rest:List (Int×Unit)}:
  Ye j z.1 out s.1 s.2.1 e p aa z.2 w2 cO rest=ao out out (W3 s j z).1 (W3 s j z).2.1 e p aa (W3 s j z).2.2 w2 cO rest:=by
 unfold Ye W3;cases z.1.getLast? with
 |some t=>rfl
 |none=>simp only;split<;>rfl
theorem Yw {p:Int}(hp:Pr p){n:Nat}(hn:n≤1024){aa:List Cl}(hc:aa.length=n)(hv:∀j,j<n→Vc p j (ck aa j)){w2:Int}{cO:V4}:∀(m j:Nat),m+j=n→
  ao 0 0 (k8 p aa n j).1 (k8 p aa n j).2.1 false p aa (k8 p aa n j).2.2 w2 cO (rg j m)=bg 0 (n:Int) 0 (k8 p aa n n).2.1 (k8 p aa n n).2.2 w2 cO
 |0,j,h=>by
  have:j=n:=by omega
  subst this;have hl:=(ug hp hv j (Nat.le_refl j)).ldt;rw[rg,my,jC,hl]
 |m+1,j,h=>by have hI:=ug hp hv j (by omega);have hr:=QM (g:=Yv p aa n) (b:=1024) (fun i=>⟨CQ.1,by have:=(CQ (p:=p) (aa:=aa) (n:=n) (j:=i)).2;omega⟩) j;rw[rg,apq hp hn hc hI.M9 hI.ldt (by omega) ((hv j (by omega)).mono (by omega)) (by rw[hI.w];exact hr.1) (by rw[hI.w];omega),ah2];exact Yw hp hn hc hv m (j+1) (by omega)
theorem ah3 {p:Int}{aa:List Cl}(hs:Sz aa)(h0:gr p aa=0):
  gm (p,(aa,()))=some (EM (k8 p aa aa.length aa.length).2.1 0 aa.length,((sm (Yv p aa aa.length) aa.length,((0:Int),())),(0:Int))):=by
 have key:∀{hp:V4} {n:Nat} {l:List Tm} {w:Int×Int×Unit} {e:Int},kP (p,(aa,())) []=some ((n,(w,e)),hp)→ag hp n=some l→gm (p,(aa,()))=some (l,((w.1,(w.2.1,())),e)):=by intro hp n l w e h1 h2;rw[Fe,zp];simp only;rw[h1,bS];simp only;rw[IZ (hp:=hp) rfl h2];rfl
 obtain⟨hp,hl,hg⟩:=pe h0;have hv:∀j,j<aa.length→Vc p j (ck aa j):=fun j hj=>(hg j hj).bd;have hI:=ug hp hv aa.length (Nat.le_refl _);have e0:((0:Nat):Int)=0:=rfl;have d1:=hI.ldt;have d2:=Yw hp hl rfl hv (w2:=0) (cO:=[]) aa.length 0 (by omega);obtain⟨out',hp',g1,g2⟩:=ahw (dt:=(k8 p aa aa.length aa.length).2.1) (by omega) (w:=(k8 p aa aa.length aa.length).2.2) (w2:=0) (k8 p aa aa.length aa.length).2.1.length 0 0 [] [] (by omega) rfl (by simp);rw[e0,d1] at g1;rw[List.nil_append,d1] at g2;have hf:=apr (st:=List.replicate aa.length none) (p:=p) hl rfl (cO:=[]) aa.length 0 (by omega);rw[e0,List.replicate_zero,List.nil_append] at hf;have d3:ao 0 0 (List.replicate aa.length none) (List.replicate aa.length (-2)) false p aa 0 0 [] (rg 0 aa.length)=bg 0 (aa.length:Int) 0 (k8 p aa aa.length aa.length).2.1 (k8 p aa aa.length aa.length).2.2 0 []:=d2;have hrun:fR (p,(aa,())) []=some ((out',((k8 p aa aa.length aa.length).2.2,((0:Int),()))),hp'):=by rw[xg,qH];simp only;rw[CD (by omega) (by omega) (by omega),CD (by omega) (by omega) (by omega),Int.toNat_natCast,List.length_replicate,hf,d3,g1]
 have hw:kP (p,(aa,())) []=some ((out',(((k8 p aa aa.length aa.length).2.2,((0:Int),())),(0:Int))),hp'):=by rw[GS,Bp];simp only;rw[Ez hs,bS,h0,pd rfl,hrun,bS]
 rw[key hw g2,hI.w]
noncomputable def R9 (j:Nat)(x:List Tm)(out:Nat)(st:List (Option (List Tm)))(dt:List Int)(e:Bool)(p:Int)(aa:List Cl)(a w2:Int)(cO:V4)(rest:List (Int×Unit)):Option ((Nat×Int×Int×Unit)×V4):=
 match x.getLast? with
 |some t=>ai out out (st.set t.1.toNat (some x)) (dt.set t.1.toNat j) e p aa a w2 cO rest
 |none=>if dt.getD j 0= -2 then ai out out st (dt.set j (-1)) e p aa a w2 cO rest else ai out out st dt e p aa a w2 cO rest
theorem aet {p:Int}(hp:Pr p){n:Nat}(hn:n≤1024){st:List (Option (List Tm))}(hst:Sto p n st){dt:List Int}(hdt:dt.length=n){j:Nat}(hj:j<n){e:Bool}{aa:List Cl}{w2:Int}{out:Nat}{cO:V4}{rest:List (Int×Unit)}:
  ∀(f:Nat) (x:List Tm) (a:Int),Vc p n x→(∀t∈x,t.1<f)→0≤a→a+f≤1000000000→
   bm j x (QD x).1 (QD x).2 out st dt e p aa a w2 cO rest=R9 j (kS p st f x a).1 out st dt e p aa (kS p st f x a).2 w2 cO rest:=by
 intro f;have stop:∀(x:List Tm) (a:Int),Vc p n x→(∀t,x.getLast?=some t→st.getD t.1.toNat none=none)→bm j x (QD x).1 (QD x).2 out st dt e p aa a w2 cO rest=R9 j x out st dt e p aa a w2 cO rest:=by
  intro x a hx hno;rw[lA,iR];unfold R9 QD;cases hl:x.getLast? with
  |none=>
   simp only;rw[cF,cF,gV (by omega) (by omega),rS (by omega),Int.toNat_natCast];by_cases h2:dt.getD j 0= -2
   ·rw[iZ h2,gV (by omega) (by omega),rS (by omega),if_pos h2]
   ·rw[ft h2,if_neg h2]
  |some t=>
   have ht:=hx.r t (b9 hl);have ht0:=Sr.mem hx.s t (b9 hl);have hne:x≠ []:=fun e=>by rw[e] at hl;cases hl
   have hlen:=hst.len;simp only;rw[cT,QE (by omega) (by omega),ZW (by omega),hno t hl];have e1:(!(Option.isNone (none:Option (List Tm))))=false:=rfl;rw[e1,cF,cT,QE (by omega) (by omega),ZW (by omega),acn hne,bS,gV (by omega) (by omega),rS (by omega)]
 induction f with
 |zero=>
  intro x a hx hf ha hb;have:x=[]:=by
   cases x with
   |nil=>rfl
   |cons t r=>have h1:=hf t (by simp);have h2:=Sr.mem hx.s t (by simp);omega
  subst this;rw[kS];exact stop [] a hx (fun t ht=>by cases ht)
 |succ f ih=>
  intro x a hx hf ha hb;rw[kS];cases hl:x.getLast? with
  |none=>exact stop x a hx (fun t ht=>by rw[hl] at ht;cases ht)
  |some t=>
   simp only;cases hy:st.getD t.1.toNat none with
   |none=>exact stop x a hx (fun u hu=>by rw[hl] at hu;cases hu;exact hy)
   |some y=>
    simp only;have ht:=hx.r t (b9 hl);have ht0:=Sr.mem hx.s t (b9 hl);have hne:x≠ []:=fun e=>by rw[e] at hl;cases hl
    have hlen:=hst.len;have hf':=hf t (b9 hl);obtain⟨hvy,u,hu,hu1⟩:=hst.ok _ y hy;have hur:=hvy.r u (b9 hu);have hxl:=hx.length (by omega);have hyl:=hvy.length (by omega);have aun:y.length≠0:=fun e=>by rw[List.length_eq_zero_iff.1 e] at hu;cases hu
    have auo:x.length≠0:=fun e=>hne (List.length_eq_zero_iff.1 e);have gl:∀{z:List Tm} {v:Tm},z.getLast?=some v→z.getD (z.length - 1) wM=v:=fun {z v} h=>by obtain⟨r,rfl⟩:=O4 h;simp[List.getD]
    have ey:IntKind.wrap .i64 (((lst (some y)).length:Int) - 1)=((y.length - 1:Nat):Int):=by show IntKind.wrap .i64 ((y.length:Int) - 1)=_;rw[i64_in _ (by omega)];omega
    have ex:IntKind.wrap .i64 ((x.length:Int) - 1)=((x.length - 1:Nat):Int):=by rw[i64_in _ (by omega)];omega
    have hiv:=Lx hp hur.2;have hm1:0≤t.2.1*iv p u.2.1:=Int.mul_nonneg (by omega) (by omega);have hm2:t.2.1*iv p u.2.1≤251*251:=Int.mul_le_mul (by have:=hp.2.1;omega) (by have:=hp.2.1;omega) (by omega) (by omega);have e7:IntKind.wrap .i64 (IntKind.wrap .i64 (0 - t.2.1)*iv p u.2.1)= -t.2.1*iv p u.2.1:=by
     have:=hp.2.1;rw[i64_in (0 - t.2.1) (by omega)];have:(0 - t.2.1)*iv p u.2.1= -(t.2.1*iv p u.2.1):=by rw[Int.zero_sub,Int.neg_mul]
     rw[this,i64_in _ (by omega),Int.neg_mul]
    have hpp:0<p:=by have:=hp.1;omega
    have hk:(-t.2.1*iv p u.2.1) % p % p=(-t.2.1*iv p u.2.1) % p:=Int.emod_emod_of_dvd _ (Int.dvd_refl p);have hpl:=V3 hp hx hvy hl hu (by omega);have hv':=(FU (k:=(-t.2.1*iv p u.2.1) % p) hpp hx hvy).1;have aaH:=hv'.length (by omega);have hd:(y.getLast?.getD (0,(0,())))=u:=by rw[hu];rfl
    have wL:=ih (tv p x ((-t.2.1*iv p u.2.1) % p) y) (a+1) hv' (fun s hs=>by have:=hpl s hs;omega) (by omega) (by omega);rw[hd, ←wL,lA,iR];have el:QD x=(t.1,true):=by unfold QD;rw[hl]
    rw[el];simp only;rw[cT,QE (by omega) (by omega),ZW (by omega),hy];have e1:(!(Option.isNone (some y)))=true:=rfl;rw[e1,cT,QE (by omega) (by omega),ZW (by omega),hy,ey];have e2:lst (some y)=y:=rfl;rw[e2,eQ wM (by omega),gl hu,Tg hp hur.2,bS,ex,eQ wM (by omega),gl hl,e7,Lw hp,bS,GA hp (hx.mono (by omega)) (hvy.mono (by omega)) (by omega) (by omega),bS,hk];simp only;rw[ZR (by omega),bS,i64_in (a+1) (by omega)];rfl
theorem aeu {dt:List Int}(hn:dt.length≤1024){w w2:Int}:∀(m i out:Nat) (cO:V4) (l:List Tm),m+i=dt.length→ag cO out=some l→l.length≤i→
  ∃out' hp',bl out (dt.length:Int) i dt w w2 cO=some ((out',(w,(w2,()))),hp')∧ag hp' out'=some (l++EM dt i m):=by
 intro m;induction m with
 |zero=>intro i out cO l hi hg hl;rw[lz,iQ,al (by omega)];exact⟨out,cO,rfl,by rw[EM,List.append_nil];exact hg⟩
 |succ m ih=>
  intro i out cO l hi hg hl;rw[lz,iQ,au (by omega),gV (by omega) (by omega),rS (by omega),Int.toNat_natCast,EM,aU (by omega)];by_cases h:dt.getD i 0> -2
  ·rw[da h,hg,bS,iG (by omega) (by omega),if_pos h];simp only;have hg':ag (cw cO out++[some (l++[((i:Int),(dt.getD i 0,()))])]) ((cw cO out).length+1)=some (l++[((i:Int),(dt.getD i 0,()))]):=by simp[ag]
   obtain⟨o',h',g1,g2⟩:=ih (i+1) _ _ _ (by omega) hg' (by simp;omega);refine⟨o',h',g1, ?_⟩;rw[g2,List.append_assoc];rfl
  ·rw[dA h,if_neg h];exact ih (i+1) out cO l (by omega) hg (by omega)
def W4 (aa:List Cl)(d:Int):Nat→Nat→List (Int×Unit)
 |_,0=>[]
 |j,m+1=>if (aa.getD j iF).1=d then ((j:Int),())::W4 aa d (j+1) m else W4 aa d (j+1) m
def dtr (aa:List Cl)(n:Nat):Nat→List (Int×Unit)
 |0=>[]
 |k+1=>W4 aa k 0 n++dtr aa n k
theorem ah4 {aa:List Cl}{n:Nat}(hc:aa.length=n)(hn:n≤1000000){d t:Int}{t5:List Cl}:∀(m j:Nat) (tr:List (Int×Unit)),m+j=n→
  cp d aa n j t t5 tr=bT (IntKind.wrap .i64 (d - 1)) t t5 (tr++W4 aa d j m):=by
 intro m;induction m with
 |zero=>intro j tr h;rw[nH,j8,al (by omega),W4,List.append_nil]
 |succ m ih=>
  intro j tr h;rw[nH,j8,au (by omega),eQ iF (by omega),aU (by omega),W4];by_cases e:(aa.getD j iF).1=d
  ·rw[iZ e,if_pos e,ih (j+1) _ (by omega),List.append_assoc];rfl
  ·rw[ft e,if_neg e,ih (j+1) _ (by omega)]
theorem alb {aa:List Cl}{n:Nat}(hc:aa.length=n)(hn:n≤1000000){t:Int}:∀(k:Nat) (tr:List (Int×Unit)),k≤5→
  bT ((k:Int) - 1) t aa tr=some (tr++dtr aa n k):=by
 intro k;induction k with
 |zero=>intro tr h;rw[nG,j6,dtr,List.append_nil];rfl
 |succ k ih=>
  intro tr h;have e1:((k+1:Nat):Int) - 1=(k:Int):=by omega
  have hg:decide ((k:Int)≥0)=true:=by simp
  have e0:((0:Nat):Int)=0:=rfl;have hw:=ah4 hc hn (d:=(k:Int)) (t:=t) (t5:=aa) n 0 tr (by omega);rw[e0] at hw;rw[nG,j6,e1,hg,cT,hc,hw,i64_in ((k:Int) - 1) (by omega),ih _ (by omega),dtr,List.append_assoc]
theorem ana {p:Int}(hp:Pr p){n:Nat}(hn:n≤1024){aa:List Cl}(hc:aa.length=n){st:List (Option (List Tm))}(hst:Sto p n st){dt:List Int}(hdt:dt.length=n){j:Nat}(hj:j<n)(hx:Vc p n (ck aa j)){a w2:Int}(ha:0≤a)(hb:a+n≤1000000000)(h2:0≤w2∧w2≤1000000000){out:Nat}{cO:V4}{rest:List (Int×Unit)}:
  ai out out st dt true p aa a w2 cO (((j:Int),())::rest)=match st.getD j none with
   |some _=>ai out out st dt true p aa a (w2+1) cO rest
   |none=>R9 j (kS p st n (ck aa j) a).1 out st dt true p aa (kS p st n (ck aa j) a).2 w2 cO rest:=by
 have hl:=hx.length (by omega);have YK:=hst.len;rw[ly,iN];simp only;rw[cT,QE (by omega) (by omega),ZW (by omega),Int.toNat_natCast];cases hs:st.getD j none with
 |some y=>have e1:(!(Option.isNone (some y)))=true:=rfl;rw[e1,cT,i64_in (w2+1) (by omega)]
 |none=>
  have e1:(!(Option.isNone (none:Option (List Tm))))=false:=rfl;rw[e1,cF,eQ iF (by omega)];have eb:(aa.getD j iF).2.2.1=ck aa j:=by rw[gX]
  rw[eb,aco (by omega),bS,ZR (by omega),bS];exact aet hp hn hst hdt hj n (ck aa j) a hx (fun t ht=>(hx.r t ht).1) ha hb
def Dn (aa:List Cl)(d:Int)(j i:Nat):Prop:=d<(aa.getD i iF).1∨((aa.getD i iF).1=d∧i<j)
structure Kv (aa:List Cl) (n:Nat) (d:Int) (j:Nat) (dt:List Int):Prop where
 ex:∃s:Nat→Bool,(∀i,i<n→dt.getD i 0= -1→Dn aa d j i∧s i=false)∧(∀i k:Nat,i<n→dt.getD i 0=(k:Int)→k<n∧Dn aa d j k∧s k=true)
 inj:∀i i' k:Nat,i<n→i'<n→dt.getD i 0=(k:Int)→dt.getD i' 0=(k:Int)→i=i'
 lo:∀i,i<n→ -2≤dt.getD i 0
theorem Kv.skip {aa:List Cl}{n:Nat}{d:Int}{j:Nat}{dt:List Int}(h:Kv aa n d j dt):Kv aa n d (j+1) dt:=by
 have up:∀i,Dn aa d j i→Dn aa d (j+1) i:=fun i hi=>hi.imp id fun⟨a,b⟩=>⟨a,by omega⟩
 obtain⟨s,h1,h2⟩:=h.ex;exact⟨⟨s,fun i hi e=>⟨up i (h1 i hi e).1,(h1 i hi e).2⟩,fun i k hi e=>⟨(h2 i k hi e).1,up k (h2 i k hi e).2.1,(h2 i k hi e).2.2⟩⟩,h.inj,h.lo⟩
theorem Kv.down {aa:List Cl}{n:Nat}{d:Int}{j:Nat}{dt:List Int}(h:Kv aa n d j dt):Kv aa n (d - 1) 0 dt:=by have up:∀i,Dn aa d j i→Dn aa (d - 1) 0 i:=fun i hi=> .inl (by rcases hi with hi | ⟨hi,_⟩<;>omega);obtain⟨s,h1,h2⟩:=h.ex;exact⟨⟨s,fun i hi e=>⟨up i (h1 i hi e).1,(h1 i hi e).2⟩,fun i k hi e=>⟨(h2 i k hi e).1,up k (h2 i k hi e).2.1,(h2 i k hi e).2.2⟩⟩,h.inj,h.lo⟩
theorem Dn.self {aa:List Cl}{d:Int}{j:Nat}(hd:(aa.getD j iF).1=d):¬Dn aa d j j:=by rintro (h | ⟨_,h⟩)<;>omega
theorem anb {n:Nat}(hn:n≤1024){st:List (Option (List Tm))}{p:Int}{aa:List Cl}(hc:aa.length=n){cO:V4}:∀(m i:Nat),m+i=n→
  bM 0 (n:Int) i st (List.replicate i (-2)++List.replicate m 0) true p aa 0 0 cO=ai 0 0 st (List.replicate n (-2)) true p aa 0 0 cO (dtr aa n 5):=by
 intro m;induction m with
 |zero=>
  intro i hi;have e0:((0:Nat):Int)=0:=rfl;have hw:=alb (aa:=aa) hc (by omega) (t:=p) 5 [] (by omega);have e4:((5:Nat):Int) - 1=4:=rfl;rw[e4,List.nil_append] at hw;have hi':i=n:=by omega
  subst hi';rw[lx,iM,al (by omega),BQ,u7,bS,yD,sj];simp only;rw[hw,bS,List.replicate_zero,List.append_nil]
 |succ m ih=>
  intro i hi;have hl:(List.replicate i (-2:Int)++List.replicate (m+1) 0).length=n:=by simp;omega
  rw[lx,iM,au (by omega),gV (by omega) (by omega),Int.toNat_natCast,rS (by omega),aU (by omega)];have e:(List.replicate i (-2:Int)++List.replicate (m+1) 0).set i (-2)=List.replicate (i+1) (-2)++List.replicate m 0:=by rw[List.set_append_right _ _ (by simp)];simp only[List.length_replicate,Nat.sub_self,List.replicate_succ,List.set_cons_zero];rw[←List.replicate_succ,List.replicate_succ',List.append_assoc];rfl
  rw[e];exact ih (i+1) (by omega)
def J1 (n:Nat)(t:Tm):Tm:=if t.2.1<0 then ((n:Int) - 1 - t.1,(-1,())) else ((n:Int) - 1 - t.2.1,((n:Int) - 1 - t.1,()))
theorem FX {dt:List Int}{t:Tm}:∀{m i:Nat},t∈EM dt i m↔∃k,i≤k∧k<i+m∧t=((k:Int),(dt.getD k 0,()))∧dt.getD k 0> -2
 |0,i=>by simp only[EM,List.not_mem_nil,false_iff];rintro ⟨k,h1,h2,_⟩;omega
 |m+1,i=>by
  rw[EM];have ih:=FX (dt:=dt) (t:=t) (m:=m) (i:=i+1);split
  ·rename_i h;rw[List.mem_cons,ih];constructor
   ·rintro (rfl | ⟨k,h1,h2,h3⟩)
    ·exact⟨i,by omega,by omega,rfl,h⟩
    ·exact⟨k,by omega,by omega,h3⟩
   ·rintro ⟨k,h1,h2,h3,h4⟩;by_cases e:k=i
    ·subst e;exact .inl h3
    ·exact .inr ⟨k,by omega,by omega,h3,h4⟩
  ·rename_i h;rw[ih];constructor
   ·rintro ⟨k,h1,h2,h3⟩;exact⟨k,by omega,by omega,h3⟩
   ·rintro ⟨k,h1,h2,h3,h4⟩;by_cases e:k=i
    ·subst e;exact absurd h4 h
    ·exact⟨k,by omega,by omega,h3,h4⟩
theorem Z6 {dt:List Int}:∀{m i:Nat},Up (EM dt i m)
 |0,i=>List.Pairwise.nil
 |m+1,i=>by
  rw[EM];split
  ·refine List.pairwise_cons.2 ⟨fun t ht=> ?_,Z6⟩;obtain⟨k,h1,h2,rfl,_⟩:=FX.1 ht;show (i:Int)<k;omega
  ·exact Z6
theorem ah5 {n:Nat}{t:Tm}(h:0≤t.1∧t.1<n∧ -1≤t.2.1∧t.2.1<n):(0≤(J1 n t).1∧(J1 n t).1<n)∧ -2<(J1 n t).2.1:=by
 unfold J1;split<;>(simp only;omega)
theorem afL {p:Int}{n:Nat}{m R R':Nat→Nat→Int}{dt dt':List Int}(h:Wq p n m R)(h':Wq p n (sW n m) R')(g:Prd p n R dt)(g':Prd p n R' dt'){t:Tm}(ht:t∈EM dt 0 n):J1 n t∈EM dt' 0 n:=by
 obtain⟨i,_,hi,rfl,h1⟩:=FX.1 ht;have hi:i<n:=by omega
 unfold J1;simp only;by_cases h0:dt.getD i 0<0
 ·rw[if_pos h0];have hm:dt.getD i 0= -1:=by omega
  have hno:=(g.no i hi h0).2.1 hm;have aha:∀k,k<n→¬Bh p n R k i:=fun k hk hl=>by have:=g.hi i hi k hk hl;omega
  have e:dt'.getD (n - 1 - i) 0= -1:=by
   have hneg:dt'.getD (n - 1 - i) 0<0:=by
    rcases Int.lt_or_le (dt'.getD (n - 1 - i) 0) 0 with q |q
    ·exact q
    ·obtain⟨k,k1,_,k3⟩:=g'.lo (n - 1 - i) (by omega) q;have:Bh p n R i (n - 1 - k):=NM h h' (i:=n - 1 - k) (j:=i) (by omega) (by rw[show n - 1 - (n - 1 - k)=k by omega];exact k3) hi;exact absurd this (hno _)
   refine(g'.no (n - 1 - i) (by omega) hneg).2.2 fun r hr=> ?_;have Pe:=hr.1;exact aha (n - 1 - r) (by omega) (NM h h' (i:=i) (j:=n - 1 - r) hi (by rw[show n - 1 - (n - 1 - r)=r by omega];exact hr) (by omega))
  refine FX.2 ⟨n - 1 - i,by omega,by omega, ?_,by omega⟩;rw[e,show ((n - 1 - i:Nat):Int)=(n:Int) - 1 - i by omega]
 ·rw[if_neg h0];obtain⟨k,k1,k2,k3⟩:=g.lo i hi (by omega);have:=g'.hi (n - 1 - k) (by omega) (n - 1 - i) (by omega) (V2 h h' k1 k3);refine FX.2 ⟨n - 1 - k,by omega,by omega, ?_,by rw[this];omega⟩;rw[this,k2,show ((n - 1 - k:Nat):Int)=(n:Int) - 1 - k by omega,show ((n - 1 - i:Nat):Int)=(n:Int) - 1 - i by omega]
theorem acJ {p:Int}{aa:List Cl}(h0:gr p aa=0)(h20:am7 aa):Wq p aa.length (sW aa.length (mx aa)) (RS p (ju aa) aa.length)∧Prd p aa.length (RS p (ju aa) aa.length) (k8 p (ju aa) aa.length aa.length).2.1:=by obtain⟨hp,hl,hg⟩:=pe (acI h0 h20);have hdl:=R8 aa;rw[hdl] at hg;have hI:=ug hp (n:=aa.length) (fun j hj=>(hg j hj).bd) aa.length (Nat.le_refl _);exact⟨(Wj hI).congr fun r k hr hk=>by rw[Mk hr hk];rfl,aes hI⟩
theorem anc {p:Int}{aa:List Cl}(h0:gr p aa=0):Wq p aa.length (mx aa) (RS p aa aa.length)∧Prd p aa.length (RS p aa aa.length) (k8 p aa aa.length aa.length).2.1:=by obtain⟨hp,hl,hg⟩:=pe h0;have hI:=ug hp (n:=aa.length) (fun j hj=>(hg j hj).bd) aa.length (Nat.le_refl _);exact⟨Wj hI,aes hI⟩
theorem Prd.range {p:Int}{n:Nat}{R:Nat→Nat→Int}{dt:List Int}(h:Prd p n R dt){t:Tm}(ht:t∈EM dt 0 n):0≤t.1∧t.1<n∧ -1≤t.2.1∧t.2.1<n:=by
 obtain⟨i,_,hi,rfl,h1⟩:=FX.1 ht;refine⟨by simp only;omega,by simp only;omega,by simp only;omega, ?_⟩;simp only;by_cases h0:0≤dt.getD i 0
 ·obtain⟨k,k1,k2,_⟩:=h.lo i (by omega) h0;omega
 ·omega
theorem ah6 {a b:List Int}(hl:a.length=b.length)(h:∀r,r<a.length→a.getD r 0=b.getD r 0):a=b:=by apply List.ext_getElem hl;intro r h1 h2;have:=h r h1;simpa [List.getD,h1,h2] using this
def Hom (aa:List Cl)(d:Int)(x:List Tm):Prop:=∀t∈x,(aa.getD t.1.toNat iF).1=d
theorem Hom.plus {p:Int}(hp:0<p){n:Int}{aa:List Cl}{d:Int}{x y:List Tm}(k:Int)(vx:Vc p n x)(vy:Vc p n y)(hx:Hom aa d x)(hy:Hom aa d y):Hom aa d (tv p x k y):=fun t ht=>by
 obtain⟨h1,h2⟩:=FU (k:=k) hp vx vy;have h3:=Gz h1.s t ht;have h4:=(h1.r t ht).2.1;rw[h2] at h3;by_cases e:cf x t.1=0
 ·by_cases e2:cf y t.1=0
  ·rw[e,e2] at h3;simp at h3;omega
  ·obtain⟨u,hu,e3⟩:=Te e2;rw[←e3];exact hy u hu
 ·obtain⟨u,hu,e3⟩:=Te e;rw[←e3];exact hx u hu
theorem Pd {p:Int}(hp:0<p){n:Nat}{aa:List Cl}{d:Int}{st st':List (Option (List Tm))}(hst:Sto p n st)(h:∀i,(aa.getD i iF).1=d→st.getD i none=st'.getD i none)(hy:∀i y,st.getD i none=some y→(aa.getD i iF).1=d→Hom aa d y):
  ∀(f:Nat) (x:List Tm) (a:Int),Vc p n x→Hom aa d x→kS p st f x a=kS p st' f x a∧Hom aa d (kS p st f x a).1
 |0,x,a,hv,hx=>⟨rfl,hx⟩
 |f+1,x,a,hv,hx=>by
  rw[kS,kS];cases hl:x.getLast? with
  |none=>exact⟨rfl,hx⟩
  |some t=>
   simp only;have hd:=hx t (b9 hl);rw[←h _ hd];cases he:st.getD t.1.toNat none with
   |none=>exact⟨rfl,hx⟩
   |some y=>simp only;obtain⟨v,_⟩:=hst.ok _ y he;exact Pd hp hst h hy f _ _ (FU hp hv v).1 (hx.plus hp _ hv v (hy _ y he hd))
theorem QO {p:Int}{n:Nat}{st:List (Option (List Tm))}(hst:Sto p n st){aa:List Cl}{d:Int}{i:Nat}{y:List Tm}(h:st.getD i none=some y)(hy:Hom aa d y):(aa.getD i iF).1=d:=by obtain⟨_,u,u1,u2⟩:=hst.ok i y h;have:=hy u (b9 u1);rw[u2,Int.toNat_natCast] at this;exact this
section
variable {p:Int}{aa:List Cl}{n:Nat}(hp:Pr p)(hv:∀j,j<n→Vc p j (ck aa j))(hd:∀j,j<n→Hom aa ((aa.getD j iF).1 - 1) (ck aa j))
include hp hv hd
theorem ane:∀j,j<n→Hom aa ((aa.getD j iF).1 - 1) (tn p aa n j):=by
 intro j;induction j using Nat.strongRecOn with
 |ind j ih=>
  intro hj;have hI:=ug hp hv j (by omega);exact(Pd (by have:=hp.1;omega) hI.M9 (fun i _=>rfl) (fun i y hy hi=>by
   obtain⟨k,k1,k2,_⟩:=hI.s1 i y hy;have g:=ih k k1 (by omega);rw[k2] at g;have:=QO hI.M9 hy g;rw[←hi,this];exact g) n (ck aa j) 0 ((hv j hj).mono (by omega)) (hd j hj)).2
omit hd in
theorem ah7 {j:Nat}(hj:j<n){t:Tm}(ht:(tn p aa n j).getLast?=some t):(k8 p aa n j).1.getD t.1.toNat none=none:=by
 have hI:=ug hp hv j (by omega);have hF:=ug hp hv n (Nat.le_refl n);cases hy:(k8 p aa n j).1.getD t.1.toNat none with
 |none=>rfl
 |some y=>obtain⟨k,k1,k2,_⟩:=hI.s1 _ y hy;obtain⟨_,u,u1,u2⟩:=hI.M9.ok _ y hy;rw[←k2] at u1;have a:=(hF.s2 j hj t ht).2;have b:=(hF.s2 k (by omega) u u1).2;rw[u2,Int.toNat_natCast] at b;omega
omit hd in
theorem anf {j:Nat}(hj:j<n){t:Tm}(ht:(tn p aa n j).getLast?=some t):0≤t.1∧t.1<n:=by have:=((ug hp hv n (Nat.le_refl n)).c j hj).2 t ht;omega
end
structure EI (p:Int) (aa:List Cl) (n:Nat) (D:Nat→Prop) (st:List (Option (List Tm))) (dt:List Int):Prop where
 M9:Sto p n st
 ldt:dt.length=n
 s1:∀i y,st.getD i none=some y→∃k,k<n∧D k∧tn p aa n k=y∧dt.getD i 0=(k:Int)
 s2:∀k,k<n→D k→∀t,(tn p aa n k).getLast?=some t→st.getD t.1.toNat none=some (tn p aa n k)∧dt.getD t.1.toNat 0=(k:Int)
 z1:∀i,i<n→st.getD i none=none→D i→tn p aa n i=[]→dt.getD i 0= -1
 z2:∀i,i<n→st.getD i none=none→¬(D i∧tn p aa n i=[])→dt.getD i 0= -2
theorem EI.congr {p:Int}{aa:List Cl}{n:Nat}{D D':Nat→Prop}{st:List (Option (List Tm))}{dt:List Int}(h:EI p aa n D st dt)(e:∀k,k<n→(D' k↔D k)):EI p aa n D' st dt:=
 ⟨h.M9,h.ldt,fun i y hy=>by obtain⟨k,k1,k2,k3⟩:=h.s1 i y hy;exact⟨k,k1,(e k k1).2 k2,k3⟩,fun k hk hD=>h.s2 k hk ((e k hk).1 hD),fun i hi hy hD=>h.z1 i hi hy ((e i hi).1 hD),fun i hi hy hD=>h.z2 i hi hy fun q=>hD ⟨(e i hi).2 q.1,q.2⟩⟩
theorem EI.skip {p:Int}{aa:List Cl}{n:Nat}{D D':Nat→Prop}{st:List (Option (List Tm))}{dt:List Int}(h:EI p aa n D st dt){j:Nat}(e:∀k,k<n→(D' k↔D k∨k=j))(hr:tn p aa n j=[]){y:List Tm}(hy:st.getD j none=some y):EI p aa n D' st dt:=by
 refine⟨h.M9,h.ldt,fun i y hy=> ?_,fun k hk hD t ht=> ?_,fun i hi hs hD=> ?_,fun i hi hs hD=> ?_⟩
 ·obtain⟨k,k1,k2,k3⟩:=h.s1 i y hy;exact⟨k,k1,(e k k1).2 (.inl k2),k3⟩
 ·rcases (e k hk).1 hD with g |rfl
  ·exact h.s2 k hk g t ht
  ·rw[hr] at ht;cases ht
 ·rcases (e i hi).1 hD with g |rfl
  ·exact h.z1 i hi hs g
  ·rw[hy] at hs;cases hs
 ·exact h.z2 i hi hs fun q=>hD ⟨(e i hi).2 (.inl q.1),q.2⟩
theorem EI.step {p:Int}{aa:List Cl}{n:Nat}{D D':Nat→Prop}{st:List (Option (List Tm))}{dt:List Int}(h:EI p aa n D st dt){j:Nat}(hj:j<n)(hn:¬D j)(e:∀k,k<n→(D' k↔D k∨k=j))(hv:Vc p n (tn p aa n j))(hrow:∀t,(tn p aa n j).getLast?=some t→0≤t.1∧t.1<n)(aiA:∀k,k<n→∀t,(tn p aa n k).getLast?=some t→0≤t.1∧t.1<n)(hf:∀t,(tn p aa n j).getLast?=some t→st.getD t.1.toNat none=none)(hs:st.getD j none=none){a b:Int}:
  EI p aa n D' (W3 (st,(dt,a)) j (tn p aa n j,b)).1 (W3 (st,(dt,a)) j (tn p aa n j,b)).2.1∧(W3 (st,(dt,a)) j (tn p aa n j,b)).2.2=b:=by
 have ls:=h.M9.len;have ld:=h.ldt;cases hl:(tn p aa n j).getLast? with
 |some t=>
  have hft:=hf t hl;have ht:=hrow t hl;have e1:W3 (st,(dt,a)) j (tn p aa n j,b)=(st.set t.1.toNat (some (tn p aa n j)),(dt.set t.1.toNat (j:Int),b)):=by unfold W3;simp only[hl]
  rw[e1];refine⟨⟨⟨by simp[ls],fun i y hy=> ?_⟩,by simp[ld],fun i y hy=> ?_,fun k hk hD u hu=> ?_,fun i hi hy hD hr=> ?_,fun i hi hy hD=> ?_⟩,rfl⟩
  ·simp only[O5] at hy;split at hy
   ·rename_i g;obtain rfl:tn p aa n j=y:=by simpa using hy
    exact⟨hv,t,hl,by omega⟩
   ·exact h.M9.ok i y hy
  ·simp only[O5] at hy;split at hy
   ·rename_i g;obtain rfl:tn p aa n j=y:=by simpa using hy
    refine⟨j,hj,(e j hj).2 (.inr rfl),rfl, ?_⟩;simp only[db];rw[if_pos ⟨g.1,by omega⟩]
   ·rename_i g;obtain⟨k,k1,k2,k3,k4⟩:=h.s1 i y hy;refine⟨k,k1,(e k k1).2 (.inl k2),k3, ?_⟩;simp only[db];rw[if_neg (by rw[ld, ←ls];exact g),k4]
  ·by_cases q:k=j
   ·subst q;rw[hl] at hu;obtain rfl:t=u:=by simpa using hu
    simp only[O5,db];rw[if_pos ⟨trivial,by omega⟩,if_pos ⟨trivial,by omega⟩];exact⟨rfl,rfl⟩
   ·obtain⟨g1,g2⟩:=h.s2 k hk (((e k hk).1 hD).resolve_right q) u hu;have hne:t.1.toNat≠u.1.toNat:=fun e=>by rw[←e,hft] at g1;cases g1
    simp only[O5,db];rw[if_neg fun q=>hne q.1,if_neg fun q=>hne q.1];exact⟨g1,g2⟩
  ·simp only[O5] at hy;split at hy
   ·cases hy
   ·rename_i g;have hij:i≠j:=fun q=>by subst q;rw[hr] at hl;cases hl
    simp only[db];rw[if_neg (by rw[ld, ←ls];exact g)];exact h.z1 i hi hy (((e i hi).1 hD).resolve_right hij) hr
  ·simp only[O5] at hy;split at hy
   ·cases hy
   ·rename_i g;simp only[db];rw[if_neg (by rw[ld, ←ls];exact g)];exact h.z2 i hi hy fun q=>hD ⟨(e i hi).2 (.inl q.1),q.2⟩
 |none=>
  have hx:tn p aa n j=[]:=List.getLast?_eq_none_iff.1 hl;have h2:dt.getD j 0= -2:=h.z2 j hj hs fun q=>hn q.1;have e1:W3 (st,(dt,a)) j (tn p aa n j,b)=(st,(dt.set j (-1),b)):=by unfold W3;simp only[hl,if_pos h2]
  rw[e1];refine⟨⟨h.M9,by simp[ld],fun i y hy=> ?_,fun k hk hD u hu=> ?_,fun i hi hy hD hr=> ?_,fun i hi hy hD=> ?_⟩,rfl⟩
  ·obtain⟨k,k1,k2,k3,k4⟩:=h.s1 i y hy;refine⟨k,k1,(e k k1).2 (.inl k2),k3, ?_⟩;simp only[db];rw[if_neg (fun q=>by simp only at hy;rw[←q.1,hs] at hy;cases hy),k4]
  ·by_cases q:k=j
   ·subst q;rw[hl] at hu;cases hu
   ·obtain⟨g1,g2⟩:=h.s2 k hk (((e k hk).1 hD).resolve_right q) u hu;refine⟨g1, ?_⟩;simp only[db];rw[if_neg (fun q=>by rw[←q.1,hs] at g1;cases g1),g2]
  ·simp only[db];by_cases q:i=j
   ·subst q;rw[if_pos ⟨rfl,by omega⟩]
   ·rw[if_neg (fun g=>q g.1.symm)];exact h.z1 i hi hy (((e i hi).1 hD).resolve_right q) hr
  ·have q:i≠j:=fun q=>hD ⟨(e i hi).2 (.inr q),by rw[q];exact hx⟩;simp only[db];rw[if_neg (fun g=>q g.1.symm)];exact h.z2 i hi hy fun g=>hD ⟨(e i hi).2 (.inl g.1),g.2⟩
noncomputable def gA (P:Nat→Prop)(g:Nat→Int)(k:Nat):Int:= @ite _ (P k) (Classical.propDecidable _) (g k) 0
theorem Wk {P:Nat→Prop}{g:Nat→Int}{k:Nat}(h:P k):gA P g k=g k:=by unfold gA;rw[if_pos h]
theorem Sa {P:Nat→Prop}{g:Nat→Int}{k:Nat}(h:¬P k):gA P g k=0:=by unfold gA;rw[if_neg h]
theorem LJ {P Q:Nat→Prop}{g:Nat→Int}{k:Nat}(h:P k↔Q k):gA P g k=gA Q g k:=by
 by_cases e:Q k
 ·rw[Wk e,Wk (h.2 e)]
 ·rw[Sa e,Sa fun q=>e (h.1 q)]
theorem aev {P Q:Nat→Prop}{g:Nat→Int}{n j:Nat}(hj:j<n)(hn:¬P j)(e:∀k,k<n→(Q k↔P k∨k=j)):sm (gA Q g) n=sm (gA P g) n+g j:=by
 have:sm (gA Q g) n=sm (fun k=>gA P g k+(if k=j then g j else 0)) n:=bq fun k hk=>by
  by_cases q:k=j
  ·subst q;rw[Wk ((e k hk).2 (.inr rfl)),Sa hn,if_pos rfl];omega
  ·rw[if_neg q,LJ (Q:=P) ((e k hk).trans ⟨fun h=>h.resolve_right q, .inl⟩)];omega
 rw[this,BJ,Ly (a:=j) hj fun i hi hne=>if_neg hne,if_pos rfl]
theorem an3 {P:Nat→Prop}{g:Nat→Int}{k:Nat}{b:Int}(h0:0≤g k)(h1:g k≤b):0≤gA P g k∧gA P g k≤b:=by
 by_cases e:P k
 ·rw[Wk e];omega
 ·rw[Sa e];omega
def Kd (p:Int)(aa:List Cl)(n k:Nat):Prop:=∃y,(k8 p aa n n).1.getD k none=some y
structure TI (p:Int) (aa:List Cl) (n:Nat) (d:Int) (j:Nat) (st:List (Option (List Tm))) (dt:List Int) (a c:Int):Prop where
 e:EI p aa n (Dn aa d j) st dt
 a0:0≤a
 a1:a≤sm (gA (Dn aa d j) (Yv p aa n)) n
 c:c=sm (gA (fun k=>Dn aa d j k∧Kd p aa n k) fun _=>1) n
theorem TI.ar8 {p:Int}{aa:List Cl}{n:Nat}{d:Int}{j:Nat}{st:List (Option (List Tm))}{dt:List Int}{a c:Int}(h:TI p aa n d j st dt a c)(hn:n≤1024):a≤2000000:=by
 have h1:=QM (g:=fun k=>gA (Dn aa d j) (Yv p aa n) k) (b:=1024) (fun k=>an3 CQ.1 (by have:=(CQ (p:=p) (aa:=aa) (n:=n) (j:=k)).2;omega)) n;have:=h.a1;have h2:(n:Int)*1024≤2000000:=by omega
 exact Int.le_trans this (Int.le_trans h1.2 h2)
theorem TI.ar9 {p:Int}{aa:List Cl}{n:Nat}{d:Int}{j:Nat}{st:List (Option (List Tm))}{dt:List Int}{a c:Int}(h:TI p aa n d j st dt a c)(hn:n≤1024):0≤c∧c≤2000000:=by have h1:=QM (g:=gA (fun k=>Dn aa d j k∧Kd p aa n k) fun _=>1) (b:=1) (fun k=>an3 (by omega) (by omega)) n;rw[h.c];omega
theorem Dn.succ {aa:List Cl}{d:Int}{j:Nat}(hd:(aa.getD j iF).1=d)(k:Nat):Dn aa d (j+1) k↔Dn aa d j k∨k=j:=by
 unfold Dn;constructor
 ·rintro (h | ⟨h1,h2⟩)
  ·exact .inl (.inl h)
  ·by_cases e:k=j
   ·exact .inr e
   ·exact .inl (.inr ⟨h1,by omega⟩)
 ·rintro ((h | ⟨h1,h2⟩) |rfl)
  ·exact .inl h
  ·exact .inr ⟨h1,by omega⟩
  ·exact .inr ⟨hd,by omega⟩
theorem Dn.other {aa:List Cl}{d:Int}{j:Nat}(hd:(aa.getD j iF).1≠d)(k:Nat):Dn aa d (j+1) k↔Dn aa d j k:=by
 unfold Dn;constructor
 ·rintro (h | ⟨h1,h2⟩)
  ·exact .inl h
  ·by_cases e:k=j
   ·subst e;exact absurd h1 hd
   ·exact .inr ⟨h1,by omega⟩
 ·rintro (h | ⟨h1,h2⟩)
  ·exact .inl h
  ·exact .inr ⟨h1,by omega⟩
theorem Dn.down {aa:List Cl}{d:Int}{n k:Nat}(hk:k<n):Dn aa (d - 1) 0 k↔Dn aa d n k:=by unfold Dn;omega
theorem TI.congr {p:Int}{aa:List Cl}{n:Nat}{d d':Int}{j j':Nat}{st:List (Option (List Tm))}{dt:List Int}{a c:Int}(h:TI p aa n d j st dt a c)(e:∀k,k<n→(Dn aa d' j' k↔Dn aa d j k)):TI p aa n d' j' st dt a c:=
 ⟨h.e.congr e,h.a0,by rw[bq fun k hk=>LJ (e k hk)];exact h.a1,by rw[h.c];exact bq fun k hk=>LJ (and_congr_left' (e k hk).symm)⟩
theorem aew {j out:Nat}{s:StT}{z:List Tm×Int}{e:Bool}{p w2:Int}{aa:List Cl}{cO:V4}{rest:List (Int×Unit)}:
  R9 j z.1 out s.1 s.2.1 e p aa z.2 w2 cO rest=ai out out (W3 s j z).1 (W3 s j z).2.1 e p aa (W3 s j z).2.2 w2 cO rest:=by
 unfold R9 W3;cases z.1.getLast? with
 |some t=>rfl
 |none=>simp only;split<;>rfl
section
variable {p:Int}{aa:List Cl}{n:Nat}(hp:Pr p)(hv:∀j,j<n→Vc p j (ck aa j))(hd:∀j,j<n→Hom aa ((aa.getD j iF).1 - 1) (ck aa j))(Uy:∀j,j<n→Kd p aa n j→tn p aa n j=[])
include hp hv hd Uy
theorem ang (hn:n≤1024)(hc:aa.length=n){d:Int}{j:Nat}(hj:j<n)(hdj:(aa.getD j iF).1=d){st:List (Option (List Tm))}{dt:List Int}{a c:Int}(h:TI p aa n d j st dt a c){cO:V4}{rest:List (Int×Unit)}:
  ∃st' dt' a' c',TI p aa n d (j+1) st' dt' a' c'∧ai 0 0 st dt true p aa a c cO (((j:Int),())::rest)=ai 0 0 st' dt' true p aa a' c' cO rest:=by
 have hF:=ug hp hv n (Nat.le_refl n);have hI:=ug hp hv j (by omega);have ha:=h.ar8 hn;have ha0:=h.a0;have hcc:=h.ar9 hn;have hnj:=Dn.self hdj;have Yx:=Dn.succ hdj;have hom:=ane hp hv hd;have hrow:∀k,k<n→∀t,(tn p aa n k).getLast?=some t→0≤t.1∧t.1<n:=fun k hk t ht=>anf hp hv hk ht
 -- what is stored is stored at C7 end
 have up:∀i y,st.getD i none=some y→(k8 p aa n n).1.getD i none=some y:=fun i y hy=>by obtain⟨k,k1,k2,k3,k4⟩:=h.e.s1 i y hy;obtain⟨_,u,u1,u2⟩:=h.e.M9.ok i y hy;rw[←k3] at u1;have:=(hF.s2 k k1 u u1).1;rw[u2,Int.toNat_natCast,k3] at this;exact this
 rw[ana hp hn hc h.e.M9 h.e.ldt hj ((hv j hj).mono (by omega)) ha0 (by omega) ⟨hcc.1,by omega⟩];cases hs:st.getD j none with
 |some y=>
  have hK:Kd p aa n j:=⟨y,up j y hs⟩
  have hr:=Uy j hj hK;refine⟨st,dt,a,c+1,⟨h.e.skip (fun k _=>Yx k) hr hs,ha0, ?_, ?_⟩,rfl⟩
  ·rw[aev hj hnj fun k _=>Yx k];have:=h.a1;have:=(CQ (p:=p) (aa:=aa) (n:=n) (j:=j)).1;omega
  ·rw[aev (P:=fun k=>Dn aa d j k∧Kd p aa n k) hj (fun q=>hnj q.1) fun k hk=> ?_, ←h.c];rw[Yx k];constructor
   ·rintro ⟨q1 |q1,q2⟩
    ·exact .inl ⟨q1,q2⟩
    ·exact .inr q1
   ·rintro (q |rfl)
    ·exact⟨.inl q.1,q.2⟩
    ·exact⟨.inr rfl,hK⟩
 |none=>
  have hnK:¬Kd p aa n j:=fun⟨y,hy⟩=>by obtain⟨k,k1,k2,k3⟩:=hF.s1 j y hy;have g:=hom k k1;rw[k2] at g;have g2:=QO hF.M9 hy g;obtain⟨_,u,u1,u2⟩:=hF.M9.ok j y hy;rw[←k2] at u1;have:=(h.e.s2 k k1 (.inl (by omega)) u u1).1;rw[u2,Int.toNat_natCast,hs] at this;cases this
  have agree:∀i,(aa.getD i iF).1=(aa.getD j iF).1 - 1→(k8 p aa n j).1.getD i none=st.getD i none:=fun i hi=>by
   cases hy:(k8 p aa n j).1.getD i none with
   |some y=>obtain⟨k,k1,k2,_⟩:=hI.s1 i y hy;obtain⟨_,u,u1,u2⟩:=hI.M9.ok i y hy;have g:=hom k (by omega);rw[k2] at g;have g2:=QO hI.M9 hy g;rw[←k2] at u1;have:=(h.e.s2 k (by omega) (.inr ⟨by omega,k1⟩) u u1).1;rw[u2,Int.toNat_natCast,k2] at this;exact this.symm
   |none=>
    cases hy2:st.getD i none with
    |none=>rfl
    |some y=>
     obtain⟨k,k1,k2,k3,_⟩:=h.e.s1 i y hy2;obtain⟨_,u,u1,u2⟩:=h.e.M9.ok i y hy2;have g:=hom k k1;rw[k3] at g;have g2:=QO h.e.M9 hy2 g;have hkj:k<j:=by
      rcases k2 with q | ⟨_,q⟩
      ·omega
      ·exact q
     rw[←k3] at u1;have:=(hI.s2 k hkj u u1).1;rw[u2,Int.toNat_natCast,hy] at this;cases this
  have hsame:=(Pd (by have:=hp.1;omega) hI.M9 agree (fun i y hy hi=>by
   obtain⟨k,k1,k2,_⟩:=hI.s1 i y hy;have g:=hom k (by omega);rw[k2] at g;have:=QO hI.M9 hy g;rw[←hi,this];exact g) n (ck aa j) a ((hv j hj).mono (by omega)) (hd j hj)).1
  rw[←hsame,(HI n (ck aa j) a).1];simp only;have TV:∀t,(tn p aa n j).getLast?=some t→st.getD t.1.toNat none=none:=fun t ht=>by rw[←agree t.1.toNat (hom j hj t (b9 ht))];exact ah7 hp hv hj ht
  obtain⟨q1,q2⟩:=h.e.step hj hnj (fun k _=>Yx k) ((hF.c j hj).1.1.mono (by omega)) (hrow j hj) hrow TV hs (a:=a) (b:=a+Yv p aa n j);have WG:=aew (j:=j) (out:=0) (s:=(st,(dt,a))) (z:=(tn p aa n j,a+Yv p aa n j)) (e:=true) (p:=p) (w2:=c) (aa:=aa) (cO:=cO) (rest:=rest);simp only at WG;have had:=CQ (p:=p) (aa:=aa) (n:=n) (j:=j);refine⟨_,_,_,c,⟨q1, ?_, ?_, ?_⟩,WG⟩
  ·rw[q2];omega
  ·rw[q2,aev hj hnj fun k _=>Yx k];have:=h.a1;omega
  ·rw[h.c];refine bq fun k hk=>LJ ?_;rw[Yx k];constructor
   ·rintro ⟨g1,g2⟩;exact⟨.inl g1,g2⟩
   ·rintro ⟨g1 |g1,g2⟩
    ·exact⟨g1,g2⟩
    ·subst g1;exact absurd g2 hnK
theorem Sb (hn:n≤1024)(hc:aa.length=n){d:Int}{cO:V4}{tail:List (Int×Unit)}:∀(m j:Nat) (st:List (Option (List Tm))) (dt:List Int) (a c:Int),m+j=n→TI p aa n d j st dt a c→
  ∃st' dt' a' c',TI p aa n d n st' dt' a' c'∧ai 0 0 st dt true p aa a c cO (W4 aa d j m++tail)=ai 0 0 st' dt' true p aa a' c' cO tail
 |0,j,st,dt,a,c,hj,h=>by
  obtain rfl:j=n:=by omega
  exact⟨st,dt,a,c,h,by rw[W4,List.nil_append]⟩
 |m+1,j,st,dt,a,c,hj,h=>by
  rw[W4];by_cases e:(aa.getD j iF).1=d
  ·rw[if_pos e,List.cons_append];obtain⟨st',dt',a',c',h1,h2⟩:=ang hp hv hd Uy hn hc (show j<n by omega) e h (cO:=cO) (rest:=W4 aa d (j+1) m++tail);rw[h2];exact Sb hn hc m (j+1) st' dt' a' c' (by omega) h1
  ·rw[if_neg e];exact Sb hn hc m (j+1) st dt a c (by omega) (h.congr fun k _=>Dn.other e k)
theorem acK (hn:n≤1024)(hc:aa.length=n){cO:V4}:∀(k:Nat) (st:List (Option (List Tm))) (dt:List Int) (a c:Int),TI p aa n ((k:Int) - 1) 0 st dt a c→
  ∃st' dt' a' c',TI p aa n (-1) 0 st' dt' a' c'∧ai 0 0 st dt true p aa a c cO (dtr aa n k)=bl 0 (n:Int) 0 dt' a' c' cO
 |0,st,dt,a,c,h=>by refine⟨st,dt,a,c,h, ?_⟩;have:=h.e.ldt;rw[dtr,ly,iN,this]
 |k+1,st,dt,a,c,h=>by
  have e1:((k+1:Nat):Int) - 1=(k:Int):=by omega
  rw[e1] at h;obtain⟨st',dt',a',c',h1,h2⟩:=Sb hp hv hd Uy hn hc (d:=(k:Int)) (cO:=cO) (tail:=dtr aa n k) n 0 st dt a c (by omega) h;rw[dtr,h2];exact acK hn hc k st' dt' a' c' (h1.congr fun q hq=>Dn.down hq)
omit hp hv hd Uy in
theorem TI.zero (Wv:∀k,k<n→(aa.getD k iF).1≤4):TI p aa n 4 0 (List.replicate n none) (List.replicate n (-2)) 0 0:=by
 have hno:∀k,k<n→¬Dn aa 4 0 k:=fun k hk q=>by have:=Wv k hk;rcases q with q | ⟨_,q⟩<;>omega
 refine⟨⟨⟨by simp,fun i y h=> ?_⟩,by simp,fun i y h=> ?_,fun k hk q=>absurd q (hno k hk),fun i hi _ q=>absurd q (hno i hi),fun i hi _ _=>by simp[List.getD,hi]⟩,Int.le_refl _, ?_, ?_⟩
 ·rw[QL] at h;cases h
 ·rw[QL] at h;cases h
 ·rw[CM fun k hk=>Sa (hno k hk)];exact Int.le_refl _
 ·rw[CM fun k hk=>Sa fun q=>hno k hk q.1]
omit hd Uy in
theorem TI.last (Wv:∀k,k<n→0≤(aa.getD k iF).1){st:List (Option (List Tm))}{dt:List Int}{a c:Int}(h:TI p aa n (-1) 0 st dt a c):dt=(k8 p aa n n).2.1∧0≤a∧a≤sm (Yv p aa n) n∧c=sm (gA (Kd p aa n) fun _=>1) n:=by
 have hall:∀k,k<n→Dn aa (-1) 0 k:=fun k hk=> .inl (by have:=Wv k hk;omega);have hF:=ug hp hv n (Nat.le_refl n);refine⟨ah6 (by rw[h.e.ldt,hF.ldt]) fun i hi=> ?_,h.a0, ?_, ?_⟩
 ·rw[h.e.ldt] at hi;cases hs:st.getD i none with
  |some y=>obtain⟨k,k1,k2,k3,k4⟩:=h.e.s1 i y hs;obtain⟨_,u,u1,u2⟩:=h.e.M9.ok i y hs;rw[←k3] at u1;have:=(hF.s2 k k1 u u1).2;rw[u2,Int.toNat_natCast] at this;rw[k4,this]
  |none=>
   have hs2:(k8 p aa n n).1.getD i none=none:=by
    cases hy:(k8 p aa n n).1.getD i none with
    |none=>rfl
    |some y=>obtain⟨k,k1,k2,_⟩:=hF.s1 i y hy;obtain⟨_,u,u1,u2⟩:=hF.M9.ok i y hy;rw[←k2] at u1;have:=(h.e.s2 k k1 (hall k k1) u u1).1;rw[u2,Int.toNat_natCast,hs] at this;cases this
   rw[hF.z i hi hs2];by_cases e:tn p aa n i=[]
   ·rw[if_pos ⟨hi,e⟩];exact h.e.z1 i hi hs (hall i hi) e
   ·rw[if_neg fun q=>e q.2];exact h.e.z2 i hi hs fun q=>e q.2
 ·have:=h.a1;rw[bq fun k hk=>Wk (hall k hk)] at this;exact this
 ·rw[h.c];exact bq fun k hk=>LJ ⟨fun q=>q.2,fun q=>⟨hall k hk,q⟩⟩
theorem aex (hn:n≤1024)(hc:aa.length=n)(Wv:∀k,k<n→0≤(aa.getD k iF).1∧(aa.getD k iF).1≤4):∃a c out hp',b7 (p,(aa,())) []=some ((out,(a,(c,()))),hp')∧ag hp' out=some (EM (k8 p aa n n).2.1 0 n)∧0≤a∧a≤sm (Yv p aa n) n∧c=sm (gA (Kd p aa n) fun _=>1) n:=by obtain⟨st,dt,a,c,h,d2⟩:=acK hp hv hd Uy hn hc (cO:=[]) 5 _ _ 0 0 (TI.zero fun k hk=>(Wv k hk).2);obtain⟨f1,f2,f3,f4⟩:=h.last hp hv fun k hk=>(Wv k hk).1;have d1:=h.e.ldt;have e0:((0:Nat):Int)=0:=rfl;obtain⟨out',hp',g1,g2⟩:=aeu (dt:=dt) (by omega) (w:=a) (w2:=c) dt.length 0 0 [] [] (by omega) rfl (by simp);rw[e0,d1] at g1;rw[List.nil_append,d1,f1] at g2;have hf:=anb (st:=List.replicate n none) (p:=p) hn hc (cO:=[]) n 0 (by omega);rw[e0,List.replicate_zero,List.nil_append] at hf;refine⟨a,c,out',hp', ?_,g2,f2,f3,f4⟩;rw[vN,pC];simp only;rw[hc,CD (by omega) (by omega) (by omega),CD (by omega) (by omega) (by omega),Int.toNat_natCast,List.length_replicate,hf,d2,g1]
end
theorem anh (x:Nat)(hp:V4):slices_SortFunc x hp=XW x hp:=(congrFun (congrFun (D5 0) x) hp).symm
theorem fD {α:Type}{xs:List (Option (List α))}{n:Nat}{l l':List α}(h:ag xs n=some l)(h0:n≠0):ag (ef xs n l') n=some l':=by
 cases n with
 |zero=>exact absurd rfl h0
 |succ m=>
  have hlt:m<xs.length:=by
   rcases Nat.lt_or_ge m xs.length with h1 |h1
   ·exact h1
   ·have h':(match xs[m]? with |some o=>o |none=>none)=some l:=h;rw[List.getElem?_eq_none h1] at h';cases h'
  show (match (xs.set m (some l'))[m]? with |some o=>o |none=>none)=some l';rw[List.getElem?_set_self hlt]
theorem ald {L:List Tm}{n i:Nat}(h:i<L.length):(((L.take i).map (J1 n))++L.drop i).set i (J1 n (L.getD i wM))=(L.take (i+1)).map (J1 n)++L.drop (i+1):=by
 have hl:((L.take i).map (J1 n)).length=i:=by simp;omega
 rw[List.set_append_right _ _ (by omega),hl,Nat.sub_self,fE wM h,List.set_cons_zero,Yh h,List.map_append,List.append_assoc];rfl
theorem ale {L:List Tm}{n i:Nat}(h:i<L.length):(((L.take i).map (J1 n))++L.drop i).getD i wM=L.getD i wM:=by
 have hl:((L.take i).map (J1 n)).length=i:=by simp;omega
 simp only[List.getD];rw[List.getElem?_append_right (by omega),hl,Nat.sub_self];simp
theorem acL {L:List Tm}{n i:Nat}(h:i≤L.length):(((L.take i).map (J1 n))++L.drop i).length=L.length:=by simp;omega
theorem aey {n:Nat}(hn:n≤1024){L:List Tm}(hr:∀t∈L,0≤t.1∧t.1<n∧ -1≤t.2.1∧t.2.1<n)(hL:L.length≤1024){out:Nat}{t4 t5 w w2:Int}:
  ∀(q i:Nat) (cO:V4),q+i=L.length→ag cO out=some (((L.take i).map (J1 n))++L.drop i)→
  ∃hp',ag hp' out=some (L.map (J1 n))∧bY out ((n:Int) - 1) out L.length i t4 t5 w w2 cO=bY out ((n:Int) - 1) out L.length L.length t4 t5 w w2 hp':=by
 intro q;induction q with
 |zero=>
  intro i cO hi h;obtain rfl:i=L.length:=by omega
  refine⟨cO, ?_,rfl⟩;rw[h,List.take_length,List.drop_length,List.append_nil]
 |succ q ih=>
  intro i cO hi h;have hi':i<L.length:=by omega
  have h0:out≠0:=fun e=>by subst e;have h':some ([]:List Tm)=some (((L.take i).map (J1 n))++L.drop i):=h;have h2:=congrArg List.length (Option.some.inj h');rw[acL (by omega)] at h2;simp at h2;omega
  have hlen:=acL (L:=L) (n:=n) (i:=i) (by omega);have hg:=ale (L:=L) (n:=n) hi';have ht:=hr _ (az (d:=wM) hi');have alf:∀v:Tm,ag (ef cO out ((((L.take i).map (J1 n))++L.drop i).set i v)) out=some ((((L.take i).map (J1 n))++L.drop i).set i v):=fun v=>fD h h0;have hfs:=ald (L:=L) (n:=n) hi';generalize hrow:((L.take i).map (J1 n))++L.drop i=row at*
  generalize hte:L.getD i wM=t at*
  have w1:IntKind.wrap .i64 ((n:Int) - 1 - t.2.1)=(n:Int) - 1 - t.2.1:=i64_in _ (by omega);have w3:IntKind.wrap .i64 ((n:Int) - 1 - t.1)=(n:Int) - 1 - t.1:=i64_in _ (by omega);rw[pz,lQ,au (by omega),h,bS,eQ wM (by omega),bS,Int.toNat_natCast,NN wM (by omega),hg,bS,eQ wM (by omega),bS,NN wM (by omega),w1,w3];by_cases e:t.2.1<0
  ·have hf:J1 n t=((n:Int) - 1 - t.1,(-1,())):=by unfold J1;rw[if_pos e]
   rw[hf] at hfs;rw[au e,alf,bS,eQ wM (by rw[List.length_set];omega),bS,NN wM (by rw[List.length_set];omega),List.set_set,aU (by omega),hfs];exact ih (i+1) _ (by omega) (fD (alf _) h0)
  ·have hf:J1 n t=((n:Int) - 1 - t.2.1,((n:Int) - 1 - t.1,())):=by unfold J1;rw[if_neg e]
   rw[hf] at hfs;rw[al e,aU (by omega)];exact ih (i+1) _ (by omega) (by rw[alf,hfs])
theorem apM {L:List Tm}(hL:L.length≤1024){out:Nat}{last t4 t5 w w2:Int}{cO:V4}{M:List Tm}(hM:M.length=L.length)(hg:ag cO out=some M)(hok:okT M=true):
  bY out last out L.length L.length t4 t5 w w2 cO=some (um M,((w,(w2,())),0)):=by
 rw[pz,lQ,al (by omega),anh];cases out with
 |zero=>
  have e:M=[]:=by have h':some ([]:List Tm)=some M:=hg;exact(Option.some.inj h').symm
  subst e;have e2:XW 0 cO=some ((),cO):=rfl;rw[e2,bS,IZ (hp:=cO) rfl hg];rfl
 |succ m=>
  have e2:XW (m+1) cO=some ((),ef cO (m+1) (um M)):=by show ((ag cO (m+1)).bind fun l=>bif Nat.ble l.length 1000000&&okT l then some ((),ef cO (m+1) (um l)) else none)=_;rw[hg,bS,hok,Nat.ble_eq_true_of_le (show M.length≤1000000 by omega)];rfl
  rw[e2,bS,IZ (hp:=ef cO (m+1) (um M)) rfl (fD hg (by omega))];rfl
theorem alg {p:Int}(hp:Pr p)(a b:Int)(h:p ∣ a*b):p ∣ a∨p ∣ b:=by
 by_cases ha:p ∣ a
 ·exact .inl ha
 ·right;have hp1:=hp.1;have h1:1≤a % p∧a % p<p:=by have g1:=Int.emod_nonneg a (show p≠0 by omega);have g2:a % p≠0:=fun e=>ha (Int.dvd_of_emod_eq_zero e);have g3:=Int.emod_lt_of_pos a (show 0<p by omega);omega
  have h2:=OX hp h1;rw[Int.emod_def (a % p*iv p (a % p))] at h2;have h3:=Int.emod_def a p;obtain⟨c,hc⟩:=h;generalize a % p*iv p (a % p) / p=q at h2;generalize iv p (a % p)=i at h2;generalize a % p=r at h2 h3;generalize a / p=s at h3;subst h3;exact⟨i*c - i*s*b - q*b,by grind⟩
theorem acM {p:Int}{aa:List Cl}{n:Nat}(hp:Pr p)(hv:∀j,j<n→Vc p j (ck aa j))(hcy:∀j,j<n→∀r,r<n→p ∣ sm (fun i=>mx aa i j*mx aa r i) n){R':Nat→Nat→Int}(h':Wq p n (sW n (mx aa)) R'):∀j,j<n→Kd p aa n j→tn p aa n j=[]:=by
 intro j hj hK;obtain⟨y,hy⟩:=hK;have hF:=ug hp hv n (Nat.le_refl n);obtain⟨k,k1,k2,k3⟩:=hF.s1 j y hy;obtain⟨vy,u,u1,u2⟩:=hF.M9.ok j y hy;obtain⟨_,w,w1,w2,w3⟩:=(hF.c k k1).1;rw[k2] at w3;have hz:∀r,r<n→p ∣ sm (fun l=>cf y (l:Int)*mx aa r l) n:=fun r hr=>by
  have e1:p ∣ sm (fun l=>cf y (l:Int)*mx aa r l) n - sm (fun l=>sm (fun q=>w q*mx aa l q) n*mx aa r l) n:=Mj fun l hl=>by rw[←Int.sub_mul];exact Int.dvd_trans (w3 l hl) (Int.dvd_mul_right _ _)
  have e2:sm (fun l=>sm (fun q=>w q*mx aa l q) n*mx aa r l) n=sm (fun q=>w q*sm (fun l=>mx aa l q*mx aa r l) n) n:=by
   have:sm (fun l=>sm (fun q=>w q*mx aa l q) n*mx aa r l) n=sm (fun l=>sm (fun q=>w q*(mx aa l q*mx aa r l)) n) n:=bq fun l hl=>by
    rw[Int.mul_comm, ←uf];exact bq fun q hq=>by
     generalize mx aa l q=A;generalize mx aa r l=B
     grind
   rw[this,QA (fun l q=>w q*(mx aa l q*mx aa r l)) n n];exact bq fun q hq=>uf _ _ _
  rw[e2] at e1;exact(eG e1).2 (Mi fun q hq=>Int.dvd_trans (hcy q hq r hr) (Int.dvd_mul_left _ _))
 have hno:∀i,¬Bh p n (RS p aa n) j i:=fun i=>by
  refine akB (alg hp) (Wj hF) h' hj (a:=fun l=>cf y (l:Int)) ?_ (fun k hk _=> ?_) hz
  ·have h1:=Gz vy.s u (b9 u1);have h2:=vy.r u (b9 u1);rw[u2] at h1;rw[h1];intro e;have:=Int.le_of_dvd (by omega) e;omega
  ·rw[T5 vy.s u1 (by omega)];exact Int.dvd_zero p
 cases hl:(tn p aa n j).getLast? with
 |none=>exact List.getLast?_eq_none_iff.1 hl
 |some t=>exact absurd (QN ((hF.c j hj).1.1.mono (by omega)) hl (j:=j)) (hno _)
theorem afN {p:Int}{aa:List Cl}(h0:gr p aa=0):∀j,j<aa.length→∀r,r<aa.length→p ∣ sm (fun i=>mx aa i j*mx aa r i) aa.length:=by obtain⟨hp,hl,hg⟩:=pe h0;intro j hj r hr;have hp1:=hp.1;exact Int.dvd_of_emod_eq_zero ((Mh (by omega) (fun i hi=>(hg i hi).bd.mono (by omega)) hj).1 (hg j hj).cyc r hr)
theorem Yy {p:Int}{aa:List Cl}(h0:gr p aa=0){R':Nat→Nat→Int}(h':Wq p aa.length (sW aa.length (mx aa)) R'):
  ∃a c out hp',b7 (p,(aa,())) []=some ((out,(a,(c,()))),hp')∧ag hp' out=some (EM (k8 p aa aa.length aa.length).2.1 0 aa.length)∧0≤a∧a≤sm (Yv p aa aa.length) aa.length∧c=sm (gA (Kd p aa aa.length) fun _=>1) aa.length:=by
 obtain⟨hp,hl,hg⟩:=pe h0;have hv:∀j,j<aa.length→Vc p j (ck aa j):=fun j hj=>(hg j hj).bd;exact aex hp hv (fun j hj t ht=>(hg j hj).amJ t ht) (acM hp hv (afN h0) h') hl rfl fun k hk=>(hg k hk).dim
theorem apN {p:Int}{aa:List Cl}(hs:Sz aa)(h0:gr p aa=0){R':Nat→Nat→Int}(h':Wq p aa.length (sW aa.length (mx aa)) R'):
  ∃a c,kN (p,(aa,()))=some (EM (k8 p aa aa.length aa.length).2.1 0 aa.length,((a,(c,())),(0:Int)))∧0≤a∧a≤sm (Yv p aa aa.length) aa.length∧c=sm (gA (Kd p aa aa.length) fun _=>1) aa.length:=by
 have key:∀{hp:V4} {n:Nat} {l:List Tm} {w:Int×Int×Unit} {e:Int},jU (p,(aa,())) []=some ((n,(w,e)),hp)→ag hp n=some l→kN (p,(aa,()))=some (l,((w.1,(w.2.1,())),e)):=by intro hp n l w e h1 h2;rw[KC,F7];simp only;rw[h1,bS];simp only;rw[IZ (hp:=hp) rfl h2];rfl
 obtain⟨a,c,out,hp',d3,d4,d5⟩:=Yy h0 h';refine⟨a,c, ?_,d5⟩;have hw:jU (p,(aa,())) []=some ((out,((a,(c,())),(0:Int))),hp'):=by rw[Ff,zq];simp only;rw[Ez hs,bS,h0,pd rfl,d3,bS]
 exact key hw d4
theorem Z7 {n:Nat}{t:Tm}(h:0≤t.1∧t.1<n∧ -1≤t.2.1∧t.2.1<n):J1 n (J1 n t)=t:=by
 obtain⟨a,b,u⟩:=t;simp only at h;unfold J1;simp only;by_cases e:b<0
 ·rw[if_pos e];simp only;rw[if_pos (by omega)];obtain rfl:b= -1:=by omega
  simp only[Prod.mk.injEq,and_true];omega
 ·rw[if_neg e];simp only;rw[if_neg (by omega)];simp only[Prod.mk.injEq,and_true];omega
theorem ani {n:Nat}{D E:List Int}(h:∀t∈EM D 0 n,J1 n t∈EM E 0 n)(hr:∀t∈EM D 0 n,0≤t.1∧t.1<n∧ -1≤t.2.1∧t.2.1<n):Ds ((EM D 0 n).map (J1 n)):=by
 refine List.pairwise_map.2 (List.Pairwise.imp_of_mem ?_ (Z6 (dt:=D) (m:=n) (i:=0)));intro a b ha hb hab e;have e1:=h a ha;have e2:=h b hb;have e3:J1 n a=J1 n b:=by
  obtain⟨i,_,_,q1,_⟩:=FX.1 e1;obtain⟨k,_,_,q2,_⟩:=FX.1 e2;rw[q1,q2] at e;simp only at e;have:i=k:=by omega
  subst this;rw[q1,q2]
 have e4:=Z7 (hr a ha);rw[e3,Z7 (hr b hb)] at e4;rw[e4] at hab;omega
theorem apO {p:Int}{aa:List Cl}(hs:Sz aa)(h0:gr p aa=0)(h20:am7 aa):
  ∃a c,fx (p,(aa,()))=some (EM (k8 p aa aa.length aa.length).2.1 0 aa.length,((a,(c,())),(0:Int)))∧c=sm (gA (Kd p (ju aa) aa.length) fun _=>1) aa.length:=by
 obtain⟨hp,hl,hg⟩:=pe h0;have d0:=acI h0 h20;have hdl:=R8 aa;obtain⟨a1,a2⟩:=anc h0;obtain⟨b1,b2⟩:=acJ h0 h20;have c1:Wq p aa.length (sW aa.length (sW aa.length (mx aa))) (RS p aa aa.length):=a1.congr fun r k hr hk=>by unfold sW;rw[show aa.length - 1 - (aa.length - 1 - r)=r by omega,show aa.length - 1 - (aa.length - 1 - k)=k by omega]
 have c2:Wq p (ju aa).length (sW (ju aa).length (mx (ju aa))) (RS p aa aa.length):=by rw[hdl];refine a1.congr fun r k hr hk=> ?_;unfold sW;rw[Mk (by omega) (by omega),show aa.length - 1 - (aa.length - 1 - r)=r by omega,show aa.length - 1 - (aa.length - 1 - k)=k by omega]
 obtain⟨a,c,out,hp',d3,d4,_,_,d5⟩:=Yy d0 c2;rw[hdl] at d4 d5;have f1:∀t∈EM (k8 p aa aa.length aa.length).2.1 0 aa.length,J1 aa.length t∈EM (k8 p (ju aa) aa.length aa.length).2.1 0 aa.length:=fun t ht=>afL a1 b1 a2 b2 ht;have f2:∀t∈EM (k8 p (ju aa) aa.length aa.length).2.1 0 aa.length,J1 aa.length t∈EM (k8 p aa aa.length aa.length).2.1 0 aa.length:=fun t ht=>afL b1 c1 b2 a2 ht;have Pe:∀t∈EM (k8 p aa aa.length aa.length).2.1 0 aa.length,0≤t.1∧t.1<aa.length∧ -1≤t.2.1∧t.2.1<aa.length:=fun t ht=>a2.range ht;have hr:∀t∈EM (k8 p (ju aa) aa.length aa.length).2.1 0 aa.length,0≤t.1∧t.1<aa.length∧ -1≤t.2.1∧t.2.1<aa.length:=fun t ht=>b2.range ht;have hds:=ani f2 hr;have hso:um ((EM (k8 p (ju aa) aa.length aa.length).2.1 0 aa.length).map (J1 aa.length))=EM (k8 p aa aa.length aa.length).2.1 0 aa.length:=by
  refine adE (VF hds) Z6 fun x=> ?_;rw[Mb];constructor
  ·intro hx;obtain⟨u,hu,rfl⟩:=List.mem_map.1 hx;exact f2 u hu
  ·intro hx;exact List.mem_map.2 ⟨J1 aa.length x,f1 x hx,Z7 (Pe x hx)⟩
 have hL:(EM (k8 p (ju aa) aa.length aa.length).2.1 0 aa.length).length≤1024:=by have:=O6 (k8 p (ju aa) aa.length aa.length).2.1 aa.length 0;omega
 have TV:∀t∈(EM (k8 p (ju aa) aa.length aa.length).2.1 0 aa.length).map (J1 aa.length),(0≤t.1∧t.1<aa.length)∧ -2<t.2.1:=fun t ht=>by obtain⟨u,hu,rfl⟩:=List.mem_map.1 ht;exact ah5 (hr u hu)
 have e0:((0:Nat):Int)=0:=rfl;obtain⟨hp2,k1,k2⟩:=aey (n:=aa.length) (by omega) hr hL (out:=out) (t4:=0) (t5:=0) (w:=a) (w2:=c) (EM (k8 p (ju aa) aa.length aa.length).2.1 0 aa.length).length 0 hp' (by omega) (by rw[List.take_zero,List.map_nil,List.nil_append,List.drop_zero];exact d4);rw[e0] at k2;have hok:okT ((EM (k8 p (ju aa) aa.length aa.length).2.1 0 aa.length).map (J1 aa.length))=true:=Zo.2 ⟨fun t ht=>by have:=(TV t ht).1;omega,hds⟩;refine⟨a,c, ?_,d5⟩;rw[BP,u6];simp only;rw[W0 hs,if_pos h0,bS,pd rfl,d3,bS,d4,bS,i64_in ((aa.length:Int) - 1) (by omega),k2, ←hso];exact apM hL (by simp) k1 hok
theorem RI.apP {p:Int}{w N r c:Nat}{m m' M:Nat→Nat→Int}{pos:Nat→Nat}(h:RI p w N r c m M pos)(e:∀s q,s<N→q<w→m' s q=m s q):RI p w N r c m' M pos:=by
 refine⟨h.le,h.cl,fun k hk=>(h.a k hk).congr fun q hq=> ?_,fun s hs=>Aq.trans (fun k hk=>(Aq.gen (V:=m') hk).congr fun q hq=> ?_) (h.b s hs),h.e,h.z⟩
 ·rw[e k q hk hq,Int.sub_self];exact Int.dvd_zero p
 ·rw[e k q hk hq,Int.sub_self];exact Int.dvd_zero p
def fb (p:Int)(aa:List Cl)(n i k:Nat):Bool:=match (tn p aa n k).getLast? with
 |some t=>decide ((i:Int)≤t.1)
 |none=>false
def cnt (p:Int)(aa:List Cl)(n i j:Nat):Nat:=((List.range j).filter (fb p aa n i)).length
section
variable {p:Int}{aa:List Cl}{n:Nat}
theorem Sc {i k:Nat}(hx:Vc p n (tn p aa n k)):fb p aa n i k=true↔∃s,i≤s∧Bh p n (RS p aa n) k s:=by
 unfold fb;cases hl:(tn p aa n k).getLast? with
 |none=>refine⟨fun e=>by simp at e,fun⟨s,_,h⟩=> ?_⟩;obtain⟨t,ht,_⟩:=(As hx).1 h;rw[hl] at ht;cases ht
 |some t=>
  have h2:=Sr.mem hx.s t (b9 hl);simp only[decide_eq_true_eq];constructor
  ·intro e;exact⟨t.1.toNat,by omega,(As hx).2 ⟨t,hl,by omega⟩⟩
  ·rintro ⟨s,hs,h⟩;obtain⟨u,hu,e⟩:=(As hx).1 h;rw[hl] at hu;obtain rfl:t=u:=by simpa using hu
   omega
theorem Wl {i j:Nat}:cnt p aa n i (j+1)=cnt p aa n i j+if fb p aa n i j=true then 1 else 0:=by
 unfold cnt;rw[List.range_succ,List.filter_append,List.length_append];cases e:fb p aa n i j with
 |true=>rw[List.filter_cons,e];rfl
 |false=>rw[List.filter_cons,e];rfl
theorem Wm {i:Nat}:∀j,cnt p aa n i j≤j
 |0=>Nat.le_refl 0
 |j+1=>by have:=Wm (i:=i) j;rw[Wl];split<;>omega
def lwb (p:Int)(aa:List Cl)(n k i:Nat):Bool:=fb p aa n i k&& !fb p aa n (i+1) k
theorem afO {i k:Nat}(hx:Vc p n (tn p aa n k)):lwb p aa n k i=true↔Bh p n (RS p aa n) k i:=by
 unfold lwb;rw[Bool.and_eq_true,Bool.not_eq_true',Sc hx];constructor
 ·rintro ⟨⟨s,hs,h⟩,g⟩;have:s=i:=by
   by_cases e:s=i
   ·exact e
   ·have:fb p aa n (i+1) k=true:=(Sc hx).2 ⟨s,by omega,h⟩;rw[g] at this;cases this
  rw[←this];exact h
 ·intro h;refine⟨⟨i,Nat.le_refl i,h⟩, ?_⟩;cases e:fb p aa n (i+1) k with
  |false=>rfl
  |true=>obtain⟨s,hs,g⟩:=(Sc hx).1 e;have:=h.uniq g;omega
theorem alh {i j:Nat}(hx:Vc p n (tn p aa n j)):((cnt p aa n i (j+1):Int) - cnt p aa n (i+1) (j+1) - cnt p aa n i j+cnt p aa n (i+1) j)=if lwb p aa n j i=true then 1 else 0:=by
 rw[Wl,Wl];unfold lwb;cases e:fb p aa n i j with
 |true=>
  cases e2:fb p aa n (i+1) j with
  |true=>simp;omega
  |false=>simp;omega
 |false=>
  cases e2:fb p aa n (i+1) j with
  |true=>obtain⟨s,hs,g⟩:=(Sc hx).1 e2;have:=(Sc hx).2 ⟨s,(by omega:i≤s),g⟩;rw[e] at this;cases this
  |false=>simp;omega
theorem anj (hn:n≤1000)(hp:Pr p)(hc:aa.length=n)(hv:∀j,j<n→Vc p n (ck aa j)){i j:Nat}(hi:i≤n)(hj:j<n):∀(d k:Nat) (m:List (List Int)),d+k=j+1→m.length=k→(∀s,s<k→(m.getD s []).length=n - i∧Rs p (m.getD s [])∧∀q,q<n - i→(m.getD s []).getD q 0=mx aa (i+q) s)→
  ∃m':List (List Int),gB i j k m p aa=(jY p m').bind (fun r=>some r)∧m'.length=j+1∧∀s,s<j+1→(m'.getD s []).length=n - i∧Rs p (m'.getD s [])∧∀q,q<n - i→(m'.getD s []).getD q 0=mx aa (i+q) s:=by
 intro d;induction d with
 |zero=>
  intro k m hd hl h;obtain rfl:k=j+1:=by omega
  refine⟨m, ?_,hl,h⟩;rw[yS,sO,Qp (by omega)]
 |succ d ih=>
  intro k m hd hl h;have hk:k<n:=by omega
  have hp1:=hp.1;obtain⟨v,d1,d2,d3⟩:=V1 (p:=p) (by omega) (hv k hk);have dl:=d2.len;have e1:cut v (i:Int) (v.length:Int)=v.drop i:=by unfold cut;rw[Int.toNat_natCast,Int.toNat_natCast,List.take_of_length_le (Nat.le_refl _)]
  have gd:∀q,(v.drop i).getD q 0=v.getD (i+q) 0:=fun q=>by simp[List.getD,List.getElem?_drop]
  obtain⟨m',g1,g2⟩:=ih (k+1) (m++[v.drop i]) (by omega) (by simp[hl]) fun s hs=>by
   by_cases e:s=k
   ·subst e;have:(m++[v.drop i]).getD s []=v.drop i:=by simp[List.getD,List.getElem?_append_right (show m.length≤s by omega),hl]
    rw[this];refine⟨by rw[List.length_drop,dl],fun q=>by rw[gd];exact d3 (by omega) _,fun q hq=>by rw[gd,d2.at_ _ (by omega)]⟩
   ·have:(m++[v.drop i]).getD s []=m.getD s []:=by simp only[List.getD];rw[List.getElem?_append_left (by omega)]
    rw[this];exact h s (by omega)
  refine⟨m', ?_,g2⟩;rw[←g1,yS,sO,Ll (by omega),eQ iF (by omega),hc, ←gX,d1,bS,Gy (by omega) (by omega) (by omega),e1];simp only;rw[iG (by omega) (by omega),aU (by omega)]
theorem ank (hn:n≤1000)(hp:Pr p)(hc:aa.length=n)(hv:∀j,j<n→Vc p j (ck aa j)){i j:Nat}(hi:i≤n)(hj:j<n):qx (p,(aa,())) i j=some ((cnt p aa n i (j+1):Nat):Int):=by
 have hp1:=hp.1;obtain⟨m',g1,g2,g3⟩:=anj hn hp hc (fun k hk=>(hv k hk).mono (by omega)) hi hj (j+1) 0 [] (by omega) rfl (fun s hs=>by omega);obtain⟨k,c',M',pos',f1,f2,f3⟩:=ahF (w:=n - i) hp (m:=m') (by omega) (by omega) (by omega) fun s hs=>⟨(g3 s (by omega)).1,(g3 s (by omega)).2.1⟩
 have hI:=ug hp hv n (Nat.le_refl n);rw[g2] at f2 f3;have:=aht (fun e=>by have:=Int.le_of_dvd (by omega) e;omega) (alg hp) (Wj hI) (i:=i) (N:=j+1) (by omega) (f2.apP (m':=fun k q=>mx aa (i+q) k) fun s q hs hq=>((g3 s hs).2.2 q hq).symm) f3 (f:=fb p aa n i) fun k hk=>Sc ((hI.c k hk).1.1.mono (by omega));have e0:((0:Nat):Int)=0:=rfl;rw[OF,Fw];rw[e0] at g1;simp only;rw[g1,f1,bS,this];rfl
def rkr (p:Int)(aa:List Cl)(n i:Nat):List Int:=(List.range (n+1)).map fun q=>((cnt p aa n i q:Nat):Int)
def rkp (p:Int)(aa:List Cl)(n i j:Nat):List Int:=(List.range (n+1)).map fun q=>if q≤j then ((cnt p aa n i q:Nat):Int) else 0
theorem LK {i q:Nat}(h:q≤n):(rkr p aa n i).getD q 0=cnt p aa n i q:=by simp[rkr,List.getD,show q<n+1 by omega]
theorem Z8 {i:Nat}:(rkr p aa n i).length=n+1:=by simp[rkr]
theorem FY {i j:Nat}:(rkp p aa n i j).length=n+1:=by simp[rkp]
theorem QP {i j q:Nat}(h:q≤n):(rkp p aa n i j).getD q 0=if q≤j then ((cnt p aa n i q:Nat):Int) else 0:=by simp[rkp,List.getD,show q<n+1 by omega]
theorem ali {i:Nat}:List.replicate (n+1) (0:Int)=rkp p aa n i 0:=LC (by simp[FY]) fun q hq=>by
 rw[List.length_replicate] at hq;rw[QP (by omega)];have:(List.replicate (n+1) (0:Int)).getD q 0=0:=by simp[List.getD,hq]
 rw[this];split
 ·have:q=0:=by omega
  subst this;rfl
 ·rfl
theorem alj {i:Nat}:rkp p aa n i n=rkr p aa n i:=LC (by rw[FY,Z8]) fun q hq=>by rw[FY] at hq;rw[QP (by omega),LK (by omega),if_pos (by omega)]
theorem alk {i j:Nat}(hj:j<n):(rkp p aa n i j).set (j+1) ((cnt p aa n i (j+1):Nat):Int)=rkp p aa n i (j+1):=LC (by rw[List.length_set,FY,FY]) fun q hq=>by
 rw[List.length_set,FY] at hq;rw[kZ,FY,QP (by omega),QP (by omega)];by_cases e:j+1=q
 ·subst e;rw[if_pos ⟨rfl,by omega⟩,if_pos (by omega)]
 ·rw[if_neg (fun h=>e h.1)];by_cases e2:q≤j
  ·rw[if_pos e2,if_pos (by omega)]
  ·rw[if_neg e2,if_neg (by omega)]
theorem asb (hn:n≤1000)(hp:Pr p)(hc:aa.length=n)(hv:∀j,j<n→Vc p j (ck aa j)){i:Nat}(hi:i≤n){r x:Nat}{ar:W1}{rs:List Nat}(hg:ag ar r=some rs)(hl:rs.length=n+1)(hx:rs.getD i 0=x)(hx0:x≠0):∀(d j:Nat) (aj:Hi4),d+j=n→ag aj x=some (rkp p aa n i j)→(∀s,s<i→rs.getD s 0≠x∧ag aj (rs.getD s 0)=some (rkr p aa n s))→
  ∃fT,fG n r i j p aa aj ar=gI n r (i+1:Nat) p aa fT ar∧fT.length=aj.length∧∀s,s<i+1→ag fT (rs.getD s 0)=some (rkr p aa n s):=by
 intro d;induction d with
 |zero=>
  intro j aj hd hg4 h;obtain rfl:j=n:=by omega
  refine⟨aj, ?_,rfl,fun s hs=> ?_⟩
  ·rw[xR,rq,al (by omega),aU (by omega)]
  ·by_cases e:s=i
   ·subst e;rw[hx,hg4,alj]
   ·exact(h s (by omega)).2
 |succ d ih=>
  intro j aj hd hg4 h;have hj:j<n:=by omega
  obtain⟨fT,g1,g2,g3⟩:=ih (j+1) (ef aj x (rkp p aa n i (j+1))) (by omega) (fD hg4 hx0) fun s hs=>⟨(h s hs).1,QF (h s hs).2 (h s hs).1⟩
  refine⟨fT, ?_, ?_,g3⟩
  ·rw[←g1,xR,rq,au (by omega),hg];simp only[bS];rw[LD 0 (by omega),hx,ank hn hp hc hv hi hj,bS,hg4];simp only[bS];rw[aU (by omega),LD 0 (by rw[FY];omega),Int.toNat_natCast,alk hj]
  ·rw[g2];obtain⟨y,rfl⟩:∃y,x=y+1:=⟨x - 1,by omega⟩
   exact List.length_set
theorem asd (hn:n≤1000)(hp:Pr p)(hc:aa.length=n)(hv:∀j,j<n→Vc p j (ck aa j)){r:Nat}(hr:r≠0):∀(d i:Nat) (aj:Hi4) (ar:W1) (rs:List Nat),d+i=n+1→ag ar r=some rs→rs.length=n+1→(∀s,s<i→rs.getD s 0≤aj.length∧ag aj (rs.getD s 0)=some (rkr p aa n s))→
  ∃fT EA rs',gI n r i p aa aj ar=cV n r 0 (List.replicate n 0) (List.replicate n false) fT EA∧ag EA r=some rs'∧rs'.length=n+1∧∀s,s<n+1→ag fT (rs'.getD s 0)=some (rkr p aa n s):=by
 intro d;induction d with
 |zero=>
  intro i aj ar rs hd hg hl h;obtain rfl:i=n+1:=by omega
  refine⟨aj,ar,rs, ?_,hg,hl,fun s hs=>(h s hs).2⟩;rw[wb,qe,Qp (by omega),CD (by omega) (by omega) (by omega),CD (by omega) (by omega) (by omega),Int.toNat_natCast]
 |succ d ih=>
  intro i aj ar rs hd hg hl h;have hi:i≤n:=by omega
  have gs:∀s,(rs.set i (aj.length+1)).getD s 0=if i=s∧i<rs.length then aj.length+1 else rs.getD s 0:=fun s=>kZ 0
  have gi:(rs.set i (aj.length+1)).getD i 0=aj.length+1:=by rw[gs,if_pos ⟨rfl,by omega⟩]
  have go:∀s,s≠i→(rs.set i (aj.length+1)).getD s 0=rs.getD s 0:=fun s hs=>by rw[gs,if_neg (fun q=>hs q.1.symm)]
  obtain⟨fT,f1,f2,f3⟩:=asb hn hp hc hv hi (r:=r) (x:=aj.length+1) (ar:=ef ar r (rs.set i (aj.length+1))) (rs:=rs.set i (aj.length+1)) (fD hg hr) (by rw[List.length_set];exact hl) gi (by omega) n 0 (aj++[some (List.replicate (n+1) 0)]) (by omega) (by rw[gY,ali (p:=p) (aa:=aa) (i:=i)]) fun s hs=>by rw[go s (by omega)];have:=h s hs;exact⟨by omega,pn this.2⟩
  obtain⟨akK,EA,rs',g1,g2⟩:=ih (i+1) fT (ef ar r (rs.set i (aj.length+1))) (rs.set i (aj.length+1)) (by omega) (fD hg hr) (by rw[List.length_set];exact hl) fun s hs=>by
   refine⟨?_,f3 s hs⟩;rw[f2,List.length_append,List.length_singleton];by_cases e:s=i
   ·subst e;rw[gi];omega
   ·rw[go s e];have:=(h s (by omega)).1;omega
  refine⟨akK,EA,rs', ?_,g2⟩;have e0:((0:Nat):Int)=0:=rfl;rw[e0] at f1;rw[←g1, ←f1]
  conv=>lhs;rw[wb,qe,Ll (by omega),aU (by omega),CD (by omega) (by omega) (by omega),hg]
  simp only[bS];rw[LD 0 (by omega),Int.toNat_natCast,Int.toNat_natCast]
theorem ase (hn:n≤1000)(hxx:∀k,k<n→Vc p n (tn p aa n k))(af1:∀i j k,j<n→k<n→Bh p n (RS p aa n) j i→Bh p n (RS p aa n) k i→j=k){r i:Nat}{aj:Hi4}{ar:W1}{rs:List Nat}(hg:ag ar r=some rs)(hl:rs.length=n+1)(h:∀s,s<n+1→ag aj (rs.getD s 0)=some (rkr p aa n s))(hi:i<n):∀(d j:Nat) (eY:List Int) (used:List Bool),d+j=n→eY.length=n→used.length=n→
  ∃rG used',b5 n r i j eY used aj ar=cV n r (i+1:Nat) rG used' aj ar∧rG.length=n∧used'.length=n∧(∀s,s≠i→rG.getD s 0=eY.getD s 0)∧
   (∀k,j≤k→k<n→Bh p n (RS p aa n) k i→rG.getD i 0=(k:Int))∧((∀k,j≤k→k<n→¬Bh p n (RS p aa n) k i)→rG.getD i 0=eY.getD i 0)∧∀k,k<n→(used'.getD k false=true↔used.getD k false=true∨(j≤k∧Bh p n (RS p aa n) k i)):=by
 intro d;induction d with
 |zero=>
  intro j eY used hd h1 h2;obtain rfl:j=n:=by omega
  refine⟨eY,used, ?_,h1,h2,fun _ _=>rfl,fun k h3 h4=>by omega,fun _=>rfl,fun k hk=>⟨.inl,fun q=> ?_⟩⟩
  ·rw[we,qh,al (by omega),aU (by omega)]
  ·rcases q with q |q
   ·exact q
   ·omega
 |succ d ih=>
  intro j eY used hd h1 h2;have hj:j<n:=by omega
  have c1:=Wm (p:=p) (aa:=aa) (n:=n) (i:=i) (j+1);have c2:=Wm (p:=p) (aa:=aa) (n:=n) (i:=i+1) (j+1);have c3:=Wm (p:=p) (aa:=aa) (n:=n) (i:=i) j;have c4:=Wm (p:=p) (aa:=aa) (n:=n) (i:=i+1) j;have asf:=alh (i:=i) (hxx j hj);have a1:=h i (by omega);have a2:=h (i+1) (by omega);have rl1:(rkr p aa n i).length=n+1:=Z8;have rl2:(rkr p aa n (i+1)).length=n+1:=Z8;have st:b5 n r i j eY used aj ar=bif ((((cnt p aa n i (j+1):Int) - cnt p aa n (i+1) (j+1) - cnt p aa n i j+cnt p aa n (i+1) j))==(1:Int)) then b5 n r i (j+1:Nat) (eY.set i j) (used.set j true) aj ar else b5 n r i (j+1:Nat) eY used aj ar:=by
   conv=>lhs;rw[we,qh,au (by omega),hg]
   simp only[bS];rw[aU (i:=j) (by omega),aU (i:=i) (by omega),LD 0 (by omega),a1];simp only[bS];rw[LD 0 (by omega),LD 0 (by omega),a2];simp only[bS];rw[LD 0 (by omega),LD 0 (by omega),a1];simp only[bS];rw[LD 0 (by omega),LD 0 (by omega),a2];simp only[bS];rw[LD 0 (by omega),LD 0 (by omega),LD false (by omega),Int.toNat_natCast,Int.toNat_natCast,LK (by omega),LK (by omega),LK (by omega),LK (by omega)];rw[i64_in ((cnt p aa n i (j+1):Int) - cnt p aa n (i+1) (j+1)) (by omega),i64_in ((cnt p aa n i (j+1):Int) - cnt p aa n (i+1) (j+1) - _) (by omega),i64_in _ (by omega)]
  rw[st,asf];by_cases hw:lwb p aa n j i=true
  ·have hL:=(afO (hxx j hj)).1 hw;rw[if_pos hw,iZ rfl];obtain⟨rG,used',g1,g2,g3,g4,g5,g6,g7⟩:=ih (j+1) (eY.set i j) (used.set j true) (by omega) (by rw[List.length_set];exact h1) (by rw[List.length_set];exact h2);have hno:∀k,j+1≤k→k<n→¬Bh p n (RS p aa n) k i:=fun k h3 h4 h5=>by have:=af1 i j k hj h4 hL h5;omega
   have Z9:=g6 hno;rw[kZ,if_pos ⟨rfl,by omega⟩] at Z9;refine⟨rG,used',g1,g2,g3,fun s hs=> ?_,fun k h3 h4 h5=> ?_,fun q=>absurd hL (q j (Nat.le_refl j) hj),fun k hk=> ?_⟩
   ·rw[g4 s hs,kZ,if_neg (fun q=>hs q.1.symm)]
   ·rw[Z9,af1 i j k hj h4 hL h5]
   ·rw[g7 k hk];have:(used.set j true).getD k false=if j=k∧j<used.length then true else used.getD k false:=kZ false
    rw[this];by_cases e:j=k
    ·subst e;rw[if_pos ⟨rfl,by omega⟩];exact⟨fun _=> .inr ⟨Nat.le_refl j,hL⟩,fun _=> .inl rfl⟩
    ·rw[if_neg (fun q=>e q.1)];constructor
     ·rintro (q |q)
      ·exact .inl q
      ·exact .inr ⟨by omega,q.2⟩
     ·rintro (q |q)
      ·exact .inl q
      ·exact .inr ⟨by omega,q.2⟩
  ·have hL:¬Bh p n (RS p aa n) j i:=fun q=>hw ((afO (hxx j hj)).2 q);rw[if_neg hw,ft (by omega)];obtain⟨rG,used',g1,g2,g3,g4,g5,g6,g7⟩:=ih (j+1) eY used (by omega) h1 h2;refine⟨rG,used',g1,g2,g3,g4,fun k h3 h4 h5=> ?_,fun q=>g6 fun k h3 h4=>q k (by omega) h4,fun k hk=> ?_⟩
   ·by_cases e:k=j
    ·subst e;exact absurd h5 hL
    ·exact g5 k (by omega) h4 h5
   ·rw[g7 k hk];constructor
    ·rintro (q |q)
     ·exact .inl q
     ·exact .inr ⟨by omega,q.2⟩
    ·rintro (q |q)
     ·exact .inl q
     ·by_cases e:k=j
      ·subst e;exact absurd q.2 hL
      ·exact .inr ⟨by omega,q.2⟩
theorem ash (hn:n≤1000)(hxx:∀k,k<n→Vc p n (tn p aa n k))(af1:∀i j k,j<n→k<n→Bh p n (RS p aa n) j i→Bh p n (RS p aa n) k i→j=k){r:Nat}{aj:Hi4}{ar:W1}{rs:List Nat}(hg:ag ar r=some rs)(hl:rs.length=n+1)(h:∀s,s<n+1→ag aj (rs.getD s 0)=some (rkr p aa n s)):∀(d i:Nat) (eY:List Int) (used:List Bool),d+i=n→eY.length=n→used.length=n→
  (∀s,s<i→(∀k,k<n→Bh p n (RS p aa n) k s→eY.getD s 0=(k:Int))∧((∀k,k<n→¬Bh p n (RS p aa n) k s)→eY.getD s 0= -1))→(∀k,k<n→(used.getD k false=true↔∃s,s<i∧Bh p n (RS p aa n) k s))→
  ∃rG used',cV n r i eY used aj ar=dH n 0 rG used' [] aj ar∧rG.length=n∧used'.length=n∧
   (∀s,s<n→(∀k,k<n→Bh p n (RS p aa n) k s→rG.getD s 0=(k:Int))∧((∀k,k<n→¬Bh p n (RS p aa n) k s)→rG.getD s 0= -1))∧(∀k,k<n→(used'.getD k false=true↔∃s,s<n∧Bh p n (RS p aa n) k s)):=by
 intro d;induction d with
 |zero=>
  intro i eY used hd h1 h2 h3 h4;obtain rfl:i=n:=by omega
  refine⟨eY,used, ?_,h1,h2,h3,h4⟩;rw[wc,qg,al (by omega)]
 |succ d ih=>
  intro i eY used hd h1 h2 h3 h4;have hi:i<n:=by omega
  have e0:((0:Nat):Int)=0:=rfl;obtain⟨rG,used',g1,g2,g3,g4,g5,g6,g7⟩:=ase hn hxx af1 hg hl h hi n 0 (eY.set i (-1)) used (by omega) (by rw[List.length_set];exact h1) h2;obtain⟨anl,apQ,f1,f2⟩:=ih (i+1) rG used' (by omega) g2 g3 (fun s hs=>by
   by_cases e:s=i
   ·subst e;refine⟨fun k hk hL=>g5 k (by omega) hk hL,fun q=> ?_⟩;rw[g6 fun k _ hk=>q k hk,kZ,if_pos ⟨rfl,by omega⟩]
   ·rw[g4 s e,kZ,if_neg (fun q=>e q.1.symm)];exact h3 s (by omega)) (fun k hk=>by
   rw[g7 k hk,h4 k hk];constructor
   ·rintro (⟨s,q1,q2⟩ |q)
    ·exact⟨s,by omega,q2⟩
    ·exact⟨i,by omega,q.2⟩
   ·rintro ⟨s,q1,q2⟩;by_cases e:s=i
    ·subst e;exact .inr ⟨by omega,q2⟩
    ·exact .inl ⟨s,by omega,q2⟩)
  refine⟨anl,apQ, ?_,f2⟩;rw[e0] at g1;rw[←f1, ←g1,wc,qg,au (by omega),LD 0 (by omega),Int.toNat_natCast]
theorem alm (hn:n≤1000){aj:Hi4}{ar:W1}{dt eY:List Int}{used:List Bool}(h1:eY.length=n)(h2:used.length=n)(hu:∀i,i<n→(used.getD i false=true↔¬dt.getD i 0> -2))(hd:∀i,i<n→used.getD i false=false→eY.getD i 0=dt.getD i 0):∀(d i:Nat) (out:List Tm),d+i=n→out.length≤i→
  dH n i eY used out aj ar=some (out++EM dt i d)
 |0,i,out,h,ho=>by rw[wg,qi,al (by omega),EM,List.append_nil]
 |d+1,i,out,h,ho=>by
  have hi:i<n:=by omega
  rw[wg,qi,au (by omega),LD false (by omega),EM];cases e:used.getD i false with
  |true=>rw[if_neg ((hu i hi).1 e),Bool.not_true,cF,aU (by omega)];exact alm hn h1 h2 hu hd d (i+1) out (by omega) (by omega)
  |false=>
   have hq:dt.getD i 0> -2:=Classical.byContradiction fun q=>by have:=(hu i hi).2 q;rw[e] at this;cases this
   rw[if_pos hq,Bool.not_false,cT,LD 0 (by omega),iG (by omega) (by omega),hd i hi e,aU (by omega)];simp only;rw[alm hn h1 h2 hu hd d (i+1) _ (by omega) (by rw[List.length_append,List.length_singleton];omega),List.append_assoc];rfl
theorem aln (h0:gr p aa=0){R':Nat→Nat→Int}(h':Wq p aa.length (sW aa.length (mx aa)) R')(hn:aa.length≤1000):oE (p,(aa,()))=some (EM (k8 p aa aa.length aa.length).2.1 0 aa.length):=by
 obtain⟨hp,hl,hg⟩:=pe h0;obtain⟨n,hc⟩:∃n,aa.length=n:=⟨_,rfl⟩
 rw[hc] at h' hn ⊢;have hv:∀j,j<n→Vc p j (ck aa j):=fun j hj=>(hg j (by omega)).bd;have hcy:=afN h0;rw[hc] at hcy;have hI:=ug hp hv n (Nat.le_refl n);have hxx:∀k,k<n→Vc p n (tn p aa n k):=fun k hk=>(hI.c k hk).1.1.mono (by omega);have hR:=Wj hI;have hP:=aes hI;have auD:=acM hp hv hcy h';have e0:((0:Nat):Int)=0:=rfl;obtain⟨fT,EA,rs',g1,g2,g3,g4⟩:=asd hn hp hc hv (r:=1) (by omega) (n+1) 0 [] [some (List.replicate (n+1) 0)] (List.replicate (n+1) 0) (by omega) rfl (by simp) (fun s hs=>by omega);obtain⟨rG,used',f1,f2,f3,f4,f5⟩:=ash hn hxx hR.inj g2 g3 g4 n 0 (List.replicate n 0) (List.replicate n false) (by omega) (by simp) (by simp) (fun s hs=>by omega) (fun k hk=>by
  have:(List.replicate n false).getD k false=false:=by simp[List.getD,hk]
  rw[this];exact⟨fun q=>(by cases q),fun⟨s,q,_⟩=>(by omega)⟩)
 have hu:∀i,i<n→(used'.getD i false=true↔¬(k8 p aa n n).2.1.getD i 0> -2):=fun i hi=>by
  rw[f5 i hi];constructor
  ·rintro ⟨s,hs,hL⟩;rcases Int.lt_or_le ((k8 p aa n n).2.1.getD i 0) 0 with q |q
   ·have:=hP.no i hi q;have h3:(k8 p aa n n).2.1.getD i 0≠ -1:=fun e=>this.2.1 e s hL;omega
   ·exfalso;obtain⟨k,k1,k2,k3⟩:=hP.lo i hi q;have hK:Kd p aa n i:=by obtain⟨t,t1,t2⟩:=(As (hxx k k1)).1 k3;have:=(hI.s2 k k1 t t1).1;rw[t2,Int.toNat_natCast] at this;exact⟨_,this⟩
    have:=auD i hi hK;obtain⟨t,t1,_⟩:=(As (hxx i hi)).1 hL;rw[this] at t1;cases t1
  ·intro q;have h3:=hP.no i hi (by omega);have h4:¬∀r,¬Bh p n (RS p aa n) i r:=fun e=>by have:=h3.2.2 e;omega
   obtain⟨r,hr⟩:=Classical.not_forall.1 h4;have hr:=Classical.not_not.1 hr;exact⟨r,hr.1,hr⟩
 have hd:∀i,i<n→used'.getD i false=false→rG.getD i 0=(k8 p aa n n).2.1.getD i 0:=fun i hi e=>by
  have hq:(k8 p aa n n).2.1.getD i 0> -2:=Classical.byContradiction fun q=>by have:=(hu i hi).2 q;rw[e] at this;cases this
  rcases Int.lt_or_le ((k8 p aa n n).2.1.getD i 0) 0 with q |q
  ·have h3:(k8 p aa n n).2.1.getD i 0= -1:=by omega
   rw[h3];refine(f4 i hi).2 fun k hk hL=> ?_;have:=hP.hi i hi k hk hL;omega
  ·obtain⟨k,k1,k2,k3⟩:=hP.lo i hi q;rw[k2];exact(f4 i hi).1 k k1 k3
 have l4:=alm (aj:=fT) (ar:=EA) hn f2 f3 hu hd n 0 [] (by omega) (by simp);rw[e0] at g1 f1 l4;rw[MH,DZ];simp only;rw[hc,aU (by omega),CD (by omega) (by omega) (by omega),Int.toNat_natCast];rw[List.nil_append] at l4;rw[←l4, ←f1, ←g1];rfl
end
theorem alo {l:HL}(hl:l.length≤1000000000000000000)(hs:∀s∈l,s.length≤1000000000000000000){values turns:List Int}(hv:values.length≤1000000000000000000)(ht:turns.length≤1000000000000000000)(field:Int):
  lP (l,(values,(field,(turns,()))))=some true:=by
 obtain⟨r,r1,r2⟩:=ah0 hl hs hv ht field (most:=16) (by omega);obtain⟨p,aa,u⟩:=r;have h0:gr p aa=0:=r2.2.2;have h20:am7 aa:=fun j hj=>(r2.2.1 _ (az (d:=iF) hj)).1.2;have hz:Sz aa:=r2.sz (by omega);have hlen:aa.length≤16:=r2.1;have e16:((16:Nat):Int)=16:=rfl;rw[e16] at r1;obtain⟨b1,b2⟩:=acJ h0 h20;have s0:=aln h0 b1 (by omega);have s1:=ah3 hz h0;obtain⟨a,c,s2,_⟩:=apN hz h0 b1;obtain⟨a',c',s3,_⟩:=apO hz h0 h20;have hL:=O6 (k8 p aa aa.length aa.length).2.1 aa.length 0;have hsame:=amM (l:=EM (k8 p aa aa.length aa.length).2.1 0 aa.length) (by omega);rw[Gi,vQ,akL,bS,Bool.not_true,cF];simp only;rw[r1,bS];simp only;rw[s0,bS,s1,bS,s2,bS,s3,bS];simp only;rw[iZ rfl,iZ rfl,iZ rfl,hsame,bS,cT,bS,cT,bS]
theorem ah9 (r:aeh.den)(hr:Bnd aeh r):lP r=some true:=by obtain⟨l,v,f,t,u'⟩:=r;obtain⟨h1,h2,h3,h4⟩:=ahH hr;exact alo h1 h2 h3 h4 f
end Go.Proofs.YtofjebmoebhiiaaGreatDoor.Ev
namespace Go.Proofs.YtofjebmoebhiiaaGreatDoor.clearAgree
open Go.ChangeShapes Go.WideShapes Go.ChangeAt Go.RowKit
theorem laidOut:laidOutB Tryz.prog=true:=by kernel_rfl
theorem asi:Go.Abs.lays Tryz.prog Go.Abs.aeh 28=true:=by kernel_rfl
theorem walk (W:World)(h:laidMetH Tryz.prog clearLaid.laid W)(l0:Array Value)(x0:Go.Abs.aeh.den)(w0:Go.Abs.Rel (Go.Abs.wv W) Go.Abs.aeh x0 l0.toList)(b0:Go.Abs.Bnd Go.Abs.aeh x0):Calls Tryz.prog 11 #[.agg l0] W fun e w'=>e= .returned (.bool true)∧Below W.heap.size W w':=
 Go.Abs.aqY (T:=Ev.T) (V0:=fun key u=>∃ad:Addr,key= .cell ad∧W.cell? ad=some u) (w:=W) (v:=11) (xh:=x0) (yh:=true) ((Go.Abs.agQ Ev.afc Ev.amw Ev.aoU) 11 x0 true (Ev.ah9 x0 b0) rfl) rfl HEq.rfl
   (fun ad u ⟨Q3,e,hc⟩=>by cases e;exact hc) (clearLaid.amr h) ⟨_,rfl,Go.Abs.yr.mono (fun key u ⟨ad,e,h⟩=>⟨ad,e,by rw[←e];exact⟨ad,e,h⟩⟩) (Go.Abs.aoR w0)⟩
theorem lifted (os:Os)(started:os.Started)(H:Type)(enc:TypeId×Value→H):
  ReturnsInHanded {} Tryz.checked os 11 .any (fun w args=>(Rows.clearAgreeSpec.pre enc Tryz.prog Tryz.f11 [] false w args∧laidMetH Tryz.prog clearLaid.laid w)∧sizedMet enc Tryz.prog Tryz.f11 (OpenSpec.ofChange Rows.clearAgreeSpec) false w args)
   (Rows.clearAgreeSpec.post enc Tryz.prog Tryz.f11 false true false false):=by
 refine returnsInHanded_of_change_and (C:=Tryz.checked) (X:=fun w _=>laidMetH Tryz.prog clearLaid.laid w) (fun _ _ _ hh h=>h.of_heap hh) clearLaid.own started (by kernel_rfl) Tryz.func11
  (ChangeSpec.witness_shaped (enc:=enc) (C:=Tryz.checked) (os:=os) (X:=fun w _=>laidMetH Tryz.prog clearLaid.laid w) false (World.doorLaid Tryz.prog 19 os) #[.agg #[.slice none 0 0, .slice none 0 0, .int .i64 0, .slice none 0 0]] 8 rfl (World.shaped_of_RefB (by kernel_rfl) (by kernel_rfl)) (by kernel_rfl) (by kernel_rfl) (by kernel_rfl) (clearLaid.ajR os _)) ?_
 intro W base args ds gs before an4 hW _ asj hL _;have hsz:(DataW.weightsEach Tryz.prog (Tryz.f11.params.toList++Rows.clearAgreeSpec.plain.varTypes Tryz.prog) (ds++gs)).all (· ≤reachBytes)=true:=asj;have hval:∀(j:Nat) t v,Tryz.f11.params[j]? =some t→args[j]? =some v→Value.okWide Tryz.prog W .any base t v:=an4;have hW':=hW;obtain⟨p,q,hA0,hV,rfl,hfz,hnd⟩:=hW;have hA:DataW.TrodAll enc Tryz.prog W 0 (fun _=>true) true Tryz.f11.params.toList args.toList ds p:=hA0;rw[Tryz.params11] at hA hval hsz;obtain⟨v0,vs0,d0,ds0,q0_,q0,hargs,rfl,rfl,h0,r0⟩:=trodAll_cons hA;obtain⟨rfl,rfl,rfl⟩:=trodAll_nil r0;obtain rfl:args= #[v0]:=by cases args;simp_all
 obtain⟨rfl,rfl⟩:=trodVars_none hV;obtain⟨l0,rfl,z0⟩:=okWide_struct Tryz.underlying28 (hval 0 28 v0 rfl rfl);have lt0:∀x∈q0_,x.block<W.heap.size:=by obtain⟨m,hm⟩:=h0;exact DataW.trod_lt m _ _ _ hm
 obtain⟨x0,w0,b0⟩:=Go.Abs.aoQ asi h0 hsz (j:=0) rfl rfl;clear hA0 an4 asj hsz;refine(walk W hL l0 x0 w0 b0).mono fun e W' ⟨he,bel⟩=> ?_;subst he;exact⟨_,rfl,_,_,_,[],_,[],hW',trodAll_mk1 (shut_bool Tryz.underlying4 _),(trodAll_cons_mk (Below.trod laidOut (by kernel_rfl) (of_decide_eq_true (by kernel_rfl)) h0 bel lt0) trodAll_mk0),rfl,bel.frame _,fun h=>by cases h⟩
theorem over:Rows.clearAgreeRow.holds Tryz.pinned (OpenSpec.ofChange Rows.clearAgreeSpec):=
 OpenClaim.holds_of_wide 11 Tryz.f11 rfl rfl rfl rfl rfl rfl rfl ⟨rfl,rfl,rfl,rfl,rfl⟩ rfl rfl rfl rfl rfl (by kernel_rfl) Tryz.func11 (by kernel_rfl)
  (of_decide_eq_true (by kernel_rfl)) (by unfold Func.isWrapper;first | (rw[if_pos (by decide+kernel)];kernel_rfl) | (rw[if_neg (by decide+kernel)];exact⟨rfl,rfl⟩))
  (fun os started H enc _=>lifted os started H enc)
theorem auE:Rows.ClearAgreeCardSaid:=
 Claim7.holds_tied_plain_at .later [] [.funcs, .funcs] true (true, "646fabaf2cebbacc9a084797f15646a8f53b2861734cfa52447632ca260b63f2") false
  over (fun _ h=>by cases h) (by kernel_rfl) (fun _ h=>by cases h) clearAgree_row_tie rfl ⟨rfl,rfl⟩ (by kernel_rfl) rfl
  (fun f fn hf hfn=>by
   obtain rfl:f=11:=Option.some.inj ((show Tryz.prog.funcNamed "torus/toruslaw22.ClearAgree" =some 11 by kernel_rfl).symm.trans hf) |>.symm
   obtain rfl:fn=Tryz.f11:=(Option.some.inj (Tryz.func11.symm.trans hfn)).symm;exact⟨by kernel_rfl,fun j t ht=>by
    rw[Tryz.params11] at ht;have hj:j<1:=by
     rcases Nat.lt_or_ge j 1 with h |h
     ·exact h
     ·rw[Array.getElem?_eq_none (by simpa using h)] at ht;cases ht
    match j,hj with
    |0,_=>(obtain rfl:t=28:=by simpa using ht.symm);exact(show Tryz.prog.wantsStandIn 28=false by kernel_rfl)⟩)
  (by kernel_rfl)
end Go.Proofs.YtofjebmoebhiiaaGreatDoor.clearAgree
namespace Go.Proofs.YtofjebmoebhiiaaGreatDoor
theorem clearAgree_holds:Rows.ClearAgreeCardSaid:=clearAgree.auE
#print axioms clearAgree_holds
end Go.Proofs.YtofjebmoebhiiaaGreatDoor
