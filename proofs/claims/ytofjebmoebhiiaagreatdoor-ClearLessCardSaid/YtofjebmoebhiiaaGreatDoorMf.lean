/- YtofjebmoebhiiaaGreatDoorMf: a part of the proof (Dv, Dc, PV ..). No condition. -/
import Derived.Test.YtofjebmoebhiiaaGreatDoorMe
set_option linter.unusedVariables false
set_option linter.unusedSimpArgs false
set_option maxRecDepth 100000
set_option exponentiation.threshold 2000
namespace Go.Abs
abbrev apC:Ty:= .st (.pair (.int .i64) (.pair (.str) (.pair (.ref 2) (.unit))))
end Go.Abs
namespace Go.Proofs.YtofjebmoebhiiaaGreatDoor.Ev
open Go.Abs Go.IntWalk
theorem Ux:∀(v:List Int) (i:Nat) (x:Int),Nk i (v++[x])=Nk i v++(if x=0 then [] else [(((i+v.length:Nat):Int),(x,()))])
 | [],i,x=>by by_cases h:x=0<;>simp[Nk,h]
 |y::r,i,x=>by
  have e:i+1+r.length=i+(r.length+1):=by omega
  by_cases h:y=0
  ·simp only[List.cons_append,Nk,h,ne_eq,not_true_eq_false,if_false,Ux r (i+1) x,List.length_cons,e]
  ·simp only[List.cons_append,Nk,h,ne_eq,not_false_eq_true,if_true,Ux r (i+1) x,List.length_cons,e]
def dvv (aa:List Cl)(n m j:Nat):List Int:=(List.range m).map fun i=>cf (cp aa ((n - 1 - i:Nat):Int)) ((n - 1 - j:Nat):Int)
def Dv (aa:List Cl)(n m j:Nat):List Tm:=Nk 0 (dvv aa n m j)
def pt (l:List Tm)(r:Int)(m:Nat):List Tm:=if cf l r=0 then [] else [((m:Int),(cf l r,()))]
theorem akQ (aa:List Cl)(n m j:Nat):Dv aa n (m+1) j=Dv aa n m j++pt (cp aa ((n - 1 - m:Nat):Int)) ((n - 1 - j:Nat):Int) m:=by unfold Dv dvv pt;rw[List.range_succ,List.map_append,List.map_cons,List.map_nil,Ux];simp
theorem afT (aa:List Cl)(n m j:Nat):(Dv aa n m j).length≤m:=by
 have:=Us (dvv aa n m j) 0;have e:(dvv aa n m j).length=m:=by simp[dvv]
 unfold Dv;omega
theorem anh (r:Int)(m:Nat):pt [] r m=[]:=by unfold pt;rw[Hn,if_pos rfl]
theorem Uy {t:Tm}{r:Int}(h:t.1≠r):∀l:List Tm,cf (l++[t]) r=cf l r
 | []=>by rw[List.nil_append,rN,if_neg h]
 |x::l=>by rw[List.cons_append,rN,rN,Uy h l]
theorem adW {t:Tm}:∀(l:List Tm) (lo:Int),Sr lo (l++[t])→cf l t.1=0∧cf (l++[t]) t.1=t.2.1
 | [],lo,h=>⟨rfl,by rw[List.nil_append,rN,if_pos rfl]⟩
 |x::l,lo,h=>by have h2:Sr x.1 (l++[t]):=h.2;have hlt:=h2.mem t (by simp);rw[List.cons_append,rN,rN,if_neg (by omega),if_neg (by omega)];exact adW l x.1 h2
theorem Sr.left {b:List Tm}:∀{a:List Tm} {lo:Int},Sr lo (a++b)→Sr lo a
 | [],_,_=>trivial
 |_::_,_,h=>⟨h.1,Sr.left h.2⟩
theorem WQ {l:List Tm}{i:Nat}(h:i<l.length):l.take (i+1)=l.take i++[l.getD i th]:=by rw[List.take_add_one,List.getElem?_eq_getElem h];simp[List.getD,h]
theorem akR {l:List Tm}{i:Nat}(hs:Sr (-1) l)(h:i<l.length):cf (l.take i) (l.getD i th).1=0∧cf (l.take (i+1)) (l.getD i th).1=(l.getD i th).2.1∧∀r,(l.getD i th).1≠r→cf (l.take (i+1)) r=cf (l.take i) r:=by
 have h2:Sr (-1) (l.take (i+1)):=by have h3:=hs;rw[←List.take_append_drop (i+1) l] at h3;exact Sr.left h3
 rw[WQ h] at h2 ⊢;obtain⟨h4,h5⟩:=adW _ _ h2;exact⟨h4,h5,fun r hr=>Uy hr _⟩
abbrev CR:=Int×ByteArray×Nat×Unit
abbrev Ie:CR:=(0,(ByteArray.empty,(0,())))
theorem Qv {α:Type}(d:α){l:List α}{k j:Nat}{v:α}:(l.set k v).getD j d=if k=j∧k<l.length then v else l.getD j d:=by
 by_cases h:k=j
 ·subst h;by_cases h2:k<l.length<;>simp[List.getD,h2]
 ·simp[List.getD,h]
theorem KJ {α:Type}(xs:List (Option (List α)))(m:Nat):(dh xs m).length=xs.length:=by cases m<;>simp[dh]
theorem afU {α:Type}{xs:List (Option (List α))}{m r:Nat}{l:List α}{o:Option (List α)}(h:ai xs r=some l)(hne:r=m→r=0):ai (dh xs m++[o]) r=some l:=by
 cases r with
 |zero=>exact h
 |succ r=>
  have avc:r+1≠m:=fun e=>by have:=hne e;omega
  have hx:xs[r]? =some (some l):=by
   have h':(match xs[r]? with |some o=>o |none=>none)=some l:=h;cases hr:xs[r]? with
   |none=>rw[hr] at h';cases h'
   |some o=>rw[hr] at h';simp only at h';rw[h']
  have hlt:r<xs.length:=(List.getElem?_eq_some_iff.1 hx).1;have hk:(dh xs m)[r]? =some (some l):=by
   cases m with
   |zero=>exact hx
   |succ m=>show (xs.set m none)[r]? =_;rw[List.getElem?_set_ne (by omega)];exact hx
  show (match (dh xs m++[o])[r]? with |some o=>o |none=>none)=some l;rw[List.getElem?_append_left (by rw[KJ];exact hlt),hk]
theorem Vt {α:Type}{xs:List (Option (List α))}{m:Nat}{l:List α}:ai (dh xs m++[some l]) ((dh xs m).length+1)=some l:=mh
structure DS (n:Nat) (ds:Nat→Int×ByteArray) (rs:List CR) (hp2:List (Option (List Tm))) (L:Nat→List Tm):Prop where
 len:rs.length=n
 get:∀j,j<n→ai hp2 (rs.getD j Ie).2.2.1=some (L j)
 inj:∀i j,i<n→j<n→i≠j→(rs.getD i Ie).2.2.1=(rs.getD j Ie).2.2.1→(rs.getD i Ie).2.2.1=0
 lt:∀j,j<n→(rs.getD j Ie).2.2.1≤hp2.length
 ds:∀j,j<n→(rs.getD j Ie).1=(ds j).1∧(rs.getD j Ie).2.1=(ds j).2
theorem DS.congr {n:Nat}{ds:Nat→Int×ByteArray}{rs:List CR}{hp2:List (Option (List Tm))}{L L':Nat→List Tm}(h:DS n ds rs hp2 L)(e:∀j,j<n→L j=L' j):DS n ds rs hp2 L':=
 ⟨h.len,fun j hj=>by rw[h.get j hj,e j hj],h.inj,h.lt,h.ds⟩
theorem DS.step {n:Nat}{ds:Nat→Int×ByteArray}{rs:List CR}{hp2:List (Option (List Tm))}{L:Nat→List Tm}(h:DS n ds rs hp2 L){j:Nat}(hj:j<n){x:Tm}:
  DS n ds (rs.set j ((rs.getD j Ie).1,((rs.getD j Ie).2.1,((dh hp2 (rs.getD j Ie).2.2.1).length+1,())))) (dh hp2 (rs.getD j Ie).2.2.1++[some (L j++[x])]) (fun i=>if i=j then L j++[x] else L i):=by
 have hl:=h.len;have nw:∀i,(rs.set j ((rs.getD j Ie).1,((rs.getD j Ie).2.1,((dh hp2 (rs.getD j Ie).2.2.1).length+1,())))).getD i Ie=if i=j then ((rs.getD j Ie).1,((rs.getD j Ie).2.1,((dh hp2 (rs.getD j Ie).2.2.1).length+1,()))) else rs.getD i Ie:=fun i=>by
  rw[Qv];by_cases e:i=j
  ·subst e;rw[if_pos ⟨rfl,by omega⟩,if_pos rfl]
  ·rw[if_neg (fun h=>e h.1.symm),if_neg e]
 refine⟨by rw[List.length_set];exact hl,fun i hi=> ?_,fun a b ha hb hab=> ?_,fun i hi=> ?_,fun i hi=> ?_⟩
 ·rw[nw];by_cases e:i=j
  ·subst e;rw[if_pos rfl];simp only[if_true];exact Vt
  ·rw[if_neg e];simp only[if_neg e];exact afU (h.get i hi) fun h2=>h.inj i j hi hj e h2
 ·rw[nw,nw];by_cases ea:a=j
  ·subst ea;rw[if_pos rfl,if_neg (Ne.symm hab)];intro e2;have:=h.lt b hb;simp only at e2;rw[KJ] at e2;omega
  ·rw[if_neg ea];by_cases eb:b=j
   ·subst eb;rw[if_pos rfl];intro e2;have:=h.lt a ha;simp only at e2;rw[KJ] at e2;omega
   ·rw[if_neg eb];exact h.inj a b ha hb hab
 ·rw[nw,List.length_append,KJ];by_cases e:i=j
  ·rw[if_pos e];simp
  ·rw[if_neg e];exact Nat.le_succ_of_le (h.lt i hi)
 ·rw[nw];by_cases e:i=j
  ·subst e;rw[if_pos rfl];exact h.ds i hi
  ·rw[if_neg e];exact h.ds i hi
theorem akS (ae:List aV)(y:Tm):snap ae tTm (flat tTm y)=some (y,[]):=by obtain⟨a,b,u⟩:=y;rfl
theorem akT {ae:List aV}{hp2:List (Option (List Tm))}(h2:ae[2]? =some ⟨44,tTm,0,true,hp2⟩){r:CR}{l:List Tm}(h:ai hp2 r.2.2.1=some l):snap ae tCl (flat apC r)=some ((r.1,(r.2.1,(l,()))),[]):=by
 obtain⟨a,b,m,u⟩:=r;simp only at h ⊢;have e:snap ae (.slice tTm) [⟨.ref 2,m⟩]=some (l,[]):=by
  unfold snap Gr;simp only;rw[h2];simp only;cases m with
  |zero=>
   have:l=[]:=by simpa [ai] using h.symm
   subst this;rfl
  |succ k=>have hb:Nat.beq (k+1) 0=false:=rfl;rw[hb,h];simp only[cond_false,Option.bind_some];rw[zO (g:=fun x:Tm=>x) l (fun y _=>by rw[akS])];simp
 show snap ae (.pair (.int .i64) (.pair .str (.pair (.slice tTm) .unit))) [⟨.int .i64,a⟩,⟨.str,b⟩,⟨.ref 2,m⟩]=_;unfold snap;rw[show snap ae (.int .i64) [⟨.int .i64,a⟩,⟨.str,b⟩,⟨.ref 2,m⟩]=some (a,[⟨.str,b⟩,⟨.ref 2,m⟩]) from rfl];simp only;unfold snap;rw[show snap ae .str [⟨.str,b⟩,⟨.ref 2,m⟩]=some (b,[⟨.ref 2,m⟩]) from rfl];simp only;unfold snap;rw[e];rfl
theorem acB {ae:List aV}{hp1:List (Option (List CR))}{hp2:List (Option (List Tm))}(h1:ae[1]? =some ⟨42,apC,0,true,hp1⟩)(h2:ae[2]? =some ⟨44,tTm,0,true,hp2⟩){p:Int}{n:Nat}{rs:List CR}(hg:ai hp1 n=some rs){g:CR→List Tm}(hr:∀r∈rs,ai hp2 r.2.2.1=some (g r)):
  typed ae tCh (.rv (.agg [⟨.int .i64,p⟩,⟨.ref 1,n⟩]))=some (p,(rs.map fun r=>(r.1,(r.2.1,(g r,()))),())):=by
 unfold typed;simp only;have e:snap ae (.slice tCl) [⟨.ref 1,n⟩]=some (rs.map fun r=>(r.1,(r.2.1,(g r,()))),[]):=by
  unfold snap Gr;simp only;rw[h1];simp only;cases n with
  |zero=>
   have:rs=[]:=by simpa [ai] using hg.symm
   subst this;rfl
  |succ k=>have hb:Nat.beq (k+1) 0=false:=rfl;rw[hb,hg];simp only[cond_false,Option.bind_some];rw[zO (g:=fun r:CR=>(r.1,(r.2.1,(g r,())))) rs (fun y hy=>by rw[akT h2 (hr y hy)])];simp
 unfold vh;rw[show snap ae (.pair (.int .i64) (.pair (.slice tCl) (.unit))) [⟨.int .i64,p⟩,⟨.ref 1,n⟩]=some ((p,(rs.map fun r=>(r.1,(r.2.1,(g r,()))),())),[]) from by
  unfold snap;rw[show snap ae (.int .i64) [⟨.int .i64,p⟩,⟨.ref 1,n⟩]=some (p,[⟨.ref 1,n⟩]) from rfl];simp only;unfold snap;rw[e];rfl]
theorem Uz {α β:Type}(d:α){xs:List α}{k:Nat}{f:α→Option β}(h:k<xs.length):(xs[k]?).bind f=f (xs.getD k d):=by rw[List.getElem?_eq_getElem h];simp[List.getD,h]
theorem Yx {last k c t4 p:Int}{aa:List Cl}{t5 o:Nat}{hp1:List (Option (List CR))}:im last k c aa t4 t5 p o hp1=iJ last k c aa t4 t5 p o hp1 []:=rfl
theorem Yy {aa:List Cl}{n:Nat}(hc:aa.length=n)(hn:n≤1024){q0:Int}{m:Nat}(hm:m<n)(hv:Vc q0 n (cp aa ((n - 1 - m:Nat):Int))){ds:Nat→Int×ByteArray}{c t4 p:Int}{t5:Nat}:
  ∀(q i:Nat) (rs:List CR) (hp2:List (Option (List Tm))),q+i=(cp aa ((n - 1 - m:Nat):Int)).length→DS n ds rs hp2 (fun j=>Dv aa n m j++pt ((cp aa ((n - 1 - m:Nat):Int)).take i) ((n - 1 - j:Nat):Int) m)→
  ∃rs' afV,DS n ds rs' afV (Dv aa n (m+1))∧fa ((n:Int) - 1) ((n - 1 - m:Nat):Int) (cp aa ((n - 1 - m:Nat):Int)) (cp aa ((n - 1 - m:Nat):Int)).length i c aa t4 t5 p 1 [some rs] hp2=
   iJ ((n:Int) - 1) (((n - 1 - m:Nat):Int) - 1) c aa t4 t5 p 1 [some rs'] afV:=by
 intro q;induction q with
 |zero=>
  intro i rs hp2 hi h;refine⟨rs,hp2,h.congr fun j hj=> ?_, ?_⟩
  ·rw[List.take_of_length_le (by omega),akQ]
  ·rw[vA,rG,aq (by omega),i64_in (((n - 1 - m:Nat):Int) - 1) (by omega)]
 |succ q ih=>
  intro i rs hp2 hi h;generalize hb:cp aa ((n - 1 - m:Nat):Int)=b at*
  have hi':i<b.length:=by omega
  have hlen:b.length≤1024:=by have:=hv.length (by omega);omega
  have ht:b.getD i th∈b:=ay hi';obtain⟨c1,c2,c3⟩:=akR hv.s hi';have r1:=hv.r _ ht;have r0:=Sr.mem hv.s _ ht;generalize hte:b.getD i th=t at*
  obtain⟨j,hj⟩:∃j:Nat,(n:Int) - 1 - t.1=(j:Int):=⟨((n:Int) - 1 - t.1).toNat,by omega⟩
  have hjn:j<n:=by omega
  have ej:((n - 1 - j:Nat):Int)=t.1:=by omega
  have g1:ai [some rs] 1=some rs:=rfl;have ew:IntKind.wrap .i64 ((n:Int) - 1 - t.1)=(j:Int):=by rw[hj,i64_in _ (by omega)]
  have em:IntKind.wrap .i64 ((n:Int) - 1 - ((n - 1 - m:Nat):Int))=(m:Int):=by rw[i64_in _ (by omega)];omega
  have hjl:j<rs.length:=by rw[h.len];exact hjn
  have hg:=h.get j hjn;have st:=h.step hjn (x:=((m:Int),(t.2.1,())));rw[ej,show pt (b.take i) t.1 m=[] from by unfold pt;rw[if_pos c1],List.append_nil] at hg;have hll:=afT aa n m j;have hs1:∀rs',ik [some rs] 1 rs'=[some rs']:=fun _=>rfl;obtain⟨rs',afV,k1,k2⟩:=ih (i+1) _ _ (by omega) (st.congr fun j' hj'=>by
   by_cases e:j'=j
   ·subst e;rw[if_pos rfl,ej,show pt (b.take i) t.1 m=[] from by unfold pt;rw[if_pos c1],show pt (b.take (i+1)) t.1 m=[((m:Int),(t.2.1,()))] from by unfold pt;rw[c2,if_neg (by omega)],List.append_nil]
   ·rw[if_neg e];have:cf (b.take (i+1)) ((n - 1 - j':Nat):Int)=cf (b.take i) ((n - 1 - j':Nat):Int):=c3 _ (by omega);unfold pt;rw[this])
  refine⟨rs',afV,k1, ?_⟩;rw[←k2,vA,rG,ax (by omega),fh th hi',hte,g1,bS,ew,fh Ie hjl,bS,Int.toNat_natCast,Uz Ie hjl,hg,bS,iT (by omega) (by omega),bS,Uz Ie hjl,hs1,em,bM (by omega)];simp only[ej,show pt (b.take i) t.1 m=[] from by unfold pt;rw[if_pos c1],List.append_nil]
theorem Yz {aa:List Cl}{n:Nat}(hc:aa.length=n)(hn:n≤1024){q0:Int}(hv:∀j,j<n→Vc q0 n (cp aa j)){ds:Nat→Int×ByteArray}{c t4 p:Int}{t5:Nat}:
  ∀(q m:Nat) (rs:List CR) (hp2:List (Option (List Tm))),q+m=n→DS n ds rs hp2 (Dv aa n m)→
  iJ ((n:Int) - 1) ((n:Int) - 1 - m) c aa t4 t5 p 1 [some rs] hp2=some ((p,((List.range n).map fun j=>((ds j).1,((ds j).2,(Dv aa n n j,()))),())),0):=by
 intro q;induction q with
 |zero=>
  intro m rs hp2 hq h;obtain rfl:m=n:=by omega
  have hr:∀r∈rs,ai hp2 r.2.2.1=some ((ai hp2 r.2.2.1).getD []):=fun r hr=>by
   obtain⟨j,hj,e⟩:=List.getElem_of_mem hr;have:=h.get j (by rw[←h.len];exact hj);have e2:rs.getD j Ie=r:=by simp[List.getD,hj,e]
   rw[e2] at this;rw[this];rfl
  rw[vB,rH,u9 (by omega),acB (hp1:=[some rs]) (hp2:=hp2) rfl rfl (rs:=rs) rfl hr];have e:(rs.map fun r=>(r.1,(r.2.1,((ai hp2 r.2.2.1).getD [],()))))=((List.range m).map fun j=>((ds j).1,((ds j).2,(Dv aa m m j,())))):=by
   apply List.ext_getElem
   ·simp[h.len]
   ·intro j hj1 hj2;have hj:j<m:=by simpa using hj2
    have hjl:j<rs.length:=by rw[h.len];exact hj
    have e2:rs.getD j Ie=rs[j]:=by simp[List.getD,hjl]
    obtain⟨d1,d2⟩:=h.ds j hj;have d3:=h.get j hj;rw[e2] at d1 d2 d3;simp only[List.getElem_map,List.getElem_range];rw[d1,d2,d3];rfl
  rw[e];rfl
 |succ q ih=>
  intro m rs hp2 hq h;have hm:m<n:=by omega
  have ek:(n:Int) - 1 - m=((n - 1 - m:Nat):Int):=by omega
  have hv':=hv (n - 1 - m) (by omega);obtain⟨rs',afV,k1,k2⟩:=Yy hc hn hm hv' (c:=c) (t4:=t4) (p:=p) (t5:=t5) (cp aa ((n - 1 - m:Nat):Int)).length 0 rs hp2 (by omega) (h.congr fun j hj=>by rw[List.take_zero,anh,List.append_nil]);have e0:((0:Nat):Int)=0:=rfl;rw[e0] at k2;have ek2:((n - 1 - m:Nat):Int) - 1=(n:Int) - 1 - ((m+1:Nat):Int):=by omega
  rw[ek,vB,rH,xz (by omega),fh gq (by omega), ←fV,k2,ek2];exact ih (m+1) rs' afV (by omega) k1
def dsf (aa:List Cl)(n j:Nat):Int×ByteArray:=(4 - (aa.getD (n - 1 - j) gq).1,aiM (mG aa (n - 1 - j)))
def gz (aa:List Cl):List Cl:=(List.range aa.length).map fun j=>((dsf aa aa.length j).1,((dsf aa aa.length j).2,(Dv aa aa.length aa.length j,())))
theorem YA {aa:List Cl}{n:Nat}(hc:aa.length=n)(hn:n≤1024)(hd:∀j,j<n→0≤(aa.getD j gq).1∧(aa.getD j gq).1≤4)(ha:∀j,j<n→wQ (mG aa j)=true∧(mG aa j).size≤1000){c t3 p:Int}{t4:Nat}:
  ∀(q j:Nat) (rs:List CR),q+j=n→rs.length=n→(∀i,i<n→rs.getD i Ie=if i<j then ((dsf aa n i).1,((dsf aa n i).2,(0,()))) else Ie)→
  ∃rs',rs'.length=n∧(∀i,i<n→rs'.getD i Ie=((dsf aa n i).1,((dsf aa n i).2,(0,()))))∧
   jG ((n:Int) - 1) n j c aa t3 t4 p 1 [some rs]=im ((n:Int) - 1) ((n:Int) - 1) c aa t3 t4 p 1 [some rs']:=by
 intro q;induction q with
 |zero=>intro j rs hq hl h;refine⟨rs,hl,fun i hi=>by rw[h i hi,if_pos (by omega)], ?_⟩;rw[xU,tl,aq (by omega)]
 |succ q ih=>
  intro j rs hq hl h;have hj:j<n:=by omega
  have hk:n - 1 - j<n:=by omega
  obtain⟨a1,a2⟩:=ha _ hk;obtain⟨d1,d2⟩:=hd _ hk;obtain⟨m,d,hR⟩:=rM.1 a1;obtain⟨b1,b2,b3⟩:=hR.bounds a2;have ew:IntKind.wrap .i64 ((n:Int) - 1 - (j:Int))=((n - 1 - j:Nat):Int):=by rw[i64_in _ (by omega)];omega
  have g1:∀rs:List CR,ai [some rs] 1=some rs:=fun _=>rfl;have hs1:∀rs rs':List CR,ik [some rs] 1 rs'=[some rs']:=fun _ _=>rfl;have hjl:j<rs.length:=by omega
  have hr:gr (aa.getD (n - 1 - j) gq).2.1=some (WR m d,true):=Qr a2 hR;obtain⟨rs',k1,k2,k3⟩:=ih (j+1) (rs.set j (4 - (aa.getD (n - 1 - j) gq).1,(RT (-m) d,(0,())))) (by omega) (by rw[List.length_set];exact hl) (fun i hi=>by
   rw[Qv];by_cases e:j=i
   ·subst e;rw[if_pos ⟨rfl,hjl⟩,if_pos (by omega)];unfold dsf;rw[adV hR]
   ·rw[if_neg (fun h=>e h.1),h i hi];by_cases e2:i<j
    ·rw[if_pos e2,if_pos (by omega)]
    ·rw[if_neg e2,if_neg (by omega)])
  refine⟨rs',k1,k2, ?_⟩;rw[←k3,xU,tl,ax (by omega),ew,fh gq (by omega),hr,bS];simp only[wM];rw[anf b1,bS];simp only[wM];have hj0:rs.getD j Ie=Ie:=by rw[h j hj,if_neg (by omega)]
  rw[akP (by rw[Yc];exact b1) b2 b3,bS,g1,bS,fh Ie hjl,bS,Int.toNat_natCast,Uz Ie hjl,hs1,g1,bS,fh Ie (by rw[List.length_set];exact hjl),bS,Uz Ie (by rw[List.length_set];exact hjl),Qv,if_pos ⟨rfl,hjl⟩,hs1,List.set_set,hj0,bM (by omega),i64_in (4 - _) (by omega)]
theorem Vu {p:Int}{aa:List Cl}(hs:Sz aa):qD (p,(aa,()))=some (if fi p aa=0 then ((p,(gz aa,())),0) else ((0,([],())),fi p aa)):=by
 rw[LM,GW];simp only;rw[C8 hs,bS];by_cases h0:fi p aa=0
 ·obtain⟨hp,hl,hg⟩:=mf h0;obtain⟨n,hn⟩:∃n,aa.length=n:=⟨_,rfl⟩
  have hv:∀j,j<n→Vc p n (cp aa j):=fun j hj=>(hg j (by omega)).bd.mono (by omega);rw[if_pos h0,nP h0,Ic (by omega) (by omega) (by omega),i64_in ((aa.length:Int) - 1) (by omega),Int.toNat_natCast,hn];have g0:ai (([]:List (Option (List CR)))++[some (List.replicate n Ie)]) (([]:List (Option (List CR))).length+1)=some (List.replicate n Ie):=rfl;have g1:(([]:List (Option (List CR)))++[some (List.replicate n Ie)])=[some (List.replicate n Ie)]:=rfl;rw[g0,bS,List.length_replicate,g1];obtain⟨rs',k1,k2,k3⟩:=YA hn (by omega) (fun j hj=>(hg j (by omega)).PT) (fun j hj=>⟨(hg j (by omega)).at_,hs.at_ j⟩) (c:=p) (t3:=0) (p:=p) (t4:=0) n 0 (List.replicate n Ie) (by omega) (by simp) (fun i hi=>by rw[if_neg (by omega)];simp[List.getD,hi]);have e0:((0:Nat):Int)=0:=rfl;rw[e0] at k3;have e1:(([]:List (Option (List CR))).length+1)=1:=rfl;rw[e1,k3,Yx];have key:=Yz hn (by omega) hv (ds:=dsf aa n) (c:=p) (t4:=0) (p:=p) (t5:=0) n 0 rs' [] (by omega) ⟨k1,fun j hj=>by rw[k2 j hj];rfl,fun i j hi hj _ _=>by rw[k2 i hi],fun j hj=>by rw[k2 j hj];exact Nat.zero_le _,fun j hj=>by rw[k2 j hj];exact⟨rfl,rfl⟩⟩;have e2:(n:Int) - 1 - ((0:Nat):Int)=(n:Int) - 1:=by omega
  rw[e2] at key;rw[key];unfold gz;rw[hn]
 ·rw[if_neg h0,F7 h0,Nq (l:=[]) rfl rfl];rfl
end Go.Proofs.YtofjebmoebhiiaaGreatDoor.Ev
namespace Go.Abs
def E1:List Int→List Int→Int
 |x::a,y::b=>if x<y then -1 else if x>y then 1 else E1 a b
 |_,_=>0
def nJ (a b:List Int):Int:=if a.length≠b.length then (if a.length<b.length then -1 else 1) else E1 a b
theorem WS:∀a:List Int,E1 a a=0
 | []=>rfl
 |x::a=>by rw[E1,if_neg (by omega),if_neg (by omega),WS a]
theorem adX:∀{a b:List Int},a.length=b.length→E1 a b=0→a=b
 | [],[],_,_=>rfl
 | [],_::_,h,_=>by simp at h
 |_::_,[],h,_=>by simp at h
 |x::a,y::b,h,e=>by
  rw[E1] at e;split at e
  ·cases e
  ·split at e
   ·cases e
   ·rename_i h1 h2;rw[adX (by simpa using h) e,show x=y by omega]
theorem aaP:∀(a b:List Int),E1 b a= -(E1 a b)
 | [],[]=>rfl
 | [],_::_=>rfl
 |_::_,[]=>rfl
 |x::a,y::b=>by
  have ih:=aaP a b;by_cases h:x<y
  ·have h1:¬y<x:=by omega
   simp[E1,h,h1]
  ·by_cases h2:y<x
   ·simp[E1,h,h2]
   ·simp[E1,h,h2,ih]
theorem UA:∀(a b:List Int),E1 a b= -1∨E1 a b=0∨E1 a b=1
 | [],[]=> .inr (.inl rfl)
 | [],_::_=> .inr (.inl rfl)
 |_::_,[]=> .inr (.inl rfl)
 |x::a,y::b=>by
  rw[E1];split
  ·exact .inl rfl
  ·split
   ·exact .inr (.inr rfl)
   ·exact UA a b
theorem UB:∀{a b c:List Int},a.length=b.length→b.length=c.length→E1 a b<0→E1 b c<0→E1 a c<0
 | [],[],_,_,_,h,_=>by cases h
 |x::a,y::b,z::c,h1,h2,h3,h4=>by
  rw[E1] at h3 h4 ⊢;by_cases e:x<y
  ·by_cases f:y<z
   ·rw[if_pos (by omega)];decide
   ·rw[if_neg f] at h4;by_cases g:y>z
    ·rw[if_pos g] at h4;cases h4
    ·rw[if_pos (by omega)];decide
  ·rw[if_neg e] at h3;by_cases g:x>y
   ·rw[if_pos g] at h3;cases h3
   ·rw[if_neg g] at h3;by_cases f:y<z
    ·rw[if_pos (by omega)];decide
    ·rw[if_neg f] at h4;by_cases k:y>z
     ·rw[if_pos k] at h4;cases h4
     ·rw[if_neg k] at h4;rw[if_neg (by omega),if_neg (by omega)];exact UB (by simpa using h1) (by simpa using h2) h3 h4
theorem Gg (a:List Int):nJ a a=0:=by unfold nJ;rw[if_neg (by simp),WS]
theorem Hp {a b:List Int}:nJ a b=0↔a=b:=by
 constructor
 ·intro h;unfold nJ at h;split at h
  ·split at h<;>cases h
  ·rename_i h1;exact adX (by omega) h
 ·rintro rfl;exact Gg a
theorem UC (a b:List Int):nJ b a= -(nJ a b):=by
 unfold nJ;by_cases h:a.length=b.length
 ·simp[h,aaP a b]
 ·have h':¬b.length=a.length:=fun e=>h e.symm;by_cases h2:a.length<b.length
  ·have h3:¬b.length<a.length:=by omega
   simp[h,h',h2,h3]
  ·have h3:b.length<a.length:=by omega
   simp[h,h',h2,h3]
theorem acC (a b:List Int):nJ a b= -1∨nJ a b=0∨nJ a b=1:=by
 unfold nJ;split
 ·split
  ·exact .inl rfl
  ·exact .inr (.inr rfl)
 ·exact UA a b
theorem Nr {a b c:List Int}(h1:nJ a b<0)(h2:nJ b c<0):nJ a c<0:=by
 unfold nJ at*
 by_cases e:a.length=b.length
 ·rw[if_neg (by omega)] at h1;by_cases f:b.length=c.length
  ·rw[if_neg (by omega)] at h2 ⊢;exact UB e f h1 h2
  ·rw[if_pos (by omega)] at h2 ⊢;by_cases g:b.length<c.length
   ·rw[if_pos (by omega)];decide
   ·rw[if_neg g] at h2;cases h2
 ·rw[if_pos (by omega)] at h1;by_cases g:a.length<b.length
  ·by_cases f:b.length=c.length
   ·rw[if_pos (by omega),if_pos (by omega)];decide
   ·rw[if_pos (by omega)] at h2;by_cases k:b.length<c.length
    ·rw[if_pos (by omega),if_pos (by omega)];decide
    ·rw[if_neg k] at h2;cases h2
  ·rw[if_neg g] at h1;cases h1
abbrev Asc (l:List (List Int)):Prop:=l.Pairwise fun a b=>nJ a b<0
def zP (s:List Int)(all:List (List Int)):List (List Int)→Bool→List (List Int)→List (List Int)
 | [],d,out=>if d then out else out++[s]
 |x::r,d,out=>if nJ s x=0 then all else if nJ s x<0∧d=false then zP s all r true (out++[s]++[x]) else zP s all r d (out++[x])
def wU (l:List (List Int))(s:List Int):List (List Int):=zP s l l false []
theorem UD {s:List Int}{all:List (List Int)}:∀(l out:List (List Int)),(∀x∈l,nJ s x<0)→zP s all l true out=out++l
 | [],out,_=>by simp[zP]
 |x::r,out,h=>by have:=h x List.mem_cons_self;rw[zP,if_neg (by omega),if_neg (by simp),UD r _ fun y hy=>h y (List.mem_cons_of_mem _ hy)];simp
theorem Ns {s:List Int}:∀(l out:List (List Int)),Asc (out++l)→(∀x∈out,nJ x s<0)→Asc (zP s (out++l) l false out)∧∀t,t∈zP s (out++l) l false out↔t=s∨t∈out++l
 | [],out,h,hs=>by
   have e:zP s (out++[]) [] false out=out++[s]:=by simp[zP]
   rw[e];refine⟨?_,fun t=>by simp[or_comm]⟩;rw[List.append_nil] at h;exact List.pairwise_append.2 ⟨h,by simp,fun a ha b hb=>by simp only[List.mem_singleton] at hb;subst hb;exact hs a ha⟩
 |x::r,out,h,hs=>by
  obtain⟨p1,p2,p3⟩:=List.pairwise_append.1 h;have p4:=List.pairwise_cons.1 p2;rw[zP];by_cases e:nJ s x=0
  ·rw[if_pos e];have:=Hp.1 e;subst this;exact⟨h,fun t=>by simp only[List.mem_append,List.mem_cons];constructor<;>intro h<;>rcases h with h |h<;>simp[h]⟩
  ·rw[if_neg e];by_cases f:nJ s x<0
   ·rw[if_pos ⟨f,rfl⟩,UD _ _ fun y hy=>Nr f (p4.1 y hy)];have eq1:out++[s]++[x]++r=out++(s::x::r):=by simp
    rw[eq1];refine⟨List.pairwise_append.2 ⟨p1,List.pairwise_cons.2 ⟨fun y hy=> ?_,p2⟩,fun a ha b hb=> ?_⟩,fun t=>by simp only[List.mem_append,List.mem_cons];constructor<;>intro h<;>rcases h with h |h |h |h<;>simp[h]⟩
    ·rcases List.mem_cons.1 hy with rfl |hy
     ·exact f
     ·exact Nr f (p4.1 y hy)
    ·rcases List.mem_cons.1 hb with rfl |hb
     ·exact hs a ha
     ·exact p3 a ha b hb
   ·rw[if_neg fun g=>f g.1];have g:nJ x s<0:=by have:=UC s x;rcases acC s x with h1 |h1 |h1<;>omega
    have eq1:out++x::r=(out++[x])++r:=by simp
    have ih:=Ns r (out++[x]) (by rw[←eq1];exact h) (fun y hy=>by
     rcases List.mem_append.1 hy with hy |hy
     ·exact hs y hy
     ·simp only[List.mem_singleton] at hy;subst hy;exact g)
    rw[eq1];exact ih
theorem aaQ {l:List (List Int)}(h:Asc l)(s:List Int):Asc (wU l s):=(Ns l [] h (fun x hx=>by cases hx)).1
theorem aaR {l:List (List Int)}(h:Asc l){s t:List Int}:t∈wU l s↔t=s∨t∈l:=(Ns l [] h (fun x hx=>by cases hx)).2 t
def Aq:List Int→Nat→List Int
 | [],_=>[]
 |x::r,m=>if m % 2=1 then x::Aq r (m / 2) else Aq r (m / 2)
theorem UE:∀(s:List Int) (m:Nat),(Aq s m).Sublist s
 | [],_=>List.Sublist.slnil
 |x::r,m=>by
  rw[Aq];split
  ·exact(UE r _).cons_cons x
  ·exact(UE r _).cons x
theorem YB:∀{t s:List Int},t.Sublist s→∃m,m<2^s.length∧Aq s m=t
 | [],[],_=>⟨0,by simp,rfl⟩
 |t,x::r,h=>by
  have h2:(2:Nat)^(x::r).length=2*2^r.length:=by rw[List.length_cons,Nat.pow_succ,Nat.mul_comm]
  cases h with
  |cons _ h=>obtain⟨m,h1,e⟩:=YB h;refine⟨2*m,by omega, ?_⟩;rw[Aq,if_neg (by omega),show 2*m / 2=m by omega,e]
  |cons_cons _ h=>obtain⟨m,h1,e⟩:=YB h;refine⟨2*m+1,by omega, ?_⟩;rw[Aq,if_pos (by omega),show (2*m+1) / 2=m by omega,e]
theorem aaS:∀{s:List Int} {m:Nat},m<2^s.length→Aq s m=[]→m=0
 | [],m,h,_=>by simp at h;exact h
 |x::r,m,h,e=>by
  have h2:(2:Nat)^(x::r).length=2*2^r.length:=by rw[List.length_cons,Nat.pow_succ,Nat.mul_comm]
  rw[Aq] at e;split at e
  ·cases e
  ·have:=aaS (s:=r) (m:=m / 2) (by omega) e;omega
def tu (s:List Int):Nat→Nat→List (List Int)→List (List Int)
 |0,_,out=>out
 |q+1,m,out=>tu s q (m+1) (wU out (Aq s m))
def jD (s:List Int):List (List Int):=tu s (2^s.length - 1) 1 []
theorem O5 {s:List Int}:∀(q m:Nat) (out:List (List Int)),Asc out→Asc (tu s q m out)∧∀t,t∈tu s q m out↔t∈out∨∃k,m≤k∧k<m+q∧t=Aq s k
 |0,m,out,h=>⟨h,fun t=>by simp only[tu];exact⟨.inl,fun h=>h.elim id fun⟨k,h1,h2,_⟩=>by omega⟩⟩
 |q+1,m,out,h=>by
  obtain⟨h1,h2⟩:=O5 q (m+1) (wU out (Aq s m)) (aaQ h _);refine⟨h1,fun t=> ?_⟩;rw[tu,h2,aaR h];constructor
  ·rintro ((rfl |h) | ⟨k,h3,h4,h5⟩)
   ·exact .inr ⟨m,by omega,by omega,rfl⟩
   ·exact .inl h
   ·exact .inr ⟨k,by omega,by omega,h5⟩
  ·rintro (h | ⟨k,h3,h4,h5⟩)
   ·exact .inl (.inr h)
   ·by_cases e:k=m
    ·subst e;exact .inl (.inl h5)
    ·exact .inr ⟨k,by omega,by omega,h5⟩
theorem UF {s t:List Int}:t∈jD s↔t≠ []∧t.Sublist s:=by
 have h0:0<2^s.length:=Nat.pow_pos (by omega);unfold jD;rw[(O5 _ _ [] List.Pairwise.nil).2];constructor
 ·rintro (h | ⟨k,h1,h2,rfl⟩)
  ·cases h
  ·exact⟨fun e=>by have:=aaS (by omega) e;omega,UE s k⟩
 ·rintro ⟨h1,h2⟩;obtain⟨m,h3,h4⟩:=YB h2;refine .inr ⟨m, ?_,by omega,h4.symm⟩;have:m≠0:=fun e=>by
   subst e;have hz:∀s:List Int,Aq s 0=[]:=fun s=>by
    induction s with
    |nil=>rfl
    |cons x r ih=>rw[Aq,if_neg (by decide)];exact ih
   rw[hz] at h4;exact h1 h4.symm
  omega
def Hq (l:List (List Int)):List (List Int):=l.foldl (fun out s=>(jD s).foldl wU out) []
theorem aaT:∀(f out:List (List Int)),Asc out→Asc (f.foldl wU out)∧∀t,t∈f.foldl wU out↔t∈out∨t∈f
 | [],out,h=>⟨h,fun t=>by simp⟩
 |s::f,out,h=>by
  obtain⟨h1,h2⟩:=aaT f (wU out s) (aaQ h s);refine⟨h1,fun t=> ?_⟩;rw[List.foldl_cons,h2,aaR h,List.mem_cons];constructor
  ·rintro ((h |h) |h)<;>simp[h]
  ·rintro (h |h |h)<;>simp[h]
theorem Kc:∀(l out:List (List Int)),Asc out→Asc (l.foldl (fun out s=>(jD s).foldl wU out) out)∧∀t,t∈l.foldl (fun out s=>(jD s).foldl wU out) out↔t∈out∨∃s∈l,t∈jD s
 | [],out,h=>⟨h,fun t=>by simp⟩
 |s::l,out,h=>by
  obtain⟨h1,h2⟩:=aaT (jD s) out h;obtain⟨h3,h4⟩:=Kc l _ h1;refine⟨h3,fun t=> ?_⟩;rw[List.foldl_cons,h4,h2];constructor
  ·rintro ((h |h) | ⟨u,hu,h⟩)
   ·exact .inl h
   ·exact .inr ⟨s,List.mem_cons_self,h⟩
   ·exact .inr ⟨u,List.mem_cons_of_mem _ hu,h⟩
  ·rintro (h | ⟨u,hu,h⟩)
   ·exact .inl (.inl h)
   ·rcases List.mem_cons.1 hu with rfl |hu
    ·exact .inl (.inr h)
    ·exact .inr ⟨u,hu,h⟩
theorem aaU (l:List (List Int)):Asc (Hq l):=(Kc l [] List.Pairwise.nil).1
theorem Ke {l:List (List Int)}{t:List Int}:t∈Hq l↔t≠ []∧∃s∈l,t.Sublist s:=by
 unfold Hq;rw[(Kc l [] List.Pairwise.nil).2];simp only[List.not_mem_nil,false_or,UF];constructor
 ·rintro ⟨s,h1,h2,h3⟩;exact⟨h2,s,h1,h3⟩
 ·rintro ⟨h2,s,h1,h3⟩;exact⟨s,h1,h2,h3⟩
theorem Hr {s:List Int}{all:List (List Int)}{n:Nat}(ha:all.length≤n):∀(l out:List (List Int)) (d:Bool),out.length+l.length+(if d=true then 0 else 1)≤n+1→(zP s all l d out).length≤n+1
 | [],out,d,h=>by
   rw[zP];cases d with
   |true=>simp at h ⊢;omega
   |false=>simp at h ⊢;omega
 |x::r,out,d,h=>by
  rw[zP];split
  ·omega
  ·split
   ·rename_i h1 h2;obtain⟨_,rfl⟩:=h2;exact Hr ha r _ true (by simp at h ⊢;omega)
   ·exact Hr ha r _ d (by simp at h ⊢;omega)
theorem vc (l:List (List Int))(s:List Int):(wU l s).length≤l.length+1:=Hr (Nat.le_refl _) l [] false (by simp)
def cj (s:List Int):List (List Int):=if s.length>1 then (List.range s.length).map fun k=>s.eraseIdx k else []
end Go.Abs
namespace Go.Proofs.YtofjebmoebhiiaaGreatDoor.Ev
open Go.Abs Go.IntWalk
theorem apD {a:List Int}(hl:a.length≤1000000)(v:Int):pw a v=some (decide (v∈a)):=by
 have key:∀(m i:Nat),m+i=a.length→jX a v i=some (decide (v∈a.drop i)):=by
  intro m;induction m with
  |zero=>intro i hi;rw[AI,tT,aq (by omega),List.drop_eq_nil_of_le (by omega)];simp
  |succ m ih=>
   intro i hi;rw[AI,tT,ax (by omega),fI (by omega) (by omega),Int.toNat_natCast,ef 0 (by omega)];by_cases e:a.getD i 0=v
   ·rw[gT e];have h2:v∈a.getD i 0::a.drop (i+1):=by rw[e];exact List.mem_cons_self
    simp only[h2,decide_true]
   ·rw[eS e,bM (by omega),ih (i+1) (by omega)];have e':¬v=a.getD i 0:=fun h=>e h.symm;simp only[List.mem_cons,e',false_or]
 have:=key a.length 0 (by omega);rw[P3,HI];simpa using this
theorem apE {a b:List Int}(ha:a.length≤1000000)(hl:b.length≤1000000):vu a b=some (b.all fun v=>decide (v∈a)):=by
 have key:∀(m i:Nat),m+i=b.length→iU a b i=some ((b.drop i).all fun v=>decide (v∈a)):=by
  intro m;induction m with
  |zero=>intro i hi;rw[zq,sy,aq (by omega),List.drop_eq_nil_of_le (by omega)];rfl
  |succ m ih=>
   intro i hi;rw[zq,sy,ax (by omega),fI (by omega) (by omega),Int.toNat_natCast,apD ha,bS,ef 0 (by omega)];cases h:decide (b.getD i 0∈a) with
   |true=>rw[Bool.not_true,cF,bM (by omega),ih (i+1) (by omega),List.all_cons,h,Bool.true_and]
   |false=>rw[Bool.not_false,cT,List.all_cons,h,Bool.false_and]
 have:=key b.length 0 (by omega);rw[Ou,FG];simpa using this
theorem UG {a b:List Int}(hl:a.length≤1000000):aY a b=some (nJ a b):=by
 rw[DQ,yl];unfold nJ;by_cases e:a.length=b.length
 ·have key:∀(m i:Nat),m+i=a.length→eL a b i=some (E1 (a.drop i) (b.drop i)):=by
   intro m;induction m with
   |zero=>intro i hi;rw[qT,mQ,aq (by omega),List.drop_eq_nil_of_le (by omega),List.drop_eq_nil_of_le (by omega)];rfl
   |succ m ih=>
    intro i hi;have hb:∀{β:Type} {f:Int→Option β},(idx b (i:Int)).bind f=f (b.getD i 0):=fh 0 (by omega);have ha:∀{β:Type} {f:Int→Option β},(idx a (i:Int)).bind f=f (a.getD i 0):=fh 0 (by omega);rw[qT,mQ,ax (by omega),ha,hb,ef 0 (l:=a) (by omega),ef 0 (l:=b) (by omega),E1];by_cases h1:a.getD i 0<b.getD i 0
    ·rw[ax h1,if_pos h1]
    ·rw[aq h1,if_neg h1,ha,hb];by_cases h2:a.getD i 0>b.getD i 0
     ·rw[cX h2,if_pos h2]
     ·rw[c5 h2,if_neg h2,bM (by omega),ih (i+1) (by omega)]
  have:=key a.length 0 (by omega);rw[nP (by omega),if_neg (by omega)];simpa using this
 ·rw[F7 (by omega),if_pos e];by_cases h:a.length<b.length
  ·rw[ax (by omega),if_pos h]
  ·rw[aq (by omega),if_neg h]
theorem afX {s:List Int}(hs:s.length≤1000)(k:Nat):ic s k=some (s.eraseIdx k):=by
 have k2:∀(m i:Nat) (out:List Int),m+i=s.length→k<i→out.length≤i→bT s k i out=some (out++s.drop i):=by
  intro m;induction m with
  |zero=>intro i out hi hk ho;rw[fg,dM,aq (by omega),List.drop_eq_nil_of_le (by omega),List.append_nil]
  |succ m ih=>intro i out hi hk ho;rw[fg,dM,ax (by omega),F7 (by omega),fI (by omega) (by omega),Int.toNat_natCast,iT (by omega) (by omega),bM (by omega),ih (i+1) _ (by omega) (by omega) (by simp;omega),ef 0 (show i<s.length by omega),List.append_assoc];rfl
 have key:∀(m i:Nat) (out:List Int),m+i=s.length→i≤k→out.length≤i→bT s k i out=some (out++(s.drop i).eraseIdx (k - i)):=by
  intro m;induction m with
  |zero=>intro i out hi hk ho;rw[fg,dM,aq (by omega),List.drop_eq_nil_of_le (by omega)];simp
  |succ m ih=>
   intro i out hi hk ho;rw[fg,dM,ax (by omega)];by_cases e:i=k
   ·subst e;rw[nP rfl,bM (by omega),k2 m (i+1) out (by omega) (by omega) (by omega),ef 0 (show i<s.length by omega),Nat.sub_self];rfl
   ·rw[F7 (by omega),fI (by omega) (by omega),Int.toNat_natCast,iT (by omega) (by omega),bM (by omega),ih (i+1) _ (by omega) (by omega) (by simp;omega),ef 0 (show i<s.length by omega),show k - i=k - (i+1)+1 by omega,List.eraseIdx_cons_succ,List.append_assoc];rfl
 have:=key s.length 0 [] (by omega) (by omega) (by simp);rw[xj,qU];simpa using this
theorem O6 {s:List Int}(hs:s.length≤1000):bK s=some (cj s):=by
 rw[zp,sw];unfold cj;by_cases h:s.length>1
 ·have key:∀(m i:Nat),m+i=s.length→c7 s i ((List.range i).map fun k=>s.eraseIdx k)=some ((List.range s.length).map fun k=>s.eraseIdx k):=by
   intro m;induction m with
   |zero=>
    intro i hi;obtain rfl:i=s.length:=by omega
    rw[ja,fS,cX (by omega),aq (by omega)]
   |succ m ih=>intro i hi;have:=ih (i+1) (by omega);rw[List.range_succ,List.map_append] at this;rw[ja,fS,cX (by omega),ax (by omega),afX hs,bS,iT (by omega) (by simp;omega),bM (by omega)];exact this
  rw[if_pos h];exact key s.length 0 (by omega)
 ·rw[if_neg h,ja,fS,c5 (by omega)]
theorem adY {l:Gn}{s:List Int}(hl:l.length≤1000)(hs:s.length≤1000000):fe l s=some (wU l s):=by
 have key:∀(m i:Nat) (d:Bool) (out:Gn),m+i=l.length→out.length≤2*i→iX l s d i out=some (zP s l (l.drop i) d out):=by
  intro m;induction m with
  |zero=>
   intro i d out hi ho;rw[zr,sB,aq (by omega),List.drop_eq_nil_of_le (by omega),zP];cases d with
   |true=>rw[Bool.not_true,cF];rfl
   |false=>rw[Bool.not_false,cT,iT (by omega) (by omega)];rfl
  |succ m ih=>
   intro i d out hi ho;rw[zr,sB,ax (by omega),pe (by omega),UG hs,bS,bM (by omega),ef [] (show i<l.length by omega),zP];by_cases e:nJ s (l.getD i [])=0
   ·rw[gT e,if_pos e]
   ·rw[eS e,if_neg e];by_cases f:nJ s (l.getD i [])<0
    ·rw[ax f];cases d with
     |true=>rw[Bool.not_true,cF,pe (by omega),iT (by omega) (by omega),if_neg (by simp)];exact ih (i+1) true _ (by omega) (by simp;omega)
     |false=>rw[Bool.not_false,cT,iT (by omega) (by omega),pe (by omega),iT (by omega) (by simp;omega),if_pos ⟨f,rfl⟩];exact ih (i+1) true _ (by omega) (by simp;omega)
    ·rw[aq f,pe (by omega),iT (by omega) (by omega),if_neg (fun g=>f g.1)];exact ih (i+1) d _ (by omega) (by simp;omega)
 have:=key l.length 0 false [] (by omega) (by simp);rw[Ov,FH];simpa [wU] using this
theorem WT:∀m:Nat,m<17→∀i:Nat,i<5→shr .i64 (m:Int) (i:Int)=((m / 2^i:Nat):Int):=by decide
theorem aiQ {s:List Int}(hs:s.length≤4){m:Nat}(hm:m<17){out:Gn}(ho:out.length≤900):∀(q i:Nat) (f:List Int),q+i=s.length→f.length≤i→
  fD s out m i f=c9 s (wU out (f++Aq (s.drop i) (m / 2^i))) (IntKind.wrap .i64 ((m:Int)+1)):=by
 intro q;induction q with
 |zero=>intro i f hi hf;rw[uK,oG,aq (by omega),adY (by omega) (by omega),bS,List.drop_eq_nil_of_le (by omega),Aq,List.append_nil]
 |succ q ih=>
  intro i f hi hf;have e:m / 2^(i+1)=m / 2^i / 2:=by rw[Nat.pow_succ,Nat.div_div_eq_div_mul]
  have hm2:∀x:Nat,(((x:Nat):Int).tmod 2==1)=decide (x % 2=1):=fun x=>by rw[Bool.eq_iff_iff,beq_iff_eq,decide_eq_true_iff,Int.tmod_eq_emod_of_nonneg (by omega)];omega
  have hmod:=hm2 (m / 2^i);rw[uK,oG,ax (by omega),OO (by omega),bM (by omega),WT m hm i (by omega),hmod,ef 0 (show i<s.length by omega),Aq];by_cases h:m / 2^i % 2=1
  ·rw[decide_eq_true h,cT,fI (by omega) (by omega),Int.toNat_natCast,iT (by omega) (by omega),if_pos h,ih (i+1) _ (by omega) (by simp;omega),e,List.append_assoc];rfl
  ·rw[decide_eq_false h,cF,if_neg h,ih (i+1) f (by omega) (by omega),e]
theorem afY {s:List Int}(hs:s.length≤4){m:Nat}(hm:m<17){out:Gn}(ho:out.length≤900):∀(q i:Nat) (f:List Int),q+i=s.length→f.length≤i→
  gi s m i out f=c9 s (wU out (f++Aq (s.drop i) (m / 2^i))) (IntKind.wrap .i64 ((m:Int)+1)):=by
 intro q;induction q with
 |zero=>intro i f hi hf;rw[wa,pM,aq (by omega),adY (by omega) (by omega),bS,List.drop_eq_nil_of_le (by omega),Aq,List.append_nil]
 |succ q ih=>
  intro i f hi hf;have e:m / 2^(i+1)=m / 2^i / 2:=by rw[Nat.pow_succ,Nat.div_div_eq_div_mul]
  have hm2:∀x:Nat,(((x:Nat):Int).tmod 2==1)=decide (x % 2=1):=fun x=>by rw[Bool.eq_iff_iff,beq_iff_eq,decide_eq_true_iff,Int.tmod_eq_emod_of_nonneg (by omega)];omega
  have hmod:=hm2 (m / 2^i);rw[wa,pM,ax (by omega),OO (by omega),bM (by omega),WT m hm i (by omega),hmod,ef 0 (show i<s.length by omega),Aq];by_cases h:m / 2^i % 2=1
  ·rw[decide_eq_true h,cT,fI (by omega) (by omega),Int.toNat_natCast,iT (by omega) (by omega),if_pos h,ih (i+1) _ (by omega) (by simp;omega),e,List.append_assoc];rfl
  ·rw[decide_eq_false h,cF,if_neg h,ih (i+1) f (by omega) (by omega),e]
theorem afZ {s:List Int}(hs:s.length≤4):∀(q m:Nat) (out:Gn),q+m=2^s.length→out.length≤500+m→c9 s out m=some (tu s q m out):=by
 obtain⟨hsh,hp⟩:=WM hs;intro q;induction q with
 |zero=>intro m out hm ho;rw[uJ,oF,OO (by omega),hsh,aq (by omega)];rfl
 |succ q ih=>intro m out hm ho;have h1:=aiQ hs (m:=m) (by omega) (out:=out) (by omega) s.length 0 [] (by omega) (by simp);have e0:((0:Nat):Int)=0:=rfl;rw[e0,List.nil_append,List.drop_zero,Nat.pow_zero,Nat.div_one,bM (by omega)] at h1;rw[uJ,oF,OO (by omega),hsh,ax (by omega),h1];exact ih (m+1) _ (by omega) (by have:=vc out (Aq s m);omega)
theorem adZ {s:List Int}(hs:s.length≤4):jY s=some (jD s):=by
 obtain⟨hsh,hp⟩:=WM hs;rw[KY,Cj,G9,xk,OO (by omega),hsh];by_cases h:(1:Int)<((2^s.length:Nat):Int)
 ·have e0:((0:Nat):Int)=0:=rfl;have e1:IntKind.wrap .i64 ((1:Nat)+1:Int)=((2:Nat):Int):=rfl;have h1:=afY hs (m:=1) (by omega) (out:=[]) (by simp) s.length 0 [] (by omega) (by simp);rw[e0,e1,List.nil_append,List.drop_zero,Nat.pow_zero,Nat.div_one] at h1;have h2:=afZ hs (2^s.length - 2) 2 (wU [] (Aq s 1)) (by omega) (by have:=vc [] (Aq s 1);simp at this ⊢;omega);have e2:((1:Nat):Int)=1:=rfl;rw[e2] at h1;rw[ax h,h1,h2];unfold jD;have e3:2^s.length - 1=(2^s.length - 2)+1:=by omega
  rw[e3,tu]
 ·rw[aq h];unfold jD;have e3:2^s.length - 1=0:=by omega
  rw[e3,tu]
end Go.Proofs.YtofjebmoebhiiaaGreatDoor.Ev
namespace Go.Abs
structure SS (s:List Int):Prop where
 ne:s≠ []
 len:s.length≤4
 up:s.Pairwise (· < ·)
 rg:∀v∈s,0≤v∧v<6
theorem SS.sub {s t:List Int}(h:SS s)(ht:t.Sublist s)(h0:t≠ []):SS t:=⟨h0,Nat.le_trans ht.length_le h.len,h.up.sublist ht,fun v hv=>h.rg v (ht.mem hv)⟩
theorem Kf {s:List Int}:∀(q m:Nat) (out:List (List Int)),(tu s q m out).length≤out.length+q
 |0,m,out=>by simp[tu]
 |q+1,m,out=>by rw[tu];have:=Kf (s:=s) q (m+1) (wU out (Aq s m));have:=vc out (Aq s m);omega
theorem E2 {s:List Int}(h:s.length≤4):(jD s).length≤15:=by have h1:=Kf (s:=s) (2^s.length - 1) 1 [];have h2:2^s.length≤2^4:=Nat.pow_le_pow_right (by omega) h;unfold jD;simp at h1;omega
theorem tv:∀(f out:List (List Int)),(f.foldl wU out).length≤out.length+f.length
 | [],out=>by simp
 |s::f,out=>by rw[List.foldl_cons,List.length_cons];have:=tv f (wU out s);have:=vc out s;omega
structure Cx (c:List (List Int)):Prop where
 asc:Asc c
 ss:∀s∈c,SS s
 acD:∀s∈c,∀t:List Int,t.Sublist s→t≠ []→t∈c
 len:c.length≤80
theorem C9:∀(l out:List (List Int)),(∀s∈l,s.length≤4)→(l.foldl (fun out s=>(jD s).foldl wU out) out).length≤out.length+15*l.length
 | [],out,_=>by simp
 |s::l,out,h=>by rw[List.foldl_cons,List.length_cons];have h1:=C9 l ((jD s).foldl wU out) fun t ht=>h t (List.mem_cons_of_mem _ ht);have h2:=tv (jD s) out;have h3:=E2 (h s List.mem_cons_self);omega
theorem acE {QZ:List (List Int)}(h:∀s∈QZ,SS s)(hl:QZ.length≤5):Cx (Hq QZ):=by
 refine⟨aaU QZ,fun s hs=> ?_,fun s hs t ht h0=> ?_, ?_⟩
 ·obtain⟨h0,u,hu,hsub⟩:=Ke.1 hs;exact(h u hu).sub hsub h0
 ·obtain⟨_,u,hu,hsub⟩:=Ke.1 hs;exact Ke.2 ⟨h0,u,hu,ht.trans hsub⟩
 ·have:=C9 QZ [] fun s hs=>(h s hs).len;unfold Hq;simp at this;omega
end Go.Abs
namespace Go.Proofs.YtofjebmoebhiiaaGreatDoor.Ev
open Go.Abs Go.IntWalk
theorem arL {x:Int}:0≤(IntKind.wrap .i64 (x.tmod 6+6)).tmod 6∧(IntKind.wrap .i64 (x.tmod 6+6)).tmod 6<6:=by have h1:=Int.tmod_lt_of_pos x (b:=6) (by omega);have h2:=Int.lt_tmod_of_pos x (show (0:Int)<6 by omega);rw[i64_in _ (by omega),bA (by omega)];exact⟨Int.emod_nonneg _ (by omega),Int.emod_lt_of_pos _ (by omega)⟩
theorem Nt {α:Type}(d:α){l:List α}{i:Nat}(h:i<l.length):l.take (i+1)=l.take i++[l.getD i d]:=by rw[List.take_add_one,List.getElem?_eq_getElem h];simp[List.getD,h]
theorem aaV {A B:List Int}{x:Int}{k:Nat}(h:A.length=k):(A++x::B).getD k 0=x:=by subst h;simp[List.getD]
theorem akU {i:Nat}{R:List Int}:∀(k:Nat) (n:Int) (A B:List Int) (x:Int),A.length=k→k+B.length=i→i+1+R.length≤1000000→(A++B).Pairwise (· ≤ ·)→(∀b∈B,x<b)→
  ∃n' S,fC n i k (A++x::B++R)=dR n' ((i+1:Nat):Int) (S++R)∧S.Perm (A++x::B)∧S.Pairwise (· ≤ ·):=by
 intro k;induction k with
 |zero=>intro n A B x hA hB hR hp hx;obtain rfl:=List.eq_nil_of_length_eq_zero hA;refine⟨n,x::B, ?_,List.Perm.refl _,List.pairwise_cons.2 ⟨fun b hb=>by have:=hx b hb;omega,by simpa using hp⟩⟩;rw[uI,oD,c5 (by omega),bM (by omega)];rfl
 |succ k ih=>
  intro n A B x hA hB hR hp hx;obtain⟨A',y,rfl⟩:∃A' y,A=A'++[y]:=⟨A.dropLast,A.getLast (fun e=>by subst e;simp at hA),(List.dropLast_concat_getLast _).symm⟩
  have hA':A'.length=k:=by simp at hA;omega
  have hl:(A'++[y]++x::B++R).length=i+1+R.length:=by simp;omega
  have e1:IntKind.wrap .i64 (((k+1:Nat):Int) - 1)=(k:Int):=by rw[i64_in _ (by omega)];omega
  have g1:(A'++[y]++x::B++R).getD k 0=y:=by
   have e:A'++[y]++x::B++R=A'++y::(x::B++R):=by simp
   rw[e];exact aaV hA'
  have g2:(A'++[y]++x::B++R).getD (k+1) 0=x:=by
   have e:A'++[y]++x::B++R=(A'++[y])++x::(B++R):=by simp
   rw[e];exact aaV (by simp;omega)
  rw[uI,oD,cX (by omega),e1,fI (by omega) (by omega),qu (by omega),fI (by omega) (by omega),qu (by omega)];by_cases h0:(A'++[y]++x::B++R).getD (k:Int).toNat 0>(A'++[y]++x::B++R).getD ((k+1:Nat):Int).toNat 0
  ·have h:y>x:=by have h2:=h0;rw[Int.toNat_natCast,Int.toNat_natCast,g1,g2] at h2;exact h2
   rw[cX h0,fI (by omega) (by omega),qu (by omega),fI (by omega) (by omega),qu (by omega),fI (by omega) (by omega),qu (by omega)];simp only;rw[fI (by omega) (by rw[List.length_set];omega),qu (by rw[List.length_set];omega)];simp only[Int.toNat_natCast];rw[g1,g2];have e2:((A'++[y]++x::B++R).set k x).set (k+1) y=A'++x::(y::B)++R:=by
    have e:A'++[y]++x::B++R=A'++y::x::(B++R):=by simp
    rw[e,List.set_append_right _ _ (by omega),List.set_append_right _ _ (by omega),hA',Nat.sub_self,show k+1 - k=1 by omega];simp
   rw[e2];obtain⟨n',S,k1,k2,k3⟩:=ih (IntKind.wrap .i64 (1 - n)) A' (y::B) x hA' (by simp;omega) hR (by simpa using hp) (fun b hb=>by
    rcases List.mem_cons.1 hb with rfl |hb
    ·exact h
    ·exact hx b hb)
   refine⟨n',S,k1,k2.trans ?_,k3⟩;have e3:A'++[y]++x::B=A'++(y::x::B):=by simp
   rw[e3];exact List.Perm.append_left A' (List.Perm.swap y x B)
  ·have h:¬y>x:=by have h2:=h0;rw[Int.toNat_natCast,Int.toNat_natCast,g1,g2] at h2;exact h2
   rw[c5 h0,bM (by omega)];refine⟨n,A'++[y]++x::B,rfl,List.Perm.refl _, ?_⟩;obtain⟨p1,p2,p3⟩:=List.pairwise_append.1 hp;refine List.pairwise_append.2 ⟨p1,List.pairwise_cons.2 ⟨fun b hb=>by have:=hx b hb;omega,p2⟩,fun a ha b hb=> ?_⟩;rcases List.mem_cons.1 hb with rfl |hb
   ·rcases List.mem_append.1 ha with ha |ha
    ·have:=(List.pairwise_append.1 p1).2.2 a ha y (by simp);omega
    ·simp only[List.mem_singleton] at ha;subst ha;omega
   ·exact p3 a ha b hb
theorem aiR:∀(R:List Int) (i:Nat) (n:Int) (S:List Int),S.length=i→i+R.length≤1000000→S.Pairwise (· ≤ ·)→∃n' r,dR n i (S++R)=some (r,n')∧r.Perm (S++R)∧r.Pairwise (· ≤ ·):=by
 intro R;induction R with
 |nil=>intro i n S hS hl hp;rw[uH,oB,aq (by simp;omega)];exact⟨n,_,rfl,List.Perm.refl _,by simpa using hp⟩
 |cons x R ih=>
  intro i n S hS hl hp;simp only[List.length_cons] at hl;obtain⟨n',S',k1,k2,k3⟩:=akU (i:=i) (R:=R) i n S [] x hS (by simp) (by omega) (by simpa using hp) (fun b hb=>by cases hb);have hS':S'.length=i+1:=by rw[k2.length_eq];simp;omega
  obtain⟨n2,r,h1,h2,h3⟩:=ih (i+1) n' S' hS' (by omega) k3;have e:S++[x]++R=S++x::R:=by simp
  rw[e] at k1;rw[uH,oB,ax (by simp;omega),k1,h1];refine⟨n2,r,rfl,h2.trans ?_,h3⟩;rw[←e];exact List.Perm.append_right R k2
theorem aaW {l:List Int}(hl:l.length≤1000000):∃n' r,iW l=some (r,n')∧r.Perm l∧r.Pairwise (· ≤ ·):=by rw[Jt,AJ,iT (by omega) (by omega),List.nil_append];exact aiR l 0 0 [] rfl (by omega) List.Pairwise.nil
theorem alP {l r:List Int}(hp:r.Perm l)(hs:r.Pairwise (· ≤ ·))(hn:l.Nodup)(h0:l≠ [])(h4:l.length≤4)(hr:∀v∈l,0≤v∧v<6):SS r:=by have hn':r.Nodup:=hp.nodup_iff.2 hn;refine⟨fun e=>by subst e;exact h0 hp.symm.eq_nil,by rw[hp.length_eq];exact h4,(hs.and hn').imp fun⟨a,b⟩=>by omega,fun v hv=>hr v (hp.mem_iff.1 hv)⟩
theorem ad0 {out:List Int}(ho:out.length≤4)(hn:out.Nodup)(hr:∀v∈out,0≤v∧v<6):∃s,(bif ((out.length:Int)==0) then bif (aG 8 1 out.length 1) then (iW (out++([(0:Int)]:List Int))).bind fun r3=>some r3.1 else none else (iW out).bind fun r4=>some r4.1)=some s∧SS s:=by
 by_cases h:(out.length:Int)=0
 ·obtain rfl:out=[]:=List.eq_nil_of_length_eq_zero (by omega);obtain⟨n',s,h1,h2,h3⟩:=aaW (l:=[0]) (by simp);rw[gT h,iT (by omega) (by simp),List.nil_append,h1,bS];exact⟨s,rfl,alP h2 h3 (by simp) (by simp) (by simp) (by simp)⟩
 ·obtain⟨n',s,h1,h2,h3⟩:=aaW (l:=out) (by omega);rw[eS h,h1,bS];exact⟨s,rfl,alP h2 h3 hn (fun e=>by subst e;simp at h) ho hr⟩
theorem aiS {l:List Int}(hl:l.length≤1000000000000000000):∀(m i:Nat) (out:List Int),m+i=l.length→out.length≤4→out.Nodup→(∀v∈out,0≤v∧v<6)→∃s,gf l 4 6 i out=some s∧SS s:=by
 intro m;induction m with
 |zero=>intro i out hi ho hn hr;rw[vZ,pL,aq (by omega)];exact ad0 ho hn hr
 |succ m ih=>
  intro i out hi ho hn hr;rw[vZ,pL,ax (by omega)];by_cases h:(out.length:Int)<4
  ·have e1:IntKind.wrap .i64 ((i:Int)+1)=((i+1:Nat):Int):=by rw[i64_in _ (by omega)];omega
   rw[ax h,fI (by omega) (by omega),kz (by omega),kz (by omega),e1,apD (by omega),bS];have hv:=arL (x:=l.getD (i:Int).toNat 0);generalize (IntKind.wrap .i64 ((l.getD (i:Int).toNat 0).tmod 6+6)).tmod 6=v at hv ⊢;by_cases hm:v∈out
   ·rw[decide_eq_true hm,Bool.not_true,cF];exact ih (i+1) out (by omega) ho hn hr
   ·rw[decide_eq_false hm,Bool.not_false,cT,iT (by omega) (by omega)];refine ih (i+1) _ (by omega) (by simp;omega) (List.nodup_append.2 ⟨hn,by simp,fun a ha b hb=>by simp only[List.mem_singleton] at hb;subst hb;exact fun e=>hm (e ▸ ha)⟩) (fun w hw=> ?_);rcases List.mem_append.1 hw with hw |hw
    ·exact hr w hw
    ·simp only[List.mem_singleton] at hw;subst hw;exact hv
  ·rw[aq h];exact ad0 ho hn hr
theorem af0 {l:List Int}(hl:l.length≤1000000000000000000):∃s,rB l 4 6=some s∧SS s:=by rw[KX,Ci];exact aiS hl l.length 0 [] (by omega) (by simp) (by simp) (by simp)
theorem WU {l f:Gn}(hf:f.length≤16)(hf4:∀s∈f,s.length≤4){i:Int}:∀(q k:Nat) (out:Gn),q+k=f.length→out.length+q≤900→cH l out i f k=gQ l ((f.drop k).foldl wU out) (IntKind.wrap .i64 (i+1)):=by
 intro q;induction q with
 |zero=>intro k out hk ho;rw[s8,nD,aq (by omega),List.drop_eq_nil_of_le (by omega)];rfl
 |succ q ih=>intro k out hk ho;have h4:=hf4 _ (ay (d:=[]) (show k<f.length by omega));rw[s8,nD,ax (by omega),pe (by omega),adY (by omega) (by omega),bS,bM (by omega),ef [] (show k<f.length by omega),List.foldl_cons];exact ih (k+1) _ (by omega) (by have:=vc out (f.getD k []);omega)
theorem aaX {s:List Int}(h:s.length≤4):∀t∈jD s,t.length≤4:=fun t ht=>Nat.le_trans (UF.1 ht).2.length_le h
theorem acF {l:Gn}(hl:Sx 5 l):∀(q i:Nat) (out:Gn),q+i=l.length→out.length+15*q≤800→gQ l out i=some ((l.drop i).foldl (fun out s=>(jD s).foldl wU out) out):=by
 have hll:=hl.1;intro q;induction q with
 |zero=>intro i out hi ho;rw[s9,nE,aq (by omega),List.drop_eq_nil_of_le (by omega)];rfl
 |succ q ih=>intro i out hi ho;have h4:=hl.getD (show i<l.length by omega);have Ph:=E2 h4;have h3:=WU (l:=l) (f:=jD (l.getD i [])) (by omega) (aaX h4) (i:=(i:Int)) _ 0 out (Nat.add_zero _) (by omega);have e0:((0:Nat):Int)=0:=rfl;rw[e0,List.drop_zero,bM (by omega)] at h3;rw[s9,nE,ax (by omega),pe (by omega),adZ h4,bS,h3,ef [] (show i<l.length by omega),List.foldl_cons];exact ih (i+1) _ (by omega) (by have:=tv (jD (l.getD i [])) out;omega)
theorem af1 {l:Gn}(hl:Sx 5 l):∀(q i:Nat) (out:Gn),q+i=l.length→out.length+15*q≤800→fz l i out=some ((l.drop i).foldl (fun out s=>(jD s).foldl wU out) out):=by
 have hll:=hl.1;intro q;induction q with
 |zero=>intro i out hi ho;rw[uL,oJ,aq (by omega),List.drop_eq_nil_of_le (by omega)];rfl
 |succ q ih=>
  intro i out hi ho;have h4:=hl.getD (show i<l.length by omega);have Ph:=E2 h4;have hle:=aaX h4;rw[uL,oJ,ax (by omega),pe (by omega),adZ h4,bS,FI,wg,ef [] (show i<l.length by omega),List.foldl_cons];have hfo:=tv (jD (l.getD i [])) out;by_cases hf:(jD (l.getD i [])).length=0
  ·have e:=List.eq_nil_of_length_eq_zero hf;rw[aq (by omega),bM (by omega),e];exact ih (i+1) out (by omega) (by omega)
  ·have hf4:=hle _ (ay (d:=[]) (show 0<(jD (l.getD i [])).length by omega));generalize jD (l.getD i [])=f at*
   have hpl:=vc out (f.getD 0 []);have h5:=WU (l:=l) (f:=f) (by omega) hle (i:=(i:Int)) (f.length - 1) 1 (wU out (f.getD 0 [])) (by omega) (by omega);have e0:((0:Nat):Int)=0:=rfl;have e1:IntKind.wrap .i64 ((0:Int)+1)=((1:Nat):Int):=rfl;have hb:∀{β:Type} {g:List Int→Option β},(idx f (0:Int)).bind g=g (f.getD 0 []):=fun {β g}=>by have:=pe (xs:=f) (k:=0) (f:=g) (by omega);rw[e0] at this;exact this
   have e2:f.foldl wU out=(f.drop 1).foldl wU (wU out (f.getD 0 [])):=by have:=ef [] (show 0<f.length by omega);rw[List.drop_zero] at this;rw[this,List.foldl_cons];simp
   rw[ax (by omega),hb,adY (by omega) (by omega),bS,e1,h5,bM (by omega), ←e2];exact acF hl q (i+1) _ (by omega) (by omega)
theorem aiT {l:Gn}(hl:Sx 5 l):lN l=some (Hq l):=by have:=hl.1;rw[Ju,AN];have h:=af1 hl l.length 0 [] (by omega) (by simp;omega);rw[List.drop_zero] at h;exact h
theorem aiU {t:Gn}(ht:t.length≤800):∀(q i:Nat),q+i=t.length→eH t (t.length:Int) i (t.take i)=some t:=by
 intro q;induction q with
 |zero=>intro i hi;rw[we,pT,aq (by omega),List.take_of_length_le (by omega)]
 |succ q ih=>intro i hi;have:=ih (i+1) (by omega);rw[Nt [] (show i<t.length by omega)] at this;rw[we,pT,ax (by omega),pe (by omega),iT (by omega) (by simp;omega),bM (by omega)];exact this
theorem ad1 {QZ:Gn}(hf:∀s∈QZ,SS s)(hl:QZ.length≤5):∃c,((lN QZ).bind fun r3=>eH r3 (r3.length:Int) (0:Int) ([]:List (List Int)))=some c∧Cx c:=by have hc:=acE hf hl;rw[aiT ⟨hl,fun s hs=>(hf s hs).len⟩,bS];exact⟨_,aiU (by have:=hc.len;omega) (Hq QZ).length 0 (by omega),hc⟩
theorem anj {l:Gn}(hl:l.length≤1000000)(hs:∀s∈l,s.length≤1000000000000000000):∀(q i:Nat) (QZ:Gn),q+i=l.length→QZ.length=i→(∀s∈QZ,SS s)→i≤5→∃c,gd l 5 3 6 i QZ=some c∧Cx c:=by
 intro q;induction q with
 |zero=>intro i QZ hi hf hS h5;rw[wc,pR,aq (by omega)];exact ad1 hS (by omega)
 |succ q ih=>
  intro i QZ hi hf hS h5;rw[wc,pR,ax (by omega)];by_cases h:i<5
  ·obtain⟨s,h1,h2⟩:=af0 (hs _ (ay (d:=[]) (show i<l.length by omega)));have e4:IntKind.wrap .i64 ((3:Int)+1)=4:=rfl;rw[ax (by omega),pe (by omega),e4,h1,bS,iT (by omega) (by omega),bM (by omega)];refine ih (i+1) _ (by omega) (by simp;omega) (fun t ht=> ?_) (by omega);rcases List.mem_append.1 ht with ht |ht
   ·exact hS t ht
   ·rw[List.mem_singleton.1 ht];exact h2
  ·rw[aq (by omega)];exact ad1 hS (by omega)
theorem af2 {l:Gn}(hl:l.length≤1000000)(hs:∀s∈l,s.length≤1000000000000000000):∃c,rz l 5 3 6=some c∧Cx c:=by rw[K0,Cm];exact anj hl hs l.length 0 [] (by omega) rfl (by simp) (by omega)
theorem akV {l:Gn}(hl:l.length≤800)(h4:∀s∈l,s.length≤4):ry l=some l:=by
 have key:∀(q i:Nat),q+i=l.length→ga l i (l.take i)=some l:=by
  intro q;induction q with
  |zero=>intro i hi;rw[wb,pP,aq (by omega),List.take_of_length_le (by omega)]
  |succ q ih=>intro i hi;have hg:=h4 _ (ay (d:=[]) (show i<l.length by omega));have:=ih (i+1) (by omega);rw[Nt [] (show i<l.length by omega)] at this;rw[wb,pP,ax (by omega),pe (by omega),iT (by omega) (by omega),iT (by omega) (by simp;omega),bM (by omega),List.nil_append];exact this
 rw[KZ,Ck];exact key l.length 0 (by omega)
def uq (a b:ByteArray):Int:=mK ((lb a).1*(lb b).2) ((lb b).1*(lb a).2)
theorem At.den {s:ByteArray}(h:At s):0<(lb s).2:=by obtain⟨n,d,hR⟩:=rM.1 h.1;rw[hR.val];exact(hR.bounds (by have:=h.2;omega)).2.2
theorem YC {a b:ByteArray}(ha:At a)(hb:At b):bO a b=some (uq a b):=by obtain⟨n,d,h⟩:=rM.1 ha.1;obtain⟨m,k,g⟩:=rM.1 hb.1;rw[Yn h g (by have:=ha.2;omega) (by have:=hb.2;omega)];unfold uq;rw[h.val,g.val]
theorem aiV (x y:Int):mK y x= -(mK x y):=by
 rcases Int.lt_trichotomy x y with h |h |h
 ·rw[mX h,o5 h];rfl
 ·rw[wL h,wL h.symm];rfl
 ·rw[o5 h,mX h]
theorem Da (a b:ByteArray):uq b a= -(uq a b):=aiV _ _
theorem akW {x y:Int}:mK x y≤0↔x≤y:=by
 rcases Int.lt_trichotomy x y with h |h |h
 ·rw[mX h];omega
 ·rw[wL h];omega
 ·rw[o5 h];omega
theorem aiW {x y:Int}:mK x y<0↔x<y:=by
 rcases Int.lt_trichotomy x y with h |h |h
 ·rw[mX h];omega
 ·rw[wL h];omega
 ·rw[o5 h];omega
theorem yY {a b c:ByteArray}(ha:At a)(hb:At b)(hc:At c)(h1:uq a b≤0)(h2:uq b c≤0):uq a c≤0:=by
 unfold uq at*
 rw[akW] at*
 have p1:=ha.den;have p2:=hb.den;have p3:=hc.den;generalize (lb a).1=n at*
 generalize (lb a).2=d at*
 generalize (lb b).1=m at*
 generalize (lb b).2=k at*
 generalize (lb c).1=u at*
 generalize (lb c).2=v at*
 have e1:=Int.mul_le_mul_of_nonneg_right h1 (Int.le_of_lt p3);have e2:=Int.mul_le_mul_of_nonneg_right h2 (Int.le_of_lt p1);have e3:m*d*v=m*v*d:=by rw[Int.mul_assoc,Int.mul_comm d v, ←Int.mul_assoc]
 have e4:k*(n*v)≤k*(u*d):=by
  have q1:k*(n*v)=n*k*v:=by rw[Int.mul_comm n k,Int.mul_assoc]
  have q2:k*(u*d)=u*k*d:=by rw[Int.mul_comm u k,Int.mul_assoc]
  rw[q1,q2];exact Int.le_trans e1 (by rw[e3];exact e2)
 exact Int.le_of_mul_le_mul_left e4 p2
theorem WV (a:ByteArray):uq a a=0:=wL rfl
def Sj (x y:Ce):Prop:=uq x.2.1 y.2.1<0∨(uq x.2.1 y.2.1=0∧nJ x.1 y.1<0)
theorem WW {x y z:Ce}(hx:At x.2.1)(hy:At y.2.1)(hz:At z.2.1)(h1:Sj x y)(h2:Sj y z):Sj x z:=by
 have n1:=Da x.2.1 y.2.1;have n2:=Da y.2.1 z.2.1;have n3:=Da x.2.1 z.2.1;unfold Sj at*
 have a1:uq x.2.1 y.2.1≤0:=by rcases h1 with h | ⟨h,_⟩<;>omega
 have a2:uq y.2.1 z.2.1≤0:=by rcases h2 with h | ⟨h,_⟩<;>omega
 have a3:=yY hx hy hz a1 a2;by_cases e:uq x.2.1 z.2.1=0
 · -- all are of one value
   have b1:=yY hz hx hy (by omega) a1;have b2:=yY hy hz hx a2 (by omega);rcases h1 with h | ⟨_,h1⟩
   ·omega
   ·rcases h2 with h | ⟨_,h2⟩
    ·omega
    ·exact .inr ⟨e,Nr h1 h2⟩
 ·exact .inl (by omega)
theorem af3 {x y:Ce}(h:x.1≠y.1)(hn:¬Sj x y):Sj y x:=by
 have n1:=Da x.2.1 y.2.1;have n2:=UC x.1 y.1;unfold Sj at*
 by_cases e:uq x.2.1 y.2.1=0
 ·refine .inr ⟨by omega, ?_⟩;have h0:nJ x.1 y.1≠0:=fun e=>h (Hp.1 e);have:¬nJ x.1 y.1<0:=fun g=>hn (.inr ⟨e,g⟩);omega
 ·refine .inl ?_;have:¬uq x.2.1 y.2.1<0:=fun g=>hn (.inl g);omega
def cellOf (aF:List (Option (List Int)))(r:Pj):Ce:=((ai aF r.1).getD [],(r.2.1,()))
theorem aaY {l:List Ce}(hl:Cs l):∀(q i out:Nat) (aF:List (Option (List Int))) (kD:List (Option (List Pj))) (rows:List Pj),q+i=l.length→ai kD out=some rows→rows.map (cellOf aF)=l.take i→Cr aF rows→
  ∃out' Bq Gh Md,fF l out i aF kD=some (out',(Gh,Bq))∧ai Gh out'=some Md∧Md.map (cellOf Bq)=l∧Cr Bq Md:=by
 have hll:=hl.1;intro q;induction q with
 |zero=>intro i out aF kD rows hi hg hr hc;rw[uO,oR,aq (by omega)];exact⟨_,_,_,rows,rfl,hg,by rw[hr,List.take_of_length_le (by omega)],hc⟩
 |succ q ih=>
  intro i out aF kD rows hi hg hr hc;obtain⟨hx1,hx2⟩:=hl.2 _ (ay (d:=fW) (show i<l.length by omega));have hb:∀{β:Type} {f:Ce→Option β},(idx l (i:Int)).bind f=f (l.getD i fW):=fh fW (by omega);have hts:=Nt fW (show i<l.length by omega);have hrl:rows.length=i:=by have:=congrArg List.length hr;simpa [show i≤l.length by omega] using this
  have same:∀ys:List (Option (List Int)),rows.map (cellOf (aF++ys))=rows.map (cellOf aF):=fun ys=>List.map_congr_left fun y hy=>by obtain⟨⟨s,h1,_⟩,_⟩:=hc y hy;unfold cellOf;rw[h1,Ej h1]
  rw[uO,oR,ax (by omega),hb,mh,bS,List.length_nil,iT (by omega) (by omega),bM (by omega)];generalize l.getD i fW=x at hx1 hx2 hb hts ⊢;cases he:x.1.isEmpty with
  |true=>
   rw[cT,hb];simp only;have h1:ai (kD++[some [((aF.length+1:Nat),(x.2.1,()))]]) out=some rows:=Ej hg;rw[h1,bS,mh,bS,List.length_singleton,iT (by omega) (by omega)];have e1:([((aF.length+1:Nat),(x.2.1,()))]:List Pj).isEmpty=false:=rfl;rw[e1,cF];exact ih (i+1) _ _ _ (rows++[((aF.length+1:Nat),(x.2.1,()))]) (by omega) mh (by
    rw[List.map_append,same,hr,hts]
    congr 1
    have e9:cellOf (aF++[some []]) ((aF.length+1:Nat),(x.2.1,()))=x:=by unfold cellOf;rw[mh];have:x.1=[]:=List.isEmpty_iff.1 he;obtain⟨a,b,u⟩:=x;simp only at this;subst this;rfl
    rw[List.map_cons,List.map_nil,e9]) (fun y hy=>by
    rcases List.mem_append.1 hy with hy |hy
    ·exact hc.append y hy
    ·rw[List.mem_singleton.1 hy];exact⟨⟨[],mh,by simp⟩,hx2⟩)
  |false=>
   rw[cF,hb];simp only;rw[acy,List.length_append,List.length_singleton];have h1:ai (kD++[some [((aF.length+1+1:Nat),(x.2.1,()))]]) out=some rows:=Ej hg;rw[h1,bS,mh,bS,List.length_singleton,iT (by omega) (by omega)];have e1:([((aF.length+1+1:Nat),(x.2.1,()))]:List Pj).isEmpty=false:=rfl;rw[e1,cF];have h2:ai (aF++[none]++[some ([]++x.1)]) (aF.length+1+1)=some ([]++x.1):=by have:=mh (xs:=aF++[none]) (l:=[]++x.1);rw[List.length_append,List.length_singleton] at this;exact this
   exact ih (i+1) _ _ _ (rows++[((aF.length+1+1:Nat),(x.2.1,()))]) (by omega) mh (by
    rw[List.append_assoc,List.map_append,same,hr,hts]
    congr 1
    have e9:cellOf (aF++([none]++[some ([]++x.1)])) ((aF.length+1+1:Nat),(x.2.1,()))=x:=by unfold cellOf;rw[←List.append_assoc,h2];rfl
    rw[List.map_cons,List.map_nil,e9]) (fun y hy=>by
    rcases List.mem_append.1 hy with hy |hy
    ·rw[List.append_assoc];exact hc.append y hy
    ·rw[List.mem_singleton.1 hy];exact⟨⟨_,h2,by simpa using hx1⟩,hx2⟩)
theorem aiX {l:List Ce}(hl:Cs l):∃out' Bq Gh Md,qm l [] []=some (out',(Gh,Bq))∧ai Gh out'=some Md∧Md.map (cellOf Bq)=l∧Cr Bq Md:=by rw[Jw,AU];exact aaY hl l.length 0 0 [] [] [] (by omega) rfl rfl (fun x hx=>by cases hx)
theorem WX {A B:List Pj}{x:Pj}{k:Nat}(h:A.length=k):(A++x::B).getD k afQ=x:=by subst h;simp[List.getD]
theorem af4 {out:Nat}{i:Nat}{aF:List (Option (List Int))}{R:List Pj}:∀(k:Nat) (kD:List (Option (List Pj))) (A B:List Pj) (x:Pj),ai kD out=some (A++x::B++R)→A.length=k→k+B.length=i→i+1+R.length≤800→Cr aF (A++x::B++R)→((A++B).map (cellOf aF)).Pairwise Sj→(∀b∈B,Sj (cellOf aF x) (cellOf aF b))→(∀a∈A,(cellOf aF x).1≠(cellOf aF a).1)→
  ∃Gh S,dP out i k aF kD=bE out ((i+1:Nat):Int) aF Gh∧ai Gh out=some (S++R)∧S.Perm (A++x::B)∧(S.map (cellOf aF)).Pairwise Sj:=by
 intro k;induction k with
 |zero=>
  intro kD A B x hg hA hB hR hc hp hx hne;obtain rfl:=List.eq_nil_of_length_eq_zero hA;refine⟨kD,x::B, ?_,hg,List.Perm.refl _, ?_⟩
  ·rw[uN,oO,c5 (by omega),bM (by omega)]
  ·rw[List.map_cons];exact List.pairwise_cons.2 ⟨fun b hb=>by
    obtain⟨b',hb',rfl⟩:=List.mem_map.1 hb;exact hx b' hb',by simpa using hp⟩
 |succ k ih=>
  intro kD A B x hg hA hB hR hc hp hx hne;obtain⟨A',y,rfl⟩:∃A' y,A=A'++[y]:=⟨A.dropLast,A.getLast (fun e=>by subst e;simp at hA),(List.dropLast_concat_getLast _).symm⟩
  have hA':A'.length=k:=by simp at hA;omega
  have cx:=hc x (by simp);have cy:=hc y (by simp);have hl:(A'++[y]++x::B++R).length=i+1+R.length:=by simp;omega
  have gk:(A'++[y]++x::B++R).getD k afQ=y:=by
   have e:A'++[y]++x::B++R=A'++y::(x::B++R):=by simp
   rw[e];exact WX hA'
  have gk1:(A'++[y]++x::B++R).getD (k+1) afQ=x:=by
   have e:A'++[y]++x::B++R=(A'++[y])++x::(B++R):=by simp
   rw[e];exact WX (by simp;omega)
  have e2:((A'++[y]++x::B++R).set (k+1) (y.1,(y.2.1,()))).set k (x.1,(x.2.1,()))=A'++x::(y::B)++R:=by
   have e:A'++[y]++x::B++R=A'++y::x::(B++R):=by simp
   rw[e,List.set_append_right _ _ (by omega),List.set_append_right _ _ (by omega),hA',Nat.sub_self,show k+1 - k=1 by omega];simp
  generalize hrows:A'++[y]++x::B++R=rows at*
  have e1:IntKind.wrap .i64 (((k+1:Nat):Int) - 1)=(k:Int):=by rw[i64_in _ (by omega)];omega
  have hout:out≠0:=Yw hg (fun e=>by rw[e] at hl;simp at hl;omega);have b1:∀{β:Type} {f:Pj→Option β},(idx rows ((k+1:Nat):Int)).bind f=f x:=fun {β f}=>by rw[fh afQ (by omega),gk1]
  have b2:∀{β:Type} {f:Pj→Option β},(idx rows (k:Int)).bind f=f y:=fun {β f}=>by rw[fh afQ (by omega),gk]
  have g1:rows[((k+1:Nat):Int).toNat]? =some x:=by rw[Int.toNat_natCast, ←gk1];simp[List.getD,show k+1<rows.length by omega]
  have g2:rows[((k:Nat):Int).toNat]? =some y:=by rw[Int.toNat_natCast, ←gk];simp[List.getD,show k<rows.length by omega]
  obtain⟨⟨s1,p1,q1⟩,a1⟩:=cx;obtain⟨⟨s2,p2,q2⟩,a2⟩:=cy;have hcmp:=YC a1 a2;have hfx:(cellOf aF x).1=s1:=by unfold cellOf;rw[p1];rfl
  have hfy:(cellOf aF y).1=s2:=by unfold cellOf;rw[p2];rfl
  have apF:s1≠s2:=by have:=hne y (by simp);rw[hfx,hfy] at this;exact this
  obtain⟨pw1,pw2,pw3⟩:=List.pairwise_append.1 (by rw[List.map_append] at hp;exact hp)
  -- GJ exchange
  have swap:Sj (cellOf aF x) (cellOf aF y)→∃Gh S,((ai kD out).bind fun v30=>(idx v30 (k:Int)).bind fun _=>(ai kD out).bind fun v31=>(v31[(k:Int).toNat]?).bind fun v32=>(ai kD out).bind fun v33=>(idx v33 ((k+1:Nat):Int)).bind fun _=>(ai kD out).bind fun v34=>(v34[((k+1:Nat):Int).toNat]?).bind fun v35=>(ai kD out).bind fun v36=>(idx v36 ((k+1:Nat):Int)).bind fun _=>(ai kD out).bind fun v37=>(v37[((k+1:Nat):Int).toNat]?).bind fun v38=>
    let e39:List (Option (List (Nat×ByteArray×Unit))):=(ik kD out (v37.set ((k+1:Nat):Int).toNat (v32.1,(v32.2.1,()))))
    (ai e39 out).bind fun v40=>(idx v40 (k:Int)).bind fun _=>(ai e39 out).bind fun v41=>(v41[(k:Int).toNat]?).bind fun v42=>
    let e43:List (Option (List (Nat×ByteArray×Unit))):=(ik e39 out (v41.set (k:Int).toNat (v35.1,(v35.2.1,()))))
    dP out i (k:Int) aF e43)=bE out ((i+1:Nat):Int) aF Gh∧ai Gh out=some (S++R)∧S.Perm (A'++[y]++x::B)∧(S.map (cellOf aF)).Pairwise Sj:=by
   intro hlt;rw[hg,bS,b2,bS,g2,bS,bS,b1,bS,g1,bS,bS,b1,bS,g1,bS];simp only;have hs:=j7 (l':=rows.set ((k+1:Nat):Int).toNat (y.1,(y.2.1,()))) hg hout;have hl2:(rows.set ((k+1:Nat):Int).toNat (y.1,(y.2.1,()))).length=i+1+R.length:=by rw[List.length_set];exact hl
   have gy:(rows.set ((k+1:Nat):Int).toNat (y.1,(y.2.1,())))[((k:Nat):Int).toNat]? =some y:=by rw[Int.toNat_natCast,Int.toNat_natCast,List.getElem?_set_ne (by omega), ←Int.toNat_natCast k];exact g2
   rw[hs,bS,fh afQ (by omega),bS,gy,bS];have hs2:=j7 (l':=(rows.set ((k+1:Nat):Int).toNat (y.1,(y.2.1,()))).set ((k:Nat):Int).toNat (x.1,(x.2.1,()))) hs hout;have e3:(rows.set ((k+1:Nat):Int).toNat (y.1,(y.2.1,()))).set ((k:Nat):Int).toNat (x.1,(x.2.1,()))=A'++x::(y::B)++R:=by rw[Int.toNat_natCast,Int.toNat_natCast];exact e2
   rw[e3] at hs2 ⊢;obtain⟨Gh,S,k1,k2,k3,k4⟩:=ih _ A' (y::B) x hs2 hA' (by simp;omega) hR (fun z hz=>hc z (by rw[←hrows];simp at hz ⊢;rcases hz with hz |hz |hz |hz |hz<;>simp[hz])) (by
    have e4:A'++y::B=A'++[y]++B:=by simp
    rw[e4];exact hp) (fun b hb=>by
    rcases List.mem_cons.1 hb with rfl |hb
    ·exact hlt
    ·exact hx b hb) (fun a ha=>hne a (by simp[ha]))
   refine⟨Gh,S,k1,k2,k3.trans ?_,k4⟩;have e5:A'++[y]++x::B=A'++(y::x::B):=by simp
   rw[e5];exact List.Perm.append_left A' (List.Perm.swap y x B)
  have stop:¬Sj (cellOf aF x) (cellOf aF y)→∃Gh S,bE out (IntKind.wrap .i64 ((i:Int)+1)) aF kD=bE out ((i+1:Nat):Int) aF Gh∧ai Gh out=some (S++R)∧S.Perm (A'++[y]++x::B)∧(S.map (cellOf aF)).Pairwise Sj:=by
   intro hn;have hyx:Sj (cellOf aF y) (cellOf aF x):=af3 (by rw[hfx,hfy];exact apF) hn;refine⟨kD,A'++[y]++x::B,by rw[bM (by omega)],by rw[hrows];exact hg,List.Perm.refl _, ?_⟩;rw[List.map_append];refine List.pairwise_append.2 ⟨pw1, ?_,fun a ha b hb=> ?_⟩
   ·rw[List.map_cons];exact List.pairwise_cons.2 ⟨fun b hb=>by
     obtain⟨b',hb',rfl⟩:=List.mem_map.1 hb;exact hx b' hb',pw2⟩
   ·rw[List.map_cons] at hb;rcases List.mem_cons.1 hb with rfl |hb
    ·obtain⟨a',ha',rfl⟩:=List.mem_map.1 ha;rcases List.mem_append.1 ha' with ha2 |ha2
     ·rw[List.map_append] at pw1;have:=(List.pairwise_append.1 pw1).2.2 _ (List.mem_map.2 ⟨a',ha2,rfl⟩) (cellOf aF y) (by simp);exact WW (hc a' (by rw[←hrows];simp[ha2])).2 a2 a1 this hyx
     ·simp only[List.mem_singleton] at ha2;subst ha2;exact hyx
    ·exact pw3 a ha b hb
  rw[uN,oO,cX (by omega),e1];have pre:∀{β:Type} {f:Pj→Pj→Option β},((ai kD out).bind fun v0=>(idx v0 ((k+1:Nat):Int)).bind fun _=>(ai kD out).bind fun v1=>(v1[((k+1:Nat):Int).toNat]?).bind fun v2=>(ai kD out).bind fun v3=>(idx v3 (k:Int)).bind fun _=>(ai kD out).bind fun v4=>(v4[(k:Int).toNat]?).bind fun v5=>f v2 v5)=f x y:=fun {β f}=>by rw[hg,bS,b1,bS,g1,bS,bS,b2,bS,g2,bS]
  rw[pre,hcmp,bS];by_cases h1:uq x.2.1 y.2.1>0
  ·rw[cX h1];exact stop (fun g=>by
    have g':uq x.2.1 y.2.1<0∨(uq x.2.1 y.2.1=0∧_):=g;rcases g' with g | ⟨g,_⟩<;>omega)
  ·rw[c5 h1];by_cases h2:uq x.2.1 y.2.1=0
   ·rw[gT h2,pre,Uv rfl p1,bS,Uv rfl p2,bS,UG (by omega),bS];by_cases h3:nJ s1 s2>0
    ·rw[cX h3];exact stop (fun g=>by
      have g':uq x.2.1 y.2.1<0∨(uq x.2.1 y.2.1=0∧nJ (cellOf aF x).1 (cellOf aF y).1<0):=g;rw[hfx,hfy] at g';rcases g' with g | ⟨_,g⟩<;>omega)
    ·rw[c5 h3];refine swap (.inr ⟨h2, ?_⟩);rw[hfx,hfy];have:nJ s1 s2≠0:=fun e=>apF (Hp.1 e);omega
   ·rw[eS h2];exact swap (.inl (by show uq x.2.1 y.2.1<0;omega))
theorem acG {out:Nat}{aF:List (Option (List Int))}:∀(R:List Pj) (i:Nat) (kD:List (Option (List Pj))) (S:List Pj),ai kD out=some (S++R)→S.length=i→i+R.length≤800→Cr aF (S++R)→(S.map (cellOf aF)).Pairwise Sj→((S++R).map (cellOf aF)).Pairwise (fun x y=>x.1≠y.1)→
  ∃r,bE out i aF kD=some r∧r.Perm ((S++R).map (cellOf aF))∧r.Pairwise Sj:=by
 intro R;induction R with
 |nil=>intro i kD S hg hS hl hc hp hn;rw[List.append_nil] at hg hc hn ⊢;rw[uM,oN,hg,bS,aq (by omega),acz rfl rfl hg (fun x hx=>by obtain⟨⟨s,h1,_⟩,_⟩:=hc x hx;exact⟨s,h1⟩),bS];exact⟨_,rfl,List.Perm.refl _,hp⟩
 |cons x R ih=>
  intro i kD S hg hS hl hc hp hn;simp only[List.length_cons] at hl;have e:S++[x]++R=S++x::R:=by simp
  obtain⟨Gh,S',k1,k2,k3,k4⟩:=af4 (i:=i) (R:=R) i kD S [] x (by rw[e];exact hg) hS (by simp) (by omega) (by rw[e];exact hc) (by simpa using hp) (fun b hb=>by cases hb) (fun a ha=>by
   rw[List.map_append] at hn;exact Ne.symm ((List.pairwise_append.1 hn).2.2 _ (List.mem_map.2 ⟨a,ha,rfl⟩) _ (by simp)))
  have hS':S'.length=i+1:=by rw[k3.length_eq];simp;omega
  have k5:(S'++R).Perm (S++x::R):=by rw[←e];exact List.Perm.append_right R k3
  obtain⟨r,h1,h2,h3⟩:=ih (i+1) Gh S' k2 hS' (by omega) (fun y hy=>hc y (k5.mem_iff.1 hy)) k4 ((k5.map (cellOf aF)).pairwise_iff (R:=fun x y:Ce=>x.1≠y.1) (fun h=>Ne.symm h) |>.2 hn);rw[uM,oN,hg,bS,ax (by simp;omega),k1,h1];exact⟨r,rfl,h2.trans (k5.map (cellOf aF)),h3⟩
theorem acH {l:List Ce}(hl:Cs l)(hn:l.Pairwise fun x y=>x.1≠y.1):∃r,lO l=some r∧r.Perm l∧r.Pairwise Sj:=by
 obtain⟨out',Bq,Gh,Md,h1,h2,h3,h4⟩:=aiX hl;have hlen:Md.length=l.length:=by rw[←h3];simp
 have hll:=hl.1;obtain⟨r,g1,g2,g3⟩:=acG (out:=out') Md 0 Gh [] h2 rfl (by omega) h4 List.Pairwise.nil (by rw[List.nil_append,h3];exact hn);rw[List.nil_append,h3] at g2;have e0:((0:Nat):Int)=0:=rfl;rw[e0] at g1;rw[Jv,AT,h1,bS];exact⟨r,g1,g2,g3⟩
end Go.Proofs.YtofjebmoebhiiaaGreatDoor.Ev
namespace Go.Abs
theorem Ek {s t:List Int}(h:t∈cj s):t.Sublist s∧t≠ []∧t≠s:=by
 unfold cj at h;split at h
 ·obtain⟨k,hk,rfl⟩:=List.mem_map.1 h;have hk':k<s.length:=by simpa using hk
  have hl:(s.eraseIdx k).length=s.length - 1:=List.length_eraseIdx_of_lt hk';exact⟨List.eraseIdx_sublist s k,fun e=>by rw[e] at hl;simp at hl;omega,fun e=>by rw[e] at hl;omega⟩
 ·cases h
theorem Nu {s:List Int}{n:Nat}(h:s.length≤n):(cj s).length≤n:=by
 unfold cj;split
 ·rw[List.length_map,List.length_range];exact h
 ·simp
theorem acI {a b:List Int}(h:a.length<b.length):nJ a b<0:=by unfold nJ;rw[if_pos (by omega),if_pos h];decide
theorem af5 {s t:List Int}(h:t.Sublist s)(hn:t≠s):t.length<s.length:=by
 have h1:=h.length_le;rcases Nat.lt_or_ge t.length s.length with h2 |h2
 ·exact h2
 ·exact absurd (h.eq_of_length (by omega)) hn
end Go.Abs
namespace Go.Proofs.YtofjebmoebhiiaaGreatDoor.Ev
open Go.Abs Go.IntWalk
theorem WY {s:List Int}(h:SS s):fE s=some 0:=by
 have h4:=h.len;have h0:s.length≠0:=fun e=>h.ne (List.eq_nil_of_length_eq_zero e);have k1:∀(q i:Nat),q+i=s.length→1≤i→dy s i=some 0:=by
  intro q;induction q with
  |zero=>intro i hi h1;rw[oI,kV,aq (by omega)]
  |succ q ih=>
   intro i hi h1;have e1:IntKind.wrap .i64 ((i:Int) - 1)=((i - 1:Nat):Int):=by rw[i64_in _ (by omega)];omega
   have hlt:s.getD (i - 1) 0<s.getD i 0:=by have:=List.pairwise_iff_getElem.1 h.up (i - 1) i (by omega) (by omega) (by omega);simpa [List.getD,show i - 1<s.length by omega,show i<s.length by omega] using this
   rw[oI,kV,ax (by omega),fh 0 (by omega),e1,fh 0 (by omega),Ud (by omega),bM (by omega)];exact ih (i+1) (by omega) (by omega)
 have k0:∀(q i:Nat),q+i=s.length→dx s i=some 0:=by
  intro q;induction q with
  |zero=>intro i hi;rw[oH,kU,aq (by omega)];exact k1 (s.length - 1) 1 (by omega) (by omega)
  |succ q ih=>intro i hi;have hr:=h.rg _ (ay (d:=0) (show i<s.length by omega));rw[oH,kU,ax (by omega),fh 0 (by omega),aq (by omega),fh 0 (by omega),u9 (by omega),bM (by omega)];exact ih (i+1) (by omega)
 rw[AK,tV,eS (by omega),c5 (by omega)];exact k0 s.length 0 (by omega)
theorem af6 {l:Gn}(hl:l.length≤1000000)(hs:∀s∈l,s.length≤4){t:List Int}(ht:t∈l):∃r:Int,0≤r∧rD l t=some r:=by
 have key:∀(q i:Nat),q+i=l.length→t∈l.drop i→∃r:Int,0≤r∧gj l t i=some r:=by
  intro q;induction q with
  |zero=>intro i hi h;rw[List.drop_eq_nil_of_le (by omega)] at h;cases h
  |succ q ih=>
   intro i hi h;have h4:=hs _ (ay (d:=[]) (show i<l.length by omega));rw[ef [] (show i<l.length by omega)] at h;rw[Hb,xl,ax (by omega),pe (by omega),UG (by omega),bS];by_cases e:nJ (l.getD i []) t=0
   ·rw[gT e];exact⟨i,by omega,rfl⟩
   ·rw[eS e,bM (by omega)];refine ih (i+1) (by omega) ?_;rcases List.mem_cons.1 h with h |h
    ·exact absurd (by rw[h];exact Gg _) e
    ·exact h
 rw[K2,Co];exact key l.length 0 (by omega) (by simpa using ht)
theorem af7 {c:Gn}(h:Cx c):rC c=some 0:=by
 have hl:=h.len;have h4:∀s∈c,s.length≤4:=fun s hs=>(h.ss s hs).len;have k1:∀(f:Gn) (i:Nat),i<c.length→(∀t∈f,t∈c)→f.length≤4→eI c ((i+1:Nat):Int)=some 0→∀(q k:Nat),q+k=f.length→gh c i f k=some 0:=by
  intro f i hi hf Ph nxt q;induction q with
  |zero=>intro k hk;rw[wk,pV,aq (by omega),bM (by omega)];exact nxt
  |succ q ih=>intro k hk;obtain⟨r,h0,h1⟩:=af6 (by omega) h4 (hf _ (ay (d:=[]) (show k<f.length by omega)));rw[wk,pV,ax (by omega),pe (by omega),h1,bS,aq (by omega),bM (by omega)];exact ih (k+1) (by omega)
 have k0:∀(q i:Nat),q+i=c.length→eI c i=some 0:=by
  intro q;induction q with
  |zero=>intro i hi;rw[wh,pU,aq (by omega)]
  |succ q ih=>
   intro i hi;have hmem:=ay (d:=[]) (show i<c.length by omega);have hss:=h.ss _ hmem;have Xi:=hss.len;have arO:∀t∈cj (c.getD i []),t∈c:=fun t ht=>by obtain⟨a,b,_⟩:=Ek ht;exact h.acD _ hmem t a b
   have Ph:(cj (c.getD i [])).length≤4:=Nu Xi;have e0:((0:Nat):Int)=0:=rfl;have fin:=k1 _ i (by omega) arO Ph (ih (i+1) (by omega)) _ 0 (Nat.add_zero _);rw[e0] at fin
   rw[wh,pU,ax (by omega),pe (by omega),WY hss,bS,nP rfl];by_cases hi0:(i:Int)>0
   ·have e1:IntKind.wrap .i64 ((i:Int) - 1)=((i - 1:Nat):Int):=by rw[i64_in _ (by omega)];omega
    have hlt:nJ (c.getD (i - 1) []) (c.getD i [])<0:=by have:=List.pairwise_iff_getElem.1 h.asc (i - 1) i (by omega) (by omega) (by omega);simpa [List.getD,show i - 1<c.length by omega,show i<c.length by omega] using this
    have hneg:=UC (c.getD (i - 1) []) (c.getD i []);rw[cX hi0,pe (by omega),e1,pe (by omega),UG (by omega),bS,eS (by omega),cX hi0,pe (by omega),pe (by omega),UG (by omega),bS,aq (by omega),pe (by omega),O6 (by omega),bS];exact fin
   ·rw[c5 hi0,c5 hi0,pe (by omega),O6 (by omega),bS];exact fin
 rw[K1,Cn,c5 (by omega)];exact k0 c.length 0 (by omega)
structure Mx (c:Gn) (values:List ByteArray) (i:Nat) (a:ByteArray):Prop where
 is:∃k,k<c.length∧(∀v∈c.getD k [],v∈c.getD i [])∧a=values.getD k ByteArray.empty
 le:∀k,k<c.length→(∀v∈c.getD k [],v∈c.getD i [])→uq (values.getD k ByteArray.empty) a≤0
theorem akX {c:Gn}(hc:Cx c){values:List ByteArray}(hv:Ats c.length values){i:Nat}(hi:i<c.length){out:List Ce}(ho:out.length≤800):∀(q k:Nat) (a:ByteArray),q+k=c.length→
  (∃k,k<c.length∧(∀v∈c.getD k [],v∈c.getD i [])∧a=values.getD k ByteArray.empty)→(∀j,j<k→(∀v∈c.getD j [],v∈c.getD i [])→uq (values.getD j ByteArray.empty) a≤0)→
  ∃a',Mx c values i a'∧jV c values i a k out=ib c values ((i+1:Nat):Int) (out++[(c.getD i [],(a',()))]):=by
 have hl:=hc.len;have hvl:=hv.1;have YD:∀k,k<c.length→At (values.getD k ByteArray.empty):=fun k hk=>hv.2 _ (ay (by omega));have h4:∀k,k<c.length→(c.getD k []).length≤4:=fun k hk=>(hc.ss _ (ay hk)).len;intro q;induction q with
 |zero=>intro k a hk h1 h2;refine⟨a,⟨h1,fun j hj=>h2 j (by omega)⟩, ?_⟩;rw[AQ,ud,aq (by omega),pe hi,iT (by omega) (by omega),bM (by omega)]
 |succ q ih=>
  intro k a hk h1 h2;have hk':k<c.length:=by omega
  have hlk:=h4 k hk';have hli:=h4 i hi;have hA:At a:=by obtain⟨k0,a1,_,rfl⟩:=h1;exact YD k0 a1
  have hall:((c.getD k []).all fun v=>decide (v∈c.getD i []))=true↔∀v∈c.getD k [],v∈c.getD i []:=by simp[List.all_eq_true]
  rw[AQ,ud,ax (by omega),pe hi,pe hk',apE (by omega) (by omega),bS];cases hb:(c.getD k []).all fun v=>decide (v∈c.getD i []) with
  |false=>
   rw[cF,bM (by omega)];refine ih (k+1) a (by omega) h1 fun j hj hs=> ?_;by_cases e:j=k
   ·subst e;have:=hall.2 hs;rw[hb] at this;cases this
   ·exact h2 j (by omega) hs
  |true=>
   have hs:=hall.1 hb;rw[cT,adT (by omega),YC (YD k hk') hA,bS];by_cases g:uq (values.getD k ByteArray.empty) a>0
   ·rw[cX g,adT (by omega),bM (by omega)];refine ih (k+1) _ (by omega) ⟨k,hk',hs,rfl⟩ fun j hj hsj=> ?_;by_cases e:j=k
    ·subst e;rw[WV];omega
    ·have n1:=Da (values.getD k ByteArray.empty) a;exact yY (YD j (by omega)) hA (YD k hk') (h2 j (by omega) hsj) (by omega)
   ·rw[c5 g,bM (by omega)];refine ih (k+1) a (by omega) h1 fun j hj hsj=> ?_;by_cases e:j=k
    ·subst e;omega
    ·exact h2 j (by omega) hsj
structure Fi (f:List Ce):Prop where
 len:f.length≤80
 ss:∀x∈f,SS x.1
 at_:∀x∈f,At x.2.1
 up:f.Pairwise Sj
 apG:f.Pairwise fun x y=>x.1≠y.1
 acD:∀j,j<f.length→∀t:List Int,t.Sublist (f.getD j fW).1→t≠ []→t≠(f.getD j fW).1→∃i,i<j∧(f.getD i fW).1=t
theorem Fi.take {f:List Ce}(h:Fi f)(n:Nat):Fi (f.take n):=by
 have hsub:=List.take_sublist n f;refine⟨by have:=h.len;simp;omega,fun x hx=>h.ss x (hsub.mem hx),fun x hx=>h.at_ x (hsub.mem hx),h.up.sublist hsub,h.apG.sublist hsub,fun j hj t ht h0 hn=> ?_⟩;have hj':j<n∧j<f.length:=by simp at hj;omega
 have e:∀i,i≤j→(f.take n).getD i fW=f.getD i fW:=fun i hi=>by simp[List.getD,show i<n by omega]
 rw[e j (Nat.le_refl _)] at ht hn;obtain⟨i,hi,he⟩:=h.acD j hj'.2 t ht h0 hn;exact⟨i,hi,by rw[e i (by omega)];exact he⟩
theorem anm {f:List Ce}(ha:∀x∈f,At x.2.1)(hu:f.Pairwise Sj){i j:Nat}(hi:i<f.length)(hj:j<f.length)(h:Sj (f.getD i fW) (f.getD j fW)):i<j:=by
 have irr:∀x:Ce,¬Sj x x:=fun x hx=>by
  rcases hx with hx | ⟨_,hx⟩
  ·rw[WV] at hx;omega
  ·rw[Gg] at hx;omega
 rcases Nat.lt_trichotomy i j with g |g |g
 ·exact g
 ·subst g;exact absurd h (irr _)
 ·have:=List.pairwise_iff_getElem.1 hu j i hj hi g;have e1:f.getD i fW=f[i]:=by simp[List.getD,hi]
  have e2:f.getD j fW=f[j]:=by simp[List.getD,hj]
  rw[e1,e2] at h;exact absurd (WW (ha _ (List.getElem_mem hi)) (ha _ (List.getElem_mem hj)) (ha _ (List.getElem_mem hi)) h this) (irr _)
theorem aiY {c:Gn}(hc:Cx c){values:List ByteArray}(hv:Ats c.length values):∀(q i:Nat) (out:List Ce),q+i=c.length→out.length=i→(∀j,j<i→(out.getD j fW).1=c.getD j []∧Mx c values j (out.getD j fW).2.1)→
  ∃o,o.length=c.length∧(∀j,j<c.length→(o.getD j fW).1=c.getD j []∧Mx c values j (o.getD j fW).2.1)∧ib c values i out=(lO o).bind fun r=>some (r,0):=by
 have hl:=hc.len;have hvl:=hv.1;intro q;induction q with
 |zero=>
  intro i out hi ho h;obtain rfl:i=c.length:=by omega
  refine⟨out,ho,h, ?_⟩;rw[AP,uc,aq (by omega)]
 |succ q ih=>
  intro i out hi ho h;have hi':i<c.length:=by omega
  obtain⟨a,h1,h2⟩:=akX hc hv hi' (out:=out) (by omega) c.length 0 (values.getD i ByteArray.empty) (by omega) ⟨i,hi',fun v hv=>hv,rfl⟩ (fun j hj=>by omega);have e0:((0:Nat):Int)=0:=rfl;rw[e0] at h2;rw[AP,uc,ax (by omega),adT (by omega),h2];refine ih (i+1) _ (by omega) (by simp;omega) fun j hj=> ?_;by_cases e:j<i
  ·have e2:(out++[(c.getD i [],(a,()))]).getD j fW=out.getD j fW:=by simp only[List.getD];rw[List.getElem?_append_left (by omega)]
   rw[e2];exact h j e
  ·obtain rfl:j=i:=by omega
   have e2:(out++[(c.getD j [],(a,()))]).getD j fW=(c.getD j [],(a,())):=by simp only[List.getD];rw[List.getElem?_append_right (by omega),ho,Nat.sub_self];rfl
   rw[e2];exact⟨rfl,h1⟩
theorem ann {c:Gn}(hc:Cx c){values:List ByteArray}(hv:Ats c.length values):∃r,yy c values=some (r,0)∧Fi r:=by
 have hl:=hc.len;have hvl:=hv.1;have YD:∀k,k<c.length→At (values.getD k ByteArray.empty):=fun k hk=>hv.2 _ (ay (by omega));obtain⟨o,o1,o2,o3⟩:=aiY hc hv c.length 0 [] (by omega) rfl (fun j hj=>by omega);have oat:∀j,j<c.length→At (o.getD j fW).2.1:=fun j hj=>by obtain⟨k,hk,_,e⟩:=(o2 j hj).2.is;rw[e];exact YD k hk
 have memo:∀x∈o,∃j,j<c.length∧x=o.getD j fW:=fun x hx=>by obtain⟨j,hj,e⟩:=List.getElem_of_mem hx;exact⟨j,by omega,by simp[List.getD,hj,e]⟩
 have apH:∀i j,i<c.length→j<c.length→i≠j→c.getD i []≠c.getD j []:=fun i j hi hj hij e=>by
  have lt:∀i j,i<j→j<c.length→nJ (c.getD i []) (c.getD j [])<0:=fun i j hij hj=>by have:=List.pairwise_iff_getElem.1 hc.asc i j (by omega) hj hij;simpa [List.getD,show i<c.length by omega,hj] using this
  rcases Nat.lt_or_ge i j with g |g
  ·have:=lt i j g hj;rw[e,Gg] at this;omega
  ·have:=lt j i (by omega) hi;rw[e,Gg] at this;omega
 have alQ:o.Pairwise fun x y=>x.1≠y.1:=List.pairwise_iff_getElem.2 fun i j hi hj hij=>by
  have h1:=(o2 i (by omega)).1;have h2:=(o2 j (by omega)).1;have e1:o.getD i fW=o[i]:=by simp[List.getD,hi]
  have e2:o.getD j fW=o[j]:=by simp[List.getD,hj]
  rw[e1] at h1;rw[e2] at h2;rw[h1,h2];exact apH i j (by omega) (by omega) (by omega)
 have ocs:Cs o:=⟨by omega,fun x hx=>by
  obtain⟨j,hj,rfl⟩:=memo x hx;rw[(o2 j hj).1];exact⟨(hc.ss _ (ay hj)).len,oat j hj⟩⟩
 obtain⟨r,r1,r2,r3⟩:=acH ocs alQ;have ano:∀x∈r,∃j,j<c.length∧x=o.getD j fW:=fun x hx=>memo x (r2.mem_iff.1 hx);have rat:∀x∈r,At x.2.1:=fun x hx=>by obtain⟨j,hj,rfl⟩:=ano x hx;exact oat j hj
 refine⟨r, ?_,by rw[r2.length_eq];omega,fun x hx=> ?_,rat,r3,(r2.pairwise_iff (R:=fun x y:Ce=>x.1≠y.1) (fun h=>Ne.symm h)).2 alQ,fun j hj t ht h0 hn=> ?_⟩
 ·have k0:∀(q i:Nat),q+i=values.length→jU c values i=some (r,0):=by
   intro q;induction q with
   |zero=>intro i hi;have e0:((0:Nat):Int)=0:=rfl;rw[e0] at o3;rw[AO,tY,aq (by omega),o3,r1,bS]
   |succ q ih=>intro i hi;have ha:=YD i (by omega);rw[AO,tY,ax (by omega),adT (by omega),Uo (by have:=ha.2;omega),bS,ha.1,Bool.not_true,cF,bM (by omega)];exact ih (i+1) (by omega)
  rw[P5,HJ,af7 hc,bS,nP rfl,nP (by omega)];exact k0 values.length 0 (by omega)
 ·obtain⟨j,hj,rfl⟩:=ano x hx;rw[(o2 j hj).1];exact hc.ss _ (ay hj)
 ·obtain⟨b,hb,eb⟩:=ano _ (ay (d:=fW) hj);rw[eb,(o2 b hb).1] at ht hn;have htc:t∈c:=hc.acD _ (ay hb) t ht h0;obtain⟨a,ha,ea⟩:=List.getElem_of_mem htc;have ea':c.getD a []=t:=by simp[List.getD,ha,ea]
  have hya:o.getD a fW∈r:=r2.mem_iff.2 (ay (by omega));obtain⟨i,hi,ei⟩:=List.getElem_of_mem hya;have ei':r.getD i fW=o.getD a fW:=by simp[List.getD,hi,ei]
  refine⟨i,anm rat r3 hi hj ?_,by rw[ei',(o2 a ha).1,ea']⟩;rw[ei',eb];obtain⟨k,hk,hks,ek⟩:=(o2 a ha).2.is;have hle:uq (o.getD a fW).2.1 (o.getD b fW).2.1≤0:=by rw[ek];exact(o2 b hb).2.le k hk fun v hv=>by have h1:=hks v hv;rw[ea'] at h1;exact ht.mem h1
  have hsh:nJ (o.getD a fW).1 (o.getD b fW).1<0:=by rw[(o2 a ha).1,(o2 b hb).1,ea'];exact acI (af5 ht hn)
  by_cases e:uq (o.getD a fW).2.1 (o.getD b fW).2.1=0
  ·exact .inr ⟨e,hsh⟩
  ·exact .inl (by omega)
theorem acJ {values:List Int}(hvl:values.length≤1000000000000000000){c:Gn}(hc:Cx c):∀(q i:Nat) (a:List ByteArray),q+i=c.length→Ats i a→∃r,fY values c i a=some r∧Fi r:=by
 have S1:=hc.len;intro q;induction q with
 |zero=>intro i a hi ha;obtain⟨r,h1,h2⟩:=ann hc (values:=a) ⟨by have:=ha.1;omega,ha.2⟩;rw[wm,pY,aq (by omega),h1,bS];exact⟨r,rfl,h2⟩
 |succ q ih=>
  intro i a hi ha;have hal:=ha.1;have push:∀s,At s→Ats (i+1) (a++[s]):=fun s hs=>⟨by simp;omega,fun x hx=>by
   rcases List.mem_append.1 hx with h |h
   ·exact ha.2 x h
   ·rw[List.mem_singleton.1 h];exact hs⟩
  rw[wm,pY,ax (by omega),bM (by omega)];by_cases hv:(values.length:Int)>0
  ·have h1:=Int.emod_nonneg (i:Int) (show (values.length:Int)≠0 by omega);have h2:=Int.emod_lt_of_pos (i:Int) hv;have e:(i:Int).tmod (values.length:Int)=(i:Int) % (values.length:Int):=bA (by omega);rw[cX hv,kz (by omega),e,fI h1 h2,kz (by omega)];obtain⟨s,h3,h4⟩:=aaL (IntKind.wrap .i64 (values.getD ((i:Int) % (values.length:Int)).toNat 0+IntKind.wrap .i64 ((i:Int).tdiv (values.length:Int))));simp only;rw[h3,bS,iT (by omega) (by omega)];exact ih (i+1) _ (by omega) (push s h4)
  ·obtain⟨s,h3,h4⟩:=aaL (i:Int);rw[c5 hv,h3,bS,iT (by omega) (by omega)];exact ih (i+1) _ (by omega) (push s h4)
theorem af8 {l:Gn}(hl:l.length≤1000000)(hs:∀s∈l,s.length≤1000000000000000000){values:List Int}(hv:values.length≤1000000000000000000):∃r,rl l values 5 3 6=some r∧Fi r:=by obtain⟨c,h1,h2⟩:=af2 hl hs;rw[K3,Ct,h1,bS,akV (by have:=h2.len;omega) (fun s hs=>(h2.ss s hs).len),bS];exact acJ hv h2 c.length 0 [] (by omega) ⟨rfl,fun s hs=>by cases hs⟩
theorem WZ {f:List Ce}(hf:Fi f){n:Nat}(hn:n≤f.length){s:List Int}:∀(q i:Nat),q+i=n→(∃r:Int,0≤r∧cN f n s i=some r∧∃j,i≤j∧j<n∧(f.getD j fW).1=s)∨(cN f n s i=some (-1)∧∀j,i≤j→j<n→(f.getD j fW).1≠s):=by
 have hl:=hf.len;intro q;induction q with
 |zero=>intro i hi;right;rw[oP,k9,aq (by omega)];exact⟨rfl,fun j h1 h2=>by omega⟩
 |succ q ih=>
  intro i hi;have h4:=(hf.ss _ (ay (d:=fW) (show i<f.length by omega))).len;rw[oP,k9,ax (by omega),J9 (by omega),UG (by omega),bS];by_cases e:nJ (f.getD i fW).1 s=0
  ·left;rw[gT e];exact⟨i,by omega,rfl,i,by omega,by omega,Hp.1 e⟩
  ·rw[eS e,bM (by omega)];rcases ih (i+1) (by omega) with ⟨r,h1,h2,j,h3,h5,h6⟩ | ⟨h1,h2⟩
   ·exact .inl ⟨r,h1,h2,j,by omega,h5,h6⟩
   ·refine .inr ⟨h1,fun j h3 h5=> ?_⟩;by_cases g:j=i
    ·subst g;exact fun g2=>e (Hp.2 g2)
    ·exact h2 j (by omega) h5
theorem af9 {f:List Ce}(hf:Fi f){n:Nat}(hn:n≤f.length){s:List Int}(h:∃j,j<n∧(f.getD j fW).1=s):∃r:Int,0≤r∧eB f n s=some r:=by
 rw[sC,oQ];have e0:((0:Nat):Int)=0:=rfl;rcases WZ hf hn (s:=s) n 0 (by omega) with ⟨r,h1,h2,_⟩ | ⟨_,h2⟩
 ·rw[e0] at h2;exact⟨r,h1,h2⟩
 ·obtain⟨j,h3,h4⟩:=h;exact absurd h4 (h2 j (Nat.zero_le _) h3)
theorem aga {f:List Ce}(hf:Fi f){n:Nat}(hn:n≤f.length){s:List Int}(h:∀j,j<n→(f.getD j fW).1≠s):eB f n s=some (-1):=by
 rw[sC,oQ];have e0:((0:Nat):Int)=0:=rfl;rcases WZ hf hn (s:=s) n 0 (by omega) with ⟨r,_,_,j,_,h3,h4⟩ | ⟨h1,_⟩
 ·exact absurd h4 (h j h3)
 ·rw[e0] at h1;exact h1
theorem Fi.ne {f:List Ce}(hf:Fi f){i j:Nat}(hi:i<f.length)(hj:j<f.length)(h:i≠j):(f.getD i fW).1≠(f.getD j fW).1:=by
 have lt:∀i j,i<j→(hj:j<f.length)→(f.getD i fW).1≠(f.getD j fW).1:=fun i j hij hj=>by have:=List.pairwise_iff_getElem.1 hf.apG i j (by omega) hj hij;simpa [List.getD,show i<f.length by omega,hj] using this
 rcases Nat.lt_or_ge i j with g |g
 ·exact lt i j g hj
 ·exact Ne.symm (lt j i (by omega) hi)
theorem agb {f:List Ce}(hf:Fi f):jW f=some 0:=by
 have hl:=hf.len;have apI:∀i,i<f.length→lD f i=some 0:=fun i hi=>by have hm:=ay (d:=fW) hi;have ha:=hf.at_ _ hm;rw[Cv,wo,J9 hi,WY (hf.ss _ hm),bS,nP rfl,J9 hi,Uo (by have:=ha.2;omega),bS,ha.1,Bool.not_true,cF,J9 hi,aga hf (by omega) (fun j hj=>hf.ne (by omega) hi (by omega)),bS];rfl
 have k1:∀(fc:Gn) (i:Nat),i<f.length→(∀t∈fc,∃j,j<i∧(f.getD j fW).1=t)→fc.length≤4→cM f ((i+1:Nat):Int)=some 0→∀(q k:Nat),q+k=fc.length→dr f i fc k=some 0:=by
  intro fc i hi hfc Ph nxt q;induction q with
  |zero=>
   intro k hk;rw[oM,kZ,aq (by omega)];by_cases hi0:(i:Int)>0
   ·have e1:IntKind.wrap .i64 ((i:Int) - 1)=((i - 1:Nat):Int):=by rw[i64_in _ (by omega)];omega
    have a1:=hf.at_ _ (ay (d:=fW) hi);have a2:=hf.at_ _ (ay (d:=fW) (show i - 1<f.length by omega));have hlt:Sj (f.getD (i - 1) fW) (f.getD i fW):=by have:=List.pairwise_iff_getElem.1 hf.up (i - 1) i (by omega) hi (by omega);simpa [List.getD,show i - 1<f.length by omega,hi] using this
    have hneg:=Da (f.getD (i - 1) fW).2.1 (f.getD i fW).2.1;have hle:uq (f.getD (i - 1) fW).2.1 (f.getD i fW).2.1≤0:=by rcases hlt with h | ⟨h,_⟩<;>omega
    rw[cX hi0,J9 hi,e1,J9 (by omega),YC a1 a2,bS,aq (by omega),bM (by omega)];exact nxt
   ·rw[c5 hi0,bM (by omega)];exact nxt
  |succ q ih=>intro k hk;obtain⟨r,h0,h1⟩:=af9 hf (n:=i) (by omega) (hfc _ (ay (d:=[]) (show k<fc.length by omega)));rw[oM,kZ,ax (by omega),pe (by omega),h1,bS,aq (by omega),bM (by omega)];exact ih (k+1) (by omega)
 have k0:∀(q i:Nat),q+i=f.length→cM f i=some 0:=by
  intro q;induction q with
  |zero=>intro i hi;rw[oL,kY,aq (by omega)]
  |succ q ih=>
   intro i hi;have hi':i<f.length:=by omega
   have h4:=(hf.ss _ (ay (d:=fW) hi')).len;have Ph:(cj (f.getD i fW).1).length≤4:=Nu h4;have e0:((0:Nat):Int)=0:=rfl;have fin:=k1 (cj (f.getD i fW).1) i hi' (fun t ht=>by
    obtain⟨a,b,c⟩:=Ek ht;exact hf.acD i hi' t a b c) Ph (ih (i+1) (by omega)) _ 0 (Nat.add_zero _)
   rw[e0] at fin
   rw[oL,kY,ax (by omega),apI i hi',bS,nP rfl,J9 hi',O6 (by omega),bS];exact fin
 rw[AR,ug,c5 (by omega)];exact k0 f.length 0 (by omega)
def sm (g:Nat→Int):Nat→Int
 |0=>0
 |n+1=>sm g n+g n
theorem bH {g h:Nat→Int}:∀{n:Nat},(∀i,i<n→g i=h i)→sm g n=sm h n
 |0,_=>rfl
 |n+1,e=>by rw[sm,sm,bH fun i hi=>e i (by omega),e n (by omega)]
theorem Hs {g:Nat→Int}:∀{n:Nat},(∀i,i<n→g i=0)→sm g n=0
 |0,_=>rfl
 |n+1,e=>by rw[sm,Hs fun i hi=>e i (by omega),e n (by omega)];rfl
theorem E3 (g h:Nat→Int):∀n:Nat,sm (fun i=>g i+h i) n=sm g n+sm h n
 |0=>rfl
 |n+1=>by rw[sm,sm,sm,E3 g h n];omega
theorem Ar (c:Int)(g:Nat→Int):∀n:Nat,sm (fun i=>c*g i) n=c*sm g n
 |0=>by simp[sm]
 |n+1=>by rw[sm,sm,Ar c g n,Int.mul_add]
theorem Sk (g:Nat→Nat→Int)(m:Nat):∀n:Nat,sm (fun i=>sm (g i) m) n=sm (fun j=>sm (fun i=>g i j) n) m
 |0=>(Hs (g:=fun j=>sm (fun i=>g i j) 0) fun _ _=>rfl).symm
 |n+1=>by rw[sm,Sk g m n, ←E3];rfl
theorem Nv {g:Nat→Int}{a:Nat}:∀{n:Nat},a<n→(∀i,i<n→i≠a→g i=0)→sm g n=g a
 |0,h,_=>by omega
 |n+1,h,e=>by
  rw[sm];by_cases ha:a=n
  ·subst ha;rw[Hs fun i hi=>e i (by omega) (by omega)];omega
  ·rw[Nv (a:=a) (by omega) fun i hi hn=>e i (by omega) hn,e n (by omega) (by omega)];omega
theorem UH (g:Nat→Int):∀n:Nat,sm g (n+1)=g 0+sm (fun i=>g (i+1)) n
 |0=>by simp[sm]
 |n+1=>by rw[sm,UH g n,sm];omega
theorem acK (g:Nat→Int):∀n:Nat,sm (fun i=>g (n - 1 - i)) n=sm g n
 |0=>rfl
 |n+1=>by
  rw[UH,sm, ←acK g n];have:sm (fun i=>g (n+1 - 1 - (i+1))) n=sm (fun i=>g (n - 1 - i)) n:=bH fun i hi=>by congr 1;omega
  rw[this];have e:n+1 - 1 - 0=n:=by omega
  rw[e];omega
theorem aiZ {p:Int}{g h:Nat→Int}:∀{n:Nat},(∀i,i<n→g i % p=h i % p)→sm g n % p=sm h n % p
 |0,_=>rfl
 |n+1,e=>by rw[sm,sm,Int.add_emod,aiZ fun i hi=>e i (by omega),e n (by omega), ←Int.add_emod]
def aaZ (aa:List Cl)(r:Int):List Tm→Int
 | []=>0
 |t::l=>t.2.1*cf (cp aa t.1) r+aaZ aa r l
theorem ad2 {aa:List Cl}{r:Int}{n:Nat}:∀{x:List Tm} {lo:Int},Sr lo x→ -1≤lo→(∀t∈x,t.1<n)→aaZ aa r x=sm (fun i=>cf x i*cf (cp aa i) r) n
 | [],lo,_,_,_=>by rw[aaZ,Hs fun i hi=>by rw[Hn,Int.zero_mul]]
 |t::l,lo,hs,hlo,hn=>by
  have h1:=hs.1;have hlt:=hn t List.mem_cons_self;rw[aaZ,ad2 (n:=n) hs.2 (by omega) fun u hu=>hn u (List.mem_cons_of_mem _ hu)];obtain⟨a,ha⟩:∃a:Nat,t.1=(a:Int):=⟨t.1.toNat,by omega⟩
  have hz:cf l (a:Int)=0:=Sr.cf0 hs.2 (by omega);have e1:t.2.1*cf (cp aa t.1) r=sm (fun i=>if i=a then t.2.1*cf (cp aa (i:Int)) r else 0) n:=by rw[Nv (a:=a) (by omega) fun i hi hne=>by rw[if_neg hne],if_pos rfl,ha]
  rw[e1, ←E3];refine bH fun i hi=> ?_;rw[rN];by_cases e:i=a
  ·subst e;rw[if_pos rfl,if_pos ha,hz];omega
  ·rw[if_neg e,if_neg (by omega)];omega
theorem ad3 {p:Int}(hp:0<p){aa:List Cl}{n:Int}:∀{x S:List Tm},(∀t∈x,Vc p n (cp aa t.1))→Vc p n S→Vc p n (ID p aa S x)∧∀r,cf (ID p aa S x) r=(cf S r+aaZ aa r x) % p
 | [],S,_,hS=>⟨hS,fun r=>by
   have:=J5 hp hS.c r;rw[ID,aaZ,Int.add_zero,Int.emod_eq_of_lt this.1 this.2]⟩
 |t::l,S,hx,hS=>by
  obtain⟨h1,h2⟩:=Ei (k:=t.2.1 % p) hp hS (hx t List.mem_cons_self);obtain⟨h3,h4⟩:=ad3 (x:=l) hp (fun u hu=>hx u (List.mem_cons_of_mem _ hu)) h1;refine⟨h3,fun r=> ?_⟩;have h5:=h4 r;rw[h2 r,Int.emod_add_emod] at h5;rw[ID,h5,aaZ];generalize aaZ aa r l=u;generalize cf (cp aa t.1) r=b;generalize cf S r=s;have e:s+t.2.1 % p*b+u=(s+(t.2.1*b+u))+p*(-(t.2.1 / p)*b):=by rw[Int.emod_def];grind
  rw[e,Int.add_mul_emod_self_left]
abbrev mx (aa:List Cl)(i j:Nat):Int:=cf (cp aa (j:Int)) (i:Int)
theorem KK {p:Int}(hp:0<p){aa:List Cl}{n:Nat}(hv:∀j,j<n→Vc p n (cp aa j)){j:Nat}(hj:j<n):ID p aa [] (cp aa j)=[]↔∀r,r<n→sm (fun i=>mx aa i j*mx aa r i) n % p=0:=by
 have hx:=hv j hj;obtain⟨h1,h2⟩:=ad3 (p:=p) (n:=(n:Int)) (aa:=aa) (x:=cp aa j) (S:=[]) hp (fun t ht=>by
  have:=hx.r t ht;have:=Sr.mem hx.s t ht;have e:t.1=((t.1.toNat:Nat):Int):=by omega
  rw[e];exact hv _ (by omega)) Vc.nil
 have h3:∀r:Nat,cf (ID p aa [] (cp aa j)) r=sm (fun i=>mx aa i j*mx aa r i) n % p:=fun r=>by rw[h2,Hn,Int.zero_add,ad2 (n:=n) hx.s (by omega) fun t ht=>(hx.r t ht).1]
 constructor
 ·intro e r hr;rw[←h3,e,Hn]
 ·intro e;have apJ:Vc p n []:=Vc.nil;refine Sr.ext h1.s apJ.s h1.c apJ.c fun i=> ?_;rw[Hn];by_cases hi:0≤i∧i<n
  ·have:=h3 i.toNat
   rw[Int.toNat_of_nonneg hi.1,e i.toNat (by omega)] at this;exact this
  ·by_cases hz:cf (ID p aa [] (cp aa j)) i=0
   ·exact hz
   ·obtain⟨t,ht,rfl⟩:=Ro hz;have:=h1.r t ht;have:=Sr.mem h1.s t ht;omega
def Sl (p:Int)(k:Nat):Int:=(1+((k:Int) % 2)*(p - 2)) % p
def co (p:Int)(fc:Gn)(s:List Int):Nat→Int
 |0=>0
 |k+1=>if s=fc.getD k [] then Sl p k else co p fc s k
def vec (f:List Ce)(p:Int)(j:Nat):List Int:=(List.range j).map fun i=>co p (cj (f.getD j fW).1) (f.getD i fW).1 (cj (f.getD j fW).1).length
def ofc (f:List Ce)(p:Int)(j:Nat):Cl:=(((f.getD j fW).1.length:Int) - 1,((f.getD j fW).2.1,(Nk 0 (vec f p j),())))
theorem agc {a b:List Int}(hl:a.length=b.length)(h:∀r,r<a.length→a.getD r 0=b.getD r 0):a=b:=by apply List.ext_getElem hl;intro r h1 h2;have:=h r h1;simpa [List.getD,h1,h2] using this
theorem yq (f:List Ce)(p:Int)(j:Nat):(vec f p j).length=j:=by simp[vec]
theorem O7 {f:List Ce}{p:Int}{j i:Nat}(h:i<j):(vec f p j).getD i 0=co p (cj (f.getD j fW).1) (f.getD i fW).1 (cj (f.getD j fW).1).length:=by unfold vec;simp[List.getD,h]
theorem ai0 {f:List Ce}(hf:Fi f){p:Int}(hp:Pr p){j:Nat}(hj:j≤f.length){fc:Gn}{k:Nat}(hk:k<fc.length)(hk4:fc.length≤4){v t2 ak:Nat}{t out:Int}{lC:List (Option (List Cl))}(hv:v≠0):
  ∀(q i:Nat) (aF:List (Option (List Int))) (l:List Int),q+i=j→ai aF v=some l→l.length=j→(∀r,r<j→l.getD r 0=if r<i then co p fc (f.getD r fW).1 (k+1) else co p fc (f.getD r fW).1 k)→
   ∃Bq l',eK f p j v fc k i t t2 out ak lC aF=dH f p j v fc ((k+1:Nat):Int) t t2 out ak lC Bq∧ai Bq v=some l'∧l'.length=j∧∀r,r<j→l'.getD r 0=co p fc (f.getD r fW).1 (k+1):=by
 have Ph:=hf.len;intro q;induction q with
 |zero=>intro i aF l hi hg hl hr;rw[qY,mV,aq (by omega),bM (by omega)];exact⟨aF,l,rfl,hg,hl,fun r h=>by rw[hr r h,if_pos (by omega)]⟩
 |succ q ih=>
  intro i aF l hi hg hl hr;have hc:=(hf.ss _ (ay (d:=fW) (show i<f.length by omega))).len;rw[qY,mV,ax (by omega),J9 (by omega),pe hk,UG (by omega),bS,bM (by omega)];have hp1:=hp.1;have hp2:=hp.2.1;obtain⟨m1,m2,m3⟩:=apA (k:=(k:Int)) (by omega) ⟨hp1,hp2⟩;by_cases e:nJ (f.getD i fW).1 (fc.getD k [])=0
  ·have g:l[(i:Int).toNat]? =some (l.getD i 0):=by rw[Int.toNat_natCast];simp[List.getD,show i<l.length by omega]
   have hb:∀{β:Type} {f:Int→Option β},(idx l (i:Int)).bind f=f (l.getD i 0):=fh 0 (by omega);rw[gT e];simp only;rw[m1,kz (by omega),hg,bS,hb,bS,g,bS,i64_in _ (by omega),bA (by omega)];refine ih (i+1) _ _ (by omega) (Go.Abs.j7 hg hv) (by rw[List.length_set];exact hl) fun r hrj=> ?_;rw[Int.toNat_natCast,cE];by_cases e2:i=r
   ·subst e2;rw[if_pos ⟨rfl,by omega⟩,if_pos (by omega),co,if_pos (Hp.1 e)];rfl
   ·rw[if_neg (fun h=>e2 h.1),hr r hrj];by_cases e3:r<i
    ·rw[if_pos e3,if_pos (by omega)]
    ·rw[if_neg e3,if_neg (by omega)]
  ·rw[eS e];refine ih (i+1) aF l (by omega) hg hl fun r hrj=> ?_;rw[hr r hrj];by_cases e3:r<i
   ·rw[if_pos e3,if_pos (by omega)]
   ·rw[if_neg e3];by_cases e2:r=i
    ·subst e2;rw[if_pos (by omega),co,if_neg fun h=>e (Hp.2 h)]
    ·rw[if_neg (by omega)]
theorem ai1 {f:List Ce}(hf:Fi f){p:Int}(hp:Pr p){j:Nat}(hj:j<f.length){v t2 ak:Nat}{t out:Int}{lC:List (Option (List Cl))}(hv:v≠0){aa:List Cl}(hc:ai lC ak=some aa)(S1:aa.length=j):
  ∀(q k:Nat) (aF:List (Option (List Int))) (l:List Int),q+k=(cj (f.getD j fW).1).length→ai aF v=some l→l.length=j→(∀r,r<j→l.getD r 0=co p (cj (f.getD j fW).1) (f.getD r fW).1 k)→
   ∃Rw aaM Bq,ai aaM Rw=some (aa++[ofc f p j])∧dH f p j v (cj (f.getD j fW).1) k t t2 out ak lC aF=cY f p ((j+1:Nat):Int) t t2 out Rw aaM Bq:=by
 have Ph:=hf.len;have h4:=(hf.ss _ (ay (d:=fW) hj)).len;have hs4:(cj (f.getD j fW).1).length≤4:=Nu h4;intro q;induction q with
 |zero=>
  intro k aF l hk hg hl hr;have hlv:l=vec f p j:=agc (by rw[hl,yq]) fun r hrl=>by rw[hr r (by omega),O7 (by omega)];congr 1;omega
  rw[qX,mT,aq (by omega),J9 hj];simp only;rw[J9 hj,Ka hg (by omega),bS,hc,bS,iT (by omega) (by omega),bM (by omega),i64_in _ (by omega),hlv];exact⟨_,_,_,mh,rfl⟩
 |succ q ih=>intro k aF l hk hg hl hr;have e0:((0:Nat):Int)=0:=rfl;obtain⟨Bq,l',h1,h2,h3,h5⟩:=ai0 (t:=t) (t2:=t2) (out:=out) (ak:=ak) (lC:=lC) hf hp (show j≤f.length by omega) (show k<(cj (f.getD j fW).1).length by omega) hs4 hv j 0 aF l (by omega) hg hl (fun r hrj=>by rw[hr r hrj,if_neg (by omega)]);rw[e0] at h1;rw[qX,mT,ax (by omega),h1];exact ih (k+1) Bq l' (by omega) h2 h3 h5
theorem ai2 {f:List Ce}(hf:Fi f){p:Int}(hp:Pr p){t:Int}{t2:Nat}:∀(q j ak:Nat) (lC:List (Option (List Cl))) (aF:List (Option (List Int))),q+j=f.length→ai lC ak=some ((List.range j).map (ofc f p))→
  cY f p j t t2 p ak lC aF=some ((p,((List.range f.length).map (ofc f p),())),0):=by
 have Ph:=hf.len;intro q;induction q with
 |zero=>
  intro j ak lC aF hj hc;obtain rfl:j=f.length:=by omega
  rw[qW,mS,aq (by omega),Nq rfl hc];rfl
 |succ q ih=>
  intro j ak lC aF hj hc;have hj':j<f.length:=by omega
  have h4:=(hf.ss _ (ay (d:=fW) hj')).len;have e0:((0:Nat):Int)=0:=rfl;obtain⟨o,h0,h4',k1,k2⟩:=ai1 (t:=t) (t2:=t2) (out:=p) (v:=aF.length+1) hf hp hj' (by omega) hc (by simp) _ 0 (aF++[some (List.replicate j 0)]) (List.replicate j 0) (Nat.add_zero _) mh (by simp) (fun r hr=>by rw[OZ];rfl);rw[e0] at k2;rw[qW,mS,ax (by omega),Ic (by omega) (by omega) (by omega),J9 hj',O6 (by omega),bS,Int.toNat_natCast,k2];exact ih (j+1) o h0 h4' (by omega) (by rw[k1,List.range_succ,List.map_append];rfl)
theorem agd {f:List Ce}{p j t out:Int}{t2 o:Nat}:jT f p j t t2 out o=cY f p j t t2 out o [] []:=rfl
theorem anp {f:List Ce}(hf:Fi f){p:Int}(hp:Pr p):jH f p=some ((p,((List.range f.length).map (ofc f p),())),0):=by
 have hpr:ia p=some true:=by rw[afJ,decide_eq_true hp]
 have:=ai2 hf hp (t:=0) (t2:=0) f.length 0 0 [] [] (by omega) rfl;have e0:((0:Nat):Int)=0:=rfl;rw[e0] at this;rw[FK,Am,hpr,bS,Bool.not_true,cF,agb hf,bS,nP rfl,agd];exact this
theorem anq {p:Int}{aa:List Cl}{j:Nat}(h:Good p aa j)(hj:j≤1024):wR p aa j=0:=by
 have hb:=fV aa j;unfold wR;have h1:=h.PT;have h2:=h.at_;have h3:=h.bd;have h5:=h.akK;rw[hb] at h3 h5;have h6:aaA p (aa.getD j gq).2.2.1=0:=by rw[←hb];exact J6.2 (h.low hj)
 have h7:ID p aa [] (aa.getD j gq).2.2.1=[]:=by rw[←hb];exact h.cyc
 rw[if_neg (fun g=>by
  rcases g with g |g |g
  ·omega
  ·omega
  ·rw[h2] at g;cases g),if_neg (fun g=>g h6),if_neg (fun g=>by
  obtain⟨t,ht,e⟩:=List.any_eq_true.1 g;have:=(h3.r t ht).1;simp only[decide_eq_true_eq] at e;omega),if_neg (fun g=>by
  obtain⟨t,ht,e⟩:=List.any_eq_true.1 g;rw[h5 t ht] at e;simp at e),if_neg (fun g=>g h7),if_neg (by rw[h.ord];simp)]
theorem acL {p:Int}{aa:List Cl}(hp:Pr p)(hl:aa.length≤1024)(h:∀j,j<aa.length→Good p aa j):fi p aa=0:=by
 unfold fi;rw[if_pos hp,if_neg (by omega)];have key:∀(m j:Nat),m+j=aa.length→Rr p aa j m=0:=by
  intro m;induction m with
  |zero=>intro j hj;rfl
  |succ m ih=>intro j hj;rw[Rr,if_neg (by rw[anq (h j (by omega)) (by omega)];simp)];exact ih (j+1) (by omega)
 exact key aa.length 0 (by omega)
theorem Gi {p:Int}(hp:2≤p)(k:Nat):Sl p k=if k % 2=0 then 1 else p - 1:=by
 unfold Sl;have:(k:Int) % 2=((k % 2:Nat):Int):=by omega
 rw[this];by_cases h:k % 2=0
 ·rw[if_pos h,h,show (((0:Nat):Int))=0 from rfl,Int.zero_mul,Int.add_zero,Int.emod_eq_of_lt (by omega) (by omega)]
 ·rw[if_neg h,show k % 2=1 by omega,show (((1:Nat):Int))=1 from rfl,Int.one_mul,Int.emod_eq_of_lt (by omega) (by omega)];omega
def cb (p:Int)(s t:List Int):Int:=co p (cj s) t (cj s).length
def ai3 (p:Int)(fc:Gn)(g:List Int→Int):Nat→Int
 |0=>0
 |k+1=>ai3 p fc g k+Sl p k*g (fc.getD k [])
theorem ad4 {p:Int}{fc:Gn}{s:List Int}:∀{k:Nat},(∀i,i<k→s≠fc.getD i [])→co p fc s k=0
 |0,_=>rfl
 |k+1,h=>by rw[co,if_neg (h k (by omega)),ad4 fun i hi=>h i (by omega)]
theorem UI {f:List Ce}(hf:Fi f){p:Int}{fc:Gn}{g:List Int→Int}{n:Nat}(hn:n≤f.length):∀{k:Nat},k≤fc.length→(∀i,i<k→∃a,a<n∧(f.getD a fW).1=fc.getD i [])→(∀a b,a<k→b<k→a≠b→fc.getD a []≠fc.getD b [])→
  sm (fun i=>co p fc (f.getD i fW).1 k*g (f.getD i fW).1) n=ai3 p fc g k
 |0,_,_,_=>by rw[ai3];exact Hs fun i hi=>by rw[co,Int.zero_mul]
 |k+1,hk,hx,hd=>by
  have ih:=UI hf (p:=p) (fc:=fc) (g:=g) (n:=n) hn (k:=k) (by omega) (fun i hi=>hx i (by omega)) (fun a b ha hb=>hd a b (by omega) (by omega));obtain⟨a,ha,ea⟩:=hx k (by omega);rw[ai3, ←ih];have e1:Sl p k*g (fc.getD k [])=sm (fun i=>if i=a then Sl p k*g (fc.getD k []) else 0) n:=by rw[Nv (a:=a) ha fun i hi hne=>by rw[if_neg hne],if_pos rfl]
  rw[e1, ←E3];refine bH fun i hi=> ?_;by_cases e:i=a
  ·subst e;have hz:co p fc (f.getD i fW).1 k=0:=ad4 fun b hb=>by rw[ea];exact hd k b (by omega) (by omega) (by omega)
   rw[if_pos rfl,co,if_pos ea,hz,ea];omega
  ·rw[if_neg e,co,if_neg (fun h=>hf.ne (by omega) (by omega) e (h.trans ea.symm))];omega
theorem akY {p:Int}(hp:2≤p){s:List Int}(hs:SS s)(t:List Int):ai3 p (cj s) (fun u=>cb p u t) (cj s).length % p=0:=by
 have h4:=hs.len;have g0:Sl p 0=1:=by rw[Gi hp];rfl
 have g1:Sl p 1=p - 1:=by rw[Gi hp];rfl
 have g2:Sl p 2=1:=by rw[Gi hp];rfl
 have g3:Sl p 3=p - 1:=by rw[Gi hp];rfl
 match s,hs with
 | [],_=>rfl
 | [a],_=>rfl
 | [a,b],_=>have e1:cb p [b] t=0:=rfl;have e2:cb p [a] t=0:=rfl;show (0+Sl p 0*cb p [b] t+Sl p 1*cb p [a] t) % p=0;rw[e1,e2];simp
 | [a,b,c],hs=>
   have hne:a<b∧b<c:=by have:=hs.up;simp at this;omega
   have w:∀x y:Int,x≠y→cb p [x,y] t=(if t=[y] then 1 else 0)+(if t=[x] then (p - 1) else 0):=fun x y hxy=>by
    show (if t=[x] then Sl p 1 else if t=[y] then Sl p 0 else 0)=_;rw[g0,g1];by_cases h1:t=[x]
    ·have:t≠ [y]:=fun h=>hxy (by rw[h1] at h;simpa using h);rw[if_pos h1,if_neg this,if_pos h1];omega
    ·rw[if_neg h1,if_neg h1];omega
   show (0+Sl p 0*cb p [b,c] t+Sl p 1*cb p [a,c] t+Sl p 2*cb p [a,b] t) % p=0;rw[g0,g1,g2,w b c (by omega),w a c (by omega),w a b (by omega)];have key:∀xa xb xc ya yb:Int,ya=xa*(p - 1)→yb=xb*(p - 1)→(0+1*(xc+yb)+(p - 1)*(xc+ya)+1*(xb+ya)) % p=0:=fun xa xb xc ya yb h1 h2=>by
    have:0+1*(xc+yb)+(p - 1)*(xc+ya)+1*(xb+ya)=p*(xc+xb+xa*(p - 1)):=by rw[h1,h2];grind
    rw[this,Int.mul_emod_right]
   refine key (if t=[a] then 1 else 0) (if t=[b] then 1 else 0) _ _ _ ?_ ?_<;>split<;>omega
 | [a,b,c,d],hs=>
   have hne:a<b∧b<c∧c<d:=by have:=hs.up;simp at this;omega
   have w:∀x y z:Int,x<y→y<z→cb p [x,y,z] t=(if t=[y,z] then 1 else 0)+(if t=[x,z] then (p - 1) else 0)+(if t=[x,y] then 1 else 0):=fun x y z hxy hyz=>by
    show (if t=[x,y] then Sl p 2 else if t=[x,z] then Sl p 1 else if t=[y,z] then Sl p 0 else 0)=_;rw[g0,g1,g2];by_cases h1:t=[x,y]
    ·have n1:t≠ [x,z]:=fun h=>by rw[h1] at h;simp at h;omega
     have n2:t≠ [y,z]:=fun h=>by rw[h1] at h;simp at h;omega
     rw[if_pos h1,if_neg n1,if_neg n2,if_pos h1];omega
    ·rw[if_neg h1];by_cases h2:t=[x,z]
     ·have n2:t≠ [y,z]:=fun h=>by rw[h2] at h;simp at h;omega
      rw[if_pos h2,if_neg n2,if_pos h2,if_neg h1];omega
     ·rw[if_neg h2,if_neg h2,if_neg h1];omega
   show (0+Sl p 0*cb p [b,c,d] t+Sl p 1*cb p [a,c,d] t+Sl p 2*cb p [a,b,d] t+Sl p 3*cb p [a,b,c] t) % p=0;rw[g0,g1,g2,g3,w b c d (by omega) (by omega),w a c d (by omega) (by omega),w a b d (by omega) (by omega),w a b c (by omega) (by omega)];have key:∀cd bd bc ad ac ab bd' Pw ac':Int,bd'=bd*(p - 1)→Pw=ad*(p - 1)→ac'=ac*(p - 1)→
     (0+1*(cd+bd'+bc)+(p - 1)*(cd+Pw+ac)+1*(bd+Pw+ab)+(p - 1)*(bc+ac'+ab)) % p=0:=fun cd bd bc ad ac ab bd' Pw ac' h1 h2 h3=>by
    have:0+1*(cd+bd'+bc)+(p - 1)*(cd+Pw+ac)+1*(bd+Pw+ab)+(p - 1)*(bc+ac'+ab)=p*(cd+bd+bc+ad*(p - 1)+ac*(p - 1)+ab):=by rw[h1,h2,h3];grind
    rw[this,Int.mul_emod_right]
   refine key _ (if t=[b,d] then 1 else 0) _ (if t=[a,d] then 1 else 0) (if t=[a,c] then 1 else 0) _ _ _ _ ?_ ?_ ?_<;>split<;>omega
 |_::_::_::_::_::_,hs=>simp at h4
def ofL (f:List Ce)(p:Int):List Cl:=(List.range f.length).map (ofc f p)
theorem Ht (f:List Ce)(p:Int):(ofL f p).length=f.length:=by simp[ofL]
theorem O8 {f:List Ce}{p:Int}{j:Nat}(h:j<f.length):(ofL f p).getD j gq=ofc f p j:=by simp[ofL,List.getD,h]
theorem UJ {p:Int}(hp:2≤p){fc:Gn}{s:List Int}:∀k,0≤co p fc s k∧co p fc s k<p
 |0=>⟨by rw[co];omega,by rw[co];omega⟩
 |k+1=>by
  rw[co];split
  ·rw[Gi hp];split<;>omega
  ·exact UJ hp k
theorem ai4 {p:Int}{fc:Gn}{s:List Int}:∀{k:Nat},co p fc s k≠0→∃i,i<k∧s=fc.getD i []
 |0,h=>absurd rfl h
 |k+1,h=>by
  rw[co] at h;split at h
  ·rename_i e;exact⟨k,by omega,e⟩
  ·obtain⟨i,h1,h2⟩:=ai4 h;exact⟨i,by omega,h2⟩
theorem Nw {s:List Int}{i:Nat}(h:i<(cj s).length):(cj s).getD i []=s.eraseIdx i∧i<s.length∧s.length>1:=by
 unfold cj at*
 split at h
 ·rename_i h1;have h2:i<s.length:=by simpa using h
  rw[if_pos h1];exact⟨by simp[List.getD,h2],h2,h1⟩
 ·simp at h
theorem acM {s:List Int}(hs:SS s){a b:Nat}(ha:a<(cj s).length)(hb:b<(cj s).length)(h:a≠b):(cj s).getD a []≠(cj s).getD b []:=by
 obtain⟨e1,a1,_⟩:=Nw ha;obtain⟨e2,b1,_⟩:=Nw hb;have lt:∀a b,a<b→b<s.length→s.eraseIdx a≠s.eraseIdx b:=fun a b hab hb e=>by have h1:(s.eraseIdx a)[a]? =s[a+1]? :=List.getElem?_eraseIdx_of_ge (Nat.le_refl a);have h2:(s.eraseIdx b)[a]? =s[a]? :=List.getElem?_eraseIdx_of_lt hab;rw[e,h2,List.getElem?_eq_getElem (by omega),List.getElem?_eq_getElem (by omega)] at h1;have:=List.pairwise_iff_getElem.1 hs.up a (a+1) (by omega) (by omega) (by omega);simp only[Option.some.injEq] at h1;omega
 rw[e1,e2];rcases Nat.lt_or_ge a b with g |g
 ·exact lt a b g b1
 ·exact Ne.symm (lt b a (by omega) a1)
theorem ai5 {f:List Ce}(hf:Fi f){p:Int}{i j:Nat}(hi:i<f.length)(hj:j<f.length):mx (ofL f p) i j=cb p (f.getD j fW).1 (f.getD i fW).1:=by
 have e:cp (ofL f p) (j:Int)=Nk 0 (vec f p j):=by rw[fV,O8 hj];rfl
 show cf (cp (ofL f p) (j:Int)) (i:Int)=_;rw[e,Ys,if_pos (Nat.zero_le _),Nat.sub_zero];by_cases h:i<j
 ·rw[O7 h];rfl
 ·have h1:(vec f p j).getD i 0=0:=by simp[List.getD,List.getElem?_eq_none (show (vec f p j).length≤i by rw[yq];omega)]
  rw[h1];by_cases hz:cb p (f.getD j fW).1 (f.getD i fW).1=0
  ·exact hz.symm
  ·obtain⟨k,hk,ek⟩:=ai4 hz;have hm:(cj (f.getD j fW).1).getD k []∈cj (f.getD j fW).1:=ay hk;obtain⟨m1,m2,m3⟩:=Ek hm;obtain⟨a,ha,ea⟩:=hf.acD j hj _ m1 m2 m3;exact absurd (ek.trans ea.symm) (hf.ne hi (by omega) (by omega))
theorem akZ {f:List Ce}(hf:Fi f){p:Int}(hp:Pr p):fi p (ofL f p)=0:=by
 have hl:=hf.len;have hp2:=hp.1;have hbd:∀j,j<f.length→cp (ofL f p) (j:Int)=Nk 0 (vec f p j):=fun j hj=>by rw[fV,O8 hj];rfl
 have hvc:∀j,j<f.length→Vc p j (cp (ofL f p) (j:Int)):=fun j hj=>by
  rw[hbd j hj];refine Uw (by rw[yq];omega) fun k=> ?_;by_cases hk:k<j
  ·rw[O7 hk];exact UJ hp2 _
  ·have h1:(vec f p j).getD k 0=0:=by simp[List.getD,List.getElem?_eq_none (show (vec f p j).length≤k by rw[yq];omega)]
   rw[h1];omega
 refine acL hp (by rw[Ht];omega) fun j hj=> ?_;rw[Ht] at hj;have hmem:=ay (d:=fW) hj;have hss:=hf.ss _ hmem;have h4:=hss.len;have h0:(f.getD j fW).1.length≠0:=fun e=>hss.ne (List.eq_nil_of_length_eq_zero e);have YD:∀i,i<f.length→mG (ofL f p) i=(f.getD i fW).2.1:=fun i hi=>by unfold mG;rw[O8 hi];rfl
 have YE:∀i,i<f.length→((ofL f p).getD i gq).1=((f.getD i fW).1.length:Int) - 1:=fun i hi=>by rw[O8 hi];rfl
 refine⟨by rw[YE j hj];omega,by rw[YD j hj];exact(hf.at_ _ hmem).1,hvc j hj,fun _=>(hvc j hj).mono (by omega),fun t ht=> ?_, ?_, ?_⟩
 ·have hr:=(hvc j hj).r t ht;have Ze:=Sr.mem (hvc j hj).s t ht;obtain⟨i,hi⟩:∃i:Nat,t.1=(i:Int):=⟨t.1.toNat,by omega⟩
  rw[hi,Int.toNat_natCast,YE j hj,YE i (by omega)];have hc:=EZ (hvc j hj).s t ht;rw[hi] at hc;have hm:=ai5 hf (p:=p) (i:=i) (j:=j) (by omega) hj;have hne:cb p (f.getD j fW).1 (f.getD i fW).1≠0:=by rw[←hm];show cf _ _≠0;rw[hc];omega
  obtain⟨k,hk,ek⟩:=ai4 hne;obtain⟨e1,e2,e3⟩:=Nw hk;rw[ek,e1,List.length_eraseIdx_of_lt e2];omega
 ·have hv:∀i,i<f.length→Vc p f.length (cp (ofL f p) (i:Int)):=fun i hi=>(hvc i hi).mono (by omega);rw[KK (by omega) (n:=f.length) hv hj];intro r hr;have e1:sm (fun i=>mx (ofL f p) i j*mx (ofL f p) r i) f.length=sm (fun i=>co p (cj (f.getD j fW).1) (f.getD i fW).1 (cj (f.getD j fW).1).length*cb p (f.getD i fW).1 (f.getD r fW).1) f.length:=
   bH fun i hi=>by rw[ai5 hf hi hj,ai5 hf hr hi];rfl
  rw[e1,UI hf (g:=fun u=>cb p u (f.getD r fW).1) (Nat.le_refl _) (Nat.le_refl _) (fun i hi=>by
   have hm:(cj (f.getD j fW).1).getD i []∈cj (f.getD j fW).1:=ay hi;obtain⟨m1,m2,m3⟩:=Ek hm;obtain⟨a,ha,ea⟩:=hf.acD j hj _ m1 m2 m3;exact⟨a,by omega,ea⟩) (fun a b ha hb hab=>acM hss ha hb hab)]
  exact akY hp2 hss _
 ·unfold Nl;by_cases hj0:0<j
  ·have hlt:Sj (f.getD (j - 1) fW) (f.getD j fW):=by have:=List.pairwise_iff_getElem.1 hf.up (j - 1) j (by omega) hj (by omega);simpa [List.getD,show j - 1<f.length by omega,hj] using this
   have hneg:=Da (f.getD (j - 1) fW).2.1 (f.getD j fW).2.1;have hle:uq (f.getD (j - 1) fW).2.1 (f.getD j fW).2.1≤0:=by rcases hlt with h | ⟨h,_⟩<;>omega
   rw[YD j hj,YD (j - 1) (by omega)];have hge:¬uq (f.getD j fW).2.1 (f.getD (j - 1) fW).2.1<0:=by omega
   have e2:decide (mK ((lb (f.getD j fW).2.1).1*(lb (f.getD (j - 1) fW).2.1).2) ((lb (f.getD (j - 1) fW).2.1).1*(lb (f.getD j fW).2.1).2)<0)=false:=decide_eq_false hge;rw[e2,Bool.and_false]
  ·rw[decide_eq_false hj0,Bool.false_and]
section
variable (M:Nat→Nat→Int)(i j:Nat)(k m v:Int)
def uC (c x:Nat):Int:=if c=j then k*M x j+m*M x i else M x c
def eR (u:Nat→Int)(x:Nat):Int:=if x=j then u j*v else if x=i then u i - u j*v*m else u x
def tE (x c:Nat):Int:=eR i j m v (uC M i j k m c) x
end
theorem anr {M:Nat→Nat→Int}{p:Int}{n i j:Nat}(hi:i<n)(hj:j<n)(hij:i≠j){k m v:Int}(hk:p ∣ (v*k - 1))(hM:∀c,c<n→∀r,r<n→p ∣ sm (fun x=>M x c*M r x) n){c r:Nat}(hc:c<n)(hr:r<n):
  p ∣ sm (fun x=>tE M i j k m v x c*tE M i j k m v r x) n:=by
 -- avl of a changed column
 have hS:∀s,s<n→p ∣ sm (fun x=>uC M i j k m c x*M s x) n:=fun s hs=>by
  by_cases e:c=j
  ·have e1:sm (fun x=>uC M i j k m c x*M s x) n=k*sm (fun x=>M x j*M s x) n+m*sm (fun x=>M x i*M s x) n:=by rw[←Ar, ←Ar, ←E3];refine bH fun x hx=> ?_;unfold uC;rw[if_pos e];grind
   rw[e1];exact Int.dvd_add (Int.dvd_mul_of_dvd_right (hM j hj s hs)) (Int.dvd_mul_of_dvd_right (hM i hi s hs))
  ·have e1:sm (fun x=>uC M i j k m c x*M s x) n=sm (fun x=>M x c*M s x) n:=bH fun x hx=>by unfold uC;rw[if_neg e]
   rw[e1];exact hM c hc s hs
 -- rows changed before aqf
 have hG:p ∣ sm (fun x=>uC M i j k m c x*eR i j m v (fun y=>M y x) r) n:=by
  by_cases e:r=j
  ·have e1:sm (fun x=>uC M i j k m c x*eR i j m v (fun y=>M y x) r) n=v*sm (fun x=>uC M i j k m c x*M j x) n:=by rw[←Ar];refine bH fun x hx=> ?_;unfold eR;rw[if_pos e];grind
   rw[e1];exact Int.dvd_mul_of_dvd_right (hS j hj)
  ·by_cases e2:r=i
   ·have e1:sm (fun x=>uC M i j k m c x*eR i j m v (fun y=>M y x) r) n=sm (fun x=>uC M i j k m c x*M i x) n+(-(v*m))*sm (fun x=>uC M i j k m c x*M j x) n:=by rw[←Ar, ←E3];refine bH fun x hx=> ?_;unfold eR;rw[if_neg e,if_pos e2];grind
    rw[e1];exact Int.dvd_add (hS i hi) (Int.dvd_mul_of_dvd_right (hS j hj))
   ·have e1:sm (fun x=>uC M i j k m c x*eR i j m v (fun y=>M y x) r) n=sm (fun x=>uC M i j k m c x*M r x) n:=bH fun x hx=>by unfold eR;rw[if_neg e,if_neg e2]
    rw[e1];exact hS r hr
 generalize hu:uC M i j k m c=u at*
 generalize hg:(fun x=>eR i j m v (fun y=>M y x) r)=G at*
 have hGe:∀x,eR i j m v (fun y=>M y x) r=G x:=fun x=>by rw[←hg]
 -- GJ rows of GJ changed arQ
 have hF:∀x,tE M i j k m v r x=if x=j then k*G j+m*G i else G x:=fun x=>by
  by_cases e:x=j
  ·rw[if_pos e, ←hGe, ←hGe];unfold tE eR uC;rw[if_pos e];by_cases e2:r=j
   ·simp only[if_pos e2,if_pos e];grind
   ·by_cases e3:r=i
    ·simp only[if_neg e2,if_pos e3,if_pos e];grind
    ·simp only[if_neg e2,if_neg e3,if_pos e]
  ·rw[if_neg e, ←hGe];unfold tE eR uC;simp only[if_neg e]
 have key:sm (fun x=>tE M i j k m v x c*tE M i j k m v r x) n=sm (fun x=>u x*G x) n+u j*G j*(v*k - 1):=by
  have e1:u j*v*(k*G j+m*G i) - u j*G j=sm (fun x=>if x=j then u j*v*(k*G j+m*G i) - u j*G j else 0) n:=by rw[Nv (a:=j) hj fun x hx hne=>by rw[if_neg hne],if_pos rfl]
  have e2: -(u j*v*m)*G i=sm (fun x=>if x=i then -(u j*v*m)*G i else 0) n:=by rw[Nv (a:=i) hi fun x hx hne=>by rw[if_neg hne],if_pos rfl]
  have e3:sm (fun x=>u x*G x) n+u j*G j*(v*k - 1)=sm (fun x=>u x*G x) n+(u j*v*(k*G j+m*G i) - u j*G j)+ -(u j*v*m)*G i:=by grind
  rw[e3,e1,e2, ←E3, ←E3];refine bH fun x hx=> ?_;rw[hF];unfold tE eR;rw[hu];by_cases e:x=j
  ·subst e;simp only[if_pos,if_neg (Ne.symm hij)]
   grind
  ·by_cases f:x=i
   ·subst f;simp only[if_neg e,if_pos]
    grind
   ·simp only[if_neg e,if_neg f]
    grind
 rw[key];have hG2:p ∣ sm (fun x=>u x*G x) n:=by
  have e:sm (fun x=>u x*G x) n=sm (fun x=>u x*eR i j m v (fun y=>M y x) r) n:=bH fun x hx=>by rw[hGe]
  rw[e];exact hG
 exact Int.dvd_add hG2 (Int.dvd_mul_of_dvd_right hk)
theorem ai6 {p:Int}{x:List Tm}{n:Nat}(hn:n≤1000000)(hx:Vc p n x)(aF:List (Option (List Int))):∃o Bq v,kE x n aF=some (o,Bq)∧o≠0∧ai Bq o=some v∧v.length=n∧∀a:Nat,v.getD a 0=cf x a:=by
 have hl:=hx.length (by omega);have hx':∀t∈x,0≤t.1∧t.1<n:=fun t ht=>⟨by have:=Sr.mem hx.s t ht;omega,(hx.r t ht).1⟩
 obtain⟨Bq,h1,h2⟩:=aaO (out:=aF.length+1) (by omega) hx' (by omega) x.length 0 (aF++[some (List.replicate n 0)]) (List.replicate n 0) (by omega) mh (by simp);have e0:((0:Nat):Int)=0:=rfl;rw[e0] at h1;rw[EL,uR,Ic (by omega) (by omega) (by omega),Int.toNat_natCast];simp only;refine⟨_,Bq,_,h1,by omega,h2,by rw[Nj,List.length_replicate],fun a=> ?_⟩;rw[List.drop_zero,Ur hx.s (by omega) hx.c (fun t ht=>by rw[List.length_replicate];exact(hx' t ht).2),OZ];split<;>omega
theorem W0 {l:List Cl}{k j:Nat}{v:Cl}:(l.set k v).getD j gq=if k=j∧k<l.length then v else l.getD j gq:=by
 by_cases h:k=j
 ·subst h;by_cases h2:k<l.length<;>simp[List.getD,h2]
 ·simp[List.getD,h]
theorem ai7 {r:List Cl}{s s' a:Nat}{d:Int}{UP:ByteArray}{W:List Int}(hs:s<r.length):mx (r.set s (d,(UP,(Nk 0 W,())))) a s'=if s'=s then W.getD a 0 else mx r a s':=by
 show cf (cp _ (s':Int)) (a:Int)=_;rw[fV,W0];by_cases e:s'=s
 ·subst e;rw[if_pos ⟨rfl,hs⟩,if_pos rfl];simp only;rw[Ys,if_pos (Nat.zero_le _),Nat.sub_zero]
 ·rw[if_neg (fun h=>e h.1.symm),if_neg e];show _=cf (cp r (s':Int)) (a:Int);rw[fV]
def tmx (p:Int)(aa:List Cl)(i j:Nat)(k m inv:Int)(a s:Nat):Int:=
 if s<j then mx aa a s else if s=j then (k*mx aa a j+m*mx aa a i) % p
 else if a=j then mx aa j s*inv % p else if a=i then (mx aa i s+(p - 1)*mx aa j s % p*inv % p*m) % p else mx aa a s
def O9 (aa r:List Cl):Prop:=r.length=aa.length∧∀s,s<aa.length→(r.getD s gq).1=(aa.getD s gq).1∧(r.getD s gq).2.1=(aa.getD s gq).2.1
theorem O9.set {aa r:List Cl}(h:O9 aa r){s:Nat}{b:List Tm}:O9 aa (r.set s ((r.getD s gq).1,((r.getD s gq).2.1,(b,())))):=by
 refine⟨by rw[List.length_set];exact h.1,fun s' hs'=> ?_⟩;rw[W0];by_cases e:s=s'
 ·subst e;rw[if_pos ⟨rfl,by rw[h.1];exact hs'⟩];exact h.2 s hs'
 ·rw[if_neg fun g=>e g.1];exact h.2 s' hs'
theorem ai8 {p:Int}(hp:Pr p){aa:List Cl}(hl:aa.length≤30)(hG:Gd p aa aa.length){i j:Nat}(hi:i<aa.length)(hj:j<aa.length)(hij:i≠j){k m inv:Int}(hm:0≤m∧m<p)(hv:0≤inv∧inv<p){t:Int}{t2 ak:Nat}:
  ∀(q s:Nat) (lC:List (Option (List Cl))) (aF:List (Option (List Int))) (r:List Cl),q+s=aa.length→j<s→ai lC ak=some r→O9 aa r→Gd p r aa.length→(∀a s',s'<aa.length→mx r a s'=if s'<s then tmx p aa i j k m inv a s' else mx aa a s')→
   ∃r',hU i j m inv s p aa t t2 p ak lC aF=some (p,(r',()))∧O9 aa r'∧Gd p r' aa.length∧∀a s',s'<aa.length→mx r' a s'=tmx p aa i j k m inv a s':=by
 have hp1:=hp.1;have hp2:=hp.2.1;intro q;induction q with
 |zero=>intro s lC aF r hs hjs hg hr hR hM;rw[xn,q8,aq (by omega),Nq rfl hg];exact⟨r,rfl,hr,hR,fun a s' hs'=>by rw[hM a s' hs',if_pos (by omega)]⟩
 |succ q ih=>
  intro s lC aF r hs hjs hg hr hR hM;have hrl:=hr.1;have hne:ak≠0:=Yw hg (fun e=>by rw[e] at hrl;simp at hrl;omega);have hcs:=hG _ (ay (d:=gq) (show s<aa.length by omega));obtain⟨o,Bq,w,h1,h2,h3,h4,h6⟩:=ai6 (by omega) hcs.2 aF;have h5:Rs p w:=fun a=>by rw[h6];exact J5 (by omega) hcs.2.c a
  have hw:∀a:Nat,w.getD a 0=mx aa a s:=fun a=>by rw[h6];show _=cf (cp aa (s:Int)) (a:Int);rw[fV]
  have wi:=h5 i;have wj:=h5 j;have n1:=afR (a:=p - 1) (b:=w.getD j 0) (A:=250) (B:=250) (by omega) (by omega);have n2:=Int.emod_nonneg ((p - 1)*w.getD j 0) (show p≠0 by omega);have n3:=Int.emod_lt_of_pos ((p - 1)*w.getD j 0) (show 0<p by omega);have n4:=afR (a:=(p - 1)*w.getD j 0 % p) (b:=inv) (A:=250) (B:=250) (by omega) (by omega);have n5:=Int.emod_nonneg ((p - 1)*w.getD j 0 % p*inv) (show p≠0 by omega);have n6:=Int.emod_lt_of_pos ((p - 1)*w.getD j 0 % p*inv) (show 0<p by omega);have n7:=afR (a:=(p - 1)*w.getD j 0 % p*inv % p) (b:=m) (A:=250) (B:=250) (by omega) (by omega);have n8:=Int.emod_nonneg (w.getD i 0+(p - 1)*w.getD j 0 % p*inv % p*m) (show p≠0 by omega);have n9:=Int.emod_lt_of_pos (w.getD i 0+(p - 1)*w.getD j 0 % p*inv % p*m) (show 0<p by omega);have e1:IntKind.wrap .i64 (IntKind.wrap .i64 (p - 1)*w.getD j 0)=(p - 1)*w.getD j 0:=by rw[i64_in (p - 1) (by omega),i64_in _ (by omega)]
  have e2:IntKind.wrap .i64 ((IntKind.wrap .i64 (((p - 1)*w.getD j 0).tmod p*inv)).tmod p*m)=(p - 1)*w.getD j 0 % p*inv % p*m:=by rw[bA (a:=(p - 1)*w.getD j 0) (by omega),i64_in ((p - 1)*w.getD j 0 % p*inv) (by omega),bA (a:=(p - 1)*w.getD j 0 % p*inv) (by omega),i64_in _ (by omega)]
  rw[xn,q8,ax (by omega),Rv (by omega),h1,bS];simp only;rw[h3,bS,Kb (by omega),bS,WO (by omega),bS,bS,Kb (by omega),bS,WO (by omega),bS,e1,kz (by omega),kz (by omega),e2,kz (by omega),bS,Kb (by omega),bS,WO (by omega),bS,i64_in _ (by omega),bA (a:=w.getD i 0+_) (by omega),Int.toNat_natCast];have g1:=Go.Abs.j7 (l':=w.set i ((w.getD i 0+(p - 1)*w.getD j 0 % p*inv % p*m) % p)) h3 h2;have r1:Rs p (w.set i ((w.getD i 0+(p - 1)*w.getD j 0 % p*inv % p*m) % p)):=h5.set ⟨n8,n9⟩ i;have l1:(w.set i ((w.getD i 0+(p - 1)*w.getD j 0 % p*inv % p*m) % p)).length=aa.length:=by rw[List.length_set];exact h4
  have gW:∀a:Nat,(w.set i ((w.getD i 0+(p - 1)*w.getD j 0 % p*inv % p*m) % p)).getD a 0=if a=i then (mx aa i s+(p - 1)*mx aa j s % p*inv % p*m) % p else mx aa a s:=fun a=>by
   rw[cE,hw i,hw j,hw a];by_cases e:i=a
   ·subst e;rw[if_pos ⟨rfl,by omega⟩,if_pos rfl]
   ·rw[if_neg fun h=>e h.1,if_neg (Ne.symm e)]
  generalize w.set i ((w.getD i 0+(p - 1)*w.getD j 0 % p*inv % p*m) % p)=W at g1 r1 l1 gW ⊢;have wj2:=r1 j;have k1:=afR (a:=W.getD j 0) (b:=inv) (A:=250) (B:=250) (by omega) (by omega);rw[g1,bS,Kb (by omega),bS,WO (by omega),bS,kz (by omega),bS,Kb (by omega),bS,WO (by omega),bS,i64_in (W.getD j 0*inv) (by omega),bA (a:=W.getD j 0*inv) (by omega),Int.toNat_natCast];have g2:=Go.Abs.j7 (l':=W.set j (W.getD j 0*inv % p)) g1 h2;have r2:Rs p (W.set j (W.getD j 0*inv % p)):=r1.set ⟨Int.emod_nonneg _ (by omega),Int.emod_lt_of_pos _ (by omega)⟩ j;have l2:(W.set j (W.getD j 0*inv % p)).length=aa.length:=by rw[List.length_set];exact l1
  rw[Ka g2 (by omega),bS,hg,bS,Rv (by omega),bS,alO (by omega),bS,bM (by omega),Int.toNat_natCast];have hrs:=hR _ (ay (d:=gq) (show s<r.length by omega));have hq:Gd p (r.set s ((r.getD s gq).1,((r.getD s gq).2.1,(Nk 0 (W.set j (W.getD j 0*inv % p)),())))) aa.length:=by refine hR.set ?_ _;exact⟨hrs.1,Uw (Nat.le_of_eq l2) r2⟩
  refine ih (s+1) _ _ _ (by omega) (by omega) (Go.Abs.j7 hg hne) hr.set hq fun a s' hs'=> ?_;rw[ai7 (by omega)];by_cases e:s'=s
  ·subst e;rw[if_pos rfl,if_pos (by omega)];unfold tmx;rw[if_neg (by omega),if_neg (by omega),cE,gW j,if_neg (Ne.symm hij),gW a];by_cases ea:a=j
   ·subst ea;rw[if_pos ⟨rfl,by omega⟩,if_pos rfl]
   ·rw[if_neg fun h=>ea h.1.symm,if_neg ea]
  ·rw[if_neg e,hM a s' hs'];by_cases e3:s'<s
   ·rw[if_pos e3,if_pos (by omega)]
   ·rw[if_neg e3,if_neg (by omega)]
theorem ai9 {p:Int}(hp:Pr p){aa:List Cl}(hl:aa.length≤30)(hG:Gd p aa aa.length){i j:Nat}(hi:i<aa.length)(hj:j<aa.length)(hij:i≠j){k m inv:Int}(hk:0≤k∧k<p)(hm:0≤m∧m<p)(hv:0≤inv∧inv<p){t:Int}{t2 ak v:Nat}(hv0:v≠0)
  {a b:List Int} (ha:a.length=aa.length) (hb:b.length=aa.length) (hra:Rs p a) (hrb:Rs p b) (qk:∀x,x<aa.length→a.getD x 0=mx aa x j) (hbv:∀x,x<aa.length→b.getD x 0=mx aa x i) {lC:List (Option (List Cl))} (hg:ai lC ak=some aa):
  ∀(q s:Nat) (aF:List (Option (List Int))) (w:List Int),q+s=aa.length→ai aF v=some w→w.length=aa.length→Rs p w→(∀x,x<s→w.getD x 0=(k*mx aa x j+m*mx aa x i) % p)→
   ∃r',gZ i j k m inv v a b s p aa t t2 p ak lC aF=some (p,(r',()))∧O9 aa r'∧Gd p r' aa.length∧∀a s',s'<aa.length→mx r' a s'=tmx p aa i j k m inv a s':=by
 have hp1:=hp.1;have hp2:=hp.2.1;intro q;induction q with
 |zero=>
  intro s aF w hs hw hwl hwr hwv;have hne:ak≠0:=Yw hg (fun e=>by rw[e] at hj;simp at hj);have hrs:=hG _ (ay (d:=gq) hj);rw[xm,qZ,hw,bS,aq (by omega),Ka hw (by omega),bS,hg,bS,Rv (by omega),bS,alO (by omega),bS,bM (by omega),Int.toNat_natCast];have hs0:O9 aa aa:=⟨rfl,fun s hs=>⟨rfl,rfl⟩⟩
  have hq:Gd p (aa.set j ((aa.getD j gq).1,((aa.getD j gq).2.1,(Nk 0 w,())))) aa.length:=by refine hG.set ?_ _;exact⟨hrs.1,Uw (by omega) hwr⟩
  refine ai8 hp hl hG hi hj hij hm hv (aa.length - (j+1)) (j+1) _ aF _ (by omega) (by omega) (Go.Abs.j7 hg hne) hs0.set hq fun x s' hs'=> ?_;rw[ai7 hj];by_cases e:s'=j
  ·subst e;rw[if_pos rfl,if_pos (by omega)];unfold tmx;rw[if_neg (by omega),if_pos rfl];by_cases hx:x<aa.length
   ·exact hwv x (by omega)
   ·have z1:w.getD x 0=0:=by simp[List.getD,List.getElem?_eq_none (show w.length≤x by omega)]
    have z2:∀y,y<aa.length→mx aa x y=0:=fun y hy=>by
     have hvc:=(hG _ (ay (d:=gq) hy)).2;show cf (cp aa (y:Int)) (x:Int)=0;rw[fV];by_cases hz:cf (aa.getD y gq).2.2.1 (x:Int)=0
     ·exact hz
     ·obtain⟨t,ht,e⟩:=Ro hz;have:=(hvc.r t ht).1;omega
    rw[z1,z2 s' hj,z2 i hi];simp
  ·rw[if_neg e];by_cases e3:s'<j+1
   ·rw[if_pos e3];unfold tmx;rw[if_pos (by omega)]
   ·rw[if_neg e3]
 |succ q ih=>
  intro s aF w hs hw hwl hwr hwv;have as1:=hra s;have bs1:=hrb s;have n1:=afR (a:=k) (b:=a.getD s 0) (A:=250) (B:=250) (by omega) (by omega);have n2:=afR (a:=m) (b:=b.getD s 0) (A:=250) (B:=250) (by omega) (by omega);rw[xm,qZ,hw,bS,ax (by omega),Kb (by omega),Kb (by omega)];simp only;rw[i64_in (k*a.getD s 0) (by omega),i64_in (m*b.getD s 0) (by omega),i64_in (k*a.getD s 0+m*b.getD s 0) (by omega),kz (by omega),bS,Kb (by omega),bS,WO (by omega),bS,bA (by omega),bM (by omega),Int.toNat_natCast];refine ih (s+1) _ _ (by omega) (Go.Abs.j7 hw hv0) (by rw[List.length_set];exact hwl) (hwr.set ⟨Int.emod_nonneg _ (by omega),Int.emod_lt_of_pos _ (by omega)⟩ _) fun x hx=> ?_;rw[cE];by_cases e:s=x
  ·subst e;rw[if_pos ⟨rfl,by omega⟩,qk s (by omega),hbv s (by omega)]
  ·rw[if_neg fun h=>e h.1];exact hwv x (by omega)
theorem ans {p:Int}(hp:Pr p){aa:List Cl}(hl:aa.length≤30)(hG:Gd p aa aa.length){i j:Nat}(hi:i<aa.length)(hj:j<aa.length)(hij:i≠j){k m:Int}(hk:1≤k∧k<p)(hm:0≤m∧m<p):
  ∃r',tk (p,(aa,())) i j k m=some (p,(r',()))∧O9 aa r'∧Gd p r' aa.length∧∀a s',s'<aa.length→mx r' a s'=tmx p aa i j k m (iv p k) a s':=by
 have hp1:=hp.1;obtain⟨o,h0,g1,g2⟩:=aaN (p:=p) hl (fun x hx=>by have:=(hG x hx).2.length (by omega);omega);obtain⟨a,e1,e2,e3⟩:=aaE (by omega) (hG _ (ay (d:=gq) hj)).2;obtain⟨b,f1,f2,f3⟩:=aaE (by omega) (hG _ (ay (d:=gq) hi)).2;have hiv:=OY hp hk;rw[MX,DT];simp only;rw[g1,bS,acs hp hk,bS,Ic (by omega) (by omega) (by omega),Rv hj,e1,bS,Rv hi,f1,bS];have e0:((0:Nat):Int)=0:=rfl;have:=ai9 hp hl hG hi hj hij (k:=k) (m:=m) (inv:=iv p k) (t:=0) (t2:=0) (v:=([]:List (Option (List Int))).length+1) (by omega) hm (by omega) (by omega) e2.len f2.len (e3 (by omega)) (f3 (by omega)) (fun x hx=>by rw[e2.at_ x hx];show _=cf (cp aa (j:Int)) (x:Int);rw[fV]) (fun x hx=>by rw[f2.at_ x hx];show _=cf (cp aa (i:Int)) (x:Int);rw[fV]) g2 aa.length 0 ([]++[some (List.replicate aa.length 0)]) (List.replicate aa.length 0) (by omega) mh (by simp) (Rs.rep (by omega) _) (fun x hx=>by omega);rw[e0] at this;simp only[Int.toNat_natCast];exact this
theorem ad5 {p:Int}(hp:0<p){aa:List Cl}{i j:Nat}(hij:i<j){k m v:Int}{n:Nat}(hZ:∀s,s<n→∀a,s≤a→mx aa a s=0)(hj:j<n){a s:Nat}(hs:s<n):tmx p aa i j k m v a s % p=tE (fun x y=>mx aa x y) i j k m v a s % p:=by
 unfold tmx tE eR uC;by_cases h1:s<j
 ·rw[if_pos h1];have hz:mx aa j s=0:=hZ s hs j (by omega);by_cases e:a=j
  ·subst e;simp only[if_neg (show ¬s=a by omega),if_pos,hz,Int.zero_mul]
  ·by_cases f:a=i
   ·subst f;simp only[if_neg e,if_neg (show ¬s=j by omega),if_pos,hz,Int.zero_mul,Int.sub_zero]
   ·simp only[if_neg e,if_neg f,if_neg (show ¬s=j by omega)]
 ·rw[if_neg h1];by_cases h2:s=j
  ·subst h2;have z1:mx aa s s=0:=hZ s hs s (Nat.le_refl _);have z2:mx aa s i=0:=hZ i (by omega) s (by omega);rw[if_pos rfl,Int.emod_emod_of_dvd _ (Int.dvd_refl p)];by_cases e:a=s
   ·subst e;simp only[if_pos,z1,z2,Int.mul_zero,Int.add_zero,Int.zero_mul]
   ·by_cases f:a=i
    ·subst f;simp only[if_neg e,if_pos,z1,z2,Int.mul_zero,Int.add_zero,Int.zero_mul,Int.sub_zero]
    ·simp only[if_neg e,if_neg f,if_pos]
  ·rw[if_neg h2];by_cases e:a=j
   ·subst e;simp only[if_neg h2,if_pos,Int.emod_emod_of_dvd _ (Int.dvd_refl p)]
   ·by_cases f:a=i
    ·subst f;simp only[if_neg e,if_neg h2,if_pos,Int.emod_emod_of_dvd _ (Int.dvd_refl p)];generalize mx aa a s=y;generalize mx aa j s=x;have q1:(p - 1)*x % p=(p - 1)*x - p*((p - 1)*x / p):=Int.emod_def _ _;have q2:(p - 1)*x % p*v % p=(p - 1)*x % p*v - p*((p - 1)*x % p*v / p):=Int.emod_def _ _;generalize (p - 1)*x % p*v / p=z2 at q2;generalize (p - 1)*x / p=z1 at q1;have q3:y+(p - 1)*x % p*v % p*m=(y - x*v*m)+p*(x*v*m - z1*v*m - z2*m):=by rw[q2,q1];grind
     rw[q3,Int.add_mul_emod_self_left]
    ·simp only[if_neg e,if_neg f,if_neg h2]
theorem aja {p:Int}{aa r':List Cl}(h0:fi p aa=0){i j:Nat}(hij:i<j)(hj:j<aa.length)(hd:(aa.getD i gq).1=(aa.getD j gq).1){k m:Int}(hk:1≤k∧k<p)(hm:0≤m∧m<p)(hS:O9 aa r')(hG:Gd p r' aa.length)(hM:∀a s',s'<aa.length→mx r' a s'=tmx p aa i j k m (iv p k) a s'):fi p r'=0:=by
 obtain⟨hp,hl,hg⟩:=mf h0;have hp1:=hp.1;obtain⟨hSl,hSd⟩:=hS;have hne:∀a s,s<aa.length→mx aa a s≠0→a<s∧(aa.getD a gq).1=(aa.getD s gq).1 - 1:=fun a s hs hz=>by have hgs:=hg s hs;obtain⟨t,ht,e⟩:=Ro hz;have h1:=(hgs.bd.r t ht).1;have h2:=hgs.akK t ht;rw[e,Int.toNat_natCast] at h2;exact⟨by omega,h2⟩
 have hZ:∀s,s<aa.length→∀a,s≤a→mx aa a s=0:=fun s hs a ha=>by
  by_cases hz:mx aa a s=0
  ·exact hz
  ·have:=(hne a s hs hz).1;omega
 have tz:∀a s,s<aa.length→tmx p aa i j k m (iv p k) a s≠0→a<s∧(aa.getD a gq).1=(aa.getD s gq).1 - 1:=fun a s hs ht=>by
  unfold tmx at ht;split at ht
  ·exact hne a s hs ht
  ·split at ht
   ·rename_i h1 h2;subst h2;by_cases y1:mx aa a s=0
    ·by_cases y2:mx aa a i=0
     ·rw[y1,y2] at ht;simp at ht
     ·have:=hne a i (by omega) y2;exact⟨by omega,by rw[←hd];exact this.2⟩
    ·exact hne a s hs y1
   ·split at ht
    ·rename_i h1 h2 h3;subst h3;by_cases y1:mx aa a s=0
     ·rw[y1] at ht;simp at ht
     ·exact hne a s hs y1
    ·split at ht
     ·rename_i h1 h2 h3 h4;subst h4;by_cases y1:mx aa a s=0
      ·by_cases y2:mx aa j s=0
       ·rw[y1,y2] at ht;simp at ht
       ·have:=hne j s hs y2;exact⟨by omega,by rw[hd];exact this.2⟩
      ·exact hne a s hs y1
     ·exact hne a s hs ht
 have X6:∀s,s<aa.length→Vc p aa.length (cp r' (s:Int)):=fun s hs=>by rw[fV];exact(hG _ (ay (by omega))).2
 have hvs:∀s,s<aa.length→Vc p s (cp r' (s:Int))∧∀t∈cp r' (s:Int),(aa.getD t.1.toNat gq).1=(aa.getD s gq).1 - 1:=fun s hs=>by
  have hv:=X6 s hs;have key:∀t∈cp r' (s:Int),t.1.toNat<s∧(aa.getD t.1.toNat gq).1=(aa.getD s gq).1 - 1:=fun t ht=>by
   have h1:=Sr.mem hv.s t ht;have h2:=(hv.r t ht).2;have h3:=EZ hv.s t ht;have e:t.1=((t.1.toNat:Nat):Int):=by omega
   refine tz _ s hs ?_;rw[←hM _ s hs];show cf (cp r' (s:Int)) ((t.1.toNat:Nat):Int)≠0;rw[←e,h3];omega
  exact⟨⟨hv.s,fun t ht=>⟨by have:=(key t ht).1;have:=Sr.mem hv.s t ht;omega,(hv.r t ht).2⟩⟩,fun t ht=>(key t ht).2⟩
 have YD:∀s,s<aa.length→mG r' s=mG aa s:=fun s hs=>(hSd s hs).2;refine acL hp (by omega) fun s hs=> ?_;rw[hSl] at hs;have hgs:=hg s hs;obtain⟨v1,v2⟩:=hvs s hs;refine⟨by rw[(hSd s hs).1];exact hgs.PT,by rw[YD s hs];exact hgs.at_,v1,fun _=>v1.mono (by omega),fun t ht=> ?_, ?_, ?_⟩
 ·have h1:=Sr.mem v1.s t ht;have h2:=(v1.r t ht).1;rw[(hSd s hs).1,(hSd t.1.toNat (by omega)).1];exact v2 t ht
 ·rw[KK (by omega) X6 hs];intro r hr;have e1:sm (fun x=>mx r' x s*mx r' r x) aa.length % p=sm (fun x=>tE (fun x y=>mx aa x y) i j k m (iv p k) x s*tE (fun x y=>mx aa x y) i j k m (iv p k) r x) aa.length % p:=
   aiZ fun x hx=>by rw[hM x s hs,hM r x hx,Int.mul_emod,ad5 (by omega) hij hZ hj hs,ad5 (by omega) hij hZ hj hx, ←Int.mul_emod]
  rw[e1];refine Int.emod_eq_zero_of_dvd (anr (by omega) hj (by omega) ?_ (fun c hc r hr=> ?_) hs hr)
  ·have h1:=Qu hp hk;refine Int.dvd_of_emod_eq_zero ?_;rw[Int.mul_comm (iv p k) k,Int.sub_emod,h1];have:(1:Int) % p=1:=Int.emod_eq_of_lt (by omega) (by omega);rw[this];simp
  ·exact Int.dvd_of_emod_eq_zero ((KK (by omega) (fun y hy=>(hg y hy).bd.mono (by omega)) hc).1 (hg c hc).cyc r hr)
 ·have h1:=hgs.ord;unfold Nl at h1 ⊢;by_cases hs0:0<s
  ·rw[YD s hs,YD (s - 1) (by omega)];exact h1
  ·rw[decide_eq_false hs0,Bool.false_and]
def Go2 (p:Int)(aa:List Cl)(most:Nat):Prop:=aa.length≤most∧Gd p aa aa.length∧fi p aa=0
theorem aa1 {p:Int}(hp:Pr p){aa:List Cl}(hl:aa.length≤30)(hG:Gd p aa aa.length)(h0:fi p aa=0){n:Nat}{x:List (List Int)}{x2 x4:List Int}{x3 t:Int}{t2 most:Nat}(hn:n+2<x4.length)(hn2:n<24){j:Nat}(hj:j<aa.length){k:Int}(hk:1≤k∧k<p)
  (nxt:∀W1:List Cl,W1.length=aa.length→Gd p W1 aa.length→fi p W1=0→∃r,eF ((n+3:Nat):Int) x x2 x3 x4 t t2 p W1=some r∧Go2 r.1 r.2.1 most):
  ∀(q:Nat),q≤j→∃r,fX n j k ((q:Int) - 1) x x2 x3 x4 t t2 p aa=some r∧Go2 r.1 r.2.1 most:=by
 have hp1:=hp.1;have hp2:=hp.2.1;have e2:IntKind.wrap .i64 ((n:Int)+2)=((n+2:Nat):Int):=by rw[i64_in _ (by omega)];omega
 have e3:IntKind.wrap .i64 ((n:Int)+3)=((n+3:Nat):Int):=by rw[i64_in _ (by omega)];omega
 intro q;induction q with
 |zero=>
  intro hq;have c1:(((0:Nat):Int) - 1≥0)=False:=by simp
  rw[wu,p7,e3];simp only[c1,decide_false];rw[cF,cF];exact nxt aa rfl hG h0
 |succ q ih=>
  intro hq;have e1:(((q+1:Nat):Int) - 1)=(q:Int):=by omega
  have c1:((q:Int)≥0)=True:=by simp
  rw[wu,p7,e1,e2,e3];simp only[c1,decide_true];rw[cT,Rv (by omega),Rv (by omega),i64_in ((q:Int) - 1) (by omega)];cases hdd:((aa.getD q gq).1 != (aa.getD j gq).1) with
  |true=>rw[cT];exact ih (by omega)
  |false=>
   have YE:(aa.getD q gq).1=(aa.getD j gq).1:=by simpa using hdd
   rw[cF,cT,Kb (by omega),kz (by omega),kz (by omega)];have hmm:=vt1 (x:=x4.getD (n+2) 0) (c:=p) (by omega);obtain⟨r,h1,h2,h3,h4⟩:=ans hp hl hG (i:=q) (by omega) hj (by omega) hk hmm;rw[h1,bS];exact nxt r h2.1 h3 (aja h0 (by omega) hj YE hk hmm h2 h3 h4)
theorem aa2 {p:Int}(hp:Pr p){x:List (List Int)}{x2 x4:List Int}{x3 t:Int}{t2 most:Nat}(hmo:most≤30)(hx4:x4.length≤1000000000000000000):∀(q n:Nat) (aa:List Cl),24≤q+n→aa.length≤most→Gd p aa aa.length→fi p aa=0→∃r,eF n x x2 x3 x4 t t2 p aa=some r∧Go2 r.1 r.2.1 most:=by
 have hp1:=hp.1;have hp2:=hp.2.1;intro q;induction q with
 |zero=>
  intro n aa hq hl hG h0;have hgo:Go2 p aa most:=⟨hl,hG,h0⟩
  rw[wq,p5];rw[aq (a:=(n:Int)) (b:=24) (by omega)];cases decide (IntKind.wrap .i64 ((n:Int)+2)<(x4.length:Int)) with
  |true=>exact⟨_,rfl,hgo⟩
  |false=>exact⟨_,rfl,hgo⟩
 |succ q ih=>
  intro n aa hq hl hG h0;have hgo:Go2 p aa most:=⟨hl,hG,h0⟩
  rw[wq,p5];by_cases h24:(n:Int)<24
  ·have e1:IntKind.wrap .i64 ((n:Int)+1)=((n+1:Nat):Int):=by rw[i64_in _ (by omega)];omega
   have e2:IntKind.wrap .i64 ((n:Int)+2)=((n+2:Nat):Int):=by rw[i64_in _ (by omega)];omega
   rw[e1,e2,ax h24];by_cases hn:((n+2:Nat):Int)<x4.length
   ·rw[ax hn];by_cases hc:(aa.length:Int)>0
    ·have ep:IntKind.wrap .i64 (p - 1)=p - 1:=i64_in _ (by omega);obtain⟨j1,j2⟩:=vt1 (x:=x4.getD n 0) (c:=(aa.length:Int)) (by omega);obtain⟨j,hj⟩:=Int.eq_ofNat_of_zero_le j1;have k0:=Int.tmod_lt_of_pos (x4.getD (n+1) 0) (show 0<p - 1 by omega);have k1:=Int.lt_tmod_of_pos (x4.getD (n+1) 0) (show 0<p - 1 by omega);have k2:IntKind.wrap .i64 (IntKind.wrap .i64 ((x4.getD (n+1) 0).tmod (p - 1)+p) - 1)=(x4.getD (n+1) 0).tmod (p - 1)+p - 1:=by rw[i64_in ((x4.getD (n+1) 0).tmod (p - 1)+p) (by omega),i64_in _ (by omega)]
     have k3:((x4.getD (n+1) 0).tmod (p - 1)+p - 1).tmod (p - 1)=((x4.getD (n+1) 0).tmod (p - 1)+p - 1) % (p - 1):=bA (by omega);have k4:=Int.emod_nonneg ((x4.getD (n+1) 0).tmod (p - 1)+p - 1) (show p - 1≠0 by omega);have k5:=Int.emod_lt_of_pos ((x4.getD (n+1) 0).tmod (p - 1)+p - 1) (show 0<p - 1 by omega);rw[cX hc,Kb (by omega),kz (by omega),kz (by omega),Kb (by omega),ep,kz (by omega),kz (by omega)];simp only;rw[k2,k3,hj,i64_in (1+_) (by omega),i64_in ((j:Int) - 1) (by omega)];exact aa1 hp (by omega) hG h0 (by omega) (by omega) (show j<aa.length by omega) (by omega) (fun W1 g1 g2 g3=>ih (n+3) W1 (by omega) (by omega) (by rw[g1];exact g2) g3) j (by omega)
    ·rw[c5 hc];exact⟨_,rfl,hgo⟩
   ·rw[aq hn];exact⟨_,rfl,hgo⟩
  ·rw[aq h24];cases decide (IntKind.wrap .i64 ((n:Int)+2)<(x4.length:Int)) with
   |true=>exact⟨_,rfl,hgo⟩
   |false=>exact⟨_,rfl,hgo⟩
theorem age {l:Gn}(hl:l.length≤1000000000000000000)(hs:∀s∈l,s.length≤1000000000000000000){values turns:List Int}(hv:values.length≤1000000000000000000)(ht:turns.length≤1000000000000000000)(field:Int){most:Nat}(hmo:most≤30):
  ∃r,rk (l,(values,(field,(turns,())))) most=some r∧Go2 r.1 r.2.1 most:=by
 rw[K7,Cw];simp only;have aiz:∃n:Nat,(bif decide ((40:Int)<(l.length:Int)) then (40:Int) else (l.length:Int))=n∧n≤40∧n≤l.length:=by
  by_cases h:(40:Int)<l.length
  ·rw[ax h];exact⟨40,rfl,by omega,by omega⟩
  ·rw[aq h];exact⟨l.length,rfl,by omega,by omega⟩
 obtain⟨n,e1,e2,e3⟩:=aiz;rw[e1,F8 (by omega) (by omega) (by omega)];have S1:(cut l 0 (n:Int)).length≤40:=by simp[cut];omega
 have hcm:∀s∈cut l 0 (n:Int),s∈l:=fun s h=>by simp only[cut] at h;exact List.mem_of_mem_take (List.mem_of_mem_drop h)
 obtain⟨f,h1,h2⟩:=af8 (l:=cut l 0 (n:Int)) (by omega) (fun s h=>hs s (hcm s h)) hv;have hf:=h2.len;rw[h1,bS];have aiz:∃n:Nat,(bif decide ((most:Int)<(f.length:Int)) then (most:Int) else (f.length:Int))=n∧n≤most∧n≤f.length:=by
  by_cases h:(most:Int)<f.length
  ·rw[ax h];exact⟨most,rfl,by omega,by omega⟩
  ·rw[aq h];exact⟨f.length,rfl,by omega,by omega⟩
 obtain⟨k,g1,g2,g3⟩:=aiz;obtain⟨p,p1,p2⟩:=aiK field;rw[g1,F8 (by omega) (by omega) (by omega),p1,bS];have hct:cut f 0 (k:Int)=f.take k:=by simp[cut]
 have hfi:=h2.take k;have Ph:(f.take k).length≤most:=by simp;omega
 have hlen:(ofL (f.take k) p).length≤most:=by rw[Ht];exact Ph
 rw[hct,anp hfi p2,bS];have e0:((0:Nat):Int)=0:=rfl;have:=aa2 (x:=l) (x2:=values) (x3:=field) (x4:=turns) (t:=0) (t2:=0) p2 hmo ht 24 0 (ofL (f.take k) p) (by omega) hlen (fun y hy=>by
  obtain⟨j,hj,rfl⟩:=List.mem_map.1 hy;have hj':j<(f.take k).length:=by simpa using hj
  refine⟨hfi.at_ _ (ay (d:=fW) hj'), ?_⟩;rw[Ht];have hp2:=p2.1;refine Uw (by rw[yq];omega) fun x=> ?_;by_cases hx:x<j
  ·rw[O7 hx];exact UJ hp2 _
  ·have h1:(vec (f.take k) p j).getD x 0=0:=by simp[List.getD,List.getElem?_eq_none (show (vec (f.take k) p j).length≤x by rw[yq];omega)]
   rw[h1];omega) (akZ hfi p2)
 rw[e0] at this;exact this
theorem Go2.go1 {p:Int}{aa:List Cl}{most:Nat}(h:Go2 p aa most)(hm:most≤30):Go1 p aa:=⟨Nat.le_trans h.1 hm, .inr (mf h.2.2).1,h.2.1⟩
theorem Go2.sz {p:Int}{aa:List Cl}{most:Nat}(h:Go2 p aa most)(hm:most≤30):Sz aa:=(h.go1 hm).sz
def ak1 (aa:List Cl):Prop:=∀j,j<aa.length→(mG aa j).size≤20
theorem KL (aa:List Cl):(gz aa).length=aa.length:=by simp[gz]
theorem Hu {aa:List Cl}{j:Nat}(h:j<aa.length):(gz aa).getD j gq=((dsf aa aa.length j).1,((dsf aa aa.length j).2,(Dv aa aa.length aa.length j,()))):=by simp[gz,List.getD,h]
theorem ajb {aa:List Cl}{n m j r:Nat}(h:r<m):(dvv aa n m j).getD r 0=cf (cp aa ((n - 1 - r:Nat):Int)) ((n - 1 - j:Nat):Int):=by unfold dvv;simp[List.getD,h]
theorem KM {aa:List Cl}{i j:Nat}(hi:i<aa.length)(hj:j<aa.length):mx (gz aa) i j=mx aa (aa.length - 1 - j) (aa.length - 1 - i):=by
 have e:cp (gz aa) (j:Int)=Nk 0 (dvv aa aa.length aa.length j):=by rw[fV,Hu hj];rfl
 show cf (cp (gz aa) (j:Int)) (i:Int)=_;rw[e,Ys,if_pos (Nat.zero_le _),Nat.sub_zero,ajb hi]
theorem UK {p:Int}{aa:List Cl}(h0:fi p aa=0){j:Nat}(hj:j<aa.length):Vc p aa.length (cp (gz aa) (j:Int)):=by
 obtain⟨hp,hl,hg⟩:=mf h0;have hp1:=hp.1;have e:cp (gz aa) (j:Int)=Nk 0 (dvv aa aa.length aa.length j):=by rw[fV,Hu hj];rfl
 rw[e];refine Uw (by simp[dvv]) fun k=> ?_;by_cases hk:k<aa.length
 ·rw[ajb hk];exact J5 (by omega) (hg (aa.length - 1 - k) (by omega)).bd.c _
 ·have:(dvv aa aa.length aa.length j).getD k 0=0:=by simp[List.getD,dvv,hk]
  rw[this];omega
theorem ad6 {p:Int}{aa:List Cl}(h0:fi p aa=0){a s:Nat}(hs:s<aa.length)(hz:mx aa a s≠0):a<s∧(aa.getD a gq).1=(aa.getD s gq).1 - 1:=by obtain⟨hp,hl,hg⟩:=mf h0;have hgs:=hg s hs;obtain⟨t,ht,e⟩:=Ro hz;have h1:=(hgs.bd.r t ht).1;have h2:=hgs.akK t ht;rw[e,Int.toNat_natCast] at h2;exact⟨by omega,h2⟩
theorem UL {p:Int}{aa:List Cl}(h0:fi p aa=0)(h20:ak1 aa):fi p (gz aa)=0:=by
 obtain⟨hp,hl,hg⟩:=mf h0;have hp1:=hp.1;obtain⟨n,hn⟩:∃n,aa.length=n:=⟨_,rfl⟩
 have YI:=KL aa;have YE:∀j,j<n→((gz aa).getD j gq).1=4 - (aa.getD (n - 1 - j) gq).1:=fun j hj=>by rw[Hu (by omega)];unfold dsf;rw[hn]
 have YD:∀j,j<n→mG (gz aa) j=aiM (mG aa (n - 1 - j)):=fun j hj=>by unfold mG;rw[Hu (by omega)];unfold dsf;rw[hn];rfl
 have hR:∀j,j<n→∃x d,Rt (mG aa j) x d∧0<d:=fun j hj=>by obtain⟨x,d,h⟩:=rM.1 (hg j (by omega)).at_;exact⟨x,d,h,(h.bounds (by have:=h20 j (by omega);omega)).2.2⟩
 have key:∀j,j<n→∀t∈cp (gz aa) (j:Int),∃i:Nat,t.1=(i:Int)∧i<n∧mx (gz aa) i j≠0:=fun j hj t ht=>by
  have hv:=UK h0 (show j<aa.length by omega);have h1:=Sr.mem hv.s t ht;have h2:=hv.r t ht;have h3:=EZ hv.s t ht;have e:t.1=((t.1.toNat:Nat):Int):=by omega
  refine⟨t.1.toNat,e,by omega, ?_⟩;show cf (cp (gz aa) (j:Int)) ((t.1.toNat:Nat):Int)≠0;rw[←e,h3];omega
 have hvj:∀j,j<n→Vc p j (cp (gz aa) (j:Int)):=fun j hj=>by have hv:=UK h0 (show j<aa.length by omega);refine⟨hv.s,fun t ht=>⟨?_,(hv.r t ht).2⟩⟩;obtain⟨i,e,hi,hz⟩:=key j hj t ht;rw[KM (by omega) (by omega),hn] at hz;have:=(ad6 h0 (by omega) hz).1;omega
 refine acL hp (by omega) fun j hj=> ?_;rw[YI,hn] at hj;have hgj:=hg (n - 1 - j) (by omega);refine⟨?_, ?_,hvj j hj,fun _=>(hvj j hj).mono (by omega),fun t ht=> ?_, ?_, ?_⟩
 ·rw[YE j hj];have:=hgj.PT;omega
 ·obtain⟨x,d,h,_⟩:=hR (n - 1 - j) (by omega);rw[YD j hj];exact rM.2 ⟨_,_,h.opp⟩
 ·obtain⟨i,e,hi,hz⟩:=key j hj t ht;rw[KM (by omega) (by omega),hn] at hz;have:=(ad6 h0 (by omega) hz).2;rw[e,Int.toNat_natCast,YE i hi,YE j hj];omega
 ·rw[KK (n:=n) (by omega) (fun y hy=>by have:=UK h0 (show y<aa.length by omega);rw[hn] at this;exact this) hj];intro r hr;have e1:sm (fun i=>mx (gz aa) i j*mx (gz aa) r i) n=sm (fun i=>(fun x=>mx aa x (n - 1 - r)*mx aa (n - 1 - j) x) (n - 1 - i)) n:=bH fun i hi=>by rw[KM (by omega) (by omega),KM (by omega) (by omega),hn,Int.mul_comm]
  rw[e1,acK (fun x=>mx aa x (n - 1 - r)*mx aa (n - 1 - j) x) n];exact(KK (by omega) (fun y hy=>(hg y (by omega)).bd.mono (by omega)) (show n - 1 - r<n by omega)).1 (hg (n - 1 - r) (by omega)).cyc (n - 1 - j) (by omega)
 ·unfold Nl;by_cases hj0:0<j
  ·obtain⟨x,d,h1,d1⟩:=hR (n - 1 - j) (by omega);obtain⟨y,e,h2,d2⟩:=hR (n - 1 - (j - 1)) (by omega);have ho:=(hg (n - 1 - (j - 1)) (by omega)).ord;unfold Nl at ho;rw[show n - 1 - (j - 1) - 1=n - 1 - j by omega,decide_eq_true (show 0<n - 1 - (j - 1) by omega),Bool.true_and,h1.val,h2.val] at ho;simp only[decide_eq_false_iff_not] at ho;rw[YD j hj,YD (j - 1) (by omega),h1.opp.val,h2.opp.val];have e3:decide (mK (-x*e) (-y*d)<0)=false:=by refine decide_eq_false fun g=>ho ?_;rw[aiW] at g ⊢;rw[Int.neg_mul,Int.neg_mul] at g;omega
   simp only[e3,Bool.and_false]
  ·rw[decide_eq_false hj0,Bool.false_and]
theorem Sn {p:Int}{g:Nat→Int}:∀{n:Nat},(∀i,i<n→p ∣ g i)→p ∣ sm g n
 |0,_=>Int.dvd_zero p
 |n+1,h=>Int.dvd_add (Sn fun i hi=>h i (by omega)) (h n (by omega))
theorem Sp {p:Int}{g:Nat→Int}{a:Nat}:∀{n:Nat},a<n→(∀i,i<n→i≠a→p ∣ g i)→p ∣ sm g n - g a
 |0,h,_=>by omega
 |n+1,h,e=>by
  rw[sm];by_cases ha:a=n
  ·subst ha;rw[Int.add_sub_cancel];exact Sn fun i hi=>e i (by omega) (by omega)
  ·have h1:=Sp (g:=g) (a:=a) (n:=n) (by omega) fun i hi hn=>e i (by omega) hn;have h2:=e n (by omega) (by omega);have:sm g n+g n - g a=(sm g n - g a)+g n:=by omega
   rw[this];exact Int.dvd_add h1 h2
theorem Pa {p:Int}{g h:Nat→Int}:∀{n:Nat},(∀i,i<n→p ∣ g i - h i)→p ∣ sm g n - sm h n
 |0,_=>by rw[sm,sm];exact Int.dvd_zero p
 |n+1,e=>by
  have h1:=Pa (g:=g) (h:=h) (n:=n) fun i hi=>e i (by omega);have h2:=e n (by omega);have:sm g (n+1) - sm h (n+1)=(sm g n - sm h n)+(g n - h n):=by rw[sm,sm];omega
  rw[this];exact Int.dvd_add h1 h2
def Nx (p:Int)(n:Nat)(R:Nat→Nat→Int)(j i:Nat):Prop:=i<n∧¬p ∣ R i j∧∀r,i<r→r<n→p ∣ R r j
def IsF (p:Int)(n:Nat)(S:Nat→Nat→Int)(i j:Nat):Prop:=j<n∧¬p ∣ S i j∧∀c,c<j→p ∣ S i c
structure Vv (p:Int) (n:Nat) (m R:Nat→Nat→Int):Prop where
 cmb:∃v:Nat→Nat→Int,(∀j,j<n→v j j=1)∧(∀j,j<n→∀k,j<k→v k j=0)∧∀j,j<n→∀r,r<n→p ∣ R r j - sm (fun k=>v k j*m r k) n
 inj:∀i j k,j<n→k<n→Nx p n R j i→Nx p n R k i→j=k
def pf (n:Nat)(m:Nat→Nat→Int)(r k:Nat):Int:=m (n - 1 - k) (n - 1 - r)
theorem ajc {f:Nat→Prop}:∀{n:Nat},(∃i,i<n∧f i)→∃i,i<n∧f i∧∀r,i<r→r<n→¬f r
 |0,⟨i,h,_⟩=>by omega
 |n+1,⟨i,h,hf⟩=>by
  by_cases hn:f n
  ·exact⟨n,by omega,hn,fun r _ _=>by omega⟩
  ·have hi:i<n:=by
    rcases Nat.lt_or_ge i n with g |g
    ·exact g
    ·have:i=n:=by omega
     subst this;exact absurd hf hn
   obtain⟨k,k1,k2,k3⟩:=ajc ⟨i,hi,hf⟩;refine⟨k,by omega,k2,fun r h1 h2=> ?_⟩;by_cases e:r=n
   ·subst e;exact hn
   ·exact k3 r h1 (by omega)
theorem ajd {f:Nat→Prop}:∀{n:Nat},f n→∃i,i≤n∧f i∧∀r,r<i→¬f r:=fun {n}=>by
 induction n using Nat.strongRecOn with
 |ind n ih=>
  intro h;by_cases g:∃r,r<n∧f r
  ·obtain⟨r,h1,h2⟩:=g;obtain⟨i,k1,k2,k3⟩:=ih r h1 h2;exact⟨i,by omega,k2,k3⟩
  ·exact⟨n,Nat.le_refl n,h,fun r hr hf=>g ⟨r,hr,hf⟩⟩
theorem Nx.apL {p:Int}{n:Nat}{R:Nat→Nat→Int}{j i:Nat}(hi:i<n)(h:¬p ∣ R i j):∃k,i≤k∧Nx p n R j k:=by
 obtain⟨k,k1,k2,k3⟩:=ajc (f:=fun r=>¬p ∣ R r j) ⟨i,hi,h⟩;have k4:∀r,k<r→r<n→p ∣ R r j:=fun r h1 h2=>Classical.byContradiction fun g=>k3 r h1 h2 g;refine⟨k, ?_,k1,k2,k4⟩;rcases Nat.lt_or_ge k i with g |g
 ·exact absurd (k4 i g hi) h
 ·exact g
theorem Nx.uniq {p:Int}{n:Nat}{R:Nat→Nat→Int}{j i k:Nat}(h:Nx p n R j i)(g:Nx p n R j k):i=k:=by
 rcases Nat.lt_trichotomy i k with e |e |e
 ·exact absurd (h.2.2 k e g.1) g.2.1
 ·exact e
 ·exact absurd (g.2.2 i e h.1) h.2.1
theorem IsF.uniq {p:Int}{n:Nat}{R:Nat→Nat→Int}{i j k:Nat}(h:IsF p n R i j)(g:IsF p n R i k):j=k:=by
 rcases Nat.lt_trichotomy j k with e |e |e
 ·exact absurd (g.2.2 j e) h.2.1
 ·exact e
 ·exact absurd (h.2.2 k e) g.2.1
theorem mi {p a b:Int}(h:p ∣ a - b):p ∣ a↔p ∣ b:=by
 constructor
 ·intro g;have:=Int.dvd_sub g h;rw[show a - (a - b)=b by omega] at this;exact this
 ·intro g;have:=Int.dvd_add h g;rw[show a - b+b=a by omega] at this;exact this
theorem Vv.congr {p:Int}{n:Nat}{m m' R:Nat→Nat→Int}(h:Vv p n m R)(e:∀r k,r<n→k<n→m' r k=m r k):Vv p n m' R:=by obtain⟨v,h1,h2,h3⟩:=h.cmb;refine⟨⟨v,h1,h2,fun j hj r hr=> ?_⟩,h.inj⟩;have:=h3 j hj r hr;rw[bH (h:=fun k=>v k j*m r k) fun k hk=>by rw[e r k hr hk]];exact this
theorem UM {p:Int}{n:Nat}{m R R':Nat→Nat→Int}(h:Vv p n m R)(h':Vv p n (pf n m) R'){i j:Nat}(hj:j<n)(hl:Nx p n R j i):Nx p n R' (n - 1 - i) (n - 1 - j):=by
 obtain⟨v,v1,v2,v3⟩:=h.cmb;obtain⟨w,w1,w2,w3⟩:=h'.cmb
 -- GJ rows of GJ anu agf
 let S:Nat→Nat→Int:=fun i c=>R' (n - 1 - c) (n - 1 - i)
 let N:Nat→Nat→Int:=fun i j=>sm (fun k=>w (n - 1 - k) (n - 1 - i)*R k j) n
 have hA:∀i j,i<n→j<n→(∀r,i<r→r<n→p ∣ R r j)→p ∣ N i j - R i j:=fun i j hi hj hz=>by
  have:=Sp (p:=p) (g:=fun k=>w (n - 1 - k) (n - 1 - i)*R k j) (a:=i) hi fun k hk hne=>by
   rcases Nat.lt_or_ge k i with g |g
   ·rw[w2 (n - 1 - i) (by omega) (n - 1 - k) (by omega),Int.zero_mul];exact Int.dvd_zero p
   ·exact Int.dvd_trans (hz k (by omega) hk) (Int.dvd_mul_left _ _)
  simp only[w1 (n - 1 - i) (by omega),Int.one_mul] at this;exact this
 have hN:∀i j,i<n→j<n→p ∣ N i j - sm (fun l=>v l j*S i l) n:=fun i j hi hj=>by
  have a1:p ∣ N i j - sm (fun k=>sm (fun l=>w (n - 1 - k) (n - 1 - i)*(v l j*m k l)) n) n:=Pa fun k hk=>by rw[Ar, ←Int.mul_sub];exact Int.dvd_trans (v3 j hj k hk) (Int.dvd_mul_left _ _)
  have a2:sm (fun k=>sm (fun l=>w (n - 1 - k) (n - 1 - i)*(v l j*m k l)) n) n=sm (fun l=>v l j*sm (fun k=>w (n - 1 - k) (n - 1 - i)*m k l) n) n:=by rw[Sk (fun k l=>w (n - 1 - k) (n - 1 - i)*(v l j*m k l)) n n];refine bH fun l hl=> ?_;rw[←Ar];refine bH fun k hk=> ?_;rw[Int.mul_left_comm]
  have a3:p ∣ sm (fun l=>v l j*sm (fun k=>w (n - 1 - k) (n - 1 - i)*m k l) n) n - sm (fun l=>v l j*S i l) n:=Pa fun l hl=>by
   rw[←Int.mul_sub];refine Int.dvd_trans ?_ (Int.dvd_mul_left _ _);have b1:=w3 (n - 1 - i) (by omega) (n - 1 - l) (by omega);have b2:sm (fun k=>w k (n - 1 - i)*pf n m (n - 1 - l) k) n=sm (fun k=>w (n - 1 - k) (n - 1 - i)*m k l) n:=by rw[←acK];refine bH fun k hk=> ?_;unfold pf;rw[show n - 1 - (n - 1 - k)=k by omega,show n - 1 - (n - 1 - l)=l by omega]
   rw[b2] at b1;have b3:=Int.dvd_neg.2 b1;rw[Int.neg_sub] at b3;exact b3
  rw[a2] at a1;have:=Int.dvd_add a1 a3;rw[show N i j - sm (fun l=>v l j*sm (fun k=>w (n - 1 - k) (n - 1 - i)*m k l) n) n+(sm (fun l=>v l j*sm (fun k=>w (n - 1 - k) (n - 1 - i)*m k l) n) n - sm (fun l=>v l j*S i l) n)=N i j - sm (fun l=>v l j*S i l) n by omega] at this;exact this
 have hB:∀i j,i<n→j<n→(∀c,c<j→p ∣ S i c)→p ∣ N i j - S i j:=fun i j hi hj hz=>by
  have:=Sp (p:=p) (g:=fun l=>v l j*S i l) (a:=j) hj fun l hl hne=>by
   rcases Nat.lt_or_ge l j with g |g
   ·exact Int.dvd_trans (hz l g) (Int.dvd_mul_left _ _)
   ·rw[v2 j hj l (by omega),Int.zero_mul];exact Int.dvd_zero p
  simp only[v1 j hj,Int.one_mul] at this;have h2:=Int.dvd_add (hN i j hi hj) this;rw[show N i j - sm (fun l=>v l j*S i l) n+(sm (fun l=>v l j*S i l) n - S i j)=N i j - S i j by omega] at h2;exact h2
 have AL:∀j i,j<n→Nx p n R j i→Nx p n N j i:=fun j i hj g=>⟨g.1,fun e=>g.2.1 ((mi (hA i j g.1 hj g.2.2)).1 e),fun r h1 h2=>(mi (hA r j h2 hj fun s h3 h4=>g.2.2 s (by omega) h4)).2 (g.2.2 r h1 h2)⟩
 have AZ:∀i j,i<n→j<n→¬p ∣ N i j→∃k,i≤k∧Nx p n R j k∧Nx p n N j k:=fun i j hi hj g=>by
  by_cases hz:∃r,r<n∧¬p ∣ R r j
  ·obtain⟨r,h1,h2⟩:=hz;obtain⟨k,_,h3⟩:=Nx.apL h1 h2;have h4:=AL j k hj h3;refine⟨k, ?_,h3,h4⟩;rcases Nat.lt_or_ge k i with e |e
   ·exact absurd (h4.2.2 i e hi) g
   ·exact e
  ·have hz':∀r,r<n→p ∣ R r j:=fun r hr=>Classical.byContradiction fun q=>hz ⟨r,hr,q⟩;exact absurd ((mi (hA i j hi hj fun r _ h2=>hz' r h2)).2 (hz' i hi)) g
 have BF:∀i j,i<n→IsF p n S i j→IsF p n N i j:=fun i j hi g=>⟨g.1,fun e=>g.2.1 ((mi (hB i j hi g.1 g.2.2)).1 e),fun c hc=>(mi (hB i c hi (by have:=g.1;omega) fun s h3=>g.2.2 s (by omega))).2 (g.2.2 c hc)⟩
 have BZ:∀i j,i<n→j<n→¬p ∣ N i j→∃c,c≤j∧IsF p n S i c∧IsF p n N i c:=fun i j hi hj g=>by
  by_cases hz:∃c,c≤j∧¬p ∣ S i c
  ·obtain⟨c,h1,h2⟩:=hz;obtain⟨d,d1,d2,d3⟩:=ajd (f:=fun c=>¬p ∣ S i c) h2;have h3:IsF p n S i d:=⟨by omega,d2,fun c hc=>Classical.byContradiction fun q=>d3 c hc q⟩
   have h4:=BF i d hi h3;exact⟨d,by omega,h3,h4⟩
  ·have hz':∀c,c≤j→p ∣ S i c:=fun c hc=>Classical.byContradiction fun q=>hz ⟨c,hc,q⟩;exact absurd ((mi (hB i j hi hj fun c hc=>hz' c (by omega))).2 (hz' j (Nat.le_refl j))) g
 have arT:∀i j k,j<n→k<n→Nx p n N j i→Nx p n N k i→j=k:=fun i j k hj hk g1 g2=>by obtain⟨a,_,a2,a3⟩:=AZ i j g1.1 hj g1.2.1;obtain⟨b,_,b2,b3⟩:=AZ i k g2.1 hk g2.2.1;have ea:=g1.uniq a3;have eb:=g2.uniq b3;rw[←ea] at a2;rw[←eb] at b2;exact h.inj i j k hj hk a2 b2
 have SF:∀i c,i<n→IsF p n S i c→Nx p n R' (n - 1 - i) (n - 1 - c):=fun i c hi g=>by refine⟨by omega,g.2.1,fun r h1 h2=> ?_⟩;have hc:=g.1;have:=g.2.2 (n - 1 - r) (by omega);simp only[S] at this;rw[show n - 1 - (n - 1 - r)=r by omega] at this;exact this
 have arU:∀j i k,i<n→k<n→IsF p n N i j→IsF p n N k j→i=k:=fun j i k hi hk g1 g2=>by obtain⟨a,_,a2,a3⟩:=BZ i j hi g1.1 g1.2.1;obtain⟨b,_,b2,b3⟩:=BZ k j hk g2.1 g2.2.1;have ea:=g1.uniq a3;have eb:=g2.uniq b3;rw[←ea] at a2;rw[←eb] at b2;have:=h'.inj (n - 1 - j) (n - 1 - i) (n - 1 - k) (by omega) (by omega) (SF i j hi a2) (SF k j hk b2);omega
 have main:∀j,j<n→∀i,Nx p n N j i→IsF p n N i j:=by
  intro j;induction j using Nat.strongRecOn with
  |ind j ih=>
   intro hj i g;obtain⟨c,c1,_,c3⟩:=BZ i j g.1 hj g.2.1;by_cases e:c=j
   ·rw[e] at c3;exact c3
   ·exfalso;obtain⟨k,k1,_,k3⟩:=AZ i c g.1 c3.1 c3.2.1;have h3:=ih c (by omega) c3.1 k k3;have:=arU c i k g.1 k3.1 c3 h3;rw[←this] at k3;exact e (arT i c j c3.1 hj k3 g)
 have f1:=main j hj i (AL j i hj hl);obtain⟨c,_,c2,c3⟩:=BZ i j hl.1 hj f1.2.1;have:=f1.uniq c3;rw[←this] at c2;exact SF i j hl.1 c2
theorem Me {p:Int}{n:Nat}{m R R':Nat→Nat→Int}(h:Vv p n m R)(h':Vv p n (pf n m) R'){i j:Nat}(hi:i<n)(hl:Nx p n R' (n - 1 - i) (n - 1 - j))(hj:j<n):Nx p n R j i:=by
 have h2:Vv p n (pf n (pf n m)) R:=h.congr fun r k hr hk=>by unfold pf;rw[show n - 1 - (n - 1 - r)=r by omega,show n - 1 - (n - 1 - k)=k by omega]
 have:=UM h' h2 (show n - 1 - i<n by omega) hl;rw[show n - 1 - (n - 1 - j)=j by omega,show n - 1 - (n - 1 - i)=i by omega] at this;exact this
theorem aje {p:Int}{n:Nat}{m R R':Nat→Nat→Int}(pp:∀a b:Int,p ∣ a*b→p ∣ a∨p ∣ b)(h:Vv p n m R)(h':Vv p n (pf n m) R'){j:Nat}(hj:j<n){a:Nat→Int}(a1:¬p ∣ a j)(a2:∀k,j<k→k<n→p ∣ a k)(hz:∀r,r<n→p ∣ sm (fun k=>a k*m r k) n){i:Nat}:¬Nx p n R j i:=fun hl=>by
 have hf:=UM h h' hj hl;have hi:=hl.1;obtain⟨w,w1,w2,w3⟩:=h'.cmb
 -- GJ row i of GJ anu agf,times a
 have e1:p ∣ sm (fun k=>a k*R' (n - 1 - k) (n - 1 - i)) n - sm (fun k=>a k*sm (fun l=>w l (n - 1 - i)*pf n m (n - 1 - k) l) n) n:=Pa fun k hk=>by rw[←Int.mul_sub];exact Int.dvd_trans (w3 (n - 1 - i) (by omega) (n - 1 - k) (by omega)) (Int.dvd_mul_left _ _)
 have e2:sm (fun k=>a k*sm (fun l=>w l (n - 1 - i)*pf n m (n - 1 - k) l) n) n=sm (fun l=>w l (n - 1 - i)*sm (fun k=>a k*m (n - 1 - l) k) n) n:=by
  have:sm (fun k=>a k*sm (fun l=>w l (n - 1 - i)*pf n m (n - 1 - k) l) n) n=sm (fun k=>sm (fun l=>w l (n - 1 - i)*(a k*m (n - 1 - l) k)) n) n:=bH fun k hk=>by rw[←Ar];refine bH fun l hl=> ?_;unfold pf;rw[show n - 1 - (n - 1 - k)=k by omega,Int.mul_left_comm]
  rw[this,Sk (fun k l=>w l (n - 1 - i)*(a k*m (n - 1 - l) k)) n n];exact bH fun l hl=>Ar _ _ _
 have e3:p ∣ sm (fun l=>w l (n - 1 - i)*sm (fun k=>a k*m (n - 1 - l) k) n) n:=Sn fun l hl=>Int.dvd_trans (hz (n - 1 - l) (by omega)) (Int.dvd_mul_left _ _);rw[←e2] at e3;have e4:=(mi e1).2 e3;have e5:=Sp (p:=p) (g:=fun k=>a k*R' (n - 1 - k) (n - 1 - i)) hj fun k hk hne=>by
  rcases Nat.lt_or_ge k j with g |g
  ·exact Int.dvd_trans (hf.2.2 (n - 1 - k) (by omega) (by omega)) (Int.dvd_mul_left _ _)
  ·exact Int.dvd_trans (a2 k (by omega) hk) (Int.dvd_mul_right _ _)
 have e6:=(mi e5).1 e4;rcases pp _ _ e6 with g |g
 ·exact a1 g
 ·exact hf.2.1 g
def Cmb (p:Int)(aa:List Cl)(n k:Nat)(x:List Tm):Prop:=Vc p k x∧∃v:Nat→Int,v k=1∧(∀l,k<l→v l=0)∧∀r:Nat,r<n→p ∣ cf x (r:Int) - sm (fun l=>v l*mx aa r l) n
theorem Cmb.self {p:Int}{aa:List Cl}{n k:Nat}(hk:k<n)(h:Vc p k (cp aa k)):Cmb p aa n k (cp aa k):=by
 refine⟨h,fun l=>if l=k then 1 else 0,if_pos rfl,fun l hl=>if_neg (by omega),fun r hr=> ?_⟩;have:sm (fun l=>(if l=k then 1 else 0)*mx aa r l) n=cf (cp aa k) (r:Int):=by rw[Nv (a:=k) hk fun i hi hne=>by rw[if_neg hne,Int.zero_mul],if_pos rfl,Int.one_mul]
 rw[this,Int.sub_self];exact Int.dvd_zero p
theorem Cmb.plus {p:Int}(hp:0<p){aa:List Cl}{n k m:Nat}{x y:List Tm}(c:Int)(hx:Cmb p aa n k x)(hy:Cmb p aa n m y)(hk:m<k):Cmb p aa n k (rT p x c y):=by
 obtain⟨x1,vx,x2,x3,x4⟩:=hx;obtain⟨y1,vy,y2,y3,y4⟩:=hy;obtain⟨h1,h2⟩:=Ei (k:=c) hp x1 (y1.mono (m:=(k:Int)) (by omega));refine⟨h1,fun l=>vx l+c*vy l, ?_,fun l hl=> ?_,fun r hr=> ?_⟩
 ·simp only;rw[x2,y3 k hk];simp
 ·simp only;rw[x3 l hl,y3 l (by omega)];simp
 ·rw[h2];have e:sm (fun l=>(vx l+c*vy l)*mx aa r l) n=sm (fun l=>vx l*mx aa r l) n+c*sm (fun l=>vy l*mx aa r l) n:=by rw[←Ar, ←E3];exact bH fun l hl=>by grind
  rw[e];obtain⟨a,ha⟩:=x4 r hr;obtain⟨b,hb⟩:=y4 r hr;rw[Int.emod_def];generalize (cf x (r:Int)+c*cf y (r:Int)) / p=q;exact⟨a+c*b - q,by grind⟩
theorem W2 {p:Int}(hp:Pr p){aa:List Cl}{n k:Nat}{st:List (Option (List Tm))}(hst:Sto p n st)(hk:k≤n)(hc:∀i y,st.getD i none=some y→∃m,m<k∧Cmb p aa n m y):
  ∀(f:Nat) (x:List Tm) (a:Int),Cmb p aa n k x→(∀t∈x,t.1<f)→Cmb p aa n k (jQ p st f x a).1∧∀t,(jQ p st f x a).1.getLast?=some t→st.getD t.1.toNat none=none
 |0,x,a,hx,hf=>by
  have:x=[]:=by
   cases x with
   |nil=>rfl
   |cons t r=>have h1:=hf t (by simp);have h2:=Sr.mem hx.1.s t (by simp);omega
  subst this;exact⟨hx,fun t ht=>by cases ht⟩
 |f+1,x,a,hx,hf=>by
  rw[jQ];cases hl:x.getLast? with
  |none=>exact⟨hx,fun t ht=>by simp only at ht;rw[hl] at ht;cases ht⟩
  |some t=>
   simp only;cases hy:st.getD t.1.toNat none with
   |none=>exact⟨hx,fun u hu=>by simp only at hu;rw[hl] at hu;cases hu;exact hy⟩
   |some y=>simp only;have hpp:=hp.1;obtain⟨hvy,u,hu,hu1⟩:=hst.ok _ y hy;obtain⟨m,hm,hcy⟩:=hc _ y hy;have ht0:=Sr.mem hx.1.s t (bQ hl);have afv:=Ut hp (hx.1.mono (m:=(n:Int)) (by omega)) hvy hl hu (by omega);have hft:=hf t (bQ hl);rw[hu,Option.getD_some];exact W2 hp hst hk hc f _ (a+1) (hx.plus (by omega) _ hcy hm) fun s hs=>by have:=afv s hs;omega
theorem Gj {p:Int}{st:List (Option (List Tm))}:∀(f:Nat) (x:List Tm) (a:Int),jQ p st f x a=((jQ p st f x 0).1,a+(jQ p st f x 0).2)∧0≤(jQ p st f x 0).2∧(jQ p st f x 0).2≤f
 |0,x,a=>by refine⟨?_, ?_, ?_⟩<;>simp[jQ]
 |f+1,x,a=>by
  rw[jQ,jQ];cases hl:x.getLast? with
  |none=>simp only[Int.add_zero];exact⟨trivial,by omega,by omega⟩
  |some t=>
   simp only;cases hy:st.getD t.1.toNat none with
   |none=>simp only[Int.add_zero];exact⟨trivial,by omega,by omega⟩
   |some y=>
    simp only;obtain⟨h1,h2,h3⟩:=Gj f (rT p x ((-t.2.1*iv p ((y.getLast?.getD (0,(0,()))).2.1)) % p) y) (a+1);obtain⟨g1,_,_⟩:=Gj f (rT p x ((-t.2.1*iv p ((y.getLast?.getD (0,(0,()))).2.1)) % p) y) (0+1);rw[h1,g1];refine⟨?_, ?_, ?_⟩
    ·simp only[Prod.mk.injEq,true_and];omega
    ·simp only;omega
    ·simp only;omega
abbrev StT:=List (Option (List Tm))×List Int×Int
def Vw (s:StT)(j:Nat)(z:List Tm×Int):StT:=match z.1.getLast? with
 |some t=>(s.1.set t.1.toNat (some z.1),(s.2.1.set t.1.toNat (j:Int),z.2))
 |none=>(s.1,((if s.2.1.getD j 0= -2 then s.2.1.set j (-1) else s.2.1),z.2))
def j8 (p:Int)(aa:List Cl)(n:Nat):Nat→StT
 |0=>(List.replicate n none,(List.replicate n (-2),0))
 |j+1=>Vw (j8 p aa n j) j (jQ p (j8 p aa n j).1 n (cp aa j) (j8 p aa n j).2.2)
def vf (p:Int)(aa:List Cl)(n j:Nat):List Tm:=(jQ p (j8 p aa n j).1 n (cp aa j) 0).1
def UR (p:Int)(aa:List Cl)(n j:Nat):Int:=(jQ p (j8 p aa n j).1 n (cp aa j) 0).2
theorem ajf {p:Int}{aa:List Cl}{n j:Nat}:j8 p aa n (j+1)=Vw (j8 p aa n j) j (vf p aa n j,(j8 p aa n j).2.2+UR p aa n j):=by rw[j8,(Gj n (cp aa j) (j8 p aa n j).2.2).1];rfl
structure SI (p:Int) (aa:List Cl) (n j:Nat) (s:StT):Prop where
 Lx:Sto p n s.1
 YJ:s.2.1.length=n
 s1:∀i y,s.1.getD i none=some y→∃k,k<j∧vf p aa n k=y∧s.2.1.getD i 0=(k:Int)
 s2:∀k,k<j→∀t,(vf p aa n k).getLast?=some t→s.1.getD t.1.toNat none=some (vf p aa n k)∧s.2.1.getD t.1.toNat 0=(k:Int)
 z:∀i,i<n→s.1.getD i none=none→s.2.1.getD i 0=if i<j∧vf p aa n i=[] then -1 else -2
 c:∀k,k<j→Cmb p aa n k (vf p aa n k)∧∀t,(vf p aa n k).getLast?=some t→0≤t.1∧t.1<k
 w:s.2.2=sm (UR p aa n) j
theorem Pb {n i:Nat}:(List.replicate n (none:Option (List Tm))).getD i none=none:=by simp only[List.getD,List.getElem?_replicate];split<;>rfl
theorem SI.zero {p:Int}{aa:List Cl}{n:Nat}:SI p aa n 0 (j8 p aa n 0):=by
 refine⟨⟨by simp[j8],fun i y h=> ?_⟩,by simp[j8],fun i y h=> ?_,fun k hk=>by omega,fun i hi h=> ?_,fun k hk=>by omega,rfl⟩
 ·rw[j8,Pb] at h;cases h
 ·rw[j8,Pb] at h;cases h
 ·rw[if_neg (by omega)];simp[j8,List.getD,hi]
theorem SI.step {p:Int}(hp:Pr p){aa:List Cl}{n j:Nat}(hj:j<n)(hv:Vc p j (cp aa j))(h:SI p aa n j (j8 p aa n j)):SI p aa n (j+1) (j8 p aa n (j+1)):=by
 have hz:=W2 hp (aa:=aa) (k:=j) h.Lx (by omega) (fun i y e=>by
  obtain⟨k,k1,k2,_⟩:=h.s1 i y e;exact⟨k,k1,k2 ▸ (h.c k k1).1⟩) n (cp aa j) 0 (Cmb.self hj hv) (fun t ht=>by have:=hv.r t ht;omega)
 change Cmb p aa n j (vf p aa n j)∧_ at hz;obtain⟨z1,z2⟩:=hz;change ∀t,(vf p aa n j).getLast?=some t→_ at z2;have hc:∀k,k<j+1→Cmb p aa n k (vf p aa n k)∧∀t,(vf p aa n k).getLast?=some t→0≤t.1∧t.1<k:=fun k hk=>by
  by_cases e:k=j
  ·subst e;exact⟨z1,fun t ht=>⟨by have:=Sr.mem z1.1.s t (bQ ht);omega,(z1.1.r t (bQ ht)).1⟩⟩
  ·exact h.c k (by omega)
 have hw:(j8 p aa n j).2.2+UR p aa n j=sm (UR p aa n) (j+1):=by rw[sm,h.w]
 rw[ajf];cases hl:(vf p aa n j).getLast? with
 |some t=>
  have hn:=z2 t hl;have ht:=(hc j (by omega)).2 t hl;have e1:Vw (j8 p aa n j) j (vf p aa n j,(j8 p aa n j).2.2+UR p aa n j)=((j8 p aa n j).1.set t.1.toNat (some (vf p aa n j)),((j8 p aa n j).2.1.set t.1.toNat (j:Int),(j8 p aa n j).2.2+UR p aa n j)):=by unfold Vw;simp only[hl]
  rw[e1];have ls:=h.Lx.len;have ld:=h.YJ;refine⟨⟨by simp[ls],fun i y hy=> ?_⟩,by simp[ld],fun i y hy=> ?_,fun k hk u hu=> ?_,fun i hi hy=> ?_,hc,hw⟩
  ·simp only[No] at hy;split at hy
   ·rename_i g;obtain rfl:vf p aa n j=y:=by simpa using hy
    exact⟨z1.1.mono (by omega),t,hl,by omega⟩
   ·exact h.Lx.ok i y hy
  ·simp only[No] at hy;split at hy
   ·rename_i g;obtain rfl:vf p aa n j=y:=by simpa using hy
    refine⟨j,by omega,rfl, ?_⟩;simp only[cE];rw[if_pos ⟨g.1,by omega⟩]
   ·rename_i g;obtain⟨k,k1,k2,k3⟩:=h.s1 i y hy;refine⟨k,by omega,k2, ?_⟩;simp only[cE];rw[if_neg (by rw[ld, ←ls];exact g),k3]
  ·by_cases e:k=j
   ·subst e;rw[hl] at hu;obtain rfl:t=u:=by simpa using hu
    simp only[No,cE];rw[if_pos ⟨trivial,by omega⟩,if_pos ⟨trivial,by omega⟩];exact⟨rfl,rfl⟩
   ·obtain⟨g1,g2⟩:=h.s2 k (by omega) u hu;have hne:t.1.toNat≠u.1.toNat:=fun e=>by rw[←e,hn] at g1;cases g1
    simp only[No,cE];rw[if_neg fun q=>hne q.1,if_neg fun q=>hne q.1];exact⟨g1,g2⟩
  ·simp only[No] at hy;split at hy
   ·cases hy
   ·rename_i g;simp only[cE];rw[if_neg (by rw[ld, ←ls];exact g),h.z i hi hy];have:(i<j+1∧vf p aa n i=[])↔(i<j∧vf p aa n i=[]):=by
     constructor
     ·rintro ⟨q1,q2⟩;refine⟨?_,q2⟩;by_cases e:i=j
      ·subst e;rw[q2] at hl;cases hl
      ·omega
     ·rintro ⟨q1,q2⟩;exact⟨by omega,q2⟩
    simp only[this]
 |none=>
  have hx:vf p aa n j=[]:=List.getLast?_eq_none_iff.1 hl;have e1:Vw (j8 p aa n j) j (vf p aa n j,(j8 p aa n j).2.2+UR p aa n j)=((j8 p aa n j).1,((if (j8 p aa n j).2.1.getD j 0= -2 then (j8 p aa n j).2.1.set j (-1) else (j8 p aa n j).2.1),(j8 p aa n j).2.2+UR p aa n j)):=by unfold Vw;simp only[hl]
  rw[e1];have ld:=h.YJ;have hd:∀i,i<n→(if (j8 p aa n j).2.1.getD j 0= -2 then (j8 p aa n j).2.1.set j (-1) else (j8 p aa n j).2.1).getD i 0=if i=j∧(j8 p aa n j).1.getD i none=none then -1 else (j8 p aa n j).2.1.getD i 0:=fun i hi=>by
   by_cases e:i=j
   ·subst e;cases hy:(j8 p aa n i).1.getD i none with
    |none=>have:=h.z i hi hy;rw[if_neg (by omega)] at this;rw[if_pos this,cE,if_pos ⟨rfl,by omega⟩,if_pos ⟨rfl,rfl⟩]
    |some y=>obtain⟨k,_,_,k3⟩:=h.s1 i y hy;rw[if_neg (by omega),if_neg (by simp)]
   ·have hne:¬(i=j∧(j8 p aa n j).1.getD i none=none):=fun q=>e q.1;rw[if_neg hne];split
    ·rw[cE,if_neg (fun q=>e q.1.symm)]
    ·rfl
  refine⟨h.Lx,by simp only;split<;>simp[ld],fun i y hy=> ?_,fun k hk u hu=> ?_,fun i hi hy=> ?_,hc,hw⟩
  ·obtain⟨k,k1,k2,k3⟩:=h.s1 i y hy;refine⟨k,by omega,k2, ?_⟩;have hi:i<n:=by
    rcases Nat.lt_or_ge i n with g |g
    ·exact g
    ·have:(j8 p aa n j).1.getD i none=none:=by simp[List.getD,List.getElem?_eq_none (show (j8 p aa n j).1.length≤i by rw[h.Lx.len];exact g)]
     rw[this] at hy;cases hy
   have:=hd i hi;simp only at this ⊢;rw[this,if_neg (fun q=>by rw[q.2] at hy;cases hy),k3]
  ·by_cases e:k=j
   ·subst e;rw[hl] at hu;cases hu
   ·obtain⟨g1,g2⟩:=h.s2 k (by omega) u hu;have hu2:=(h.c k (by omega)).2 u hu;have:=hd u.1.toNat (by omega)
    refine⟨g1, ?_⟩;simp only at this ⊢;rw[this,if_neg (fun q=>by rw[q.2] at g1;cases g1),g2]
  ·have:=hd i hi;simp only at this ⊢;rw[this];by_cases e:i=j
   ·subst e;rw[if_pos ⟨rfl,hy⟩,if_pos ⟨by omega,hx⟩]
   ·rw[if_neg (fun q=>e q.1),h.z i hi hy];have:(i<j+1∧vf p aa n i=[])↔(i<j∧vf p aa n i=[]):=⟨fun q=>⟨by omega,q.2⟩,fun q=>⟨by omega,q.2⟩⟩
    simp only[this]
theorem sI {p:Int}(hp:Pr p){aa:List Cl}{n:Nat}(hv:∀j,j<n→Vc p j (cp aa j)):∀j,j≤n→SI p aa n j (j8 p aa n j)
 |0,_=>SI.zero
 |j+1,h=>SI.step hp (by omega) (hv j (by omega)) (sI hp hv j (by omega))
theorem Bt {p:Int}{aa:List Cl}{n j:Nat}:0≤UR p aa n j∧UR p aa n j≤n:=(Gj n (cp aa j) 0).2
theorem Pc {g:Nat→Int}{b:Int}(hb:∀i,0≤g i∧g i≤b):∀n:Nat,0≤sm g n∧sm g n≤n*b
 |0=>by simp[sm]
 |n+1=>by
  have h1:=Pc hb n;have h2:=hb n;have:((n+1:Nat):Int)*b=n*b+b:=by grind
  rw[sm];omega
theorem Pd {p:Int}{n:Nat}{x:List Tm}(hx:Vc p n x){t:Tm}(ht:x.getLast?=some t){j:Nat}:Nx p n (fun r _=>cf x (r:Int)) j t.1.toNat:=by
 have h1:=hx.r t (bQ ht);have h2:=Sr.mem hx.s t (bQ ht);have h3:=EZ hx.s t (bQ ht);refine⟨by omega, ?_,fun r hr _=> ?_⟩
 ·simp only;rw[Int.toNat_of_nonneg (by omega),h3];intro e;have:=Int.le_of_dvd (by omega) e;omega
 ·simp only;rw[Si hx.s ht (by omega)];exact Int.dvd_zero p
theorem ajg {p:Int}{n:Nat}{x:List Tm}(hx:Vc p n x){i j:Nat}(h:Nx p n (fun r _=>cf x (r:Int)) j i):∃t,x.getLast?=some t∧t.1=i:=by
 cases hl:x.getLast? with
 |none=>have:x=[]:=List.getLast?_eq_none_iff.1 hl;subst this;exact absurd (Int.dvd_zero p) h.2.1
 |some t=>have:=(Pd hx hl (j:=j)).uniq h;have h2:=Sr.mem hx.s t (bQ hl);exact⟨t,rfl,by omega⟩
def RS (p:Int)(aa:List Cl)(n:Nat)(r k:Nat):Int:=cf (vf p aa n k) (r:Int)
theorem Pe {p:Int}{aa:List Cl}{n k i:Nat}(hx:Vc p n (vf p aa n k)):Nx p n (RS p aa n) k i↔∃t,(vf p aa n k).getLast?=some t∧t.1=i:=by
 constructor
 ·exact fun h=>ajg (j:=k) hx h
 ·rintro ⟨t,ht,e⟩;have:=Pd hx ht (j:=k);rw[e,Int.toNat_natCast] at this;exact this
theorem acN {p:Int}{aa:List Cl}{n:Nat}(h:SI p aa n n (j8 p aa n n)):Vv p n (mx aa) (RS p aa n):=by
 have hv:∀k,k<n→Vc p n (vf p aa n k):=fun k hk=>(h.c k hk).1.1.mono (by omega);refine⟨?_,fun i j k hj hk h1 h2=> ?_⟩
 ·have:∀k,∃v:Nat→Int,k<n→v k=1∧(∀l,k<l→v l=0)∧∀r:Nat,r<n→p ∣ cf (vf p aa n k) (r:Int) - sm (fun l=>v l*mx aa r l) n:=fun k=>by
   by_cases hk:k<n
   ·obtain⟨v,h1⟩:=(h.c k hk).1.2;exact⟨v,fun _=>h1⟩
   ·exact⟨fun _=>0,fun h=>absurd h hk⟩
  obtain⟨V,hV⟩:=Classical.axiomOfChoice this;exact⟨fun l j=>V j l,fun j hj=>(hV j hj).1,fun j hj k hk=>(hV j hj).2.1 k hk,fun j hj r hr=>(hV j hj).2.2 r hr⟩
 ·obtain⟨t,t1,t2⟩:=(Pe (hv j hj)).1 h1;obtain⟨u,u1,u2⟩:=(Pe (hv k hk)).1 h2;have a:=(h.s2 j hj t t1).2;have b:=(h.s2 k hk u u1).2;rw[t2] at a;rw[u2] at b;omega
structure Prd (p:Int) (n:Nat) (R:Nat→Nat→Int) (dt:List Int):Prop where
 hi:∀i,i<n→∀k,k<n→Nx p n R k i→dt.getD i 0=(k:Int)
 lo:∀i,i<n→0≤dt.getD i 0→∃k,k<n∧dt.getD i 0=(k:Int)∧Nx p n R k i
 no:∀i,i<n→dt.getD i 0<0→ -2≤dt.getD i 0∧(dt.getD i 0= -1↔∀r,¬Nx p n R i r)
theorem ajh {p:Int}{aa:List Cl}{n:Nat}(h:SI p aa n n (j8 p aa n n)):Prd p n (RS p aa n) (j8 p aa n n).2.1:=by
 have hv:∀k,k<n→Vc p n (vf p aa n k):=fun k hk=>(h.c k hk).1.1.mono (by omega);refine⟨fun i hi k hk hl=> ?_,fun i hi h0=> ?_,fun i hi h0=> ?_⟩
 ·obtain⟨t,t1,t2⟩:=(Pe (hv k hk)).1 hl;have:=(h.s2 k hk t t1).2;rw[t2,Int.toNat_natCast] at this;exact this
 ·cases hy:(j8 p aa n n).1.getD i none with
  |none=>have:=h.z i hi hy;split at this<;>omega
  |some y=>obtain⟨k,k1,k2,k3⟩:=h.s1 i y hy;obtain⟨_,u,u1,u2⟩:=h.Lx.ok i y hy;exact⟨k,k1,k3,(Pe (hv k k1)).2 ⟨u,by rw[k2];exact u1,u2⟩⟩
 ·cases hy:(j8 p aa n n).1.getD i none with
  |none=>
   have hz:=h.z i hi hy;have hq:vf p aa n i=[]↔∀r,¬Nx p n (RS p aa n) i r:=by
    constructor
    ·intro e r hl;obtain⟨t,t1,_⟩:=(Pe (hv i hi)).1 hl;rw[e] at t1;cases t1
    ·intro g;cases hl:(vf p aa n i).getLast? with
     |none=>exact List.getLast?_eq_none_iff.1 hl
     |some t=>exact absurd (Pd (hv i hi) hl (j:=i)) (g _)
   rw[hz, ←hq];by_cases e:vf p aa n i=[]
   ·rw[if_pos ⟨hi,e⟩];exact⟨by omega,fun _=>e,fun _=>rfl⟩
   ·rw[if_neg (fun q=>e q.2)];exact⟨by omega,fun q=>by omega,fun q=>absurd q e⟩
  |some y=>obtain⟨k,_,_,k3⟩:=h.s1 i y hy;omega
theorem agi {j out:Nat}{s:StT}{z:List Tm×Int}{e:Bool}{p w2:Int}{aa:List Cl}{bh:Uu}{rest:List (Int×Unit)}:
  WL j z.1 out s.1 s.2.1 e p aa z.2 w2 bh rest=ao out out (Vw s j z).1 (Vw s j z).2.1 e p aa (Vw s j z).2.2 w2 bh rest:=by
 unfold WL Vw;cases z.1.getLast? with
 |some t=>rfl
 |none=>simp only;split<;>rfl
theorem W3 {p:Int}(hp:Pr p){n:Nat}(hn:n≤1024){aa:List Cl}(hc:aa.length=n)(hv:∀j,j<n→Vc p j (cp aa j)){w2:Int}{bh:Uu}:∀(m j:Nat),m+j=n→
  ao 0 0 (j8 p aa n j).1 (j8 p aa n j).2.1 false p aa (j8 p aa n j).2.2 w2 bh (rg j m)=bp 0 (n:Int) 0 (j8 p aa n n).2.1 (j8 p aa n n).2.2 w2 bh
 |0,j,h=>by
  have:j=n:=by omega
  subst this;have hl:=(sI hp hv j (Nat.le_refl j)).YJ;rw[rg,ll,ir,hl]
 |m+1,j,h=>by have hI:=sI hp hv j (by omega);have hr:=Pc (g:=UR p aa n) (b:=1024) (fun i=>⟨Bt.1,by have:=(Bt (p:=p) (aa:=aa) (n:=n) (j:=i)).2;omega⟩) j;rw[rg,ana hp hn hc hI.Lx hI.YJ (by omega) ((hv j (by omega)).mono (by omega)) (by rw[hI.w];exact hr.1) (by rw[hI.w];omega),agi];exact W3 hp hn hc hv m (j+1) (by omega)
theorem agj {p:Int}{aa:List Cl}(hs:Sz aa)(h0:fi p aa=0):
  fO (p,(aa,()))=some (yX (j8 p aa aa.length aa.length).2.1 0 aa.length,((sm (UR p aa aa.length) aa.length,((0:Int),())),(0:Int))):=by
 have key:∀{hp:Uu} {n:Nat} {l:List Tm} {w:Int×Int×Unit} {e:Int},mq (p,(aa,())) []=some ((n,(w,e)),hp)→ai hp n=some l→fO (p,(aa,()))=some (l,((w.1,(w.2.1,())),e)):=by intro hp n l w e h1 h2;rw[DE,xV];simp only;rw[h1,bS];simp only;rw[Ho (hp:=hp) rfl h2];rfl
 obtain⟨hp,hl,hg⟩:=mf h0;have hv:∀j,j<aa.length→Vc p j (cp aa j):=fun j hj=>(hg j hj).bd;have hI:=sI hp hv aa.length (Nat.le_refl _);have e0:((0:Nat):Int)=0:=rfl;have d1:=hI.YJ;have d2:=W3 hp hl rfl hv (w2:=0) (bh:=[]) aa.length 0 (by omega);obtain⟨out',hp',g1,g2⟩:=afP (dt:=(j8 p aa aa.length aa.length).2.1) (by omega) (w:=(j8 p aa aa.length aa.length).2.2) (w2:=0) (j8 p aa aa.length aa.length).2.1.length 0 0 [] [] (by omega) rfl (by simp);rw[e0,d1] at g1;rw[List.nil_append,d1] at g2;have hf:=anb (st:=List.replicate aa.length none) (p:=p) hl rfl (bh:=[]) aa.length 0 (by omega);rw[e0,List.replicate_zero,List.nil_append] at hf;have d3:ao 0 0 (List.replicate aa.length none) (List.replicate aa.length (-2)) false p aa 0 0 [] (rg 0 aa.length)=bp 0 (aa.length:Int) 0 (j8 p aa aa.length aa.length).2.1 (j8 p aa aa.length aa.length).2.2 0 []:=d2;have hrun:gp (p,(aa,())) []=some ((out',((j8 p aa aa.length aa.length).2.2,((0:Int),()))),hp'):=by rw[vD,py];simp only;rw[Ic (by omega) (by omega) (by omega),Ic (by omega) (by omega) (by omega),Int.toNat_natCast,List.length_replicate,hf,d3,g1]
 have hw:mq (p,(aa,())) []=some ((out',(((j8 p aa aa.length aa.length).2.2,((0:Int),())),(0:Int))),hp'):=by rw[Fp,z7];simp only;rw[C8 hs,bS,h0,nP rfl,hrun,bS]
 rw[key hw g2,hI.w]
noncomputable def Qw (j:Nat)(x:List Tm)(out:Nat)(st:List (Option (List Tm)))(dt:List Int)(e:Bool)(p:Int)(aa:List Cl)(a w2:Int)(bh:Uu)(rest:List (Int×Unit)):Option ((Nat×Int×Int×Unit)×Uu):=
 match x.getLast? with
 |some t=>ah out out (st.set t.1.toNat (some x)) (dt.set t.1.toNat j) e p aa a w2 bh rest
 |none=>if dt.getD j 0= -2 then ah out out st (dt.set j (-1)) e p aa a w2 bh rest else ah out out st dt e p aa a w2 bh rest
theorem acO {p:Int}(hp:Pr p){n:Nat}(hn:n≤1024){st:List (Option (List Tm))}(hst:Sto p n st){dt:List Int}(hdt:dt.length=n){j:Nat}(hj:j<n){e:Bool}{aa:List Cl}{w2:Int}{out:Nat}{bh:Uu}{rest:List (Int×Unit)}:
  ∀(f:Nat) (x:List Tm) (a:Int),Vc p n x→(∀t∈x,t.1<f)→0≤a→a+f≤1000000000→
   bw j x (O0 x).1 (O0 x).2 out st dt e p aa a w2 bh rest=Qw j (jQ p st f x a).1 out st dt e p aa (jQ p st f x a).2 w2 bh rest:=by
 intro f;have stop:∀(x:List Tm) (a:Int),Vc p n x→(∀t,x.getLast?=some t→st.getD t.1.toNat none=none)→bw j x (O0 x).1 (O0 x).2 out st dt e p aa a w2 bh rest=Qw j x out st dt e p aa a w2 bh rest:=by
  intro x a hx hno;rw[km,gJ];unfold Qw O0;cases hl:x.getLast? with
  |none=>
   simp only;rw[cF,cF,fI (by omega) (by omega),qu (by omega),Int.toNat_natCast];by_cases h2:dt.getD j 0= -2
   ·rw[gT h2,fI (by omega) (by omega),qu (by omega),if_pos h2]
   ·rw[eS h2,if_neg h2]
  |some t=>
   have ht:=hx.r t (bQ hl);have ht0:=Sr.mem hx.s t (bQ hl);have hne:x≠ []:=fun e=>by rw[e] at hl;cases hl
   have hlen:=hst.len;simp only;rw[cT,O4 (by omega) (by omega),Yv (by omega),hno t hl];have e1:(!(Option.isNone (none:Option (List Tm))))=false:=rfl;rw[e1,cF,cT,O4 (by omega) (by omega),Yv (by omega),aaI hne,bS,fI (by omega) (by omega),qu (by omega)]
 induction f with
 |zero=>
  intro x a hx hf ha hb;have:x=[]:=by
   cases x with
   |nil=>rfl
   |cons t r=>have h1:=hf t (by simp);have h2:=Sr.mem hx.s t (by simp);omega
  subst this;rw[jQ];exact stop [] a hx (fun t ht=>by cases ht)
 |succ f ih=>
  intro x a hx hf ha hb;rw[jQ];cases hl:x.getLast? with
  |none=>exact stop x a hx (fun t ht=>by rw[hl] at ht;cases ht)
  |some t=>
   simp only;cases hy:st.getD t.1.toNat none with
   |none=>exact stop x a hx (fun u hu=>by rw[hl] at hu;cases hu;exact hy)
   |some y=>
    simp only;have ht:=hx.r t (bQ hl);have ht0:=Sr.mem hx.s t (bQ hl);have hne:x≠ []:=fun e=>by rw[e] at hl;cases hl
    have hlen:=hst.len;have hf':=hf t (bQ hl);obtain⟨hvy,u,hu,hu1⟩:=hst.ok _ y hy;have hur:=hvy.r u (bQ hu);have hxl:=hx.length (by omega);have hyl:=hvy.length (by omega);have arG:y.length≠0:=fun e=>by rw[List.length_eq_zero_iff.1 e] at hu;cases hu
    have arH:x.length≠0:=fun e=>hne (List.length_eq_zero_iff.1 e);have gl:∀{z:List Tm} {v:Tm},z.getLast?=some v→z.getD (z.length - 1) th=v:=fun {z v} h=>by obtain⟨r,rfl⟩:=Nn h;simp[List.getD]
    have ey:IntKind.wrap .i64 (((lst (some y)).length:Int) - 1)=((y.length - 1:Nat):Int):=by show IntKind.wrap .i64 ((y.length:Int) - 1)=_;rw[i64_in _ (by omega)];omega
    have ex:IntKind.wrap .i64 ((x.length:Int) - 1)=((x.length - 1:Nat):Int):=by rw[i64_in _ (by omega)];omega
    have hiv:=OY hp hur.2;have hm1:0≤t.2.1*iv p u.2.1:=Int.mul_nonneg (by omega) (by omega);have hm2:t.2.1*iv p u.2.1≤251*251:=Int.mul_le_mul (by have:=hp.2.1;omega) (by have:=hp.2.1;omega) (by omega) (by omega);have e7:IntKind.wrap .i64 (IntKind.wrap .i64 (0 - t.2.1)*iv p u.2.1)= -t.2.1*iv p u.2.1:=by
     have:=hp.2.1;rw[i64_in (0 - t.2.1) (by omega)];have:(0 - t.2.1)*iv p u.2.1= -(t.2.1*iv p u.2.1):=by rw[Int.zero_sub,Int.neg_mul]
     rw[this,i64_in _ (by omega),Int.neg_mul]
    have hpp:0<p:=by have:=hp.1;omega
    have hk:(-t.2.1*iv p u.2.1) % p % p=(-t.2.1*iv p u.2.1) % p:=Int.emod_emod_of_dvd _ (Int.dvd_refl p);have hpl:=Ut hp hx hvy hl hu (by omega);have hv':=(Ei (k:=(-t.2.1*iv p u.2.1) % p) hpp hx hvy).1;have Y8:=hv'.length (by omega);have hd:(y.getLast?.getD (0,(0,())))=u:=by rw[hu];rfl
    have vg:=ih (rT p x ((-t.2.1*iv p u.2.1) % p) y) (a+1) hv' (fun s hs=>by have:=hpl s hs;omega) (by omega) (by omega);rw[hd, ←vg,km,gJ];have el:O0 x=(t.1,true):=by unfold O0;rw[hl]
    rw[el];simp only;rw[cT,O4 (by omega) (by omega),Yv (by omega),hy];have e1:(!(Option.isNone (some y)))=true:=rfl;rw[e1,cT,O4 (by omega) (by omega),Yv (by omega),hy,ey];have e2:lst (some y)=y:=rfl;rw[e2,fh th (by omega),gl hu,Rq hp hur.2,bS,ex,fh th (by omega),gl hl,e7,J7 hp,bS,E0 hp (hx.mono (by omega)) (hvy.mono (by omega)) (by omega) (by omega),bS,hk];simp only;rw[Yr (by omega),bS,i64_in (a+1) (by omega)];rfl
theorem acP {dt:List Int}(hn:dt.length≤1024){w w2:Int}:∀(m i out:Nat) (bh:Uu) (l:List Tm),m+i=dt.length→ai bh out=some l→l.length≤i→
  ∃out' hp',bu out (dt.length:Int) i dt w w2 bh=some ((out',(w,(w2,()))),hp')∧ai hp' out'=some (l++yX dt i m):=by
 intro m;induction m with
 |zero=>intro i out bh l hi hg hl;rw[kl,gI,aq (by omega)];exact⟨out,bh,rfl,by rw[yX,List.append_nil];exact hg⟩
 |succ m ih=>
  intro i out bh l hi hg hl;rw[kl,gI,ax (by omega),fI (by omega) (by omega),qu (by omega),Int.toNat_natCast,yX,bM (by omega)];by_cases h:dt.getD i 0> -2
  ·rw[cX h,hg,bS,iT (by omega) (by omega),if_pos h];simp only;have hg':ai (dh bh out++[some (l++[((i:Int),(dt.getD i 0,()))])]) ((dh bh out).length+1)=some (l++[((i:Int),(dt.getD i 0,()))]):=by simp[ai]
   obtain⟨o',h',g1,g2⟩:=ih (i+1) _ _ _ (by omega) hg' (by simp;omega);refine⟨o',h',g1, ?_⟩;rw[g2,List.append_assoc];rfl
  ·rw[c5 h,if_neg h];exact ih (i+1) out bh l (by omega) hg (by omega)
def Vx (aa:List Cl)(d:Int):Nat→Nat→List (Int×Unit)
 |_,0=>[]
 |j,m+1=>if (aa.getD j gq).1=d then ((j:Int),())::Vx aa d (j+1) m else Vx aa d (j+1) m
def dtr (aa:List Cl)(n:Nat):Nat→List (Int×Unit)
 |0=>[]
 |k+1=>Vx aa k 0 n++dtr aa n k
theorem agk {aa:List Cl}{n:Nat}(hc:aa.length=n)(hn:n≤1000000){d t:Int}{t5:List Cl}:∀(m j:Nat) (tr:List (Int×Unit)),m+j=n→
  cJ d aa n j t t5 tr=bU (IntKind.wrap .i64 (d - 1)) t t5 (tr++Vx aa d j m):=by
 intro m;induction m with
 |zero=>intro j tr h;rw[mu,i7,aq (by omega),Vx,List.append_nil]
 |succ m ih=>
  intro j tr h;rw[mu,i7,ax (by omega),fh gq (by omega),bM (by omega),Vx];by_cases e:(aa.getD j gq).1=d
  ·rw[gT e,if_pos e,ih (j+1) _ (by omega),List.append_assoc];rfl
  ·rw[eS e,if_neg e,ih (j+1) _ (by omega)]
theorem aji {aa:List Cl}{n:Nat}(hc:aa.length=n)(hn:n≤1000000){t:Int}:∀(k:Nat) (tr:List (Int×Unit)),k≤5→
  bU ((k:Int) - 1) t aa tr=some (tr++dtr aa n k):=by
 intro k;induction k with
 |zero=>intro tr h;rw[mr,iZ,dtr,List.append_nil];rfl
 |succ k ih=>
  intro tr h;have e1:((k+1:Nat):Int) - 1=(k:Int):=by omega
  have hg:decide ((k:Int)≥0)=true:=by simp
  have e0:((0:Nat):Int)=0:=rfl;have hw:=agk hc hn (d:=(k:Int)) (t:=t) (t5:=aa) n 0 tr (by omega);rw[e0] at hw;rw[mr,iZ,e1,hg,cT,hc,hw,i64_in ((k:Int) - 1) (by omega),ih _ (by omega),dtr,List.append_assoc]
theorem ak3 {p:Int}(hp:Pr p){n:Nat}(hn:n≤1024){aa:List Cl}(hc:aa.length=n){st:List (Option (List Tm))}(hst:Sto p n st){dt:List Int}(hdt:dt.length=n){j:Nat}(hj:j<n)(hx:Vc p n (cp aa j)){a w2:Int}(ha:0≤a)(hb:a+n≤1000000000)(h2:0≤w2∧w2≤1000000000){out:Nat}{bh:Uu}{rest:List (Int×Unit)}:
  ah out out st dt true p aa a w2 bh (((j:Int),())::rest)=match st.getD j none with
   |some _=>ah out out st dt true p aa a (w2+1) bh rest
   |none=>Qw j (jQ p st n (cp aa j) a).1 out st dt true p aa (jQ p st n (cp aa j) a).2 w2 bh rest:=by
 have hl:=hx.length (by omega);have Xi:=hst.len;rw[kj,gF];simp only;rw[cT,O4 (by omega) (by omega),Yv (by omega),Int.toNat_natCast];cases hs:st.getD j none with
 |some y=>have e1:(!(Option.isNone (some y)))=true:=rfl;rw[e1,cT,i64_in (w2+1) (by omega)]
 |none=>
  have e1:(!(Option.isNone (none:Option (List Tm))))=false:=rfl;rw[e1,cF,fh gq (by omega)];have eb:(aa.getD j gq).2.2.1=cp aa j:=by rw[fV]
  rw[eb,aaJ (by omega),bS,Yr (by omega),bS];exact acO hp hn hst hdt hj n (cp aa j) a hx (fun t ht=>(hx.r t ht).1) ha hb
def Dn (aa:List Cl)(d:Int)(j i:Nat):Prop:=d<(aa.getD i gq).1∨((aa.getD i gq).1=d∧i<j)
structure Kv (aa:List Cl) (n:Nat) (d:Int) (j:Nat) (dt:List Int):Prop where
 ex:∃s:Nat→Bool,(∀i,i<n→dt.getD i 0= -1→Dn aa d j i∧s i=false)∧(∀i k:Nat,i<n→dt.getD i 0=(k:Int)→k<n∧Dn aa d j k∧s k=true)
 inj:∀i i' k:Nat,i<n→i'<n→dt.getD i 0=(k:Int)→dt.getD i' 0=(k:Int)→i=i'
 lo:∀i,i<n→ -2≤dt.getD i 0
theorem Kv.skip {aa:List Cl}{n:Nat}{d:Int}{j:Nat}{dt:List Int}(h:Kv aa n d j dt):Kv aa n d (j+1) dt:=by
 have up:∀i,Dn aa d j i→Dn aa d (j+1) i:=fun i hi=>hi.imp id fun⟨a,b⟩=>⟨a,by omega⟩
 obtain⟨s,h1,h2⟩:=h.ex;exact⟨⟨s,fun i hi e=>⟨up i (h1 i hi e).1,(h1 i hi e).2⟩,fun i k hi e=>⟨(h2 i k hi e).1,up k (h2 i k hi e).2.1,(h2 i k hi e).2.2⟩⟩,h.inj,h.lo⟩
theorem Kv.down {aa:List Cl}{n:Nat}{d:Int}{j:Nat}{dt:List Int}(h:Kv aa n d j dt):Kv aa n (d - 1) 0 dt:=by have up:∀i,Dn aa d j i→Dn aa (d - 1) 0 i:=fun i hi=> .inl (by rcases hi with hi | ⟨hi,_⟩<;>omega);obtain⟨s,h1,h2⟩:=h.ex;exact⟨⟨s,fun i hi e=>⟨up i (h1 i hi e).1,(h1 i hi e).2⟩,fun i k hi e=>⟨(h2 i k hi e).1,up k (h2 i k hi e).2.1,(h2 i k hi e).2.2⟩⟩,h.inj,h.lo⟩
theorem Dn.self {aa:List Cl}{d:Int}{j:Nat}(hd:(aa.getD j gq).1=d):¬Dn aa d j j:=by rintro (h | ⟨_,h⟩)<;>omega
theorem ak4 {n:Nat}(hn:n≤1024){st:List (Option (List Tm))}{p:Int}{aa:List Cl}(hc:aa.length=n){bh:Uu}:∀(m i:Nat),m+i=n→
  bW 0 (n:Int) i st (List.replicate i (-2)++List.replicate m 0) true p aa 0 0 bh=ah 0 0 st (List.replicate n (-2)) true p aa 0 0 bh (dtr aa n 5):=by
 intro m;induction m with
 |zero=>
  intro i hi;have e0:((0:Nat):Int)=0:=rfl;have hw:=aji (aa:=aa) hc (by omega) (t:=p) 5 [] (by omega);have e4:((5:Nat):Int) - 1=4:=rfl;rw[e4,List.nil_append] at hw;have hi':i=n:=by omega
  subst hi';rw[ki,gE,aq (by omega),Ax,tD,bS,w8,qG];simp only;rw[hw,bS,List.replicate_zero,List.append_nil]
 |succ m ih=>
  intro i hi;have hl:(List.replicate i (-2:Int)++List.replicate (m+1) 0).length=n:=by simp;omega
  rw[ki,gE,ax (by omega),fI (by omega) (by omega),Int.toNat_natCast,qu (by omega),bM (by omega)];have e:(List.replicate i (-2:Int)++List.replicate (m+1) 0).set i (-2)=List.replicate (i+1) (-2)++List.replicate m 0:=by rw[List.set_append_right _ _ (by simp)];simp only[List.length_replicate,Nat.sub_self,List.replicate_succ,List.set_cons_zero];rw[←List.replicate_succ,List.replicate_succ',List.append_assoc];rfl
  rw[e];exact ih (i+1) (by omega)
def Gk (n:Nat)(t:Tm):Tm:=if t.2.1<0 then ((n:Int) - 1 - t.1,(-1,())) else ((n:Int) - 1 - t.2.1,((n:Int) - 1 - t.1,()))
theorem Em {dt:List Int}{t:Tm}:∀{m i:Nat},t∈yX dt i m↔∃k,i≤k∧k<i+m∧t=((k:Int),(dt.getD k 0,()))∧dt.getD k 0> -2
 |0,i=>by simp only[yX,List.not_mem_nil,false_iff];rintro ⟨k,h1,h2,_⟩;omega
 |m+1,i=>by
  rw[yX];have ih:=Em (dt:=dt) (t:=t) (m:=m) (i:=i+1);split
  ·rename_i h;rw[List.mem_cons,ih];constructor
   ·rintro (rfl | ⟨k,h1,h2,h3⟩)
    ·exact⟨i,by omega,by omega,rfl,h⟩
    ·exact⟨k,by omega,by omega,h3⟩
   ·rintro ⟨k,h1,h2,h3,h4⟩;by_cases e:k=i
    ·subst e;exact .inl h3
    ·exact .inr ⟨k,by omega,by omega,h3,h4⟩
  ·rename_i h;rw[ih];constructor
   ·rintro ⟨k,h1,h2,h3⟩;exact⟨k,by omega,by omega,h3⟩
   ·rintro ⟨k,h1,h2,h3,h4⟩;by_cases e:k=i
    ·subst e;exact absurd h4 h
    ·exact⟨k,by omega,by omega,h3,h4⟩
theorem UN {dt:List Int}:∀{m i:Nat},Up (yX dt i m)
 |0,i=>List.Pairwise.nil
 |m+1,i=>by
  rw[yX];split
  ·refine List.pairwise_cons.2 ⟨fun t ht=> ?_,UN⟩;obtain⟨k,h1,h2,rfl,_⟩:=Em.1 ht;show (i:Int)<k;omega
  ·exact UN
theorem agl {n:Nat}{t:Tm}(h:0≤t.1∧t.1<n∧ -1≤t.2.1∧t.2.1<n):(0≤(Gk n t).1∧(Gk n t).1<n)∧ -2<(Gk n t).2.1:=by
 unfold Gk;split<;>(simp only;omega)
theorem Sq {p:Int}{n:Nat}{m R R':Nat→Nat→Int}{dt YK:List Int}(h:Vv p n m R)(h':Vv p n (pf n m) R')(g:Prd p n R dt)(g':Prd p n R' YK){t:Tm}(ht:t∈yX dt 0 n):Gk n t∈yX YK 0 n:=by
 obtain⟨i,_,hi,rfl,h1⟩:=Em.1 ht;have hi:i<n:=by omega
 unfold Gk;simp only;by_cases h0:dt.getD i 0<0
 ·rw[if_pos h0];have hm:dt.getD i 0= -1:=by omega
  have hno:=(g.no i hi h0).2.1 hm;have afv:∀k,k<n→¬Nx p n R k i:=fun k hk hl=>by have:=g.hi i hi k hk hl;omega
  have e:YK.getD (n - 1 - i) 0= -1:=by
   have hneg:YK.getD (n - 1 - i) 0<0:=by
    rcases Int.lt_or_le (YK.getD (n - 1 - i) 0) 0 with q |q
    ·exact q
    ·obtain⟨k,k1,_,k3⟩:=g'.lo (n - 1 - i) (by omega) q;have:Nx p n R i (n - 1 - k):=Me h h' (i:=n - 1 - k) (j:=i) (by omega) (by rw[show n - 1 - (n - 1 - k)=k by omega];exact k3) hi;exact absurd this (hno _)
   refine(g'.no (n - 1 - i) (by omega) hneg).2.2 fun r hr=> ?_;have NA:=hr.1;exact afv (n - 1 - r) (by omega) (Me h h' (i:=i) (j:=n - 1 - r) hi (by rw[show n - 1 - (n - 1 - r)=r by omega];exact hr) (by omega))
  refine Em.2 ⟨n - 1 - i,by omega,by omega, ?_,by omega⟩;rw[e,show ((n - 1 - i:Nat):Int)=(n:Int) - 1 - i by omega]
 ·rw[if_neg h0];obtain⟨k,k1,k2,k3⟩:=g.lo i hi (by omega);have:=g'.hi (n - 1 - k) (by omega) (n - 1 - i) (by omega) (UM h h' k1 k3);refine Em.2 ⟨n - 1 - k,by omega,by omega, ?_,by rw[this];omega⟩;rw[this,k2,show ((n - 1 - k:Nat):Int)=(n:Int) - 1 - k by omega,show ((n - 1 - i:Nat):Int)=(n:Int) - 1 - i by omega]
theorem ad7 {f:Tm→Tm}:∀{l m:List Tm},(l.Pairwise fun a b=>a≠b)→(∀x∈l,f x∈m)→(∀x∈l,∀y∈l,f x=f y→x=y)→l.length≤m.length
 | [],m,_,_,_=>Nat.zero_le _
 |x::l,m,hd,hm,hi=>by have h1:=hm x List.mem_cons_self;have YF:=List.pairwise_cons.1 hd;have ih:=ad7 (f:=f) (l:=l) (m:=m.erase (f x)) YF.2 (fun y hy=>(List.mem_erase_of_ne fun e=>YF.1 y hy (hi y (List.mem_cons_of_mem _ hy) x List.mem_cons_self e).symm).2 (hm y (List.mem_cons_of_mem _ hy))) fun y hy z hz e=>hi y (List.mem_cons_of_mem _ hy) z (List.mem_cons_of_mem _ hz) e;rw[List.length_erase_of_mem h1] at ih;have:0<m.length:=List.length_pos_of_mem h1;rw[List.length_cons];omega
theorem aa3 {p:Int}{aa:List Cl}(h0:fi p aa=0)(h20:ak1 aa):Vv p aa.length (pf aa.length (mx aa)) (RS p (gz aa) aa.length)∧Prd p aa.length (RS p (gz aa) aa.length) (j8 p (gz aa) aa.length aa.length).2.1:=by obtain⟨hp,hl,hg⟩:=mf (UL h0 h20);have YI:=KL aa;rw[YI] at hg;have hI:=sI hp (n:=aa.length) (fun j hj=>(hg j hj).bd) aa.length (Nat.le_refl _);exact⟨(acN hI).congr fun r k hr hk=>by rw[KM hr hk];rfl,ajh hI⟩
theorem ad8 {p:Int}{aa:List Cl}(h0:fi p aa=0):Vv p aa.length (mx aa) (RS p aa aa.length)∧Prd p aa.length (RS p aa aa.length) (j8 p aa aa.length aa.length).2.1:=by obtain⟨hp,hl,hg⟩:=mf h0;have hI:=sI hp (n:=aa.length) (fun j hj=>(hg j hj).bd) aa.length (Nat.le_refl _);exact⟨acN hI,ajh hI⟩
theorem Prd.range {p:Int}{n:Nat}{R:Nat→Nat→Int}{dt:List Int}(h:Prd p n R dt){t:Tm}(ht:t∈yX dt 0 n):0≤t.1∧t.1<n∧ -1≤t.2.1∧t.2.1<n:=by
 obtain⟨i,_,hi,rfl,h1⟩:=Em.1 ht;refine⟨by simp only;omega,by simp only;omega,by simp only;omega, ?_⟩;simp only;by_cases h0:0≤dt.getD i 0
 ·obtain⟨k,k1,k2,_⟩:=h.lo i (by omega) h0;omega
 ·omega
theorem agm {a b:List Int}(hl:a.length=b.length)(h:∀r,r<a.length→a.getD r 0=b.getD r 0):a=b:=by apply List.ext_getElem hl;intro r h1 h2;have:=h r h1;simpa [List.getD,h1,h2] using this
def Hom (aa:List Cl)(d:Int)(x:List Tm):Prop:=∀t∈x,(aa.getD t.1.toNat gq).1=d
theorem Hom.plus {p:Int}(hp:0<p){n:Int}{aa:List Cl}{d:Int}{x y:List Tm}(k:Int)(vx:Vc p n x)(vy:Vc p n y)(hx:Hom aa d x)(hy:Hom aa d y):Hom aa d (rT p x k y):=fun t ht=>by
 obtain⟨h1,h2⟩:=Ei (k:=k) hp vx vy;have h3:=EZ h1.s t ht;have h4:=(h1.r t ht).2.1;rw[h2] at h3;by_cases e:cf x t.1=0
 ·by_cases e2:cf y t.1=0
  ·rw[e,e2] at h3;simp at h3;omega
  ·obtain⟨u,hu,e3⟩:=Ro e2;rw[←e3];exact hy u hu
 ·obtain⟨u,hu,e3⟩:=Ro e;rw[←e3];exact hx u hu
theorem Ny {p:Int}(hp:0<p){n:Nat}{aa:List Cl}{d:Int}{st st':List (Option (List Tm))}(hst:Sto p n st)(h:∀i,(aa.getD i gq).1=d→st.getD i none=st'.getD i none)(hy:∀i y,st.getD i none=some y→(aa.getD i gq).1=d→Hom aa d y):
  ∀(f:Nat) (x:List Tm) (a:Int),Vc p n x→Hom aa d x→jQ p st f x a=jQ p st' f x a∧Hom aa d (jQ p st f x a).1
 |0,x,a,hv,hx=>⟨rfl,hx⟩
 |f+1,x,a,hv,hx=>by
  rw[jQ,jQ];cases hl:x.getLast? with
  |none=>exact⟨rfl,hx⟩
  |some t=>
   simp only;have hd:=hx t (bQ hl);rw[←h _ hd];cases he:st.getD t.1.toNat none with
   |none=>exact⟨rfl,hx⟩
   |some y=>simp only;obtain⟨v,_⟩:=hst.ok _ y he;exact Ny hp hst h hy f _ _ (Ei hp hv v).1 (hx.plus hp _ hv v (hy _ y he hd))
theorem Pf {p:Int}{n:Nat}{st:List (Option (List Tm))}(hst:Sto p n st){aa:List Cl}{d:Int}{i:Nat}{y:List Tm}(h:st.getD i none=some y)(hy:Hom aa d y):(aa.getD i gq).1=d:=by obtain⟨_,u,u1,u2⟩:=hst.ok i y h;have:=hy u (bQ u1);rw[u2,Int.toNat_natCast] at this;exact this
section
variable {p:Int}{aa:List Cl}{n:Nat}(hp:Pr p)(hv:∀j,j<n→Vc p j (cp aa j))(hd:∀j,j<n→Hom aa ((aa.getD j gq).1 - 1) (cp aa j))
include hp hv hd
theorem ak5:∀j,j<n→Hom aa ((aa.getD j gq).1 - 1) (vf p aa n j):=by
 intro j;induction j using Nat.strongRecOn with
 |ind j ih=>
  intro hj;have hI:=sI hp hv j (by omega);exact(Ny (by have:=hp.1;omega) hI.Lx (fun i _=>rfl) (fun i y hy hi=>by
   obtain⟨k,k1,k2,_⟩:=hI.s1 i y hy;have g:=ih k k1 (by omega);rw[k2] at g;have:=Pf hI.Lx hy g;rw[←hi,this];exact g) n (cp aa j) 0 ((hv j hj).mono (by omega)) (hd j hj)).2
omit hd in
theorem agn {j:Nat}(hj:j<n){t:Tm}(ht:(vf p aa n j).getLast?=some t):(j8 p aa n j).1.getD t.1.toNat none=none:=by
 have hI:=sI hp hv j (by omega);have hF:=sI hp hv n (Nat.le_refl n);cases hy:(j8 p aa n j).1.getD t.1.toNat none with
 |none=>rfl
 |some y=>obtain⟨k,k1,k2,_⟩:=hI.s1 _ y hy;obtain⟨_,u,u1,u2⟩:=hI.Lx.ok _ y hy;rw[←k2] at u1;have a:=(hF.s2 j hj t ht).2;have b:=(hF.s2 k (by omega) u u1).2;rw[u2,Int.toNat_natCast] at b;omega
omit hd in
theorem ak6 {j:Nat}(hj:j<n){t:Tm}(ht:(vf p aa n j).getLast?=some t):0≤t.1∧t.1<n:=by have:=((sI hp hv n (Nat.le_refl n)).c j hj).2 t ht;omega
end
structure EI (p:Int) (aa:List Cl) (n:Nat) (D:Nat→Prop) (st:List (Option (List Tm))) (dt:List Int):Prop where
 Lx:Sto p n st
 YJ:dt.length=n
 s1:∀i y,st.getD i none=some y→∃k,k<n∧D k∧vf p aa n k=y∧dt.getD i 0=(k:Int)
 s2:∀k,k<n→D k→∀t,(vf p aa n k).getLast?=some t→st.getD t.1.toNat none=some (vf p aa n k)∧dt.getD t.1.toNat 0=(k:Int)
 z1:∀i,i<n→st.getD i none=none→D i→vf p aa n i=[]→dt.getD i 0= -1
 z2:∀i,i<n→st.getD i none=none→¬(D i∧vf p aa n i=[])→dt.getD i 0= -2
theorem EI.congr {p:Int}{aa:List Cl}{n:Nat}{D D':Nat→Prop}{st:List (Option (List Tm))}{dt:List Int}(h:EI p aa n D st dt)(e:∀k,k<n→(D' k↔D k)):EI p aa n D' st dt:=
 ⟨h.Lx,h.YJ,fun i y hy=>by obtain⟨k,k1,k2,k3⟩:=h.s1 i y hy;exact⟨k,k1,(e k k1).2 k2,k3⟩,fun k hk hD=>h.s2 k hk ((e k hk).1 hD),fun i hi hy hD=>h.z1 i hi hy ((e i hi).1 hD),fun i hi hy hD=>h.z2 i hi hy fun q=>hD ⟨(e i hi).2 q.1,q.2⟩⟩
theorem EI.skip {p:Int}{aa:List Cl}{n:Nat}{D D':Nat→Prop}{st:List (Option (List Tm))}{dt:List Int}(h:EI p aa n D st dt){j:Nat}(e:∀k,k<n→(D' k↔D k∨k=j))(hr:vf p aa n j=[]){y:List Tm}(hy:st.getD j none=some y):EI p aa n D' st dt:=by
 refine⟨h.Lx,h.YJ,fun i y hy=> ?_,fun k hk hD t ht=> ?_,fun i hi hs hD=> ?_,fun i hi hs hD=> ?_⟩
 ·obtain⟨k,k1,k2,k3⟩:=h.s1 i y hy;exact⟨k,k1,(e k k1).2 (.inl k2),k3⟩
 ·rcases (e k hk).1 hD with g |rfl
  ·exact h.s2 k hk g t ht
  ·rw[hr] at ht;cases ht
 ·rcases (e i hi).1 hD with g |rfl
  ·exact h.z1 i hi hs g
  ·rw[hy] at hs;cases hs
 ·exact h.z2 i hi hs fun q=>hD ⟨(e i hi).2 (.inl q.1),q.2⟩
theorem EI.step {p:Int}{aa:List Cl}{n:Nat}{D D':Nat→Prop}{st:List (Option (List Tm))}{dt:List Int}(h:EI p aa n D st dt){j:Nat}(hj:j<n)(hn:¬D j)(e:∀k,k<n→(D' k↔D k∨k=j))(hv:Vc p n (vf p aa n j))(hrow:∀t,(vf p aa n j).getLast?=some t→0≤t.1∧t.1<n)(agP:∀k,k<n→∀t,(vf p aa n k).getLast?=some t→0≤t.1∧t.1<n)(hf:∀t,(vf p aa n j).getLast?=some t→st.getD t.1.toNat none=none)(hs:st.getD j none=none){a b:Int}:
  EI p aa n D' (Vw (st,(dt,a)) j (vf p aa n j,b)).1 (Vw (st,(dt,a)) j (vf p aa n j,b)).2.1∧(Vw (st,(dt,a)) j (vf p aa n j,b)).2.2=b:=by
 have ls:=h.Lx.len;have ld:=h.YJ;cases hl:(vf p aa n j).getLast? with
 |some t=>
  have hft:=hf t hl;have ht:=hrow t hl;have e1:Vw (st,(dt,a)) j (vf p aa n j,b)=(st.set t.1.toNat (some (vf p aa n j)),(dt.set t.1.toNat (j:Int),b)):=by unfold Vw;simp only[hl]
  rw[e1];refine⟨⟨⟨by simp[ls],fun i y hy=> ?_⟩,by simp[ld],fun i y hy=> ?_,fun k hk hD u hu=> ?_,fun i hi hy hD hr=> ?_,fun i hi hy hD=> ?_⟩,rfl⟩
  ·simp only[No] at hy;split at hy
   ·rename_i g;obtain rfl:vf p aa n j=y:=by simpa using hy
    exact⟨hv,t,hl,by omega⟩
   ·exact h.Lx.ok i y hy
  ·simp only[No] at hy;split at hy
   ·rename_i g;obtain rfl:vf p aa n j=y:=by simpa using hy
    refine⟨j,hj,(e j hj).2 (.inr rfl),rfl, ?_⟩;simp only[cE];rw[if_pos ⟨g.1,by omega⟩]
   ·rename_i g;obtain⟨k,k1,k2,k3,k4⟩:=h.s1 i y hy;refine⟨k,k1,(e k k1).2 (.inl k2),k3, ?_⟩;simp only[cE];rw[if_neg (by rw[ld, ←ls];exact g),k4]
  ·by_cases q:k=j
   ·subst q;rw[hl] at hu;obtain rfl:t=u:=by simpa using hu
    simp only[No,cE];rw[if_pos ⟨trivial,by omega⟩,if_pos ⟨trivial,by omega⟩];exact⟨rfl,rfl⟩
   ·obtain⟨g1,g2⟩:=h.s2 k hk (((e k hk).1 hD).resolve_right q) u hu;have hne:t.1.toNat≠u.1.toNat:=fun e=>by rw[←e,hft] at g1;cases g1
    simp only[No,cE];rw[if_neg fun q=>hne q.1,if_neg fun q=>hne q.1];exact⟨g1,g2⟩
  ·simp only[No] at hy;split at hy
   ·cases hy
   ·rename_i g;have hij:i≠j:=fun q=>by subst q;rw[hr] at hl;cases hl
    simp only[cE];rw[if_neg (by rw[ld, ←ls];exact g)];exact h.z1 i hi hy (((e i hi).1 hD).resolve_right hij) hr
  ·simp only[No] at hy;split at hy
   ·cases hy
   ·rename_i g;simp only[cE];rw[if_neg (by rw[ld, ←ls];exact g)];exact h.z2 i hi hy fun q=>hD ⟨(e i hi).2 (.inl q.1),q.2⟩
 |none=>
  have hx:vf p aa n j=[]:=List.getLast?_eq_none_iff.1 hl;have h2:dt.getD j 0= -2:=h.z2 j hj hs fun q=>hn q.1;have e1:Vw (st,(dt,a)) j (vf p aa n j,b)=(st,(dt.set j (-1),b)):=by unfold Vw;simp only[hl,if_pos h2]
  rw[e1];refine⟨⟨h.Lx,by simp[ld],fun i y hy=> ?_,fun k hk hD u hu=> ?_,fun i hi hy hD hr=> ?_,fun i hi hy hD=> ?_⟩,rfl⟩
  ·obtain⟨k,k1,k2,k3,k4⟩:=h.s1 i y hy;refine⟨k,k1,(e k k1).2 (.inl k2),k3, ?_⟩;simp only[cE];rw[if_neg (fun q=>by simp only at hy;rw[←q.1,hs] at hy;cases hy),k4]
  ·by_cases q:k=j
   ·subst q;rw[hl] at hu;cases hu
   ·obtain⟨g1,g2⟩:=h.s2 k hk (((e k hk).1 hD).resolve_right q) u hu;refine⟨g1, ?_⟩;simp only[cE];rw[if_neg (fun q=>by rw[←q.1,hs] at g1;cases g1),g2]
  ·simp only[cE];by_cases q:i=j
   ·subst q;rw[if_pos ⟨rfl,by omega⟩]
   ·rw[if_neg (fun g=>q g.1.symm)];exact h.z1 i hi hy (((e i hi).1 hD).resolve_right q) hr
  ·have q:i≠j:=fun q=>hD ⟨(e i hi).2 (.inr q),by rw[q];exact hx⟩;simp only[cE];rw[if_neg (fun g=>q g.1.symm)];exact h.z2 i hi hy fun g=>hD ⟨(e i hi).2 (.inl g.1),g.2⟩
noncomputable def gA (P:Nat→Prop)(g:Nat→Int)(k:Nat):Int:= @ite _ (P k) (Classical.propDecidable _) (g k) 0
theorem Qx {P:Nat→Prop}{g:Nat→Int}{k:Nat}(h:P k):gA P g k=g k:=by unfold gA;rw[if_pos h]
theorem Nz {P:Nat→Prop}{g:Nat→Int}{k:Nat}(h:¬P k):gA P g k=0:=by unfold gA;rw[if_neg h]
theorem Kg {P Q:Nat→Prop}{g:Nat→Int}{k:Nat}(h:P k↔Q k):gA P g k=gA Q g k:=by
 by_cases e:Q k
 ·rw[Qx e,Qx (h.2 e)]
 ·rw[Nz e,Nz fun q=>e (h.1 q)]
theorem acQ {P Q:Nat→Prop}{g:Nat→Int}{n j:Nat}(hj:j<n)(hn:¬P j)(e:∀k,k<n→(Q k↔P k∨k=j)):sm (gA Q g) n=sm (gA P g) n+g j:=by
 have:sm (gA Q g) n=sm (fun k=>gA P g k+(if k=j then g j else 0)) n:=bH fun k hk=>by
  by_cases q:k=j
  ·subst q;rw[Qx ((e k hk).2 (.inr rfl)),Nz hn,if_pos rfl];omega
  ·rw[if_neg q,Kg (Q:=P) ((e k hk).trans ⟨fun h=>h.resolve_right q, .inl⟩)];omega
 rw[this,E3,Nv (a:=j) hj fun i hi hne=>if_neg hne,if_pos rfl]
theorem alS {P:Nat→Prop}{g:Nat→Int}{k:Nat}{b:Int}(h0:0≤g k)(h1:g k≤b):0≤gA P g k∧gA P g k≤b:=by
 by_cases e:P k
 ·rw[Qx e];omega
 ·rw[Nz e];omega
def Kd (p:Int)(aa:List Cl)(n k:Nat):Prop:=∃y,(j8 p aa n n).1.getD k none=some y
structure TI (p:Int) (aa:List Cl) (n:Nat) (d:Int) (j:Nat) (st:List (Option (List Tm))) (dt:List Int) (a c:Int):Prop where
 e:EI p aa n (Dn aa d j) st dt
 a0:0≤a
 a1:a≤sm (gA (Dn aa d j) (UR p aa n)) n
 c:c=sm (gA (fun k=>Dn aa d j k∧Kd p aa n k) fun _=>1) n
theorem TI.apM {p:Int}{aa:List Cl}{n:Nat}{d:Int}{j:Nat}{st:List (Option (List Tm))}{dt:List Int}{a c:Int}(h:TI p aa n d j st dt a c)(hn:n≤1024):a≤2000000:=by
 have h1:=Pc (g:=fun k=>gA (Dn aa d j) (UR p aa n) k) (b:=1024) (fun k=>alS Bt.1 (by have:=(Bt (p:=p) (aa:=aa) (n:=n) (j:=k)).2;omega)) n;have:=h.a1;have h2:(n:Int)*1024≤2000000:=by omega
 exact Int.le_trans this (Int.le_trans h1.2 h2)
theorem TI.apN {p:Int}{aa:List Cl}{n:Nat}{d:Int}{j:Nat}{st:List (Option (List Tm))}{dt:List Int}{a c:Int}(h:TI p aa n d j st dt a c)(hn:n≤1024):0≤c∧c≤2000000:=by have h1:=Pc (g:=gA (fun k=>Dn aa d j k∧Kd p aa n k) fun _=>1) (b:=1) (fun k=>alS (by omega) (by omega)) n;rw[h.c];omega
theorem Dn.succ {aa:List Cl}{d:Int}{j:Nat}(hd:(aa.getD j gq).1=d)(k:Nat):Dn aa d (j+1) k↔Dn aa d j k∨k=j:=by
 unfold Dn;constructor
 ·rintro (h | ⟨h1,h2⟩)
  ·exact .inl (.inl h)
  ·by_cases e:k=j
   ·exact .inr e
   ·exact .inl (.inr ⟨h1,by omega⟩)
 ·rintro ((h | ⟨h1,h2⟩) |rfl)
  ·exact .inl h
  ·exact .inr ⟨h1,by omega⟩
  ·exact .inr ⟨hd,by omega⟩
theorem Dn.other {aa:List Cl}{d:Int}{j:Nat}(hd:(aa.getD j gq).1≠d)(k:Nat):Dn aa d (j+1) k↔Dn aa d j k:=by
 unfold Dn;constructor
 ·rintro (h | ⟨h1,h2⟩)
  ·exact .inl h
  ·by_cases e:k=j
   ·subst e;exact absurd h1 hd
   ·exact .inr ⟨h1,by omega⟩
 ·rintro (h | ⟨h1,h2⟩)
  ·exact .inl h
  ·exact .inr ⟨h1,by omega⟩
theorem Dn.down {aa:List Cl}{d:Int}{n k:Nat}(hk:k<n):Dn aa (d - 1) 0 k↔Dn aa d n k:=by unfold Dn;omega
theorem TI.congr {p:Int}{aa:List Cl}{n:Nat}{d d':Int}{j j':Nat}{st:List (Option (List Tm))}{dt:List Int}{a c:Int}(h:TI p aa n d j st dt a c)(e:∀k,k<n→(Dn aa d' j' k↔Dn aa d j k)):TI p aa n d' j' st dt a c:=
 ⟨h.e.congr e,h.a0,by rw[bH fun k hk=>Kg (e k hk)];exact h.a1,by rw[h.c];exact bH fun k hk=>Kg (and_congr_left' (e k hk).symm)⟩
theorem acR {j out:Nat}{s:StT}{z:List Tm×Int}{e:Bool}{p w2:Int}{aa:List Cl}{bh:Uu}{rest:List (Int×Unit)}:
  Qw j z.1 out s.1 s.2.1 e p aa z.2 w2 bh rest=ah out out (Vw s j z).1 (Vw s j z).2.1 e p aa (Vw s j z).2.2 w2 bh rest:=by
 unfold Qw Vw;cases z.1.getLast? with
 |some t=>rfl
 |none=>simp only;split<;>rfl
section
variable {p:Int}{aa:List Cl}{n:Nat}(hp:Pr p)(hv:∀j,j<n→Vc p j (cp aa j))(hd:∀j,j<n→Hom aa ((aa.getD j gq).1 - 1) (cp aa j))(S1:∀j,j<n→Kd p aa n j→vf p aa n j=[])
include hp hv hd S1
theorem ak7 (hn:n≤1024)(hc:aa.length=n){d:Int}{j:Nat}(hj:j<n)(hdj:(aa.getD j gq).1=d){st:List (Option (List Tm))}{dt:List Int}{a c:Int}(h:TI p aa n d j st dt a c){bh:Uu}{rest:List (Int×Unit)}:
  ∃st' YK a' c',TI p aa n d (j+1) st' YK a' c'∧ah 0 0 st dt true p aa a c bh (((j:Int),())::rest)=ah 0 0 st' YK true p aa a' c' bh rest:=by
 have hF:=sI hp hv n (Nat.le_refl n);have hI:=sI hp hv j (by omega);have ha:=h.apM hn;have ha0:=h.a0;have hcc:=h.apN hn;have hnj:=Dn.self hdj;have W4:=Dn.succ hdj;have hom:=ak5 hp hv hd;have hrow:∀k,k<n→∀t,(vf p aa n k).getLast?=some t→0≤t.1∧t.1<n:=fun k hk t ht=>ak6 hp hv hk ht
 -- what is stored is stored at GJ end
 have up:∀i y,st.getD i none=some y→(j8 p aa n n).1.getD i none=some y:=fun i y hy=>by obtain⟨k,k1,k2,k3,k4⟩:=h.e.s1 i y hy;obtain⟨_,u,u1,u2⟩:=h.e.Lx.ok i y hy;rw[←k3] at u1;have:=(hF.s2 k k1 u u1).1;rw[u2,Int.toNat_natCast,k3] at this;exact this
 rw[ak3 hp hn hc h.e.Lx h.e.YJ hj ((hv j hj).mono (by omega)) ha0 (by omega) ⟨hcc.1,by omega⟩];cases hs:st.getD j none with
 |some y=>
  have hK:Kd p aa n j:=⟨y,up j y hs⟩
  have hr:=S1 j hj hK;refine⟨st,dt,a,c+1,⟨h.e.skip (fun k _=>W4 k) hr hs,ha0, ?_, ?_⟩,rfl⟩
  ·rw[acQ hj hnj fun k _=>W4 k];have:=h.a1;have:=(Bt (p:=p) (aa:=aa) (n:=n) (j:=j)).1;omega
  ·rw[acQ (P:=fun k=>Dn aa d j k∧Kd p aa n k) hj (fun q=>hnj q.1) fun k hk=> ?_, ←h.c];rw[W4 k];constructor
   ·rintro ⟨q1 |q1,q2⟩
    ·exact .inl ⟨q1,q2⟩
    ·exact .inr q1
   ·rintro (q |rfl)
    ·exact⟨.inl q.1,q.2⟩
    ·exact⟨.inr rfl,hK⟩
 |none=>
  have hnK:¬Kd p aa n j:=fun⟨y,hy⟩=>by obtain⟨k,k1,k2,k3⟩:=hF.s1 j y hy;have g:=hom k k1;rw[k2] at g;have g2:=Pf hF.Lx hy g;obtain⟨_,u,u1,u2⟩:=hF.Lx.ok j y hy;rw[←k2] at u1;have:=(h.e.s2 k k1 (.inl (by omega)) u u1).1;rw[u2,Int.toNat_natCast,hs] at this;cases this
  have agree:∀i,(aa.getD i gq).1=(aa.getD j gq).1 - 1→(j8 p aa n j).1.getD i none=st.getD i none:=fun i hi=>by
   cases hy:(j8 p aa n j).1.getD i none with
   |some y=>obtain⟨k,k1,k2,_⟩:=hI.s1 i y hy;obtain⟨_,u,u1,u2⟩:=hI.Lx.ok i y hy;have g:=hom k (by omega);rw[k2] at g;have g2:=Pf hI.Lx hy g;rw[←k2] at u1;have:=(h.e.s2 k (by omega) (.inr ⟨by omega,k1⟩) u u1).1;rw[u2,Int.toNat_natCast,k2] at this;exact this.symm
   |none=>
    cases hy2:st.getD i none with
    |none=>rfl
    |some y=>
     obtain⟨k,k1,k2,k3,_⟩:=h.e.s1 i y hy2;obtain⟨_,u,u1,u2⟩:=h.e.Lx.ok i y hy2;have g:=hom k k1;rw[k3] at g;have g2:=Pf h.e.Lx hy2 g;have hkj:k<j:=by
      rcases k2 with q | ⟨_,q⟩
      ·omega
      ·exact q
     rw[←k3] at u1;have:=(hI.s2 k hkj u u1).1;rw[u2,Int.toNat_natCast,hy] at this;cases this
  have hsame:=(Ny (by have:=hp.1;omega) hI.Lx agree (fun i y hy hi=>by
   obtain⟨k,k1,k2,_⟩:=hI.s1 i y hy;have g:=hom k (by omega);rw[k2] at g;have:=Pf hI.Lx hy g;rw[←hi,this];exact g) n (cp aa j) a ((hv j hj).mono (by omega)) (hd j hj)).1
  rw[←hsame,(Gj n (cp aa j) a).1];simp only;have R6:∀t,(vf p aa n j).getLast?=some t→st.getD t.1.toNat none=none:=fun t ht=>by rw[←agree t.1.toNat (hom j hj t (bQ ht))];exact agn hp hv hj ht
  obtain⟨q1,q2⟩:=h.e.step hj hnj (fun k _=>W4 k) ((hF.c j hj).1.1.mono (by omega)) (hrow j hj) hrow R6 hs (a:=a) (b:=a+UR p aa n j);have U7:=acR (j:=j) (out:=0) (s:=(st,(dt,a))) (z:=(vf p aa n j,a+UR p aa n j)) (e:=true) (p:=p) (w2:=c) (aa:=aa) (bh:=bh) (rest:=rest);simp only at U7;have had:=Bt (p:=p) (aa:=aa) (n:=n) (j:=j);refine⟨_,_,_,c,⟨q1, ?_, ?_, ?_⟩,U7⟩
  ·rw[q2];omega
  ·rw[q2,acQ hj hnj fun k _=>W4 k];have:=h.a1;omega
  ·rw[h.c];refine bH fun k hk=>Kg ?_;rw[W4 k];constructor
   ·rintro ⟨g1,g2⟩;exact⟨.inl g1,g2⟩
   ·rintro ⟨g1 |g1,g2⟩
    ·exact⟨g1,g2⟩
    ·subst g1;exact absurd g2 hnK
theorem Qy (hn:n≤1024)(hc:aa.length=n){d:Int}{bh:Uu}{tail:List (Int×Unit)}:∀(m j:Nat) (st:List (Option (List Tm))) (dt:List Int) (a c:Int),m+j=n→TI p aa n d j st dt a c→
  ∃st' YK a' c',TI p aa n d n st' YK a' c'∧ah 0 0 st dt true p aa a c bh (Vx aa d j m++tail)=ah 0 0 st' YK true p aa a' c' bh tail
 |0,j,st,dt,a,c,hj,h=>by
  obtain rfl:j=n:=by omega
  exact⟨st,dt,a,c,h,by rw[Vx,List.nil_append]⟩
 |m+1,j,st,dt,a,c,hj,h=>by
  rw[Vx];by_cases e:(aa.getD j gq).1=d
  ·rw[if_pos e,List.cons_append];obtain⟨st',YK,a',c',h1,h2⟩:=ak7 hp hv hd S1 hn hc (show j<n by omega) e h (bh:=bh) (rest:=Vx aa d (j+1) m++tail);rw[h2];exact Qy hn hc m (j+1) st' YK a' c' (by omega) h1
  ·rw[if_neg e];exact Qy hn hc m (j+1) st dt a c (by omega) (h.congr fun k _=>Dn.other e k)
theorem aa4 (hn:n≤1024)(hc:aa.length=n){bh:Uu}:∀(k:Nat) (st:List (Option (List Tm))) (dt:List Int) (a c:Int),TI p aa n ((k:Int) - 1) 0 st dt a c→
  ∃st' YK a' c',TI p aa n (-1) 0 st' YK a' c'∧ah 0 0 st dt true p aa a c bh (dtr aa n k)=bu 0 (n:Int) 0 YK a' c' bh
 |0,st,dt,a,c,h=>by refine⟨st,dt,a,c,h, ?_⟩;have:=h.e.YJ;rw[dtr,kj,gF,this]
 |k+1,st,dt,a,c,h=>by
  have e1:((k+1:Nat):Int) - 1=(k:Int):=by omega
  rw[e1] at h;obtain⟨st',YK,a',c',h1,h2⟩:=Qy hp hv hd S1 hn hc (d:=(k:Int)) (bh:=bh) (tail:=dtr aa n k) n 0 st dt a c (by omega) h;rw[dtr,h2];exact aa4 hn hc k st' YK a' c' (h1.congr fun q hq=>Dn.down hq)
omit hp hv hd S1 in
theorem TI.zero (UX:∀k,k<n→(aa.getD k gq).1≤4):TI p aa n 4 0 (List.replicate n none) (List.replicate n (-2)) 0 0:=by
 have hno:∀k,k<n→¬Dn aa 4 0 k:=fun k hk q=>by have:=UX k hk;rcases q with q | ⟨_,q⟩<;>omega
 refine⟨⟨⟨by simp,fun i y h=> ?_⟩,by simp,fun i y h=> ?_,fun k hk q=>absurd q (hno k hk),fun i hi _ q=>absurd q (hno i hi),fun i hi _ _=>by simp[List.getD,hi]⟩,Int.le_refl _, ?_, ?_⟩
 ·rw[Pb] at h;cases h
 ·rw[Pb] at h;cases h
 ·rw[Hs fun k hk=>Nz (hno k hk)];exact Int.le_refl _
 ·rw[Hs fun k hk=>Nz fun q=>hno k hk q.1]
omit hd S1 in
theorem TI.last (UX:∀k,k<n→0≤(aa.getD k gq).1){st:List (Option (List Tm))}{dt:List Int}{a c:Int}(h:TI p aa n (-1) 0 st dt a c):dt=(j8 p aa n n).2.1∧0≤a∧a≤sm (UR p aa n) n∧c=sm (gA (Kd p aa n) fun _=>1) n:=by
 have hall:∀k,k<n→Dn aa (-1) 0 k:=fun k hk=> .inl (by have:=UX k hk;omega);have hF:=sI hp hv n (Nat.le_refl n);refine⟨agm (by rw[h.e.YJ,hF.YJ]) fun i hi=> ?_,h.a0, ?_, ?_⟩
 ·rw[h.e.YJ] at hi;cases hs:st.getD i none with
  |some y=>obtain⟨k,k1,k2,k3,k4⟩:=h.e.s1 i y hs;obtain⟨_,u,u1,u2⟩:=h.e.Lx.ok i y hs;rw[←k3] at u1;have:=(hF.s2 k k1 u u1).2;rw[u2,Int.toNat_natCast] at this;rw[k4,this]
  |none=>
   have hs2:(j8 p aa n n).1.getD i none=none:=by
    cases hy:(j8 p aa n n).1.getD i none with
    |none=>rfl
    |some y=>obtain⟨k,k1,k2,_⟩:=hF.s1 i y hy;obtain⟨_,u,u1,u2⟩:=hF.Lx.ok i y hy;rw[←k2] at u1;have:=(h.e.s2 k k1 (hall k k1) u u1).1;rw[u2,Int.toNat_natCast,hs] at this;cases this
   rw[hF.z i hi hs2];by_cases e:vf p aa n i=[]
   ·rw[if_pos ⟨hi,e⟩];exact h.e.z1 i hi hs (hall i hi) e
   ·rw[if_neg fun q=>e q.2];exact h.e.z2 i hi hs fun q=>e q.2
 ·have:=h.a1;rw[bH fun k hk=>Qx (hall k hk)] at this;exact this
 ·rw[h.c];exact bH fun k hk=>Kg ⟨fun q=>q.2,fun q=>⟨hall k hk,q⟩⟩
theorem acS (hn:n≤1024)(hc:aa.length=n)(UX:∀k,k<n→0≤(aa.getD k gq).1∧(aa.getD k gq).1≤4):∃a c out hp',cB (p,(aa,())) []=some ((out,(a,(c,()))),hp')∧ai hp' out=some (yX (j8 p aa n n).2.1 0 n)∧0≤a∧a≤sm (UR p aa n) n∧c=sm (gA (Kd p aa n) fun _=>1) n:=by obtain⟨st,dt,a,c,h,d2⟩:=aa4 hp hv hd S1 hn hc (bh:=[]) 5 _ _ 0 0 (TI.zero fun k hk=>(UX k hk).2);obtain⟨f1,f2,f3,f4⟩:=h.last hp hv fun k hk=>(UX k hk).1;have d1:=h.e.YJ;have e0:((0:Nat):Int)=0:=rfl;obtain⟨out',hp',g1,g2⟩:=acP (dt:=dt) (by omega) (w:=a) (w2:=c) dt.length 0 0 [] [] (by omega) rfl (by simp);rw[e0,d1] at g1;rw[List.nil_append,d1,f1] at g2;have hf:=ak4 (st:=List.replicate n none) (p:=p) hn hc (bh:=[]) n 0 (by omega);rw[e0,List.replicate_zero,List.nil_append] at hf;refine⟨a,c,out',hp', ?_,g2,f2,f3,f4⟩;rw[uD,nZ];simp only;rw[hc,Ic (by omega) (by omega) (by omega),Ic (by omega) (by omega) (by omega),Int.toNat_natCast,List.length_replicate,hf,d2,g1]
end
theorem ak8 (x:Nat)(hp:Uu):slices_SortFunc x hp=Wp x hp:=(congrFun (congrFun (CG 0) x) hp).symm
theorem j7 {α:Type}{xs:List (Option (List α))}{n:Nat}{l l':List α}(h:ai xs n=some l)(h0:n≠0):ai (ik xs n l') n=some l':=by
 cases n with
 |zero=>exact absurd rfl h0
 |succ m=>
  have hlt:m<xs.length:=by
   rcases Nat.lt_or_ge m xs.length with h1 |h1
   ·exact h1
   ·have h':(match xs[m]? with |some o=>o |none=>none)=some l:=h;rw[List.getElem?_eq_none h1] at h';cases h'
  show (match (xs.set m (some l'))[m]? with |some o=>o |none=>none)=some l';rw[List.getElem?_set_self hlt]
theorem ajk {L:List Tm}{n i:Nat}(h:i<L.length):(((L.take i).map (Gk n))++L.drop i).set i (Gk n (L.getD i th))=(L.take (i+1)).map (Gk n)++L.drop (i+1):=by
 have hl:((L.take i).map (Gk n)).length=i:=by simp;omega
 rw[List.set_append_right _ _ (by omega),hl,Nat.sub_self,ef th h,List.set_cons_zero,WQ h,List.map_append,List.append_assoc];rfl
theorem ajl {L:List Tm}{n i:Nat}(h:i<L.length):(((L.take i).map (Gk n))++L.drop i).getD i th=L.getD i th:=by
 have hl:((L.take i).map (Gk n)).length=i:=by simp;omega
 simp only[List.getD];rw[List.getElem?_append_right (by omega),hl,Nat.sub_self];simp
theorem aa5 {L:List Tm}{n i:Nat}(h:i≤L.length):(((L.take i).map (Gk n))++L.drop i).length=L.length:=by simp;omega
theorem acT {n:Nat}(hn:n≤1024){L:List Tm}(hr:∀t∈L,0≤t.1∧t.1<n∧ -1≤t.2.1∧t.2.1<n)(hL:L.length≤1024){out:Nat}{t4 t5 w w2:Int}:
  ∀(q i:Nat) (bh:Uu),q+i=L.length→ai bh out=some (((L.take i).map (Gk n))++L.drop i)→
  ∃hp',ai hp' out=some (L.map (Gk n))∧b4 out ((n:Int) - 1) out L.length i t4 t5 w w2 bh=b4 out ((n:Int) - 1) out L.length L.length t4 t5 w w2 hp':=by
 intro q;induction q with
 |zero=>
  intro i bh hi h;obtain rfl:i=L.length:=by omega
  refine⟨bh, ?_,rfl⟩;rw[h,List.take_length,List.drop_length,List.append_nil]
 |succ q ih=>
  intro i bh hi h;have hi':i<L.length:=by omega
  have h0:out≠0:=fun e=>by subst e;have h':some ([]:List Tm)=some (((L.take i).map (Gk n))++L.drop i):=h;have h2:=congrArg List.length (Option.some.inj h');rw[aa5 (by omega)] at h2;simp at h2;omega
  have hlen:=aa5 (L:=L) (n:=n) (i:=i) (by omega);have hg:=ajl (L:=L) (n:=n) hi';have ht:=hr _ (ay (d:=th) hi');have ajm:∀v:Tm,ai (ik bh out ((((L.take i).map (Gk n))++L.drop i).set i v)) out=some ((((L.take i).map (Gk n))++L.drop i).set i v):=fun v=>j7 h h0;have hfs:=ajk (L:=L) (n:=n) hi';generalize hrow:((L.take i).map (Gk n))++L.drop i=row at*
  generalize hte:L.getD i th=t at*
  have w1:IntKind.wrap .i64 ((n:Int) - 1 - t.2.1)=(n:Int) - 1 - t.2.1:=i64_in _ (by omega);have w3:IntKind.wrap .i64 ((n:Int) - 1 - t.1)=(n:Int) - 1 - t.1:=i64_in _ (by omega);rw[nW,kF,ax (by omega),h,bS,fh th (by omega),bS,Int.toNat_natCast,Uz th (by omega),hg,bS,fh th (by omega),bS,Uz th (by omega),w1,w3];by_cases e:t.2.1<0
  ·have hf:Gk n t=((n:Int) - 1 - t.1,(-1,())):=by unfold Gk;rw[if_pos e]
   rw[hf] at hfs;rw[ax e,ajm,bS,fh th (by rw[List.length_set];omega),bS,Uz th (by rw[List.length_set];omega),List.set_set,bM (by omega),hfs];exact ih (i+1) _ (by omega) (j7 (ajm _) h0)
  ·have hf:Gk n t=((n:Int) - 1 - t.2.1,((n:Int) - 1 - t.1,())):=by unfold Gk;rw[if_neg e]
   rw[hf] at hfs;rw[aq e,bM (by omega)];exact ih (i+1) _ (by omega) (by rw[ajm,hfs])
theorem anw {L:List Tm}(hL:L.length≤1024){out:Nat}{last t4 t5 w w2:Int}{bh:Uu}{M:List Tm}(hM:M.length=L.length)(hg:ai bh out=some M)(hok:okT M=true):
  b4 out last out L.length L.length t4 t5 w w2 bh=some (sN M,((w,(w2,())),0)):=by
 rw[nW,kF,aq (by omega),ak8];cases out with
 |zero=>
  have e:M=[]:=by have h':some ([]:List Tm)=some M:=hg;exact(Option.some.inj h').symm
  subst e;have e2:Wp 0 bh=some ((),bh):=rfl;rw[e2,bS,Ho (hp:=bh) rfl hg];rfl
 |succ m=>
  have e2:Wp (m+1) bh=some ((),ik bh (m+1) (sN M)):=by show ((ai bh (m+1)).bind fun l=>bif Nat.ble l.length 1000000&&okT l then some ((),ik bh (m+1) (sN l)) else none)=_;rw[hg,bS,hok,Nat.ble_eq_true_of_le (show M.length≤1000000 by omega)];rfl
  rw[e2,bS,Ho (hp:=ik bh (m+1) (sN M)) rfl (j7 hg (by omega))];rfl
theorem anx {p:Int}(hp:Pr p)(a b:Int)(h:p ∣ a*b):p ∣ a∨p ∣ b:=by
 by_cases ha:p ∣ a
 ·exact .inl ha
 ·right;have hp1:=hp.1;have h1:1≤a % p∧a % p<p:=by have g1:=Int.emod_nonneg a (show p≠0 by omega);have g2:a % p≠0:=fun e=>ha (Int.dvd_of_emod_eq_zero e);have g3:=Int.emod_lt_of_pos a (show 0<p by omega);omega
  have h2:=Qu hp h1;rw[Int.emod_def (a % p*iv p (a % p))] at h2;have h3:=Int.emod_def a p;obtain⟨c,hc⟩:=h;generalize a % p*iv p (a % p) / p=q at h2;generalize iv p (a % p)=i at h2;generalize a % p=r at h2 h3;generalize a / p=s at h3;subst h3;exact⟨i*c - i*s*b - q*b,by grind⟩
theorem ajn {p:Int}{aa:List Cl}{n:Nat}(hp:Pr p)(hv:∀j,j<n→Vc p j (cp aa j))(hcy:∀j,j<n→∀r,r<n→p ∣ sm (fun i=>mx aa i j*mx aa r i) n){R':Nat→Nat→Int}(h':Vv p n (pf n (mx aa)) R'):∀j,j<n→Kd p aa n j→vf p aa n j=[]:=by
 intro j hj hK;obtain⟨y,hy⟩:=hK;have hF:=sI hp hv n (Nat.le_refl n);obtain⟨k,k1,k2,k3⟩:=hF.s1 j y hy;obtain⟨vy,u,u1,u2⟩:=hF.Lx.ok j y hy;obtain⟨_,w,w1,w2,w3⟩:=(hF.c k k1).1;rw[k2] at w3;have hz:∀r,r<n→p ∣ sm (fun l=>cf y (l:Int)*mx aa r l) n:=fun r hr=>by
  have e1:p ∣ sm (fun l=>cf y (l:Int)*mx aa r l) n - sm (fun l=>sm (fun q=>w q*mx aa l q) n*mx aa r l) n:=Pa fun l hl=>by rw[←Int.sub_mul];exact Int.dvd_trans (w3 l hl) (Int.dvd_mul_right _ _)
  have e2:sm (fun l=>sm (fun q=>w q*mx aa l q) n*mx aa r l) n=sm (fun q=>w q*sm (fun l=>mx aa l q*mx aa r l) n) n:=by
   have:sm (fun l=>sm (fun q=>w q*mx aa l q) n*mx aa r l) n=sm (fun l=>sm (fun q=>w q*(mx aa l q*mx aa r l)) n) n:=bH fun l hl=>by
    rw[Int.mul_comm, ←Ar];exact bH fun q hq=>by
     generalize mx aa l q=A;generalize mx aa r l=B
     grind
   rw[this,Sk (fun l q=>w q*(mx aa l q*mx aa r l)) n n];exact bH fun q hq=>Ar _ _ _
  rw[e2] at e1;exact(mi e1).2 (Sn fun q hq=>Int.dvd_trans (hcy q hq r hr) (Int.dvd_mul_left _ _))
 have hno:∀i,¬Nx p n (RS p aa n) j i:=fun i=>by
  refine aje (anx hp) (acN hF) h' hj (a:=fun l=>cf y (l:Int)) ?_ (fun k hk _=> ?_) hz
  ·have h1:=EZ vy.s u (bQ u1);have h2:=vy.r u (bQ u1);rw[u2] at h1;rw[h1];intro e;have:=Int.le_of_dvd (by omega) e;omega
  ·rw[Si vy.s u1 (by omega)];exact Int.dvd_zero p
 cases hl:(vf p aa n j).getLast? with
 |none=>exact List.getLast?_eq_none_iff.1 hl
 |some t=>exact absurd (Pd ((hF.c j hj).1.1.mono (by omega)) hl (j:=j)) (hno _)
theorem ak9 {p:Int}{aa:List Cl}(h0:fi p aa=0):∀j,j<aa.length→∀r,r<aa.length→p ∣ sm (fun i=>mx aa i j*mx aa r i) aa.length:=by obtain⟨hp,hl,hg⟩:=mf h0;intro j hj r hr;have hp1:=hp.1;exact Int.dvd_of_emod_eq_zero ((KK (by omega) (fun i hi=>(hg i hi).bd.mono (by omega)) hj).1 (hg j hj).cyc r hr)
theorem W5 {p:Int}{aa:List Cl}(h0:fi p aa=0){R':Nat→Nat→Int}(h':Vv p aa.length (pf aa.length (mx aa)) R'):
  ∃a c out hp',cB (p,(aa,())) []=some ((out,(a,(c,()))),hp')∧ai hp' out=some (yX (j8 p aa aa.length aa.length).2.1 0 aa.length)∧0≤a∧a≤sm (UR p aa aa.length) aa.length∧c=sm (gA (Kd p aa aa.length) fun _=>1) aa.length:=by
 obtain⟨hp,hl,hg⟩:=mf h0;have hv:∀j,j<aa.length→Vc p j (cp aa j):=fun j hj=>(hg j hj).bd;exact acS hp hv (fun j hj t ht=>(hg j hj).akK t ht) (ajn hp hv (ak9 h0) h') hl rfl fun k hk=>(hg k hk).PT
theorem anz {p:Int}{aa:List Cl}(hs:Sz aa)(h0:fi p aa=0){R':Nat→Nat→Int}(h':Vv p aa.length (pf aa.length (mx aa)) R'):
  ∃a c,lK (p,(aa,()))=some (yX (j8 p aa aa.length aa.length).2.1 0 aa.length,((a,(c,())),(0:Int)))∧0≤a∧a≤sm (UR p aa aa.length) aa.length∧c=sm (gA (Kd p aa aa.length) fun _=>1) aa.length:=by
 have key:∀{hp:Uu} {n:Nat} {l:List Tm} {w:Int×Int×Unit} {e:Int},kh (p,(aa,())) []=some ((n,(w,e)),hp)→ai hp n=some l→lK (p,(aa,()))=some (l,((w.1,(w.2.1,())),e)):=by intro hp n l w e h1 h2;rw[Jf,Ez];simp only;rw[h1,bS];simp only;rw[Ho (hp:=hp) rfl h2];rfl
 obtain⟨a,c,out,hp',d3,d4,d5⟩:=W5 h0 h';refine⟨a,c, ?_,d5⟩;have hw:kh (p,(aa,())) []=some ((out,((a,(c,())),(0:Int))),hp'):=by rw[DF,xW];simp only;rw[C8 hs,bS,h0,nP rfl,d3,bS]
 exact key hw d4
theorem Pg {n:Nat}{t:Tm}(h:0≤t.1∧t.1<n∧ -1≤t.2.1∧t.2.1<n):Gk n (Gk n t)=t:=by
 obtain⟨a,b,u⟩:=t;simp only at h;unfold Gk;simp only;by_cases e:b<0
 ·rw[if_pos e];simp only;rw[if_pos (by omega)];obtain rfl:b= -1:=by omega
  simp only[Prod.mk.injEq,and_true];omega
 ·rw[if_neg e];simp only;rw[if_neg (by omega)];simp only[Prod.mk.injEq,and_true];omega
theorem ala {n:Nat}{D E:List Int}(h:∀t∈yX D 0 n,Gk n t∈yX E 0 n)(hr:∀t∈yX D 0 n,0≤t.1∧t.1<n∧ -1≤t.2.1∧t.2.1<n):Ds ((yX D 0 n).map (Gk n)):=by
 refine List.pairwise_map.2 (List.Pairwise.imp_of_mem ?_ (UN (dt:=D) (m:=n) (i:=0)));intro a b ha hb hab e;have e1:=h a ha;have e2:=h b hb;have e3:Gk n a=Gk n b:=by
  obtain⟨i,_,_,q1,_⟩:=Em.1 e1;obtain⟨k,_,_,q2,_⟩:=Em.1 e2;rw[q1,q2] at e;simp only at e;have:i=k:=by omega
  subst this;rw[q1,q2]
 have e4:=Pg (hr a ha);rw[e3,Pg (hr b hb)] at e4;rw[e4] at hab;omega
theorem anA {p:Int}{aa:List Cl}(hs:Sz aa)(h0:fi p aa=0)(h20:ak1 aa):
  ∃a c,fx (p,(aa,()))=some (yX (j8 p aa aa.length aa.length).2.1 0 aa.length,((a,(c,())),(0:Int)))∧c=sm (gA (Kd p (gz aa) aa.length) fun _=>1) aa.length:=by
 obtain⟨hp,hl,hg⟩:=mf h0;have d0:=UL h0 h20;have YI:=KL aa;obtain⟨a1,a2⟩:=ad8 h0;obtain⟨b1,b2⟩:=aa3 h0 h20;have c1:Vv p aa.length (pf aa.length (pf aa.length (mx aa))) (RS p aa aa.length):=a1.congr fun r k hr hk=>by unfold pf;rw[show aa.length - 1 - (aa.length - 1 - r)=r by omega,show aa.length - 1 - (aa.length - 1 - k)=k by omega]
 have c2:Vv p (gz aa).length (pf (gz aa).length (mx (gz aa))) (RS p aa aa.length):=by rw[YI];refine a1.congr fun r k hr hk=> ?_;unfold pf;rw[KM (by omega) (by omega),show aa.length - 1 - (aa.length - 1 - r)=r by omega,show aa.length - 1 - (aa.length - 1 - k)=k by omega]
 obtain⟨a,c,out,hp',d3,d4,_,_,d5⟩:=W5 d0 c2;rw[YI] at d4 d5;have f1:∀t∈yX (j8 p aa aa.length aa.length).2.1 0 aa.length,Gk aa.length t∈yX (j8 p (gz aa) aa.length aa.length).2.1 0 aa.length:=fun t ht=>Sq a1 b1 a2 b2 ht;have f2:∀t∈yX (j8 p (gz aa) aa.length aa.length).2.1 0 aa.length,Gk aa.length t∈yX (j8 p aa aa.length aa.length).2.1 0 aa.length:=fun t ht=>Sq b1 c1 b2 a2 ht;have NA:∀t∈yX (j8 p aa aa.length aa.length).2.1 0 aa.length,0≤t.1∧t.1<aa.length∧ -1≤t.2.1∧t.2.1<aa.length:=fun t ht=>a2.range ht;have hr:∀t∈yX (j8 p (gz aa) aa.length aa.length).2.1 0 aa.length,0≤t.1∧t.1<aa.length∧ -1≤t.2.1∧t.2.1<aa.length:=fun t ht=>b2.range ht;have hds:=ala f2 hr;have hso:sN ((yX (j8 p (gz aa) aa.length aa.length).2.1 0 aa.length).map (Gk aa.length))=yX (j8 p aa aa.length aa.length).2.1 0 aa.length:=by
  refine abW (T9 hds) UN fun x=> ?_;rw[KD];constructor
  ·intro hx;obtain⟨u,hu,rfl⟩:=List.mem_map.1 hx;exact f2 u hu
  ·intro hx;exact List.mem_map.2 ⟨Gk aa.length x,f1 x hx,Pg (NA x hx)⟩
 have hL:(yX (j8 p (gz aa) aa.length aa.length).2.1 0 aa.length).length≤1024:=by have:=Np (j8 p (gz aa) aa.length aa.length).2.1 aa.length 0;omega
 have R6:∀t∈(yX (j8 p (gz aa) aa.length aa.length).2.1 0 aa.length).map (Gk aa.length),(0≤t.1∧t.1<aa.length)∧ -2<t.2.1:=fun t ht=>by obtain⟨u,hu,rfl⟩:=List.mem_map.1 ht;exact agl (hr u hu)
 have e0:((0:Nat):Int)=0:=rfl;obtain⟨hp2,k1,k2⟩:=acT (n:=aa.length) (by omega) hr hL (out:=out) (t4:=0) (t5:=0) (w:=a) (w2:=c) (yX (j8 p (gz aa) aa.length aa.length).2.1 0 aa.length).length 0 hp' (by omega) (by rw[List.take_zero,List.map_nil,List.nil_append,List.drop_zero];exact d4);rw[e0] at k2;have hok:okT ((yX (j8 p (gz aa) aa.length aa.length).2.1 0 aa.length).map (Gk aa.length))=true:=XY.2 ⟨fun t ht=>by have:=(R6 t ht).1;omega,hds⟩;refine⟨a,c, ?_,d5⟩;rw[Aw,tC];simp only;rw[Vu hs,if_pos h0,bS,nP rfl,d3,bS,d4,bS,i64_in ((aa.length:Int) - 1) (by omega),k2, ←hso];exact anw hL (by simp) k1 hok
def qd (t:Tm):Bool:=decide (0≤t.2.1)
theorem aa6 (dt:List Int):∀m i:Nat,(((yX dt i m).filter qd).length:Int)=sm (fun k=>if 0≤dt.getD (i+k) 0 then 1 else 0) m
 |0,i=>rfl
 |m+1,i=>by
  have ih:=aa6 dt m (i+1);have e:sm (fun k=>if 0≤dt.getD (i+(k+1)) 0 then (1:Int) else 0) m=sm (fun k=>if 0≤dt.getD (i+1+k) 0 then 1 else 0) m:=bH fun k _=>by rw[show i+(k+1)=i+1+k by omega]
  rw[UH,e, ←ih,yX];show _=(if 0≤dt.getD i 0 then (1:Int) else 0)+_;by_cases h:dt.getD i 0> -2
  ·rw[if_pos h,List.filter_cons];by_cases h2:0≤dt.getD i 0
   ·have:qd ((i:Int),(dt.getD i 0,()))=true:=decide_eq_true h2;rw[this,if_pos rfl,if_pos h2,List.length_cons];omega
   ·have:qd ((i:Int),(dt.getD i 0,()))=false:=decide_eq_false h2;rw[this,if_neg (by simp),if_neg h2];omega
  ·rw[if_neg h,if_neg (by omega)];omega
theorem aa7 {p:Int}{aa:List Cl}{n:Nat}(h:SI p aa n n (j8 p aa n n)):sm (gA (Kd p aa n) fun _=>1) n=((yX (j8 p aa n n).2.1 0 n).filter qd).length:=by
 rw[aa6];refine bH fun k hk=> ?_;rw[Nat.zero_add];cases hy:(j8 p aa n n).1.getD k none with
 |some y=>obtain⟨q,_,_,q3⟩:=h.s1 k y hy;rw[Qx ⟨y,hy⟩,if_pos (by omega)]
 |none=>have:=h.z k hk hy;rw[Nz (fun⟨y,q⟩=>by rw[hy] at q;cases q),if_neg (by rw[this];split<;>omega)]
theorem alT {n:Nat}{D E:List Int}(h:∀t∈yX D 0 n,Gk n t∈yX E 0 n)(hr:∀t∈yX D 0 n,0≤t.1∧t.1<n∧ -1≤t.2.1∧t.2.1<n):((yX D 0 n).filter qd).length≤((yX E 0 n).filter qd).length:=by
 refine ad7 (f:=Gk n) (((UN (dt:=D) (m:=n) (i:=0)).imp fun hab e=>by rw[e] at hab;omega).filter _) (fun x hx=> ?_) fun x hx y hy e=> ?_
 ·obtain⟨h1,h2⟩:=List.mem_filter.1 hx;have h3:=hr x h1;have h4:0≤x.2.1:=of_decide_eq_true h2;refine List.mem_filter.2 ⟨h x h1,decide_eq_true ?_⟩;unfold Gk;rw[if_neg (by omega)];simp only;omega
 ·have h1:=Pg (hr x (List.mem_filter.1 hx).1);rw[e,Pg (hr y (List.mem_filter.1 hy).1)] at h1;exact h1.symm
theorem Qz {e f g v v2 w w2 u u2:Int}{l:List Tm}(hl:l.length≤1000000):∀(q i:Nat) (d:Nat),q+i=l.length→d≤i→
  cS e f g d l (l.length:Int) i v v2 w w2 u u2=cS e f g ((d+((l.drop i).filter qd).length:Nat):Int) l (l.length:Int) (l.length:Int) v v2 w w2 u u2
 |0,i,d,h,hd=>by
  obtain rfl:i=l.length:=by omega
  rw[List.drop_length];rfl
 |q+1,i,d,h,hd=>by
  have hi:i<l.length:=by omega
  rw[qN,lx,ax (by omega),fh th hi,bM (i:=i) (by omega),ef th hi,List.filter_cons];by_cases h2:0≤(l.getD i th).2.1
  ·have e1:decide ((l.getD i th).2.1≥0)=true:=decide_eq_true h2;have e2:qd (l.getD i th)=true:=decide_eq_true h2;rw[e1,cT,bM (i:=d) (by omega),e2,if_pos rfl,Qz hl q (i+1) (d+1) (by omega) (by omega),List.length_cons];rw[show d+1+((l.drop (i+1)).filter qd).length=d+(((l.drop (i+1)).filter qd).length+1) by omega]
  ·have e1:decide ((l.getD i th).2.1≥0)=false:=decide_eq_false h2;have e2:qd (l.getD i th)=false:=decide_eq_false h2;rw[e1,cF,e2,if_neg (by simp),Qz hl q (i+1) d (by omega) (by omega)]
theorem alb {l:Gn}(hl:l.length≤1000000000000000000)(hs:∀s∈l,s.length≤1000000000000000000){values turns:List Int}(hv:values.length≤1000000000000000000)(ht:turns.length≤1000000000000000000)(field:Int):
  qC (l,(values,(field,(turns,()))))=some true:=by
 obtain⟨r,r1,r2⟩:=age hl hs hv ht field (most:=30) (by omega);obtain⟨p,aa,u⟩:=r;have h0:fi p aa=0:=r2.2.2;have h20:ak1 aa:=fun j hj=>(r2.2.1 _ (ay (d:=gq) hj)).1.2;have hz:Sz aa:=r2.sz (by omega);have hlen:aa.length≤30:=r2.1;have e30:((30:Nat):Int)=30:=rfl;have e0:((0:Nat):Int)=0:=rfl;rw[e30] at r1;obtain⟨a1,a2⟩:=ad8 h0;obtain⟨b1,b2⟩:=aa3 h0 h20;have c1:Vv p aa.length (pf aa.length (pf aa.length (mx aa))) (RS p aa aa.length):=a1.congr fun r k hr hk=>by unfold pf;rw[show aa.length - 1 - (aa.length - 1 - r)=r by omega,show aa.length - 1 - (aa.length - 1 - k)=k by omega]
 have f1:∀t∈yX (j8 p aa aa.length aa.length).2.1 0 aa.length,Gk aa.length t∈yX (j8 p (gz aa) aa.length aa.length).2.1 0 aa.length:=fun t ht=>Sq a1 b1 a2 b2 ht;have f2:∀t∈yX (j8 p (gz aa) aa.length aa.length).2.1 0 aa.length,Gk aa.length t∈yX (j8 p aa aa.length aa.length).2.1 0 aa.length:=fun t ht=>Sq b1 c1 b2 a2 ht;have g1:=alT f1 fun t ht=>a2.range ht;have g2:=alT f2 fun t ht=>b2.range ht;have s1:=agj hz h0;obtain⟨a,c,s2,s3,s4,s5⟩:=anz hz h0 b1;obtain⟨a',c',s6,s7⟩:=anA hz h0 h20;obtain⟨hp,_,hg⟩:=mf h0;obtain⟨_,_,hg'⟩:=mf (UL h0 h20);rw[KL] at hg';rw[aa7 (sI hp (fun j hj=>(hg j hj).bd) _ (Nat.le_refl _))] at s5;rw[aa7 (sI hp (fun j hj=>(hg' j hj).bd) _ (Nat.le_refl _))] at s7;have hL:=Np (j8 p aa aa.length aa.length).2.1 aa.length 0;have hw:=Qz (e:=0) (f:=0) (g:=0) (v:=sm (UR p aa aa.length) aa.length) (v2:=0) (w:=a) (w2:=c) (u:=a') (u2:=c') (l:=yX (j8 p aa aa.length aa.length).2.1 0 aa.length) (by omega) (yX (j8 p aa aa.length aa.length).2.1 0 aa.length).length 0 0 (by omega) (Nat.le_refl 0);rw[e0,List.drop_zero,Nat.zero_add] at hw;have q1:decide (a≥0)=true:=decide_eq_true s3;have q2:decide (a≤sm (UR p aa aa.length) aa.length)=true:=decide_eq_true s4;rw[FD,vN,aiL,bS,Bool.not_true,cF];simp only;rw[r1,bS];simp only;rw[s1,bS,s2,bS,s6,bS];simp only;rw[hw,qN,lx,aq (by omega),gT rfl,gT rfl,gT rfl,gT rfl,gT s5,gT (by omega),q1,cT,q2]
theorem ajo (r:acA.den)(hr:Bnd acA r):qC r=some true:=by obtain⟨l,v,f,t,u'⟩:=r;obtain⟨h1,h2,h3,h4⟩:=afS hr;exact alb h1 h2 h3 h4 f
end Go.Proofs.YtofjebmoebhiiaaGreatDoor.Ev
namespace Go.Proofs.YtofjebmoebhiiaaGreatDoor.clearLess
open Go.ChangeShapes Go.WideShapes Go.ChangeAt Go.RowKit
theorem laidOut:laidOutB Tryz.prog=true:=by kernel_rfl
theorem apO:Go.Abs.lays Tryz.prog Go.Abs.acA 28=true:=by kernel_rfl
theorem walk (W:World)(h:laidMetH Tryz.prog clearLaid.laid W)(l0:Array Value)(x0:Go.Abs.acA.den)(w0:Go.Abs.Rel (Go.Abs.wv W) Go.Abs.acA x0 l0.toList)(b0:Go.Abs.Bnd Go.Abs.acA x0):Calls Tryz.prog 10 #[.agg l0] W fun e w'=>e= .returned (.bool true)∧Below W.heap.size W w':=
 Go.Abs.aoL (T:=Ev.T) (V0:=fun key u=>∃ad:Addr,key= .cell ad∧W.cell? ad=some u) (w:=W) (v:=10) (xh:=x0) (yh:=true) ((Go.Abs.afa Ev.ady Ev.akx Ev.amK) 10 x0 true (Ev.ajo x0 b0) rfl) rfl HEq.rfl
   (fun ad u ⟨Pw,e,hc⟩=>by cases e;exact hc) (clearLaid.aks h) ⟨_,rfl,Go.Abs.wT.mono (fun key u ⟨ad,e,h⟩=>⟨ad,e,by rw[←e];exact⟨ad,e,h⟩⟩) (Go.Abs.amH w0)⟩
theorem lifted (os:Os)(started:os.Started)(H:Type)(enc:TypeId×Value→H):
  ReturnsInHanded {} Tryz.checked os 10 .any (fun w args=>(Rows.clearLessSpec.pre enc Tryz.prog Tryz.f10 [] false w args∧laidMetH Tryz.prog clearLaid.laid w)∧sizedMet enc Tryz.prog Tryz.f10 (OpenSpec.ofChange Rows.clearLessSpec) false w args)
   (Rows.clearLessSpec.post enc Tryz.prog Tryz.f10 false true false false):=by
 refine returnsInHanded_of_change_and (C:=Tryz.checked) (X:=fun w _=>laidMetH Tryz.prog clearLaid.laid w) (fun _ _ _ hh h=>h.of_heap hh) clearLaid.own started (by kernel_rfl) Tryz.func10
  (ChangeSpec.witness_shaped (enc:=enc) (C:=Tryz.checked) (os:=os) (X:=fun w _=>laidMetH Tryz.prog clearLaid.laid w) false (World.doorLaid Tryz.prog 19 os) #[.agg #[.slice none 0 0, .slice none 0 0, .int .i64 0, .slice none 0 0]] 8 rfl (World.shaped_of_RefB (by kernel_rfl) (by kernel_rfl)) (by kernel_rfl) (by kernel_rfl) (by kernel_rfl) (clearLaid.ah2 os _)) ?_
 intro W base args ds gs before alU hW _ apP hL _;have hsz:(DataW.weightsEach Tryz.prog (Tryz.f10.params.toList++Rows.clearLessSpec.plain.varTypes Tryz.prog) (ds++gs)).all (· ≤reachBytes)=true:=apP;have hval:∀(j:Nat) t v,Tryz.f10.params[j]? =some t→args[j]? =some v→Value.okWide Tryz.prog W .any base t v:=alU;have hW':=hW;obtain⟨p,q,hA0,hV,rfl,hfz,hnd⟩:=hW;have hA:DataW.TrodAll enc Tryz.prog W 0 (fun _=>true) true Tryz.f10.params.toList args.toList ds p:=hA0;rw[Tryz.params10] at hA hval hsz;obtain⟨v0,vs0,d0,ds0,q0_,q0,hargs,rfl,rfl,h0,r0⟩:=trodAll_cons hA;obtain⟨rfl,rfl,rfl⟩:=trodAll_nil r0;obtain rfl:args= #[v0]:=by cases args;simp_all
 obtain⟨rfl,rfl⟩:=trodVars_none hV;obtain⟨l0,rfl,z0⟩:=okWide_struct Tryz.underlying28 (hval 0 28 v0 rfl rfl);have lt0:∀x∈q0_,x.block<W.heap.size:=by obtain⟨m,hm⟩:=h0;exact DataW.trod_lt m _ _ _ hm
 obtain⟨x0,w0,b0⟩:=Go.Abs.amG apO h0 hsz (j:=0) rfl rfl;clear hA0 alU apP hsz;refine(walk W hL l0 x0 w0 b0).mono fun e W' ⟨he,bel⟩=> ?_;subst he;exact⟨_,rfl,_,_,_,[],_,[],hW',trodAll_mk1 (shut_bool Tryz.underlying4 _),(trodAll_cons_mk (Below.trod laidOut (by kernel_rfl) (of_decide_eq_true (by kernel_rfl)) h0 bel lt0) trodAll_mk0),rfl,bel.frame _,fun h=>by cases h⟩
theorem over:Rows.clearLessRow.holds Tryz.pinned (OpenSpec.ofChange Rows.clearLessSpec):=
 OpenClaim.holds_of_wide 10 Tryz.f10 rfl rfl rfl rfl rfl rfl rfl ⟨rfl,rfl,rfl,rfl,rfl⟩ rfl rfl rfl rfl rfl (by kernel_rfl) Tryz.func10 (by kernel_rfl)
  (of_decide_eq_true (by kernel_rfl)) (by unfold Func.isWrapper;first | (rw[if_pos (by decide+kernel)];kernel_rfl) | (rw[if_neg (by decide+kernel)];exact⟨rfl,rfl⟩))
  (fun os started H enc _=>lifted os started H enc)
theorem arW:Rows.ClearLessCardSaid:=
 Claim7.holds_tied_plain_at .later [] [.funcs, .funcs] true (true, "646fabaf2cebbacc9a084797f15646a8f53b2861734cfa52447632ca260b63f2") false
  over (fun _ h=>by cases h) (by kernel_rfl) (fun _ h=>by cases h) clearLess_row_tie rfl ⟨rfl,rfl⟩ (by kernel_rfl) rfl
  (fun f fn hf hfn=>by
   obtain rfl:f=10:=Option.some.inj ((show Tryz.prog.funcNamed "torus/toruslaw22.ClearLess" =some 10 by kernel_rfl).symm.trans hf) |>.symm
   obtain rfl:fn=Tryz.f10:=(Option.some.inj (Tryz.func10.symm.trans hfn)).symm;exact⟨by kernel_rfl,fun j t ht=>by
    rw[Tryz.params10] at ht;have hj:j<1:=by
     rcases Nat.lt_or_ge j 1 with h |h
     ·exact h
     ·rw[Array.getElem?_eq_none (by simpa using h)] at ht;cases ht
    match j,hj with
    |0,_=>(obtain rfl:t=28:=by simpa using ht.symm);exact(show Tryz.prog.wantsStandIn 28=false by kernel_rfl)⟩)
  (by kernel_rfl)
end Go.Proofs.YtofjebmoebhiiaaGreatDoor.clearLess
namespace Go.Proofs.YtofjebmoebhiiaaGreatDoor
theorem clearLess_holds:Rows.ClearLessCardSaid:=clearLess.arW
#print axioms clearLess_holds
end Go.Proofs.YtofjebmoebhiiaaGreatDoor
