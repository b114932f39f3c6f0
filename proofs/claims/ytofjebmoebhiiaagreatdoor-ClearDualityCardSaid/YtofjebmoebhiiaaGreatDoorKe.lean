/- YtofjebmoebhiiaaGreatDoorKe: a part of the proof (Sb3, Base, PA ..). No condition. -/
import Derived.Test.YtofjebmoebhiiaaGreatDoorKd
import Derived.Lib.Bytealg
import Derived.Laws.StandIn
import Derived.WalkKit
import Derived.IntWalk
import Derived.Laws.Bits64
set_option linter.unusedVariables false
set_option linter.unusedSimpArgs false
set_option maxRecDepth 100000
set_option exponentiation.threshold 2000
namespace Go.Proofs.YtofjebmoebhiiaaGreatDoor.Ev
open Go.Abs Go.RowKit Go.Lib Go.Sort
abbrev tTb:Ty:= .st (.pair (.int .i64) (.pair (.int .i64) .unit))
theorem QF {V:View}:∀{l:List (Int×Int×Unit)} {bm:List (List Value)},aA (Go.Abs.Rel V tTb) l bm→bm=l.map fun t=>[Value.int .i64 t.1,Value.int .i64 t.2.1]
 | [],[],_=>rfl
 |t::l,ys::bm,h=>by
  obtain⟨h1,h2⟩:=h
  have h1':∃a b,ys=a++b∧a=[Value.int .i64 t.1]∧∃c d,b=c++d∧c=[Value.int .i64 t.2.1]∧d=[]:=h1
  obtain⟨a,b,rfl,rfl,c,d,rfl,rfl,rfl⟩:=h1'
  rw[QF h2]
  rfl
theorem QG {V:View}:∀(l:List (Int×Int×Unit)),aA (Go.Abs.Rel V tTb) l (l.map fun t=>[Value.int .i64 t.1,Value.int .i64 t.2.1])
 | []=>trivial
 |t::l=>⟨⟨[Value.int .i64 t.1],[Value.int .i64 t.2.1],rfl,rfl,[Value.int .i64 t.2.1],[],rfl,rfl,rfl⟩,QG l⟩
abbrev CP (xs:List El):List Value:=(xs.map Jr).flatten
theorem EE:∀(xs:List El),(CP xs).length=xs.length*2
 | []=>rfl
 |x::r=>by
  have:=EE r
  simp only[CP,List.map_cons,List.flatten_cons,List.length_append,List.length_cons] at this ⊢
  have e:(Jr x).length=2:=rfl
  omega
theorem Tk:∀(xs:List El) (t:Nat),t<xs.length*2→(CP xs)[t]? =some ((Jr (xs.getD (t / 2) default))[t % 2]!)
 | [],t,h=>by simp at h
 |x::r,0,_=>rfl
 |x::r,1,_=>rfl
 |x::r,t+2,h=>by
  have ih:=Tk r t (by simp at h;omega)
  have e1:(t+2) / 2=t / 2+1:=by omega
  have e2:(t+2) % 2=t % 2:=by omega
  rw[e1,e2]
  exact ih
theorem Zk (d:Array El)(t:Nat)(h:t<d.size*2):(CP d.toList)[t]? =some (flatK Jr 2 d)[t]! :=by
 rw[get_flatK Jr 2 d t h,Tk d.toList t (by simpa using h)]
 have:d.toList.getD (t / 2) default=d[t / 2]! :=by simp[List.getD,Array.getElem!_eq_getD]
 rw[this]
theorem ag9 {w:World}{blk n:Nat}{d:Array El}{os:Array Obj}{cur:Array Value}{e:TypeId}{fr:Nat×Nat}(h:w.heap[blk]? =some (.cells cur e fr))(hs:d.size*2≤cur.size):
  ∃aer,(sortWorldK Jr 2 w blk 0 n d os).heap[blk]? =some (.cells aer e fr)∧aer.size=cur.size∧aer.toList.take (d.size*2)=CP d.toList:=by
 have hlt:blk<w.heap.size:=(Array.getElem?_eq_some_iff.1 h).1
 refine⟨putCells id 0 (flatK Jr 2 d) cur, ?_,by simp[putCells], ?_⟩
 ·show ((w.heap.modify blk _)++os)[blk]? =_
  rw[Array.getElem?_append_left (by simpa using hlt),Array.getElem?_modify]
  simp[h,onCells]
 ·apply List.ext_getElem?
  intro t
  by_cases ht:t<d.size*2
  ·rw[Zk d t ht,List.getElem?_take,if_pos ht,Array.getElem?_toList,putCells,Array.getElem?_mapIdx,Array.getElem?_eq_getElem (by omega),Option.map_some,if_pos ⟨Nat.zero_le _,by rw[size_flatK];omega⟩]
   rfl
  ·rw[List.getElem?_eq_none (by simp;omega),List.getElem?_eq_none (by rw[EE];simp;omega)]
theorem aha {w:World}{blk n k:Nat}{d:Array El}{os:Array Obj}(hk:k<w.heap.size)(h:k≠blk):(sortWorldK Jr 2 w blk 0 n d os).heap[k]? =w.heap[k]? :=by
 show ((w.heap.modify blk _)++os)[k]? =_
 rw[Array.getElem?_append_left (by simpa using hk),Array.getElem?_modify]
 simp[Ne.symm h]
theorem ajs {w:World}{blk n:Nat}{d:Array El}{os:Array Obj}:Grow (fun k=>k=blk) w (sortWorldK Jr 2 w blk 0 n d os):=
 ⟨rfl,rfl,rfl,size_sortWorldK_c Jr 2 w blk 0 n d os,fun k hk hn=>aha hk hn⟩
theorem holds_of {w:World}{blk:Nat}{l:List (Int×Int×Unit)}{cur:Array Value}{e:TypeId}(h:w.heap[blk]? =some (.cells cur e (0,0)))(hc:cur.toList.take (l.length*2)=CP (l.map Uu))(hs:l.length*2≤cur.size):HoldsK Jr 2 w blk 0 (l.map Uu).toArray:=by
 intro j hj
 rw[size_flatK] at hj
 have hj':j<l.length*2:=by simpa using hj
 refine⟨?_, ?_⟩
 ·have:=Zk (l.map Uu).toArray j hj
  rw[←hc,List.getElem?_take,if_pos hj',Array.getElem?_toList] at this
  simp only[World.cell?,h,Nat.zero_add]
  exact this
 ·simp[World.frozen?,h]
theorem VB:∀{l:List (Int×Int×Unit)},(∀x∈l,0≤x.1∧x.1<1000000000)→(l.map fun t=>[Value.int .i64 t.1,Value.int .i64 t.2.1]).flatten=CP (l.map Uu)
 | [],_=>rfl
 |t::l,h=>by
  have ih:=VB (l:=l) fun x hx=>h x (List.mem_cons_of_mem _ hx)
  have e:=aku (h t List.mem_cons_self)
  have e1:Jr (Uu t)=[Value.int .i64 t.1,Value.int .i64 t.2.1]:=by
   have e2:((Uu t).1.val:Int)=t.1:=congrArg (·.1) e
   show [Value.int .i64 ((Uu t).1.val:Int),Value.int .i64 t.2.1]=_
   rw[e2]
  simp only[CP,List.map_cons,List.flatten_cons,e1] at ih ⊢
  rw[ih]
theorem PI:∀(xs:List El),CP xs=((xs.map ofE).map fun t=>[Value.int .i64 t.1,Value.int .i64 t.2.1]).flatten
 | []=>rfl
 |x::r=>by
  have ih:=PI r
  simp only[CP,List.map_cons,List.flatten_cons] at ih ⊢
  rw[ih];rfl
theorem Zl {l:List (Int×Int×Unit)}{d':Array El}(hr:∀x∈l,0≤x.1∧x.1<1000000000)(hd:Ds l)(hp:PermIn 0 (l.map Uu).toArray.size (l.map Uu).toArray d')(hs:SortedIn (ltOf cfE) 0 (l.map Uu).toArray.size d'):d'.toList.map ofE=Ab l∧d'.size=l.length:=by
 have hsz:d'.size=l.length:=by rw[hp.1];simp
 have hx:(d'.extract 0 (l.map Uu).toArray.size)=d':=by
  rw[←hp.1];simp
 have hy:((l.map Uu).toArray.extract 0 (l.map Uu).toArray.size)=(l.map Uu).toArray:=by simp;exact List.take_of_length_le (by simp)
 have akv:=hp.2.2
 rw[hx,hy] at akv
 have hb:(l.map Uu).map ofE=l:=by
  rw[List.map_map]
  have:∀{l:List (Int×Int×Unit)},(∀x∈l,0≤x.1∧x.1<1000000000)→l.map (ofE ∘ Uu)=l:=fun {l} h=>by
   induction l with
   |nil=>rfl
   |cons t l ih=>
    rw[List.map_cons,ih fun x hx=>h x (List.mem_cons_of_mem _ hx)]
    congr 1
    exact aku (h t List.mem_cons_self)
  exact this hr
 have hq:(d'.toList.map ofE).Perm l:=by
  have:=akv.map ofE
  rwa [hb] at this
 refine⟨ag7 hd hq ?_,hsz⟩
 rw[List.pairwise_map,List.pairwise_iff_getElem]
 intro i j hi hj hij
 have hi':i<d'.size:=by simpa using hi
 have hj':j<d'.size:=by simpa using hj
 have h1:=hs i j (Nat.zero_le _) hij (by rw[←hp.1];exact hj')
 rw[ltE,getElem!_pos d' i hi',getElem!_pos d' j hj'] at h1
 simp only[decide_eq_false_iff_not,Nat.not_lt] at h1
 show ((d'.toList[i].1.val:Nat):Int)≤((d'.toList[j].1.val:Nat):Int)
 simp only[Array.getElem_toList]
 omega
abbrev hr3 (hp:List (Option (List (Int×Int×Unit)))):aT:=⟨58,tTb,0,true,hp⟩
theorem anL (hp:List (Option (List (Int×Int×Unit)))):((cj T).set 3 (hr3 hp))[3]? =some (hr3 hp):=rfl
theorem alM (hp:List (Option (List (Int×Int×Unit)))):((cj T).set 3 (hr3 hp)).set 3 (hr3 hp)=(cj T).set 3 (hr3 hp):=rfl
theorem alN (x:(Nat×Unit)×List (Option (List (Int×Int×Unit))))(y:Unit×List (Option (List (Int×Int×Unit))))(h:agZ x.1.1 x.2=some y):L5 Tryz.prog T 50 x y:=by
 obtain⟨⟨n,u⟩,hp⟩:=x
 obtain⟨yu,hp'⟩:=y
 refine⟨⟨_,Tryz.func50,by kernel_rfl,by kernel_rfl⟩,fun E ν args d hE hG hC hst hargs=> ?_⟩
 replace hst:St E (aF ((cj T).set 3 (hr3 hp))) ⟨#[],[]⟩ E.w0 ν (fun _=>False):=hst
 obtain⟨v1,r1,e1,hv,v2,e2,vs,e3,hvs⟩:∃v1 r1,args.toList=v1::r1∧bC (view E (aF ((cj T).set 3 (hr3 hp))) ν (fun _=>False) E.w0) ⟨.ref 3,n⟩ v1∧∃v2,r1=[v2]∧∃vs:List Value,v2= .func (.func 51) #[] vs.toArray∧vs=[]:=hargs
 subst hvs e3 e2
 obtain rfl:args= #[v1, .func (.func 51) #[] #[]]:=by cases args;simp_all
 have fin:∀(w':World) (ν':Nm→Value),St E (aF (((cj T).set 3 (hr3 hp)).set 3 (hr3 hp'))) ⟨#[],[]⟩ w' ν' (fun _=>False)→Go.Abs.Left T E 50 ((n,u),hp) (yu,hp') d (.returned (.tuple #[])) w':=fun w' ν' hs=>
  ⟨.tuple #[],ν',rfl,hs,⟨[],rfl,trivial⟩⟩
 cases n with
 |zero=>
  have e:v1= .slice none 0 0:=by
   rcases Ir hv with ⟨_,e⟩ | ⟨h1,_⟩
   ·exact e
   ·omega
  subst e
  obtain rfl:hp=hp':=by have h':some ((),hp)=some (yu,hp'):=h;simpa using h'
  refine(Zj 0 none _ E.w0).mono ?_
  rintro e w' ⟨rfl,rfl⟩
  exact fin _ ν (by rw[alM];exact hst)
 |succ n=>
  have h':((ag hp (n+1)).bind fun l=>bif Nat.ble l.length 1000000&&okT l then some ((),jg hp (n+1) (Ab l)) else none)=some (yu,hp'):=h
  obtain⟨l,hl,h2⟩:=Option.bind_eq_some_iff.1 h'
  cases hc:Nat.ble l.length 1000000&&okT l with
  |false=>rw[hc] at h2;cases h2
  |true=>
   rw[hc] at h2
   obtain rfl:jg hp (n+1) (Ab l)=hp':=by simpa using h2
   simp only[Bool.and_eq_true,Nat.ble_eq,acF] at hc
   obtain⟨hlen,hr,hd⟩:=hc
   have hh:(aF ((cj T).set 3 (hr3 hp))).ae[3]? =some (hr3 hp):=anL hp
   obtain⟨⟨bm,hown,hall⟩,hO,EN⟩:=hst.JZ hh hl hv
   rcases EN with ⟨h0,_⟩ | ⟨h1,_,h3⟩
   ·omega
   ·have hy:=QF hall
    subst hy
    obtain⟨_,hown⟩:=hown
    rcases hown with ⟨e,_⟩ | ⟨g,cap,cur,e,_,hg,hn,hm,hcs,G9⟩
    ·have hnn:=hst.nn 3 (hr3 hp) (n+1) hh h1 (JV hl)
     rcases hnn with ⟨_,g,m,c,e4⟩ | ⟨e4,_⟩
     ·rw[←h3,e] at e4;cases e4
     ·cases e4
    ·have hcell:cur.toList.take (l.length*2)=CP (l.map Uu):=by rw[←VB hr];exact G9
     have anM:l.length*2≤cur.size:=by rw[hcs];exact Nat.mul_le_mul_right 2 hn
     have hgl:g<E.w0.heap.size:=(Array.getElem?_eq_some_iff.1 hg).1
     have hsz:(l.map Uu).toArray.size=l.length:=by simp
     have hs:=alL g cap (l.map Uu).toArray E.w0 (holds_of hg hcell anM) hgl (by rw[hsz];omega)
     have e5:v1= .slice (some ⟨g,0,none⟩) (l.map Uu).toArray.size cap:=by rw[hsz];exact e
     rw[e5]
     refine hs.mono ?_
     rintro e6 w' ⟨rfl,d',m,os,hp1,hs1,rfl⟩
     obtain⟨q1,q2⟩:=Zl hr hd hp1 hs1
     have e7:d'.size*2≤cur.size:=by rw[q2];exact anM
     obtain⟨aer,c1,c2,c3⟩:=ag9 (n:=m) (os:=os) (d:=d') hg e7
     refine fin _ (Nn ν 3 (n+1) (ν (.hp 3 (n+1)))) ?_
     refine hst.af6 hE (hr:=hr3 hp) (l:=l) (l':=Ab l) hh rfl h1 hl (g:=g) (by rw[←h3,e];rfl) ajs fun V' hV=> ?_
     have alO:(Ab l).length=l.length:=by rw[←q1];simp[q2]
     rw[←h3,e]
     refine⟨⟨_,_,_,rfl⟩,((Ab l).map fun t=>[Value.int .i64 t.1,Value.int .i64 t.2.1]),⟨?_, .inr ⟨g,cap,aer, ?_,Nat.zero_le _,c1, ?_,hm,by rw[c2];exact hcs, ?_⟩⟩,QG _⟩
     ·rw[←q1, ←PI,EE];simp;rfl
     ·show Value.slice (some ⟨g,0,none⟩) l.length cap=Value.slice (some ⟨g,0,none⟩) (Ab l).length cap
      rw[alO]
     ·show (Ab l).length≤cap
      rw[alO];exact hn
     ·show aer.toList.take ((Ab l).length*2)=_
      rw[alO, ←q2,c3,PI,q1]
end Go.Proofs.YtofjebmoebhiiaaGreatDoor.Ev
namespace Go.Proofs.YtofjebmoebhiiaaGreatDoor.Ev
open Go.Abs Go.RowKit Go.Lib
theorem alP (s:ByteArray)(c:Int)(w:World):(callFunc 177 #[.string s, .int .u8 c]).run Tryz.prog w= .ok (.value (.int .i64 (indexByte s.data.toList c.toNat.toUInt8))) w:=by
 rw[run_callFunc_indexByte Tryz.func177 (by kernel_rfl) (by kernel_rfl) (by kernel_rfl) (by kernel_rfl),run_indexByteString]
 rfl
theorem ajt (s:ByteArray)(c:Int)(W:World):Calls Tryz.prog 165 #[.string s, .int .u8 c] W fun e w'=>e= .returned (.int .i64 (indexByte s.data.toList c.toNat.toUInt8))∧w'=W:=by
 have hd:=alP s c W
 go_enter Tryz.func165,Tryz.ntmps165
 go_wp2
 go_ret
 exact⟨rfl,rfl⟩
theorem Js (c:Int)(hc:0≤c)(hc2:c<256):∀(l:List UInt8) (i:Nat),Uj c i l=bif Go.Lib.indexByte l c.toNat.toUInt8== -1 then -1 else i+Go.Lib.indexByte l c.toNat.toUInt8
 | [],i=>rfl
 |x::r,i=>by
  have ih:=Js c hc hc2 r (i+1)
  have hge:=indexByte_ge r c.toNat.toUInt8
  have e:((x.toNat:Int)==c)=(x==c.toNat.toUInt8):=by
   rw[Bool.eq_iff_iff,beq_iff_eq,beq_iff_eq]
   constructor
   ·intro h;subst h;simp
   ·intro h;subst h;simp;omega
  simp only[Uj,indexByte,e,ih]
  generalize c.toNat.toUInt8=u at hge ⊢
  cases hx:(x==u) with
  |true=>simp
  |false=>
   cases hi:(indexByte r u== -1) with
   |true=>simp
   |false=>
    have h1:(indexByte r u+1== -1)=false:=by rw[beq_eq_false_iff_ne];omega
    simp[h1]
    omega
theorem MO {T:cm}{v d:Nat}{xh:A9 T v}{yh:xe T v}(hh:(T.sig v).ae=[])(hu:Ko d (T.sig v) (uO _ yh)=[]):wG T v d xh yh=aF (aI T v xh):=by
 unfold wG
 rw[hu]
 have:∀{hs:List Nat} (h:hs=[]) (x:D4 T hs) (l:List aT),p8 T hs hs x l=l:=fun h x l=>by subst h;rfl
 unfold qf
 rw[this (by simp[HY.hout,hh])]
 rfl
theorem aju (x:ByteArray×Int)(y:Int)(h:(bif decide (0≤x.2)&&decide (x.2<256) then some (Uj x.2 0 x.1.data.toList) else none)=some y):L5 Tryz.prog T 165 x y:=by
 refine⟨⟨_,Tryz.func165,by kernel_rfl,by kernel_rfl⟩,fun E ν args d hE hG hC hst hargs=> ?_⟩
 have hs:wG T 165 d x y=aF (aI T 165 x):=MO rfl rfl
 obtain⟨s,c⟩:=x
 obtain⟨v1,r1,e1,h1,v2,e2,h2⟩:mo _ [.v .str, .v (.int .u8)] (s,c) args.toList:=hargs
 have h1': [v1]=[.string s]:=h1
 have h2': [v2]=[.int .u8 c]:=h2
 simp only[List.cons.injEq,and_true] at h1' h2'
 subst h1' h2' e2
 obtain rfl:args= #[.string s, .int .u8 c]:=by cases args;simp_all
 cases hc:decide (0≤c)&&decide (c<256) with
 |false=>simp only[hc,cond_false] at h;cases h
 |true=>
  simp only[Bool.and_eq_true,decide_eq_true_eq] at hc
  refine(ajt s c E.w0).mono fun e w' ⟨he,hw⟩=> ?_
  subst he hw
  refine⟨_,ν,rfl,by rw[hs];exact hst, ?_⟩
  rw[hs]
  have e3:y=indexByte s.data.toList c.toNat.toUInt8:=by
   have h':Uj c 0 s.data.toList=y:=by simpa [hc.1,hc.2] using h
   rw[←h',Js c hc.1 hc.2]
   cases hi:(indexByte s.data.toList c.toNat.toUInt8== -1) with
   |true=>simpa using (beq_iff_eq.1 hi).symm
   |false=>simp
  rw[e3]
  show [Value.int .i64 _]=[Value.int .i64 _]
  rfl
abbrev aes:bF T:=fun _ _=>none
theorem ap1:Yu Tryz.prog T aes:=fun v xh yh h=>by cases h
theorem anN:YU Tryz.prog T aes:=fun v xh yh h=>by cases h
theorem alQ:Tryz.f84.body.isSome=true:=by kernel_rfl
noncomputable def Tl:Code:=Tryz.f84.body.get alQ
theorem anO:Tryz.f84.body=some Tl:=by kernel_rfl
theorem aa4:Io T Tryz.f84 Tl aes 0 100084 (none:Option (List tTb.den))=some ([]:List tTb.den):=by kernel_rfl
theorem aa5 (x:List tTb.den):Io T Tryz.f84 Tl aes 0 100084 (some x:Option (List tTb.den))=bif aE 16 2 0 x.length then some x else none:=by kernel_rfl
theorem ahb {E:Env}{x:A9 T 84}{z:A9 T 100084}(h:Go.Abs.Callee T E 84 x):Go.Abs.Callee T E 100084 z:=
 ⟨h.j,h.m,h.om,h.acc,fun i k hi=>h.hx i k (fun hm:i∈([]:List Nat)=>by cases hm),fun i=>by
   have:=h.ro i
   exact this⟩
theorem ahc (o:Option (List tTb.den))(y:List tTb.den)(h:Io T Tryz.f84 Tl aes 0 100084 o=some y):L5 Tryz.prog T 100084 o y:=
 SR (v:=100084) acD ap1 anN Tryz.func84 anO (by kernel_rfl) rfl h
theorem alR (x y:List tTb.den)(h:(bif aE 16 2 0 x.length then some x else none)=some y):L5 Tryz.prog T 84 x y:=by
 refine⟨⟨_,Tryz.func84,by kernel_rfl,by kernel_rfl⟩,fun E ν args d hE hG hC hst hargs=> ?_⟩
 have hs0:∀z:A9 T 84,aI T 84 z=cj T:=fun z=>Dh rfl
 have hs1:∀z:A9 T 100084,aI T 100084 z=cj T:=fun z=>Dh rfl
 have go:∀o:Option (List tTb.den),Io T Tryz.f84 Tl aes 0 100084 o=some y→mo (view E (aF (cj T)) ν (fun _=>False) E.w0) [.v (.o6 tTb)] o args.toList→Calls Tryz.prog 84 args E.w0 (Go.Abs.Left T E 84 x y d):=fun o ho ha=>by
  refine((ahc o y ho).2 E ν args d hE hG (ahb hC) (by rw[hs1 o];rw[hs0 x] at hst;exact hst) (by rw[hs1 o];exact ha)).mono ?_
  rintro e w' ⟨r,ν',rfl,h1,h2⟩
  have e1:wG T 100084 d o y=aF (cj T):=(MO (T:=T) (v:=100084) rfl rfl).trans (congrArg aF (hs1 o))
  have e2:wG T 84 d x y=aF (cj T):=(MO (T:=T) (v:=84) rfl rfl).trans (congrArg aF (hs0 x))
  rw[e1] at h1 h2
  refine⟨r,ν',rfl,by rw[e2];exact h1, ?_⟩
  rw[e2]
  exact h2
 rw[hs0 x] at hst hargs
 obtain⟨v,e1,A,c,bm,h1,h2,h3,h4,h5⟩:mo _ [.v (.slice tTb)] x args.toList:=hargs
 simp only[List.cons.injEq,and_true] at h1
 subst h1
 cases A with
 |none=>
  have hx:x=[]:=List.eq_nil_of_length_eq_zero (Nat.le_zero.1 (by have h6:=h4 rfl;subst h6;exact h2))
  have hc:=h4 rfl
  subst hx hc
  have hy:y=[]:=by
   have h':(some []:Option (List tTb.den))=some y:=h
   simpa using h'.symm
  subst hy
  exact go none aa4 ⟨_,e1,rfl⟩
 |some ad=>
  refine go (some x) ((aa5 x).trans h) ⟨_,e1,ad,c,bm,rfl,h2,h3,fun j u hj=> ?_⟩
  obtain⟨OR,e2,hv⟩:=h5 j u hj
  cases e2
  exact hv
theorem ajv:aaY Tryz.prog T B:=fun v g hg=>by
 unfold B at hg
 split at hg
 ·cases hg
  exact⟨rfl,alN⟩
 ·cases hg
  exact⟨rfl,alR⟩
 ·cases hg
  exact⟨rfl,aju⟩
 ·cases hg
end Go.Proofs.YtofjebmoebhiiaaGreatDoor.Ev
namespace Go.Abs
theorem zm {a b:Int}(h:a<b):decide (a<b)=true:=decide_eq_true h
theorem w9 {a b:Int}(h:¬a<b):decide (a<b)=false:=decide_eq_false h
theorem anP {a b:Int}(h:a≤b):decide (a≤b)=true:=decide_eq_true h
theorem ahd {a b:Int}(h:¬a≤b):decide (a≤b)=false:=decide_eq_false h
theorem ahe {a b:Int}(h:a>b):decide (a>b)=true:=decide_eq_true h
theorem akw {a b:Int}(h:¬a>b):decide (a>b)=false:=decide_eq_false h
theorem acH {a b:Int}(h:a≥b):decide (a≥b)=true:=decide_eq_true h
theorem Zm {a b:Int}(h:¬a≥b):decide (a≥b)=false:=decide_eq_false h
theorem acI {a b:Int}(h:a=b):(a==b)=true:=beq_iff_eq.2 h
theorem Jt {a b:Int}(h:¬a=b):(a==b)=false:=by simpa using h
theorem ahf {a b:Int}(h:¬a=b):(a != b)=true:=by simpa [bne] using h
theorem ahg {a b:Int}(h:a=b):(a != b)=false:=by simp[bne,h]
theorem qH {xs:List Int}{i:Int}(h0:0≤i)(h:i<xs.length):idx xs i=some (xs.getD i.toNat 0):=by
 obtain⟨n,rfl⟩:=Int.eq_ofNat_of_zero_le h0
 show xs[n]? =_
 have:n<xs.length:=by omega
 simp[List.getD,this]
theorem Tn {xs:List Int}{k:Nat}(h:k<xs.length):xs[k]? =some (xs.getD k 0):=by simp[List.getD,h]
theorem acJ {α:Type}(d:α){xs:List α}{i:Int}(h0:0≤i)(h:i<xs.length):idx xs i=some (xs.getD i.toNat d):=by
 obtain⟨n,rfl⟩:=Int.eq_ofNat_of_zero_le h0
 show xs[n]? =_
 have:n<xs.length:=by omega
 simp[List.getD,this]
theorem Rr {b s n m:Nat}(h0:0<s)(h:(n+m)*b≤140737488355328):aE b s n m=true:=by
 unfold aE
 rw[Bool.and_eq_true]
 exact⟨Nat.ble_eq_true_of_le h0,Nat.ble_eq_true_of_le h⟩
theorem Oa {b:Nat}{l c:Int}(h0:0≤l)(h1:l≤c)(h2:(b:Int)*c≤140737488355328):iS b l c=true:=by
 unfold iS
 simp[h0,h1,h2]
theorem acK {n:Nat}{l h:Int}(h0:0≤l)(h1:l≤h)(h2:h≤n):c8 n l h=true:=by
 unfold c8
 simp[h0,h1,h2]
theorem anQ {a b:Nat}(h:a≤b):Nat.ble a b=true:=Nat.ble_eq_true_of_le h
def val (B:Int):List Int→Int
 | []=>0
 |x::xs=>x+B*val B xs
def gK (B:Int)(d:List Int):Prop:=∀x∈d,0≤x∧x<B
theorem gK.nil {B:Int}:gK B []:=fun x h=>by cases h
theorem gK.cons {B x:Int}{d:List Int}(h0:0≤x)(h1:x<B)(h:gK B d):gK B (x::d):=fun y hy=>by
 rcases List.mem_cons.1 hy with rfl |hy
 ·exact⟨h0,h1⟩
 ·exact h y hy
theorem gK.head {B x:Int}{d:List Int}(h:gK B (x::d)):0≤x∧x<B:=h x (by simp)
theorem gK.tail {B x:Int}{d:List Int}(h:gK B (x::d)):gK B d:=fun y hy=>h y (by simp[hy])
theorem gK.append {B:Int}{d e:List Int}(h1:gK B d)(h2:gK B e):gK B (d++e):=fun y hy=>by
 rcases List.mem_append.1 hy with hy |hy
 ·exact h1 y hy
 ·exact h2 y hy
theorem gK.left {B:Int}{d e:List Int}(h:gK B (d++e)):gK B d:=fun y hy=>h y (by simp[hy])
theorem gK.right {B:Int}{d e:List Int}(h:gK B (d++e)):gK B e:=fun y hy=>h y (by simp[hy])
theorem gK.drop {B:Int}{d:List Int}(h:gK B d)(k:Nat):gK B (d.drop k):=fun y hy=>h y (List.mem_of_mem_drop hy)
theorem gK.take {B:Int}{d:List Int}(h:gK B d)(k:Nat):gK B (d.take k):=fun y hy=>h y (List.mem_of_mem_take hy)
theorem gK.getD {B:Int}{d:List Int}(h:gK B d)(hB:0<B)(k:Nat):0≤d.getD k 0∧d.getD k 0<B:=by
 by_cases hk:k<d.length
 ·have:d.getD k 0=d[k]:=by simp[List.getD,hk]
  rw[this];exact h _ (List.getElem_mem hk)
 ·have:d.getD k 0=0:=by
   have h':d[k]? =none:=List.getElem?_eq_none (by omega)
   simp[List.getD,h']
  rw[this];exact⟨by omega,hB⟩
theorem gK.replicate {B:Int}(hB:0<B)(n:Nat):gK B (List.replicate n 0):=fun y hy=>by
 obtain⟨_,rfl⟩:=List.mem_replicate.1 hy
 exact⟨by omega,hB⟩
theorem gK.set {B x:Int}{d:List Int}(h:gK B d)(h0:0≤x)(h1:x<B)(k:Nat):gK B (d.set k x):=fun y hy=>by
 rcases List.mem_or_eq_of_mem_set hy with hy |rfl
 ·exact h y hy
 ·exact⟨h0,h1⟩
theorem kf {B:Int}(hB:0≤B):∀{d:List Int},gK B d→0≤val B d
 | [],_=>by simp[val]
 |x::d,h=>by
  have h1:=h.head.1
  have h2:=kf hB h.tail
  have:=Int.mul_nonneg hB h2
  simp only[val];omega
theorem fh (B:Int):∀(d e:List Int),val B (d++e)=val B d+B^d.length*val B e
 | [],e=>by simp[val]
 |x::d,e=>by
  simp only[List.cons_append,val,fh B d e,List.length_cons,Int.pow_succ,Int.mul_add]
  rw[←Int.mul_assoc,Int.mul_comm B (B^d.length)]
  omega
theorem LA (B:Int)(n:Nat):val B (List.replicate n 0)=0:=by
 induction n with
 |zero=>rfl
 |succ n ih=>rw[List.replicate_succ,val,ih];simp
theorem zY {B:Int}(hB:0<B):∀{d:List Int},gK B d→val B d<B^d.length
 | [],_=>by simp[val]
 |x::d,h=>by
  have h1:=h.head.2
  have h2:=zY hB h.tail
  have h3:B*(val B d+1)≤B*B^d.length:=Int.mul_le_mul_of_nonneg_left (by omega) (by omega)
  simp only[val,List.length_cons,Int.pow_succ]
  rw[Int.mul_comm (B^d.length) B]
  rw[Int.mul_add] at h3
  omega
def np:List Int→List Int
 | []=>[]
 |x::xs=>match np xs with
  | []=>if x=0 then [] else [x]
  |y::ys=>x::y::ys
theorem zn:∀d:List Int,np (d++[0])=np d
 | []=>rfl
 |x::d=>by simp only[List.cons_append,np,zn d]
theorem CQ {y:Int}(hy:y≠0):∀d:List Int,np (d++[y])=d++[y]
 | []=>by simp[np,hy]
 |x::d=>by
  simp only[List.cons_append,np,CQ hy d]
  cases d<;>rfl
theorem A4:∀d:List Int,(np d).length≤d.length
 | []=>Nat.le_refl _
 |x::d=>by
  have:=A4 d
  simp only[np]
  split
  ·split<;>simp
  ·rename_i y ys h
   rw[h] at this
   simp at this ⊢;omega
def T3 (B:Nat)(n:Nat):List Int:=if h:n=0∨B≤1 then [] else ((n % B:Nat):Int)::T3 B (n / B)
termination_by n
decreasing_by exact Nat.div_lt_self (by omega) (by omega)
theorem dW (B:Nat):T3 B 0=[]:=by rw[T3];simp
theorem yt {B n:Nat}(hB:1<B)(hn:0<n):T3 B n=((n % B:Nat):Int)::T3 B (n / B):=by
 rw[T3,dif_neg (by omega)]
theorem l9 {B n:Nat}(hB:1<B):T3 B n=[]↔n=0:=by
 constructor
 ·intro h
  by_cases hn:n=0
  ·exact hn
  ·rw[yt hB (by omega)] at h;cases h
 ·rintro rfl;exact dW B
theorem W4 {B:Nat}(hB:1<B):∀n,gK B (T3 B n):=by
 intro n
 induction n using Nat.strongRecOn with
 |ind n ih=>
  by_cases hn:n=0
  ·subst hn;rw[dW];exact gK.nil
  ·rw[yt hB (by omega)]
   have:=Nat.mod_lt n (show B>0 by omega)
   exact gK.cons (by omega) (by omega) (ih _ (Nat.div_lt_self (by omega) hB))
theorem W5 {B:Nat}(hB:1<B):∀n,val B (T3 B n)=n:=by
 intro n
 induction n using Nat.strongRecOn with
 |ind n ih=>
  by_cases hn:n=0
  ·subst hn;rw[dW];rfl
  ·rw[yt hB (by omega),val,ih _ (Nat.div_lt_self (by omega) hB)]
   have:=Nat.mod_add_div n B
   omega
theorem FI {B:Nat}(hB:1<B):∀d:List Int,gK B d→np d=T3 B (val B d).toNat
 | [],_=>by simp[np,val,dW]
 |x::d,h=>by
  have ih:=FI hB d h.tail
  have hx:=h.head
  have hv:=kf (B:=B) (by omega) h.tail
  obtain⟨v,hv'⟩:=Int.eq_ofNat_of_zero_le hv
  obtain⟨a,rfl⟩:=Int.eq_ofNat_of_zero_le hx.1
  have hab:a<B:=by omega
  simp only[np,val,hv']
  rw[hv'] at ih
  have e:((a:Int)+(B:Int)*(v:Int)).toNat=a+B*v:=by
   rw[←Int.natCast_mul, ←Int.natCast_add];exact Int.toNat_natCast _
  rw[e]
  simp only[Int.toNat_natCast] at ih
  by_cases hv0:v=0
  ·subst hv0
   rw[dW] at ih
   rw[ih]
   simp only
   by_cases ha:a=0
   ·subst ha;simp[dW]
   ·rw[yt hB (by omega)]
    have h1:(a+B*0) % B=a:=by simp[Nat.mod_eq_of_lt hab]
    have h2:(a+B*0) / B=0:=by simp[Nat.div_eq_of_lt hab]
    rw[h1,h2,dW,if_neg (by omega)]
  ·have hpos:0<a+B*v:=by
    have:0<B*v:=Nat.mul_pos (by omega) (by omega)
    omega
   rw[yt hB hpos]
   have h1:(a+B*v) % B=a:=by rw[Nat.add_mul_mod_self_left,Nat.mod_eq_of_lt hab]
   have h2:(a+B*v) / B=v:=by rw[Nat.add_mul_div_left _ _ (by omega:0<B),Nat.div_eq_of_lt hab];omega
   rw[h1,h2,ih]
   have hne:T3 B v≠ []:=fun e=>hv0 ((l9 hB).1 e)
   split
   ·rename_i e;exact absurd e hne
   ·rename_i y ys e;rw[e]
theorem aa6 {B:Nat}(hB:1<B){d:List Int}(h:gK B d)(ht:np d=d):d=T3 B (val B d).toNat:=by
 rw[←FI hB d h,ht]
theorem Ob {B:Nat}(hB:1<B)(n:Nat):np (T3 B n)=T3 B n:=by
 rw[FI hB _ (W4 hB n),W5 hB];rfl
theorem aL {B:Nat}(hB:1<B):∀(k n:Nat),(T3 B n).length≤k↔n<B^k
 |0,n=>by
  rw[Nat.pow_zero]
  constructor
  ·intro h
   have:=(l9 (n:=n) hB).1 (List.length_eq_zero_iff.1 (Nat.le_zero.1 h))
   omega
  ·intro h
   have:n=0:=by omega
   subst this;simp[dW]
 |k+1,n=>by
  by_cases hn:n=0
  ·subst hn
   simp only[dW,List.length_nil]
   exact⟨fun _=>Nat.pow_pos (by omega),fun _=>by omega⟩
  ·rw[yt hB (by omega),List.length_cons]
   have:=aL hB k (n / B)
   rw[Nat.pow_succ, ←Nat.div_lt_iff_lt_mul (by omega)]
   omega
theorem fG {B:Nat}(hB:1<B)(k n:Nat):k<(T3 B n).length↔B^k≤n:=by
 have:=aL hB k n
 omega
theorem QH {B:Nat}(hB:1<B){n:Nat}:∀{d:List Int} {y:Int},T3 B n=d++[y]→y≠0:=by
 intro d y h hy
 subst hy
 have h1:=Ob hB n
 rw[h,zn] at h1
 have h2:=A4 d
 rw[h1] at h2
 simp at h2
 omega
theorem ra (l:List Int)(k j:Nat):(l.drop k).getD j 0=l.getD (k+j) 0:=by simp[List.getD,List.getElem?_drop]
theorem drop_eq {l:List Int}{k:Nat}(h:k<l.length):l.drop k=l.getD k 0::l.drop (k+1):=by
 rw[List.drop_eq_getElem_cons h]
 simp[List.getD,h]
theorem drop_nil {l:List Int}{k:Nat}(h:l.length≤k):l.drop k=[]:=List.drop_eq_nil_of_le h
theorem getD_none {l:List Int}{k:Nat}(h:l.length≤k):l.getD k 0=0:=by
 have h':l[k]? =none:=List.getElem?_eq_none (by omega)
 simp[List.getD,h']
theorem anR {α:Type}(d:List α)(h:Int):cut d 0 h=d.take h.toNat:=by simp[cut]
end Go.Abs
namespace Go.Abs
theorem br {a b:Int}(h:0≤a):a.tmod b=a % b:=Int.tmod_eq_emod_of_nonneg h
theorem lN {a b:Int}(h:0≤a):a.tdiv b=a / b:=Int.tdiv_eq_ediv_of_nonneg h
theorem dy {l:List Int}{k:Nat}(h:k<l.length):l.take (k+1)=l.take k++[l.getD k 0]:=by
 rw[List.take_add_one]
 simp[List.getD,h]
def ml (x y:Int):Int:=if x<y then -1 else if y<x then 1 else 0
theorem mD {x y:Int}(h:x<y):ml x y= -1:=by unfold ml;rw[if_pos h]
theorem oH {x y:Int}(h:y<x):ml x y=1:=by unfold ml;rw[if_neg (by omega),if_pos h]
theorem wh {x y:Int}(h:x=y):ml x y=0:=by unfold ml;rw[if_neg (by omega),if_neg (by omega)]
theorem MP {x y:Int}:ml x y<0↔x<y:=by
 unfold ml
 by_cases h1:x<y
 ·rw[if_pos h1];omega
 ·rw[if_neg h1];split<;>omega
theorem W6 {B:Int}(hB:0<B){d e:List Int}{x y:Int}(hd:gK B d)(he:gK B e)(hl:d.length=e.length)(h:x<y):val B (d++[x])<val B (e++[y]):=by
 rw[fh,fh]
 have h1:=zY hB hd
 have h2:=kf (by omega) he
 rw[hl] at h1 ⊢
 have h3:B^e.length*(x+1)≤B^e.length*y:=Int.mul_le_mul_of_nonneg_left (by omega) (Int.pow_nonneg (by omega))
 rw[Int.mul_add] at h3
 simp only[val]
 simp only[Int.mul_zero,Int.add_zero] at*
 omega
end Go.Abs
namespace Go.Abs
section
variable {α β:Type}{x y:α}{a b:Int}
theorem cT (x y:α):(bif true then x else y)=x:=(cond_true x y).trans (Eq.refl x)
theorem cF (x y:α):(bif false then x else y)=y:=(cond_false x y).trans (Eq.refl y)
theorem bS (z:α)(f:α→Option β):(some z).bind f=f z:=(Option.bind_some z f).trans (Eq.refl _)
theorem c_t {c:Bool}(h:c=true):(bif c then x else y)=x:=by rw[h];exact cT _ _
theorem c_f {c:Bool}(h:c=false):(bif c then x else y)=y:=by rw[h];exact cF _ _
theorem au (h:a<b):(bif decide (a<b) then x else y)=x:=c_t (zm h)
theorem ao (h:¬a<b):(bif decide (a<b) then x else y)=y:=c_f (w9 h)
theorem Od (h:a≤b):(bif decide (a≤b) then x else y)=x:=c_t (anP h)
theorem Tp (h:¬a≤b):(bif decide (a≤b) then x else y)=y:=c_f (ahd h)
theorem cO (h:a>b):(bif decide (a>b) then x else y)=x:=c_t (ahe h)
theorem cZ (h:¬a>b):(bif decide (a>b) then x else y)=y:=c_f (akw h)
theorem xd (h:a≥b):(bif decide (a≥b) then x else y)=x:=c_t (acH h)
theorem uH (h:¬a≥b):(bif decide (a≥b) then x else y)=y:=c_f (Zm h)
theorem lO (h:a=b):(bif a==b then x else y)=x:=c_t (acI h)
theorem fe (h:¬a=b):(bif a==b then x else y)=y:=c_f (Jt h)
theorem kg (h:¬a=b):(bif !(a==b) then x else y)=x:=c_t (by rw[Jt h];exact Eq.refl _)
theorem FJ (h:¬a=b):(bif a != b then x else y)=x:=c_t (ahf h)
theorem mi (h:a=b):(bif a != b then x else y)=y:=c_f (ahg h)
theorem ja {p s n m:Nat}(h0:0<s)(h:(n+m)*p≤140737488355328):(bif aE p s n m then x else y)=x:=c_t (Rr h0 h)
theorem LB {p:Nat}{l c:Int}(h0:0≤l)(h1:l≤c)(h2:(p:Int)*c≤140737488355328):(bif iS p l c then x else y)=x:=c_t (Oa h0 h1 h2)
theorem FK {n:Nat}{l h:Int}(h0:0≤l)(h1:l≤h)(h2:h≤n):(bif c8 n l h then x else y)=x:=c_t (acK h0 h1 h2)
theorem ap2 {m n:Nat}(h:m≤n):(bif Nat.ble m n then x else y)=x:=c_t (anQ h)
theorem gp {xs:List Int}{i:Int}{f:Int→Option β}(h0:0≤i)(h:i<xs.length):(idx xs i).bind f=f (xs.getD i.toNat 0):=by rw[qH h0 h];exact bS _ _
theorem tN {xs:List Int}{k:Nat}{f:Int→Option β}(h:k<xs.length):(xs[k]?).bind f=f (xs.getD k 0):=by rw[Tn h];exact bS _ _
end
end Go.Abs
namespace Go.Proofs.YtofjebmoebhiiaaGreatDoor.Ev
open Go.Abs Go.IntWalk
abbrev VU (d:List Int):Int:=val 1000000000 d
abbrev DU (d:List Int):Prop:=gK 1000000000 d
abbrev dU (n:Nat):List Int:=T3 1000000000 n
theorem HV (n:Nat):DU (dU n):=W4 (B:=1000000000) (by omega) n
theorem Ju (n:Nat):VU (dU n)=n:=W5 (B:=1000000000) (by omega) n
theorem acL {d:List Int}(h:DU d):np d=dU (VU d).toNat:=FI (B:=1000000000) (by omega) d h
theorem xR {d:List Int}(h:DU d):0≤VU d:=kf (by omega) h
def W (z:Int):Bool×List Int×Unit:=(decide (z<0),dU z.natAbs,())
theorem aet:∀(n:Nat) (d:List Int),d.length=n→n≤1000000000000000→nv d=some (np d):=by
 intro n
 induction n with
 |zero=>
  intro d hd hn
  have:d=[]:=List.length_eq_zero_iff.1 hd
  subst this
  rw[BN,yj];rfl
 |succ n ih=>
  intro d hd hn
  obtain⟨d',y,rfl⟩:∃d' y,d=d'++[y]:=by
   have hne:d≠ []:=fun e=>by rw[e] at hd;cases hd
   exact⟨d.dropLast,d.getLast hne,(List.dropLast_concat_getLast hne).symm⟩
  have hl:d'.length=n:=by simpa using hd
  have hy:(d'++[y]).getD d'.length 0=y:=by simp[List.getD]
  have ht:(d'++[y]).take d'.length=d':=by simp
  rw[BN,yj]
  simp only[List.length_append,List.length_cons,List.length_nil]
  simp (disch:=omega) only[i64_in,ahe,cond_true,acK,anR]
  rw[qH (by omega) (by simp;omega)]
  have e:(((d'.length+(0+1):Nat):Int) - 1).toNat=d'.length:=by omega
  rw[e,hy,ht]
  simp only[Option.bind_some]
  by_cases h0:y=0
  ·subst h0
   rw[zn,ih d' hl (by omega)];rfl
  ·rw[Jt h0,CQ h0];rfl
theorem DR {d:List Int}(h:d.length≤1000000000000000):mN d=some (np d):=by
 rw[Qu,Mg];exact aet _ d rfl h
theorem yv {neg:Bool}{d:List Int}(hd:DU d)(h:d.length≤1000000000000000):iX neg d=some (W (bif neg then -VU d else VU d)):=by
 rw[Lm,GA,DR h,acL hd]
 have hv:=xR hd
 obtain⟨v,hv'⟩:=Int.eq_ofNat_of_zero_le hv
 rw[hv']
 simp only[Option.bind_some,Int.toNat_natCast]
 have hl:(0<(dU v).length)↔0<v:=by
  have:=fG (B:=1000000000) (by omega) 0 v
  rw[Nat.pow_zero] at this
  exact this
 cases neg with
 |true=>
  have e:decide (((dU v).length:Int)>0)=decide (-(v:Int)<0):=decide_eq_decide.2 ⟨fun h=>by have:=hl.1 (by omega);omega,fun h=>by have:=hl.2 (by omega);omega⟩
  simp only[cond_true,W,Int.natAbs_neg,Int.natAbs_natCast,e]
 |false=>
  simp only[cond_false,W,Int.natAbs_natCast]
  rw[w9 (by omega)]
theorem aeu {a b:List Int}(ha:DU a)(hb:DU b)(hl:a.length=b.length)(hl':a.length≤1000000000000):∀(k:Nat),k≤a.length→
  nu a b ((k:Int) - 1)=some (ml (VU (a.take k)) (VU (b.take k))):=by
 intro k
 induction k with
 |zero=>
  intro hk
  rw[BK,yi]
  simp (disch:=omega) only[Zm,cond_false]
  simp[ml]
 |succ k ih=>
  intro hk
  rw[BK,yi]
  have e:((k+1:Nat):Int) - 1=k:=by omega
  rw[e,dy (show k<a.length by omega),dy (show k<b.length by omega)]
  simp (disch:=omega) only[acH,cond_true,qH,Option.bind_some,Int.toNat_natCast,i64_in]
  have hta:(a.take k).length=(b.take k).length:=by simp;omega
  by_cases h:a.getD k 0=b.getD k 0
  ·rw[ahg h,ih (by omega)]
   simp only[cond_false,VU,fh,hta,h]
   generalize (1000000000:Int)^(b.take k).length*val 1000000000 [b.getD k 0]=z
   by_cases h1:val 1000000000 (a.take k)<val 1000000000 (b.take k)
   ·rw[mD h1,mD (by omega)]
   ·by_cases h2:val 1000000000 (b.take k)<val 1000000000 (a.take k)
    ·rw[oH h2,oH (by omega)]
    ·rw[wh (by omega),wh (by omega)]
  ·rw[ahf h]
   simp only[cond_true]
   by_cases h1:a.getD k 0<b.getD k 0
   ·rw[zm h1]
    rw[mD (W6 (by omega) (ha.take k) (hb.take k) hta h1)]
    rfl
   ·rw[w9 h1]
    rw[oH (W6 (by omega) (hb.take k) (ha.take k) hta.symm (by omega))]
    rfl
theorem Jv {m n:Nat}(hm:(dU m).length≤1000000000000)(hn:(dU n).length≤1000000000000):yO (dU m) (dU n)=some (ml m n):=by
 rw[Qs,Me]
 by_cases h:(dU m).length=(dU n).length
 ·have:=aeu (HV m) (HV n) h hm (dU m).length (Nat.le_refl _)
  rw[ahg (by omega)]
  simp (disch:=omega) only[cond_false,i64_in]
  rw[this,h,List.take_length]
  rw[←h,List.take_length,Ju,Ju]
 ·rw[ahf (by omega)]
  have l1:=(aL (B:=1000000000) (by omega) (dU m).length m).1 (Nat.le_refl _)
  have l2:=(aL (B:=1000000000) (by omega) (dU n).length n).1 (Nat.le_refl _)
  simp only[cond_true]
  by_cases h1:(dU m).length<(dU n).length
  ·rw[zm (by omega)]
   have:=(fG (B:=1000000000) (by omega) (dU m).length n).1 h1
   rw[mD (by omega)];rfl
  ·rw[w9 (by omega)]
   have:=(fG (B:=1000000000) (by omega) (dU n).length m).1 (show (dU n).length<(dU m).length by omega)
   rw[oH (by omega)];rfl
theorem ahj {m n:Nat}(h:m≤n):(dU m).length≤(dU n).length:=by
 have l2:=(aL (B:=1000000000) (by omega) (dU n).length n).1 (Nat.le_refl _)
 exact(aL (B:=1000000000) (by omega) (dU n).length m).2 (by omega)
end Go.Proofs.YtofjebmoebhiiaaGreatDoor.Ev
namespace Go.Proofs.YtofjebmoebhiiaaGreatDoor.Ev
open Go.Abs Go.IntWalk
def Ln (z:Int):Nat:=(dU z.natAbs).length
theorem FL (z:Int)(k:Nat):Ln z≤k↔z.natAbs<1000000000^k:=aL (B:=1000000000) (by omega) k z.natAbs
theorem acM (z:Int):z.natAbs<1000000000^Ln z:=(FL z _).1 (Nat.le_refl _)
theorem ajw {x y:Int}(h:x.natAbs≤y.natAbs):Ln x≤Ln y:=ahj h
theorem ahk (x y:Int):Ln (x*y)≤Ln x+Ln y:=by
 rw[FL,Int.natAbs_mul,Nat.pow_add]
 have h1:=acM x
 have h2:=acM y
 exact Nat.mul_lt_mul'' h1 h2
theorem wk (z:Int):((W z).1,((W z).2.1,()))=W z:=rfl
theorem W_1 (z:Int):(W z).1=decide (z<0):=rfl
theorem W_2 (z:Int):(W z).2.1=dU z.natAbs:=rfl
theorem oI (z:Int):(dU z.natAbs).length=Ln z:=rfl
theorem PJ {x:Int}(hx:Ln x≤100000000000):oW (W x)=some (W (-x)):=by
 rw[E7,zL]
 simp only[W_1,W_2]
 rw[yv (HV _) (show (dU x.natAbs).length≤_ by rw[oI];omega),Ju]
 by_cases h:x<0
 ·rw[zm h]
  have:(bif !true then -(x.natAbs:Int) else (x.natAbs:Int))= -x:=by simp only[Bool.not_true,cond_false];omega
  rw[this];rfl
 ·rw[w9 h]
  have:(bif !false then -(x.natAbs:Int) else (x.natAbs:Int))= -x:=by simp only[Bool.not_false,cond_true];omega
  rw[this];rfl
theorem ahl (x:Int):((W x).2.1.length:Int)=(Ln x:Int):=rfl
theorem zo (x:Int):Ln x=0↔x=0:=by
 have:=FL x 0
 rw[Nat.pow_zero] at this
 omega
def aa7 (x:Int):Int:=if x<0 then -1 else if 0<x then 1 else 0
theorem wm (x:Int):iA (W x)=some (aa7 x):=by
 rw[Dr,xI,ahl,W_1]
 have h0:=zo x
 unfold aa7
 by_cases hz:x=0
 ·rw[acI (by omega)];simp[hz]
 ·rw[Jt (by omega)]
  simp only[cond_false]
  by_cases h:x<0
  ·rw[zm h,if_pos h];rfl
  ·rw[w9 h,if_neg h,if_pos (by omega)];rfl
theorem jS {x y:Int}(hx:Ln x≤100000000000)(hy:Ln y≤100000000000):fF (W x) (W y)=some (ml x y):=by
 rw[E5,zJ]
 simp only[W_1,W_2]
 rw[Jv (show (dU x.natAbs).length≤_ by rw[oI];omega) (show (dU y.natAbs).length≤_ by rw[oI];omega),
  Jv (show (dU y.natAbs).length≤_ by rw[oI];omega) (show (dU x.natAbs).length≤_ by rw[oI];omega)]
 simp only[Option.bind_some]
 by_cases h1:x<0<;>by_cases h2:y<0
 ·rw[zm h1,zm h2]
  simp only[beq_self_eq_true,Bool.not_true,cond_false,cond_true,Option.some.injEq]
  unfold ml
  by_cases h3:x<y
  ·rw[if_pos h3,if_pos (by omega)]
  ·rw[if_neg h3,if_neg (by omega)]
   by_cases h4:y<x
   ·rw[if_pos h4,if_pos (by omega)]
   ·rw[if_neg h4,if_neg (by omega)]
 ·rw[zm h1,w9 h2,mD (x:=x) (y:=y) (by omega)];rfl
 ·rw[w9 h1,zm h2,oH (x:=x) (y:=y) (by omega)];rfl
 ·rw[w9 h1,w9 h2]
  simp only[beq_self_eq_true,Bool.not_true,cond_false,Option.some.injEq]
  unfold ml
  by_cases h3:x<y
  ·rw[if_pos h3,if_pos (by omega)]
  ·rw[if_neg h3,if_neg (by omega)]
   by_cases h4:y<x
   ·rw[if_pos h4,if_pos (by omega)]
   ·rw[if_neg h4,if_neg (by omega)]
theorem acN (neg:Bool)(t:Bool)(t2:List Int):∀(n:Nat) (u:Nat) (d:List Int),u<1000000000^n→u<18446744073709551616→d.length+n≤1000→tV u neg d t t2=some (neg,(d++dU u,())):=by
 intro n
 induction n with
 |zero=>
  intro u d hu hu' hd
  have:u=0:=by rw[Nat.pow_zero] at hu;omega
  subst this
  rw[Gy,Dp]
  simp[dU,dW]
 |succ n ih=>
  intro u d hu hu' hd
  rw[Gy,Dp]
  by_cases h0:u=0
  ·subst h0;simp[dU,dW]
  ·have ht:([(u:Int) % 1000000000]:List Int).length=1:=rfl
   simp (disch:=omega) only[ahe,cond_true,br,u32_in,u64_quo,ht,Rr]
   have e1:((u:Int) / 1000000000)=((u / 1000000000:Nat):Int):=by omega
   have e2:((u:Int) % 1000000000)=((u % 1000000000:Nat):Int):=by omega
   rw[Nat.pow_succ] at hu
   rw[e1,e2,ih (u / 1000000000) _ (by omega) (by omega) (by simp;omega)]
   rw[show dU u=_ from yt (B:=1000000000) (by omega) (by omega)]
   simp
theorem VC {n:Int}(h0: -9223372036854775808≤n)(h1:n≤9223372036854775807):xy n=some (W n):=by
 rw[Vz,S4]
 by_cases h:n<0
 ·have e1:IntKind.wrap .u64 n=n+18446744073709551616:=by rw[IntKind.wrap_u64];omega
  have e2:IntKind.wrap .u64 (0 - (n+18446744073709551616))=(n.natAbs:Int):=by rw[IntKind.wrap_u64];omega
  rw[zm h,e1,e2,acN _ _ _ 3 n.natAbs [] (by omega) (by omega) (by simp)]
  simp[W,h]
 ·have e1:IntKind.wrap .u64 n=(n.natAbs:Int):=by rw[IntKind.wrap_u64];omega
  rw[w9 h,e1,acN _ _ _ 3 n.natAbs [] (by omega) (by omega) (by simp)]
  simp[W,h]
end Go.Proofs.YtofjebmoebhiiaaGreatDoor.Ev
namespace Go.Abs
theorem CS {l:List Int}{n:Nat}{v:Int}(h:n<l.length):(l.set n v).take (n+1)=l.take n++[v]:=by
 rw[dy (by simpa using h),List.take_set_of_le (Nat.le_refl n)]
 simp[List.getD,h]
theorem set_drop {l:List Int}{n:Nat}{v:Int}:(l.set n v).drop (n+1)=l.drop (n+1):=by
 rw[List.drop_set_of_lt (by omega)]
theorem Tq (l:List Int)(k:Nat):l=l.take k++l.drop k:=(List.take_append_drop k l).symm
theorem Jw (n j:Nat):(List.replicate n (0:Int)).getD j 0=0:=by
 by_cases h:j<n
 ·simp only[List.getD,List.getElem?_replicate,if_pos h];rfl
 ·exact getD_none (by simp;omega)
theorem aev {x y:Int}(hx:0≤x∧x<1000000000)(hy:0≤y∧y<1000000000):0≤x*y∧x*y≤999999998000000001:=by
 have h1:=Int.mul_nonneg hx.1 hy.1
 have h2:x*y≤999999999*y:=Int.mul_le_mul_of_nonneg_right (by omega) hy.1
 exact⟨h1,by omega⟩
end Go.Abs
namespace Go.Proofs.YtofjebmoebhiiaaGreatDoor.Ev
open Go.Abs Go.IntWalk
def amL:List Int→Int→List Int→Int→List Int
 | [],x,o::os,c=>c::os
 | [],x,[],c=>[]
 |y::ys,x,o::os,c=>(x*y+o+c) % 1000000000::amL ys x os ((x*y+o+c) / 1000000000)
 |y::ys,x,[],c=>[]
def mlL:List Int→List Int→List Int→List Int
 | [],b,o=>o
 |x::xs,b,o=>match amL b x o 0 with
  | []=>[]
  |h::t=>h::mlL xs b t
theorem MQ:∀(b:List Int) (x:Int) (o:List Int) (c:Int),b.length<o.length→(amL b x o c).length=o.length
 | [],x,[],c,h=>by simp at h
 | [],x,o::os,c,h=>by simp[amL]
 |y::ys,x,[],c,h=>by simp at h
 |y::ys,x,o::os,c,h=>by simp only[amL,List.length_cons];rw[MQ ys x os _ (by simpa using h)]
theorem W7:∀(b:List Int) (x:Int) (o:List Int) (c:Int),b.length<o.length→DU b→DU o→0≤x∧x<1000000000→0≤c∧c<1000000000→o.getD b.length 0=0→
  VU (amL b x o c)=VU o+x*VU b+c∧DU (amL b x o c)∧(amL b x o c).drop (b.length+1)=o.drop (b.length+1)
 | [],x,[],c,h,hb,ho,hx,hc,hz=>by simp at h
 | [],x,o::os,c,h,hb,ho,hx,hc,hz=>by
   have:o=0:=by simpa using hz
   subst this
   simp only[amL]
   exact⟨by simp[VU,val];omega,gK.cons hc.1 hc.2 ho.tail,by simp⟩
 |y::ys,x,[],c,h,hb,ho,hx,hc,hz=>by simp at h
 |y::ys,x,o::os,c,h,hb,ho,hx,hc,hz=>by
  have hy:=hb.head
  have hoo:=ho.head
  have hm:=aev hx hy
  obtain⟨e1,e2,e3⟩:=W7 ys x os ((x*y+o+c) / 1000000000) (by simpa using h) hb.tail ho.tail hx (by omega) (by simpa using hz)
  simp only[amL]
  refine⟨?_,gK.cons (by omega) (by omega) e2,by simpa using e3⟩
  simp only[VU,val] at e1 ⊢
  have e4:x*(y+1000000000*val 1000000000 ys)=x*y+1000000000*(x*val 1000000000 ys):=by rw[Int.mul_add,Int.mul_left_comm]
  rw[e1,e4]
  omega
theorem acP:∀(a b o:List Int),o.length=a.length+b.length→DU a→DU b→DU o→(∀j,b.length≤j→o.getD j 0=0)→
  VU (mlL a b o)=VU o+VU a*VU b∧DU (mlL a b o)∧(mlL a b o).length=o.length
 | [],b,o,hl,ha,hb,ho,hz=>by simp[mlL,VU,val];exact ho
 |x::xs,b,o,hl,ha,hb,ho,hz=>by
  have hlt:b.length<o.length:=by simp at hl;omega
  obtain⟨e1,e2,e3⟩:=W7 b x o 0 hlt hb ho ha.head ⟨by omega,by omega⟩ (hz _ (Nat.le_refl _))
  have e4:=MQ b x o 0 hlt
  simp only[mlL]
  split
  ·rename_i e;rw[e] at e4;simp at e4;omega
  ·rename_i h t e
   rw[e] at e1 e2 e3 e4
   obtain⟨f1,f2,f3⟩:=acP xs b t (by simp at hl e4;omega) ha.tail hb e2.tail (fun j hj=>by
    have h5:(h::t).drop (b.length+1)=t.drop b.length:=rfl
    have h6:t.getD j 0=(t.drop b.length).getD (j - b.length) 0:=by rw[ra];congr 1;omega
    rw[h6, ←h5,e3,ra]
    exact hz _ (by omega))
   refine⟨?_,gK.cons e2.head.1 e2.head.2 f2,by simp[f3] at e4 ⊢;omega⟩
   simp only[VU,val] at e1 f1 ⊢
   rw[f1,Int.add_mul,Int.mul_assoc]
   omega
theorem aew {a b:List Int}{sa sb:Bool}{t8:List Int}{t7:Bool}{x:Int}{i:Nat}(hb:DU b)(hx:0≤x∧x<1000000000)(hi:i<a.length)(hl:a.length≤1000000000000)(hl':b.length≤1000000000000):
  ∀(m k:Nat) (c:Int) (out:List Int),m+k=b.length→out.length=a.length+b.length→DU out→0≤c∧c<1000000000→
  fw i x c a a.length i b b.length k out sa a sb b t7 t8=dc a a.length (i+1) (out.take (i+k)++amL (b.drop k) x (out.drop (i+k)) c) sa a sb b t7 t8:=by
 intro m
 induction m with
 |zero=>
  intro k c out hk ho hd hc
  have hk':k=b.length:=by omega
  subst hk'
  rw[rN,nJ]
  simp (disch:=omega) only[w9,cond_false,i64_in,u32_in]
  rw[qH (by omega) (by omega),Tn (show ((i:Int)+b.length).toNat<out.length by omega)]
  have e:((i:Int)+b.length).toNat=i+b.length:=by omega
  simp only[Option.bind_some,e]
  rw[drop_nil (Nat.le_refl _),drop_eq (show i+b.length<out.length by omega)]
  simp only[amL]
  congr 1
  conv=>lhs;rw[Tq (out.set (i+b.length) c) (i+b.length+1)]
  rw[CS (by omega),set_drop]
  simp
 |succ m ih=>
  intro k c out hk ho hd hc
  have hy:=hb.getD (by omega) k
  have hoo:=hd.getD (by omega) (i+k)
  have hm:=aev hx hy
  rw[rN,nJ]
  have e:((i:Int)+k).toNat=i+k:=by omega
  simp (disch:=omega) only[zm,cond_true,i64_in,qH,Tn,Option.bind_some,u64_in,Int.toNat_natCast,e]
  simp (disch:=omega) only[u64_in,u64_quo,br,u32_in]
  have wz:=fun c out=>ih (k+1) c out (by omega)
  simp only[Int.natCast_add,Int.natCast_one] at wz
  rw[wz _ _ (by simp[ho]) (hd.set (by omega) (by omega) _) (by omega)]
  congr 1
  rw[drop_eq (show k<b.length by omega),drop_eq (show i+k<out.length by omega)]
  simp only[amL]
  rw[show i+(k+1)=i+k+1 by omega,CS (by omega),set_drop]
  have e2:c+(x*b.getD k 0+out.getD (i+k) 0)=x*b.getD k 0+out.getD (i+k) 0+c:=by omega
  rw[e2]
  simp
theorem aex {a b:List Int}{sa sb:Bool}{t8:List Int}{t7:Bool}(ha:DU a)(hb:DU b)(hl:a.length≤1000000000000)(hl':b.length≤1000000000000):
  ∀(m i:Nat) (out:List Int),m+i=a.length→out.length=a.length+b.length→DU out→(∀j,b.length≤j→(out.drop i).getD j 0=0)→
  dc a a.length i out sa a sb b t7 t8=iX (!(sa==sb)) (out.take i++mlL (a.drop i) b (out.drop i)):=by
 intro m
 induction m with
 |zero=>
  intro i out hi ho hd hz
  have hi':i=a.length:=by omega
  rw[rM,nI]
  simp (disch:=omega) only[w9,cond_false,drop_nil,mlL,List.take_append_drop]
  cases iX (!(sa==sb)) out<;>rfl
 |succ m ih=>
  intro i out hi ho hd hz
  have hx:=ha.getD (by omega) i
  rw[rM,nI]
  simp (disch:=omega) only[zm,cond_true,qH,Option.bind_some,Int.toNat_natCast]
  have hI:=aew (a:=a) (sa:=sa) (sb:=sb) (t7:=t7) (t8:=t8) (i:=i) hb hx (by omega) hl hl' b.length 0 0 out (by omega) ho hd ⟨by omega,by omega⟩
  simp only[Int.natCast_zero] at hI
  rw[hI]
  have hlen:(out.drop (i+0)).length=a.length - i+b.length:=by simp;omega
  have hlt:b.length<(out.drop (i+0)).length:=by omega
  obtain⟨e1,e2,e3⟩:=W7 b (a.getD i 0) (out.drop (i+0)) 0 hlt hb (hd.drop _) hx ⟨by omega,by omega⟩ (hz _ (Nat.le_refl _))
  have e4:=MQ b (a.getD i 0) (out.drop (i+0)) 0 hlt
  have wz:=fun out=>ih (i+1) out (by omega)
  simp only[Int.natCast_add,Int.natCast_one] at wz
  rw[drop_eq (show i<a.length by omega)]
  simp only[mlL,List.drop_zero,Nat.add_zero,Int.natCast_zero] at*
  cases hA:amL b (a.getD i 0) (out.drop i) 0 with
  |nil=>rw[hA] at e4;simp at e4;omega
  |cons h t=>
   rw[hA] at e2 e3 e4
   have htl:(out.take i).length=i:=by simp;omega
   have h7:(out.take i++h::t).drop (i+1)=t:=by
    rw[List.drop_append,htl]
    have:(out.take i).drop (i+1)=[]:=drop_nil (by omega)
    rw[this];simp
   have h8:(out.take i++h::t).take (i+1)=out.take i++[h]:=by
    rw[List.take_append,htl]
    have:(out.take i).take (i+1)=out.take i:=List.take_of_length_le (by omega)
    rw[this];simp
   rw[wz _ (by simp[ho] at e4 ⊢;omega) ((hd.take _).append e2) (fun j hj=>by
    rw[h7]
    have h5:(h::t).drop (b.length+1)=t.drop b.length:=rfl
    have h6:t.getD j 0=(t.drop b.length).getD (j - b.length) 0:=by rw[ra];congr 1;omega
    rw[h6, ←h5,e3,ra]
    exact hz _ (by omega)),h7,h8]
   simp
theorem FM {x y:Int}(hx:Ln x≤100000000000)(hy:Ln y≤100000000000):oY (W x) (W y)=some (W (x*y)):=by
 rw[E9,zN]
 simp only[W_1,W_2,oI]
 simp (disch:=omega) only[i64_in,Oa,cond_true]
 have ap3:(((Ln x:Nat):Int)+(Ln y:Nat)).toNat=Ln x+Ln y:=by omega
 rw[ap3]
 have ha:=HV x.natAbs
 have hb:=HV y.natAbs
 have h1:=aex (sa:=decide (x<0)) (sb:=decide (y<0)) (t7:=false) (t8:=[]) ha hb (by rw[oI];omega) (by rw[oI];omega) (Ln x) 0 (List.replicate (Ln x+Ln y) 0) (by rw[oI];omega)
  (by rw[List.length_replicate,oI,oI]) (gK.replicate (by omega) _) (fun j hj=>by
   rw[ra]
   exact Jw _ _)
 rw[oI] at h1
 have h2:dc (dU x.natAbs) (Ln x) 0 (List.replicate (Ln x+Ln y) 0) (decide (x<0)) (dU x.natAbs) (decide (y<0)) (dU y.natAbs) false []=_:=h1
 rw[h2]
 obtain⟨e1,e2,e3⟩:=acP (dU x.natAbs) (dU y.natAbs) (List.replicate (Ln x+Ln y) 0) (by rw[List.length_replicate,oI,oI]) ha hb (gK.replicate (by omega) _) (fun j hj=>by
   exact Jw _ _)
 simp only[List.take_zero,List.nil_append,List.drop_zero]
 rw[yv e2 (by rw[e3,List.length_replicate];omega),e1,Ju,Ju]
 simp only[VU,LA,Int.zero_add]
 have key:(bif !(decide (x<0)==decide (y<0)) then -((x.natAbs:Int)*(y.natAbs:Int)) else ((x.natAbs:Int)*(y.natAbs:Int)))=x*y:=by
  by_cases h1:x<0<;>by_cases h2:y<0
  ·rw[zm h1,zm h2]
   have e1:(x.natAbs:Int)= -x:=by omega
   have e2:(y.natAbs:Int)= -y:=by omega
   rw[e1,e2];simp[Int.neg_mul,Int.mul_neg]
  ·rw[zm h1,w9 h2]
   have e1:(x.natAbs:Int)= -x:=by omega
   have e2:(y.natAbs:Int)=y:=by omega
   rw[e1,e2];simp[Int.neg_mul,Int.mul_neg]
  ·rw[w9 h1,zm h2]
   have e1:(x.natAbs:Int)=x:=by omega
   have e2:(y.natAbs:Int)= -y:=by omega
   rw[e1,e2];simp[Int.neg_mul,Int.mul_neg]
  ·rw[w9 h1,w9 h2]
   have e1:(x.natAbs:Int)=x:=by omega
   have e2:(y.natAbs:Int)=y:=by omega
   rw[e1,e2];simp[Int.neg_mul,Int.mul_neg]
 rw[key]
def Rf:List Int→Int→Int→List Int
 | [],k,c=>[c]
 |x::xs,k,c=>(c+x*k) % 1000000000::Rf xs k ((c+x*k) / 1000000000)
theorem W8:∀(a:List Int) (k c:Int),DU a→0≤k∧k<1000000000→0≤c∧c<1000000000→VU (Rf a k c)=VU a*k+c∧DU (Rf a k c)∧(Rf a k c).length=a.length+1
 | [],k,c,ha,hk,hc=>by
   simp only[Rf]
   exact⟨by simp[VU,val],gK.cons hc.1 hc.2 gK.nil,rfl⟩
 |x::xs,k,c,ha,hk,hc=>by
  have hm:=aev ha.head hk
  obtain⟨e1,e2,e3⟩:=W8 xs k ((c+x*k) / 1000000000) ha.tail hk (by omega)
  simp only[Rf]
  refine⟨?_,gK.cons (by omega) (by omega) e2,by simp[e3]⟩
  simp only[VU,val] at e1 ⊢
  rw[e1,Int.add_mul,Int.mul_assoc]
  omega
theorem Zn {a:List Int}{k:Int}(ha:DU a)(hk:0≤k∧k<1000000000)(hl:a.length≤1000000000000):∀(m i:Nat) (c:Int) (out:List Int),m+i=a.length→out.length=i→0≤c∧c<1000000000→
  jF k c a a.length i out=some (out++Rf (a.drop i) k c):=by
 intro m
 induction m with
 |zero=>
  intro i c out hi ho hc
  rw[xM,sY]
  simp (disch:=omega) only[w9,cond_false,Rr,cond_true,drop_nil,Rf,u32_in]
 |succ m ih=>
  intro i c out hi ho hc
  have hx:=ha.getD (by omega) i
  have hm:=aev hx hk
  rw[xM,sY]
  simp (disch:=omega) only[zm,cond_true,qH,Option.bind_some,Int.toNat_natCast,u64_in]
  simp (disch:=omega) only[u64_in,br,u64_quo,Rr,cond_true,i64_in,u32_in]
  have wz:=fun c out=>ih (i+1) c out (by omega)
  simp only[Int.natCast_add,Int.natCast_one] at wz
  rw[wz _ _ (by simp;omega) (by omega),drop_eq (show i<a.length by omega)]
  simp[Rf]
theorem LC {a:List Int}{k:Int}(ha:DU a)(hk:0≤k∧k<1000000000)(hl:a.length≤1000000000000):xA a k=some (Rf a k 0):=by
 rw[Lo,GB]
 simp (disch:=omega) only[i64_in,Oa,cond_true]
 have:=Zn ha hk hl a.length 0 0 [] (by omega) rfl ⟨by omega,by omega⟩
 simpa using this
def C3 (b:Int):List Int→List Int×Int
 | []=>([],0)
 |x::xs=>((((C3 b xs).2*1000000000+x) / b)::(C3 b xs).1,((C3 b xs).2*1000000000+x) % b)
theorem Oe {b:Int}(hb:0<b∧b<1000000000):∀(a:List Int),DU a→VU a=VU (C3 b a).1*b+(C3 b a).2∧0≤(C3 b a).2∧(C3 b a).2<b∧DU (C3 b a).1∧(C3 b a).1.length=a.length
 | [],ha=>⟨by simp[C3,VU,val],by simp[C3],by simp[C3];omega,gK.nil,rfl⟩
 |x::xs,ha=>by
  have hx:=ha.head
  obtain⟨e1,e2,e3,e4,e5⟩:=Oe hb xs ha.tail
  have hd:=Int.mul_ediv_add_emod ((C3 b xs).2*1000000000+x) b
  have hlt:=Int.emod_lt_of_pos ((C3 b xs).2*1000000000+x) hb.1
  have hnn:=Int.emod_nonneg ((C3 b xs).2*1000000000+x) (show b≠0 by omega)
  have hq0:0≤((C3 b xs).2*1000000000+x) / b:=Int.ediv_nonneg (by omega) (by omega)
  have hq1:((C3 b xs).2*1000000000+x) / b<1000000000:=Int.ediv_lt_of_lt_mul hb.1 (by omega)
  simp only[C3]
  refine⟨?_,hnn,hlt,gK.cons hq0 hq1 e4,by simp[e5]⟩
  simp only[VU,val] at e1 ⊢
  have e7:(((C3 b xs).2*1000000000+x) / b+1000000000*val 1000000000 (C3 b xs).1)*b=b*(((C3 b xs).2*1000000000+x) / b)+1000000000*(val 1000000000 (C3 b xs).1*b):=by
   rw[Int.add_mul,Int.mul_assoc,Int.mul_comm (_ / b) b]
  rw[e1,e7]
  omega
theorem aa8 {a:List Int}{b:Int}(ha:DU a)(hb:0<b∧b<1000000000)(hl:a.length≤1000000000000):∀(k:Nat) (out:List Int),k≤a.length→out.length=a.length→out.drop k=(C3 b (a.drop k)).1→
  lz a b (C3 b (a.drop k)).2 ((k:Int) - 1) out=some (C3 b a):=by
 intro k
 induction k with
 |zero=>
  intro out hk ho hd
  rw[zO,vo]
  obtain⟨e1,e2,e3,e4,e5⟩:=Oe hb a ha
  simp only[List.drop_zero] at hd ⊢
  simp (disch:=omega) only[Zm,cond_false,u32_in]
  rw[hd]
 |succ k ih=>
  intro out hk ho hd
  obtain⟨e1,e2,e3,e4,e5⟩:=Oe hb (a.drop (k+1)) (ha.drop _)
  have hx:=ha.getD (by omega) k
  have hq0:0≤((C3 b (a.drop (k+1))).2*1000000000+a.getD k 0) / b:=Int.ediv_nonneg (by omega) (by omega)
  have hq1:((C3 b (a.drop (k+1))).2*1000000000+a.getD k 0) / b<1000000000:=Int.ediv_lt_of_lt_mul hb.1 (by omega)
  rw[zO,vo]
  have e:((k+1:Nat):Int) - 1=k:=by omega
  rw[e]
  simp (disch:=omega) only[acH,cond_true,qH,Tn,Option.bind_some,Int.toNat_natCast,u64_in]
  simp (disch:=omega) only[u64_in,u64_quo,br,Jt,cond_false,u32_in,i64_in]
  have h1:C3 b (a.drop k)=((((C3 b (a.drop (k+1))).2*1000000000+a.getD k 0) / b)::(C3 b (a.drop (k+1))).1,((C3 b (a.drop (k+1))).2*1000000000+a.getD k 0) % b):=by
   rw[drop_eq (show k<a.length by omega)];rfl
  have h2:=ih (out.set k (((C3 b (a.drop (k+1))).2*1000000000+a.getD k 0) / b)) (by omega) (by simpa using ho) (by
   rw[h1,drop_eq (by simp;omega),set_drop,hd]
   simp[List.getD,show k<out.length by omega])
  rw[h1] at h2
  exact h2
theorem Of {a:List Int}{b:Int}(ha:DU a)(hb:0<b∧b<1000000000)(hl:a.length≤1000000000000):tX a b=some (C3 b a):=by
 rw[NO,IT]
 simp (disch:=omega) only[i64_in,Oa,cond_true,Int.toNat_natCast]
 have:=aa8 ha hb hl a.length (List.replicate a.length 0) (Nat.le_refl _) (by simp) (by rw[drop_nil (Nat.le_refl _),drop_nil (by simp)];rfl)
 rw[drop_nil (Nat.le_refl _)] at this
 exact this
end Go.Proofs.YtofjebmoebhiiaaGreatDoor.Ev
namespace Go.Abs
section
variable {P V R vl wl v1 v2 u1 u2 u3 g rest:Int}
theorem ahm (hP:0<P)(hvl:vl<P)(hwl:0≤wl)(hV:V=vl+P*(v2+1000000000*v1))(hR:R=wl+P*(u3+1000000000*(u2+1000000000*u1)))
  (h2:v2<1000000000) (h3:0≤u3) (h4:0≤u2) (hlt:R<V*1000000000):u1≤v1:=by
 by_cases h:u1≤v1
 ·exact h
 ·exfalso
  have e1:P*(v1+1)≤P*u1:=Int.mul_le_mul_of_nonneg_left (by omega) (by omega)
  have e2:P*(v2+1)≤P*1000000000:=Int.mul_le_mul_of_nonneg_left (by omega) (by omega)
  have e3:0≤P*u3:=Int.mul_nonneg (by omega) h3
  have e4:0≤P*u2:=Int.mul_nonneg (by omega) h4
  simp only[Int.mul_add,Int.mul_one,Int.mul_left_comm P 1000000000] at hV hR e1 e2
  omega
theorem alU (hP:0<P)(hV0:0<V)(hvl:0≤vl)(hwl:wl<P)(hV:V=vl+P*(v2+1000000000*v1))(hR:R=wl+P*(u3+1000000000*(u2+1000000000*u1)))
  (hg:0≤g) (ht:u1*1000000000+u2=g*v1+rest) (hlt:R<V*1000000000) (h:g≥1000000000∨g*v2>rest*1000000000+u3):R<g*V:=by
 rcases h with h |h
 ·have e1:V*1000000000≤V*g:=Int.mul_le_mul_of_nonneg_left h (by omega)
  rw[Int.mul_comm V g] at e1
  omega
 ·have e1:0≤g*vl:=Int.mul_nonneg hg hvl
  have e2:P*(rest*1000000000+u3+1)≤P*(g*v2):=Int.mul_le_mul_of_nonneg_left (by omega) (by omega)
  have e3:P*(u1*1000000000+u2)=P*(g*v1+rest):=by rw[ht]
  have e4:g*V=g*vl+(P*(g*v2)+1000000000*(P*(g*v1))):=by
   rw[hV,Int.mul_add,Int.mul_left_comm g P,Int.mul_add g,Int.mul_left_comm g 1000000000,Int.mul_add P,Int.mul_left_comm P 1000000000]
  simp only[Int.mul_add,Int.mul_one, ←Int.mul_assoc,Int.mul_left_comm P 1000000000] at e2 e3 hR e4
  simp only[Int.mul_assoc,Int.mul_comm _ (1000000000:Int),Int.mul_left_comm _ (1000000000:Int)] at e2 e3 hR e4 ⊢
  omega
theorem ajy {G:Int}(hP:0<P)(hvl:0≤vl)(hwl:wl<P)(hV:V=vl+P*(v2+1000000000*v1))(hR:R=wl+P*(u3+1000000000*(u2+1000000000*u1)))
  (Ud:0≤v2) (hu3:u3<1000000000) (hG:0≤G) (ht:u1*1000000000+u2+1≤G*v1):R<G*V:=by
 have h2:=Int.mul_le_mul_of_nonneg_left ht (show (0:Int)≤P by omega)
 have h3:0≤G*vl:=Int.mul_nonneg hG hvl
 have h4:0≤P*(G*v2):=Int.mul_nonneg (by omega) (Int.mul_nonneg hG Ud)
 have h5:G*V=G*vl+(P*(G*v2)+1000000000*(P*(G*v1))):=by
  rw[hV,Int.mul_add,Int.mul_left_comm G P,Int.mul_add G,Int.mul_left_comm G 1000000000,Int.mul_add P,Int.mul_left_comm P 1000000000]
 have h6:P*(u3+1)≤P*1000000000:=Int.mul_le_mul_of_nonneg_left (by omega) (by omega)
 simp only[Int.mul_add,Int.mul_one, ←Int.mul_assoc,Int.mul_left_comm P 1000000000] at h2 h6 h4 hR h5
 simp only[Int.mul_assoc,Int.mul_comm _ (1000000000:Int),Int.mul_left_comm _ (1000000000:Int)] at h2 h6 h4 hR h5 ⊢
 omega
theorem ahn (hP:0<P)(Wx:1≤v1)(Ud:0≤v2)(Zo:0≤vl)(hvl:vl<P)(hwl:0≤wl)(hV:V=vl+P*(v2+1000000000*v1))(hR:R=wl+P*(u3+1000000000*(u2+1000000000*u1)))
  (hg:0≤g) (hg':g≤999999999) (ht:u1*1000000000+u2=g*v1+rest) (h:g*v2≤rest*1000000000+u3):g*V<R+V:=by
 have e1:g*vl≤999999999*vl:=Int.mul_le_mul_of_nonneg_right hg' Zo
 have e2:P*(g*v2)≤P*(rest*1000000000+u3):=Int.mul_le_mul_of_nonneg_left h (by omega)
 have e3:P*(u1*1000000000+u2)=P*(g*v1+rest):=by rw[ht]
 have e4:g*V=g*vl+(P*(g*v2)+1000000000*(P*(g*v1))):=by
  rw[hV,Int.mul_add,Int.mul_left_comm g P,Int.mul_add g,Int.mul_left_comm g 1000000000,Int.mul_add P,Int.mul_left_comm P 1000000000]
 have e5:P*1≤P*v1:=Int.mul_le_mul_of_nonneg_left Wx (by omega)
 have e6:0≤P*v2:=Int.mul_nonneg (by omega) Ud
 simp only[Int.mul_add,Int.mul_one, ←Int.mul_assoc,Int.mul_left_comm P 1000000000] at e2 e3 hR e4 hV e5
 simp only[Int.mul_assoc,Int.mul_comm _ (1000000000:Int),Int.mul_left_comm _ (1000000000:Int)] at e2 e3 hR e4 hV ⊢
 omega
end
def PK (g:Int):List Int→List Int→Int→List Int×Int
 |us,[],b=>(us,b)
 | [],_::_,b=>([],b)
 |u::us,v::vs,b=>
  if u - b - g*v % 1000000000<0 then
   if u - b - g*v % 1000000000+1000000000<0 then
    ((u - b - g*v % 1000000000+2000000000)::(PK g us vs (g*v / 1000000000+2)).1,(PK g us vs (g*v / 1000000000+2)).2)
   else ((u - b - g*v % 1000000000+1000000000)::(PK g us vs (g*v / 1000000000+1)).1,(PK g us vs (g*v / 1000000000+1)).2)
  else ((u - b - g*v % 1000000000)::(PK g us vs (g*v / 1000000000)).1,(PK g us vs (g*v / 1000000000)).2)
def W9:List Int→List Int→Int→List Int×Int
 |us,[],c=>(us,c)
 | [],_::_,c=>([],c)
 |u::us,v::vs,c=>((u+v+c) % 1000000000::(W9 us vs ((u+v+c) / 1000000000)).1,(W9 us vs ((u+v+c) / 1000000000)).2)
theorem Zp {g:Int}(hg:0≤g∧g<1000000000):∀(us vs:List Int) (hs:List Int) (b:Int),us.length=vs.length→gK 1000000000 us→gK 1000000000 vs→0≤b∧b≤1000000000→
  ∃r b',PK g (us++hs) vs b=(r++hs,b')∧val 1000000000 us - b - g*val 1000000000 vs=val 1000000000 r - 1000000000^vs.length*b'∧gK 1000000000 r∧r.length=us.length∧0≤b'∧b'≤1000000000
 | [],[],hs,b,hl,hu,hv,hb=>⟨[],b,by simp[PK],by simp[val],gK.nil,rfl,hb⟩
 | [],_::_,hs,b,hl,hu,hv,hb=>by simp at hl
 |_::_,[],hs,b,hl,hu,hv,hb=>by simp at hl
 |u::us,v::vs,hs,b,hl,hu,hv,hb=>by
  have h1:=hu.head
  have h2:=hv.head
  have hm:=aev hg h2
  have ih:=fun b' hb'=>Zp hg us vs hs b' (by simpa using hl) hu.tail hv.tail hb'
  have fin:∀(y c b':Int) (r:List Int),u - b - g*v=y - 1000000000*c→0≤y∧y<1000000000→
    val 1000000000 us - c - g*val 1000000000 vs=val 1000000000 r - 1000000000^vs.length*b'→
    val 1000000000 (u::us) - b - g*val 1000000000 (v::vs)=val 1000000000 (y::r) - 1000000000^(v::vs).length*b':=fun y c b' r e1 hy e2=>by
   simp only[val,List.length_cons,Int.pow_succ]
   have e3:g*(v+1000000000*val 1000000000 vs)=g*v+1000000000*(g*val 1000000000 vs):=by rw[Int.mul_add,Int.mul_left_comm]
   have e4:(1000000000:Int)^vs.length*1000000000*b'=1000000000*(1000000000^vs.length*b'):=by rw[Int.mul_comm ((1000000000:Int)^vs.length),Int.mul_assoc]
   rw[e3,e4]
   omega
  simp only[List.cons_append,PK]
  split
  ·split
   ·obtain⟨r,b',e1,e2,e3,e4,e5⟩:=ih (g*v / 1000000000+2) (by omega)
    refine⟨(u - b - g*v % 1000000000+2000000000)::r,b',by rw[e1];rfl,fin _ _ _ _ (by omega) (by omega) e2,gK.cons (by omega) (by omega) e3,by simp[e4],e5⟩
   ·obtain⟨r,b',e1,e2,e3,e4,e5⟩:=ih (g*v / 1000000000+1) (by omega)
    refine⟨(u - b - g*v % 1000000000+1000000000)::r,b',by rw[e1];rfl,fin _ _ _ _ (by omega) (by omega) e2,gK.cons (by omega) (by omega) e3,by simp[e4],e5⟩
  ·obtain⟨r,b',e1,e2,e3,e4,e5⟩:=ih (g*v / 1000000000) (by omega)
   refine⟨(u - b - g*v % 1000000000)::r,b',by rw[e1];rfl,fin _ _ _ _ (by omega) (by omega) e2,gK.cons (by omega) (by omega) e3,by simp[e4],e5⟩
theorem Zq:∀(us vs:List Int) (hs:List Int) (c:Int),us.length=vs.length→gK 1000000000 us→gK 1000000000 vs→0≤c∧c≤1→
  ∃r c',W9 (us++hs) vs c=(r++hs,c')∧val 1000000000 us+val 1000000000 vs+c=val 1000000000 r+1000000000^vs.length*c'∧gK 1000000000 r∧r.length=us.length∧0≤c'∧c'≤1
 | [],[],hs,c,hl,hu,hv,hc=>⟨[],c,by simp[W9],by simp[val],gK.nil,rfl,hc⟩
 | [],_::_,hs,c,hl,hu,hv,hc=>by simp at hl
 |_::_,[],hs,c,hl,hu,hv,hc=>by simp at hl
 |u::us,v::vs,hs,c,hl,hu,hv,hc=>by
  have h1:=hu.head
  have h2:=hv.head
  obtain⟨r,c',e1,e2,e3,e4,e5⟩:=Zq us vs hs ((u+v+c) / 1000000000) (by simpa using hl) hu.tail hv.tail (by omega)
  refine⟨(u+v+c) % 1000000000::r,c',by simp only[List.cons_append,W9];rw[e1], ?_,gK.cons (by omega) (by omega) e3,by simp[e4],e5⟩
  simp only[val,List.length_cons,Int.pow_succ]
  have e6:(1000000000:Int)^vs.length*1000000000*c'=1000000000*(1000000000^vs.length*c'):=by rw[Int.mul_comm ((1000000000:Int)^vs.length),Int.mul_assoc]
  rw[e6]
  omega
end Go.Abs
namespace Go.Proofs.YtofjebmoebhiiaaGreatDoor.Ev
open Go.Abs Go.IntWalk
section
variable {k:Int}{v:List Int}{n j:Nat}{q u:List Int}
theorem Xa {P V R vl wl v1 v2 u1 u2 u3:Int}(hP:0<P)(Zo:0≤vl)(hvl:vl<P)(aey:0≤wl)(hwl:wl<P)(hV:V=vl+P*(v2+1000000000*v1))(hR:R=wl+P*(u3+1000000000*(u2+1000000000*u1)))
  (Wx:500000000≤v1∧v1<1000000000) (Ud:0≤v2∧v2<1000000000) (hu1:0≤u1∧u1<1000000000) (hu2:0≤u2∧u2<1000000000) (hu3:0≤u3∧u3<1000000000) (hlt:R<V*1000000000)
  (hn:2≤n) (Xb:v.length=n) (hun:j+n<u.length) (hul:u.length≤1000000000000)
  (gv1:v.getD (n - 1) 0=v1) (gv2:v.getD (n - 2) 0=v2) (gu3:u.getD (j+n - 2) 0=u3):∀(g:Nat) (rest:Int),u1*1000000000+u2=g*v1+rest→0≤rest→rest<1000000000→R<(g+1)*V→
  ∃g':Int,0≤g'∧g'≤999999999∧R<(g'+1)*V∧g'*V<R+V∧jE k v n j g rest q u=gi k v n j g' 0 n 0 q u:=by
 have ap7:=ahm hP hvl aey hV hR Ud.2 hu3.1 hu2.1 hlt
 have Zr:0<V:=by
  have e5:P*1≤P*v1:=Int.mul_le_mul_of_nonneg_left (by omega) (by omega)
  have e6:0≤P*v2:=Int.mul_nonneg (by omega) Ud.1
  simp only[Int.mul_add,Int.mul_one,Int.mul_left_comm P 1000000000] at hV e5
  omega
 have hR0:0≤R:=by
  have e3:0≤P*(u3+1000000000*(u2+1000000000*u1)):=Int.mul_nonneg (by omega) (by omega)
  omega
 intro g
 induction g with
 |zero=>
  intro rest ht h0 h1 hb
  have hz:(0:Int)*v2≤rest*1000000000+u3:=by rw[Int.zero_mul];omega
  refine⟨0,by omega,by omega,by simpa using hb,by simp;omega, ?_⟩
  rw[BQ,ym]
  have e1:((n:Int) - 2).toNat=n - 2:=by omega
  have e2:((j:Int)+n - 2).toNat=j+n - 2:=by omega
  simp (disch:=omega) only[Zm,cond_false,i64_in,qH,Tn,Option.bind_some,e1,e2,gv2,gu3,Int.natCast_zero,Int.zero_mul,u64_in,akw]
 |succ g ih=>
  intro rest ht h0 h1 hb
  have hgb:(g:Int)+1≤1000000001:=by
   -- g v1 is at most HZ two top digits
   have h5:(g+1:Nat)*v1≤v1*1000000000+999999999:=by
    have:u1*1000000000≤v1*1000000000:=by omega
    omega
   by_cases hc:(g:Int)+1≤1000000001
   ·exact hc
   ·have h6:(1000000002:Int)*v1≤(g+1:Nat)*v1:=Int.mul_le_mul_of_nonneg_right (by omega) (by omega)
    omega
  have e1:((n:Int) - 2).toNat=n - 2:=by omega
  have e1':((n:Int) - 1).toNat=n - 1:=by omega
  have e2:((j:Int)+n - 2).toNat=j+n - 2:=by omega
  have egc:((g+1:Nat):Int)=(g:Int)+1:=by omega
  have alV:(g:Int)+1 - 1=g:=by omega
  rw[egc] at ht hb ⊢
  have arv:0≤((g:Int)+1)*v2∧((g:Int)+1)*v2≤1000000001*999999999:=by
   refine⟨Int.mul_nonneg (by omega) Ud.1, ?_⟩
   have h7:((g:Int)+1)*v2≤1000000001*v2:=Int.mul_le_mul_of_nonneg_right hgb Ud.1
   omega
  have anU:((g:Int)+1≥1000000000∨((g:Int)+1)*v2>rest*1000000000+u3)→R<((g:Int)+1)*V:=
   alU hP Zr Zo hwl hV hR (by omega) ht hlt
  -- one step down
  have Zs:R<((g:Int)+1)*V→∃g':Int,0≤g'∧g'≤999999999∧R<(g'+1)*V∧g'*V<R+V∧
    (bif decide (rest+v1≥1000000000) then gi k v n j g 0 n 0 q u else jE k v n j g (rest+v1) q u)=gi k v n j g' 0 n 0 q u:=fun hR'=>by
   have ht':u1*1000000000+u2=g*v1+(rest+v1):=by rw[ht,Int.add_mul];omega
   by_cases hbr:rest+v1≥1000000000
   ·have hg9:(g:Int)≤999999999:=by
     by_cases hc:(g:Int)≤999999999
     ·exact hc
     ·exfalso
      have h6:(1000000000:Int)*v1≤(g:Int)*v1:=Int.mul_le_mul_of_nonneg_right (by omega) (by omega)
      have:u1*1000000000≤v1*1000000000:=by omega
      omega
    have hle:(g:Int)*v2≤(rest+v1)*1000000000+u3:=by
     have h7:(g:Int)*v2≤999999999*v2:=Int.mul_le_mul_of_nonneg_right hg9 Ud.1
     omega
    refine⟨g,by omega,hg9,hR',ahn hP (by omega) Ud.1 Zo hvl aey hV hR (by omega) hg9 ht' hle, ?_⟩
    rw[acH hbr,cond_true]
   ·obtain⟨g',h1',h2',h3',h4',h5'⟩:=ih (rest+v1) ht' (by omega) (by omega) hR'
    refine⟨g',h1',h2',h3',h4', ?_⟩
    rw[Zm hbr,cond_false];exact h5'
  rw[BQ,ym]
  by_cases hge:(g:Int)+1≥1000000000
  ·obtain⟨g',h1',h2',h3',h4',h5'⟩:=Zs (anU (.inl hge))
   refine⟨g',h1',h2',h3',h4', ?_⟩
   rw[←h5',xd hge]
   simp (disch:=omega) only[i64_in,gp,e1',gv1,u64_in,alV]
  ·by_cases hgt:((g:Int)+1)*v2>rest*1000000000+u3
   ·obtain⟨g',h1',h2',h3',h4',h5'⟩:=Zs (anU (.inr hgt))
    refine⟨g',h1',h2',h3',h4', ?_⟩
    rw[←h5',uH hge]
    simp (disch:=omega) only[i64_in,gp,tN,e1,e1',e2,gv1,gv2,gu3,u64_in,alV,cO]
   ·refine⟨(g:Int)+1,by omega,by omega,hb,ahn hP (by omega) Ud.1 Zo hvl aey hV hR (by omega) (by omega) ht (by omega), ?_⟩
    rw[uH hge]
    simp (disch:=omega) only[i64_in,gp,tN,e1,e1',e2,gv1,gv2,gu3,u64_in,alV,cZ]
end
end Go.Proofs.YtofjebmoebhiiaaGreatDoor.Ev
namespace Go.Abs
theorem aez {l:List Int}{m:Nat}(h:m+2<l.length):val 1000000000 (l.take (m+3))=val 1000000000 (l.take m)+1000000000^m*(l.getD m 0+1000000000*(l.getD (m+1) 0+1000000000*l.getD (m+2) 0)):=by
 rw[dy (show m+2<l.length by omega),dy (show m+1<l.length by omega),dy (show m<l.length by omega),List.append_assoc,List.append_assoc,fh]
 have:(l.take m).length=m:=by simp;omega
 rw[this]
 simp[val]
theorem aeA {l:List Int}{m:Nat}(h:m+1<l.length):val 1000000000 (l.take (m+2))=val 1000000000 (l.take m)+1000000000^m*(l.getD m 0+1000000000*l.getD (m+1) 0):=by
 rw[dy (show m+1<l.length by omega),dy (show m<l.length by omega),List.append_assoc,fh]
 have:(l.take m).length=m:=by simp;omega
 rw[this]
 simp[val]
end Go.Abs
namespace Go.Proofs.YtofjebmoebhiiaaGreatDoor.Ev
open Go.Abs Go.IntWalk
section
variable {k:Int}{v:List Int}{n j:Nat}
theorem Xc {g:Int}(hg:0≤g∧g<1000000000)(hv:DU v)(Xb:v.length=n):∀(m i:Nat) (b:Int) (u q:List Int),m+i=n→0≤b∧b≤1000000000→DU u→j+n<u.length→u.length≤1000000000000→
  gi k v n j g b n i q u=gi k v n j g (PK g (u.drop (j+i)) (v.drop i) b).2 n n q (u.take (j+i)++(PK g (u.drop (j+i)) (v.drop i) b).1):=by
 intro m
 induction m with
 |zero=>
  intro i b u q hi hb hu hju hul
  have:i=n:=by omega
  subst this
  have h1:v.drop i=[]:=drop_nil (by omega)
  have h2:∀(us:List Int),PK g us [] b=(us,b):=fun us=>by cases us<;>rfl
  rw[h1,h2]
  simp only[List.take_append_drop]
 |succ m ih=>
  intro i b u q hi hb hu hju hul
  have hx:=hu.getD (by omega) (j+i)
  have hy:=hv.getD (by omega) i
  have hm:=aev hg hy
  have e1:((i:Int)+(j:Int)).toNat=j+i:=by omega
  rw[BR,yn]
  have wz:=fun b u q=>ih (i+1) b u q (by omega)
  simp only[Int.natCast_add,Int.natCast_one] at wz
  simp (disch:=omega) only[au,i64_in,gp,tN,e1,Int.toNat_natCast]
  simp (disch:=omega) only[i64_in,br,lN]
  rw[drop_eq (show i<v.length by omega),drop_eq (show j+i<u.length by omega)]
  simp only[PK]
  by_cases h1:u.getD (j+i) 0 - b - g*v.getD i 0 % 1000000000<0
  ·rw[au h1,if_pos h1]
   by_cases h2:u.getD (j+i) 0 - b - g*v.getD i 0 % 1000000000+1000000000<0
   ·rw[if_pos h2]
    simp (disch:=omega) only[i64_in,au,gp,tN,e1,u32_in]
    rw[wz _ _ _ (by omega) (hu.set (by omega) (by omega) _) (by simpa using hju) (by simpa using hul)]
    rw[show j+(i+1)=j+i+1 by omega,CS (by omega),set_drop]
    have e2:g*v.getD i 0 / 1000000000+1+1=g*v.getD i 0 / 1000000000+2:=by omega
    have e3:u.getD (j+i) 0 - b - g*v.getD i 0 % 1000000000+1000000000+1000000000=u.getD (j+i) 0 - b - g*v.getD i 0 % 1000000000+2000000000:=by omega
    rw[e2,e3]
    simp only[List.append_assoc,List.singleton_append]
   ·rw[if_neg h2]
    simp (disch:=omega) only[i64_in,ao,gp,tN,e1,u32_in]
    rw[wz _ _ _ (by omega) (hu.set (by omega) (by omega) _) (by simpa using hju) (by simpa using hul)]
    rw[show j+(i+1)=j+i+1 by omega,CS (by omega),set_drop]
    simp only[List.append_assoc,List.singleton_append]
  ·rw[ao h1,if_neg h1]
   simp (disch:=omega) only[i64_in,ao,gp,tN,e1,u32_in]
   rw[wz _ _ _ (by omega) (hu.set (by omega) (by omega) _) (by simpa using hju) (by simpa using hul)]
   rw[show j+(i+1)=j+i+1 by omega,CS (by omega),set_drop]
   simp only[List.append_assoc,List.singleton_append]
theorem Xd {g x:Int}(hv:DU v)(Xb:v.length=n):∀(m i:Nat) (c:Int) (u q:List Int),m+i=n→0≤c∧c≤1→DU u→j+n<u.length→u.length≤1000000000000→
  lA k v n j g x c n i q u=lA k v n j g x (W9 (u.drop (j+i)) (v.drop i) c).2 n n q (u.take (j+i)++(W9 (u.drop (j+i)) (v.drop i) c).1):=by
 intro m
 induction m with
 |zero=>
  intro i b u q hi hb hu hju hul
  have:i=n:=by omega
  subst this
  have h1:v.drop i=[]:=drop_nil (by omega)
  have h2:∀(us:List Int),W9 us [] b=(us,b):=fun us=>by cases us<;>rfl
  rw[h1,h2]
  simp only[List.take_append_drop]
 |succ m ih=>
  intro i c u q hi hc hu hju hul
  have hx:=hu.getD (by omega) (j+i)
  have hy:=hv.getD (by omega) i
  have e1:((i:Int)+(j:Int)).toNat=j+i:=by omega
  rw[BS,yo]
  have wz:=fun b u q=>ih (i+1) b u q (by omega)
  simp only[Int.natCast_add,Int.natCast_one] at wz
  simp (disch:=omega) only[au,i64_in,gp,tN,e1,Int.toNat_natCast,u32_in]
  simp (disch:=omega) only[u32_in,br,lN]
  rw[drop_eq (show i<v.length by omega),drop_eq (show j+i<u.length by omega)]
  simp only[W9]
  rw[wz _ _ _ (by omega) (hu.set (by omega) (by omega) _) (by simpa using hju) (by simpa using hul)]
  rw[show j+(i+1)=j+i+1 by omega,CS (by omega),set_drop]
  simp only[List.append_assoc,List.singleton_append]
set_option maxHeartbeats 2000000 in
theorem aeB (hv:DU v)(Xb:v.length=n)(hn:2≤n)(Wx:500000000≤v.getD (n - 1) 0){u q:List Int}(hu:DU u)(hju:j+n<u.length)(hul:u.length≤1000000000000)(hq:j<q.length)(hql:q.length≤1000000000000)
  (hlt:VU ((u.drop j).take (n+1))<VU v*1000000000):
  ∃u',eJ k v n j q u=eJ k v n ((j:Int) - 1) (q.set j (VU ((u.drop j).take (n+1)) / VU v)) u'∧u'.length=u.length∧DU u'∧u'.take j=u.take j∧VU ((u'.drop j).take n)=VU ((u.drop j).take (n+1)) % VU v:=by
 obtain⟨m,rfl⟩:∃m,n=m+2:=⟨n - 2,by omega⟩
 -- HZ digits
 have XV:(u.drop j).length=u.length - j:=by simp
 have hR:=aez (l:=u.drop j) (m:=m) (by rw[XV];omega)
 have hV:=aeA (l:=v) (m:=m) (by omega)
 rw[show v.take (m+2)=v from List.take_of_length_le (by omega)] at hV
 simp only[ra] at hR
 have hP:(0:Int)<1000000000^m:=Int.pow_pos (by omega)
 have aey:=kf (B:=1000000000) (by omega) ((hu.drop j).take m)
 have hwl:=zY (B:=1000000000) (by omega) ((hu.drop j).take m)
 have Zo:=kf (B:=1000000000) (by omega) (hv.take m)
 have hvl:=zY (B:=1000000000) (by omega) (hv.take m)
 rw[show ((u.drop j).take m).length=m by rw[List.length_take,XV];omega] at hwl
 rw[show (v.take m).length=m by rw[List.length_take];omega] at hvl
 have b1:=hv.getD (by omega) (m+1)
 have b2:=hv.getD (by omega) m
 have c1:=hu.getD (by omega) (j+(m+2))
 have c2:=hu.getD (by omega) (j+(m+1))
 have c3:=hu.getD (by omega) (j+m)
 have aqa:500000000≤v.getD (m+1) 0:=Wx
 have ap7:=ahm hP hvl aey hV hR b2.2 c3.1 c2.1 hlt
 have Zr:0<VU v:=by
  have e5:(1000000000:Int)^m*1≤1000000000^m*v.getD (m+1) 0:=Int.mul_le_mul_of_nonneg_left (by omega) (by omega)
  have e6:0≤(1000000000:Int)^m*v.getD m 0:=Int.mul_nonneg (by omega) b2.1
  have hV':VU v=_:=hV
  simp only[Int.mul_add,Int.mul_one,Int.mul_left_comm ((1000000000:Int)^m) 1000000000] at hV' e5
  omega
 -- HZ first anW
 have anX:0≤u.getD (j+(m+2)) 0*1000000000+u.getD (j+(m+1)) 0:=by omega
 obtain⟨g0,hg0⟩:∃g0:Nat,(u.getD (j+(m+2)) 0*1000000000+u.getD (j+(m+1)) 0) / v.getD (m+1) 0=g0:=Int.eq_ofNat_of_zero_le (Int.ediv_nonneg anX (by omega))
 have hdm:=Int.mul_ediv_add_emod (u.getD (j+(m+2)) 0*1000000000+u.getD (j+(m+1)) 0) (v.getD (m+1) 0)
 have Yo:=Int.emod_nonneg (u.getD (j+(m+2)) 0*1000000000+u.getD (j+(m+1)) 0) (show v.getD (m+1) 0≠0 by omega)
 have OE:=Int.emod_lt_of_pos (u.getD (j+(m+2)) 0*1000000000+u.getD (j+(m+1)) 0) (show 0<v.getD (m+1) 0 by omega)
 rw[hg0,Int.mul_comm] at hdm
 have alW:val 1000000000 (List.take (m+3) (List.drop j u))<((g0:Int)+1)*VU v:=by
  -- HZ two top digits are less aqc (g0+1) v1
  refine ajy hP Zo hwl hV hR b2.1 c3.2 (by omega) ?_
  rw[Int.add_mul];omega
 obtain⟨g,hg1,hg2,hg3,hg4,hL1⟩:=Xa (k:=k) (q:=q) hP Zo hvl aey hwl hV hR ⟨aqa,b1.2⟩ b2 c1 c2 c3 hlt hn Xb hju hul rfl rfl rfl g0 _ hdm.symm Yo (by omega) alW
 change VU ((u.drop j).take (m+2+1))<(g+1)*VU v at hg3
 change g*VU v<VU ((u.drop j).take (m+2+1))+VU v at hg4
 -- HZ walk as far as HZ Zt
 have hgb:(g0:Int)≤1000000001:=by
  by_cases hc:(g0:Int)≤1000000001
  ·exact hc
  ·exfalso
   have h6:(1000000002:Int)*v.getD (m+1) 0≤(g0:Int)*v.getD (m+1) 0:=Int.mul_le_mul_of_nonneg_right (by omega) (by omega)
   omega
 have w1:eJ k v ((m+2:Nat):Int) j q u=jE k v ((m+2:Nat):Int) j g0 ((u.getD (j+(m+2)) 0*1000000000+u.getD (j+(m+1)) 0) % v.getD (m+1) 0) q u:=by
  rw[BP,yk]
  have e1:((j:Int)+((m+2:Nat):Int)).toNat=j+(m+2):=by omega
  have e2:((j:Int)+((m+2:Nat):Int) - 1).toNat=j+(m+1):=by omega
  have e3:(((m+2:Nat):Int) - 1).toNat=m+1:=by omega
  simp (disch:=omega) only[xd,i64_in,gp,tN,e1,e2,e3,u64_in,fe,kg]
  simp (disch:=omega) only[u64_in,fe,kg,br,lN,hg0]
 -- HZ Zt
 have XU:((u.drop j).take (m+2)).length=v.length:=by rw[List.length_take,XV];omega
 have anY:u.drop j=(u.drop j).take (m+2)++(u.getD (j+(m+2)) 0::u.drop (j+(m+2)+1)):=by
  conv=>lhs;rw[Tq (u.drop j) (m+2)]
  rw[List.drop_drop,drop_eq (show j+(m+2)<u.length by omega)]
 obtain⟨r,b',hs1,hs2,hs3,hs4,hs5⟩:=Zp (g:=g) ⟨hg1,by omega⟩ ((u.drop j).take (m+2)) v (u.getD (j+(m+2)) 0::u.drop (j+(m+2)+1)) 0 XU ((hu.drop j).take _) hv ⟨by omega,by omega⟩
 have w2:=Xc (k:=k) (j:=j) (g:=g) ⟨hg1,by omega⟩ hv Xb (m+2) 0 0 u q (by omega) ⟨by omega,by omega⟩ hu hju hul
 simp only[Nat.add_zero,List.drop_zero,Int.natCast_zero] at w2
 rw[anY,hs1] at w2
 have hRw:VU ((u.drop j).take (m+2+1))=VU ((u.drop j).take (m+2))+1000000000^(m+2)*u.getD (j+(m+2)) 0:=by
  rw[dy (show m+2<(u.drop j).length by rw[XV];omega),VU,fh,ra,XU,Xb]
  simp[val]
 have akx:=zY (B:=1000000000) (by omega) hs3
 have an0:=kf (B:=1000000000) (by omega) hs3
 have aky:=zY (B:=1000000000) (by omega) hv
 rw[hs4,XU,Xb] at akx
 rw[Xb] at aky hs2
 change VU ((u.drop j).take (m+2)) - 0 - g*VU v=VU r - 1000000000^(m+2)*b' at hs2
 change VU r<_ at akx
 change 0≤VU r at an0
 change VU v<_ at aky
 have hjl:(u.take j).length=j:=by simp;omega
 have hu1:DU (u.take j++(r++u.getD (j+(m+2)) 0::u.drop (j+(m+2)+1))):=(hu.take j).append (hs3.append (gK.cons c1.1 c1.2 (hu.drop _)))
 have an1:(u.take j++(r++u.getD (j+(m+2)) 0::u.drop (j+(m+2)+1))).length=u.length:=by
  simp[hs4,XU,Xb];omega
 have hx1:(u.take j++(r++u.getD (j+(m+2)) 0::u.drop (j+(m+2)+1))).getD (j+(m+2)) 0=u.getD (j+(m+2)) 0:=by
  have hrl:r.length=m+2:=by rw[hs4,XU,Xb]
  rw[List.getD,List.getElem?_append_right (by omega),List.getElem?_append_right (by omega)]
  simp[hjl,hrl]
 have jg:∀(r:List Int) (y:Int),r.length=m+2→(u.take j++(r++u.getD (j+(m+2)) 0::u.drop (j+(m+2)+1))).set (j+(m+2)) y=u.take j++(r++y::u.drop (j+(m+2)+1)):=fun r y hrl=>by
  rw[List.set_append_right _ _ (by omega),List.set_append_right _ _ (by omega)]
  simp[hjl,hrl]
 have hdt:∀(r:List Int) (y:Int),r.length=m+2→((u.take j++(r++y::u.drop (j+(m+2)+1))).drop j).take (m+2)=r:=fun r y hrl=>by
  have h1:(u.take j++(r++y::u.drop (j+(m+2)+1))).drop j=r++y::u.drop (j+(m+2)+1):=List.drop_left' hjl
  rw[h1];exact List.take_left' hrl
 have htk:∀(l:List Int),(u.take j++l).take j=u.take j:=fun l=>List.take_left' hjl
 have e1:((j:Int)+((m+2:Nat):Int)).toNat=j+(m+2):=by omega
 have hPn:(0:Int)<1000000000^(m+2):=Int.pow_pos (by omega)
 have T1:VU ((u.drop j).take (m+2+1)) - g*VU v=VU r+1000000000^(m+2)*(u.getD (j+(m+2)) 0 - b'):=by
  rw[hRw,Int.mul_sub]
  omega
 rw[w1,hL1,w2,BR,yn]
 by_cases hneg:u.getD (j+(m+2)) 0 - b'<0
 · -- one too many
   have an3:VU ((u.drop j).take (m+2+1))<g*VU v:=by
    have h1:(1000000000:Int)^(m+2)*(u.getD (j+(m+2)) 0 - b'+1)≤1000000000^(m+2)*0:=Int.mul_le_mul_of_nonneg_left (by omega) (by omega)
    rw[Int.mul_add,Int.mul_zero,Int.mul_one] at h1
    omega
   have ary:1≤g:=by
    by_cases hc:1≤g
    ·exact hc
    ·exfalso
     have:g=0:=by omega
     subst this
     have:=xR ((hu.drop j).take (m+2+1))
     rw[Int.zero_mul] at an3
     omega
   have hq:VU ((u.drop j).take (m+2+1)) / VU v=g - 1∧VU ((u.drop j).take (m+2+1)) % VU v=VU ((u.drop j).take (m+2+1)) - (g - 1)*VU v:=by
    have h1:(g - 1)*VU v=g*VU v - VU v:=by rw[Int.sub_mul,Int.one_mul]
    have h2:VU ((u.drop j).take (m+2+1))=(VU ((u.drop j).take (m+2+1)) - (g - 1)*VU v)+VU v*(g - 1):=by rw[Int.mul_comm (VU v)];omega
    have h3:0≤VU ((u.drop j).take (m+2+1)) - (g - 1)*VU v:=by rw[h1];omega
    have h4:VU ((u.drop j).take (m+2+1)) - (g - 1)*VU v<VU v:=by rw[h1];omega
    constructor
    ·rw[h2,Int.add_mul_ediv_left _ _ (by omega),Int.ediv_eq_zero_of_lt h3 h4];omega
    ·conv=>lhs;rw[h2]
     rw[Int.add_mul_emod_self_left,Int.emod_eq_of_lt h3 h4]
   obtain⟨r2,cc,ha1,ha2,ha3,ha4,ha5⟩:=Zq r v (u.getD (j+(m+2)) 0::u.drop (j+(m+2)+1)) 0 (by rw[hs4,XU]) hs3 hv ⟨by omega,by omega⟩
   have w3:=Xd (k:=k) (j:=j) (g:=g - 1) (x:=u.getD (j+(m+2)) 0 - b') hv Xb (m+2) 0 0 _ q (by omega) ⟨by omega,by omega⟩ hu1 (by rw[an1];exact hju) (by rw[an1];exact hul)
   have hdj:(u.take j++(r++u.getD (j+(m+2)) 0::u.drop (j+(m+2)+1))).drop j=r++u.getD (j+(m+2)) 0::u.drop (j+(m+2)+1):=List.drop_left' hjl
   simp only[Nat.add_zero,List.drop_zero,Int.natCast_zero] at w3
   rw[hdj,ha1,htk] at w3
   have ahp:r2.length=m+2:=by rw[ha4,hs4,XU,Xb]
   have hu2:DU (u.take j++(r2++u.getD (j+(m+2)) 0::u.drop (j+(m+2)+1))):=(hu.take j).append (ha3.append (gK.cons c1.1 c1.2 (hu.drop _)))
   have att:(u.take j++(r2++u.getD (j+(m+2)) 0::u.drop (j+(m+2)+1))).length=u.length:=by
    simp[ahp];omega
   refine⟨u.take j++(r2++0::u.drop (j+(m+2)+1)), ?_,by simp[ahp];omega,(hu.take j).append (ha3.append (gK.cons (by omega) (by omega) (hu.drop _))),htk _, ?_⟩
   ·simp (disch:=omega) only[ao,i64_in,gp,tN,e1,hx1]
    simp (disch:=omega) only[au,i64_in,u64_in]
    rw[w3,BS,yo,hq.1]
    simp (disch:=omega) only[ao,i64_in,gp,tN,e1,u32_in,jg r2 0 ahp,Int.toNat_natCast]
   ·rw[hdt r2 0 ahp,hq.2]
    -- HZ carry takes HZ missing unit
    have ahq:=zY (B:=1000000000) (by omega) ha3
    have alX:=kf (B:=1000000000) (by omega) ha3
    rw[ahp] at ahq
    rw[Xb] at ha2
    change VU r+VU v+0=VU r2+1000000000^(m+2)*cc at ha2
    change VU r2<_ at ahq
    change 0≤VU r2 at alX
    have h1:VU ((u.drop j).take (m+2+1)) - (g - 1)*VU v=VU r2+1000000000^(m+2)*(u.getD (j+(m+2)) 0 - b'+cc):=by
     rw[Int.sub_mul,Int.one_mul,Int.mul_add]
     omega
    have h3:0≤VU ((u.drop j).take (m+2+1)) - (g - 1)*VU v:=by rw[Int.sub_mul,Int.one_mul];omega
    have h4:VU ((u.drop j).take (m+2+1)) - (g - 1)*VU v<VU v:=by rw[Int.sub_mul,Int.one_mul];omega
    have h5:u.getD (j+(m+2)) 0 - b'+cc=0:=by
     by_cases hp:u.getD (j+(m+2)) 0 - b'+cc≥1
     ·exfalso
      have:=Int.mul_le_mul_of_nonneg_left hp (show (0:Int)≤1000000000^(m+2) by omega)
      rw[Int.mul_one] at this
      omega
     ·by_cases hm:u.getD (j+(m+2)) 0 - b'+cc≤ -1
      ·exfalso
       have:=Int.mul_le_mul_of_nonneg_left hm (show (0:Int)≤1000000000^(m+2) by omega)
       rw[Int.mul_neg,Int.mul_one] at this
       omega
      ·omega
    rw[h1,h5];simp
 · -- atu right
   have arz:g*VU v≤VU ((u.drop j).take (m+2+1)):=by
    have h1:(0:Int)≤1000000000^(m+2)*(u.getD (j+(m+2)) 0 - b'):=Int.mul_nonneg (by omega) (by omega)
    omega
   have h3:VU ((u.drop j).take (m+2+1)) - g*VU v<VU v:=by
    have:((g:Int)+1)*VU v=g*VU v+VU v:=by rw[Int.add_mul,Int.one_mul]
    rw[this] at hg3
    omega
   have hq:VU ((u.drop j).take (m+2+1)) / VU v=g∧VU ((u.drop j).take (m+2+1)) % VU v=VU ((u.drop j).take (m+2+1)) - g*VU v:=by
    have h2:VU ((u.drop j).take (m+2+1))=(VU ((u.drop j).take (m+2+1)) - g*VU v)+VU v*g:=by rw[Int.mul_comm (VU v)];omega
    constructor
    ·rw[h2,Int.add_mul_ediv_left _ _ (by omega),Int.ediv_eq_zero_of_lt (by omega) h3];omega
    ·conv=>lhs;rw[h2]
     rw[Int.add_mul_emod_self_left,Int.emod_eq_of_lt (by omega) h3]
   have hrl:r.length=m+2:=by rw[hs4,XU,Xb]
   have h5:u.getD (j+(m+2)) 0 - b'=0:=by
    by_cases hp:u.getD (j+(m+2)) 0 - b'≥1
    ·exfalso
     have:=Int.mul_le_mul_of_nonneg_left hp (show (0:Int)≤1000000000^(m+2) by omega)
     rw[Int.mul_one] at this
     omega
    ·omega
   refine⟨u.take j++(r++0::u.drop (j+(m+2)+1)), ?_,by simp[hrl];omega,(hu.take j).append (hs3.append (gK.cons (by omega) (by omega) (hu.drop _))),htk _, ?_⟩
   ·rw[hq.1]
    simp (disch:=omega) only[ao,i64_in,gp,tN,e1,hx1]
    simp (disch:=omega) only[ao,i64_in,gp,tN,e1,u32_in,jg r 0 hrl,Int.toNat_natCast]
   ·rw[hdt r 0 hrl,hq.2,T1,h5];simp
end
end Go.Proofs.YtofjebmoebhiiaaGreatDoor.Ev
namespace Go.Abs
theorem FN (l:List Int){m:Nat}(h:m<l.length):val 1000000000 (l.take (m+1))=val 1000000000 (l.take m)+1000000000^m*l.getD m 0:=by
 rw[dy h,fh]
 have:(l.take m).length=m:=by simp;omega
 rw[this]
 simp[val]
theorem aeC {b k:Int}(hb:1≤b)(hb':b<1000000000)(hk:k=1000000000 / (b+1)):1≤k∧k*(b+1)≤1000000000∧500000000≤k*b∧k≤500000000:=by
 have h1:=Int.mul_ediv_add_emod 1000000000 (b+1)
 have h2:=Int.emod_nonneg 1000000000 (show b+1≠0 by omega)
 have h3:=Int.emod_lt_of_pos 1000000000 (show 0<b+1 by omega)
 rw[←hk,Int.mul_comm] at h1
 have hk1:1≤k:=by
  by_cases hc:1≤k
  ·exact hc
  ·exfalso
   have:k*(b+1)≤0*(b+1):=Int.mul_le_mul_of_nonneg_right (by omega) (by omega)
   rw[Int.zero_mul] at this
   omega
 have e1:k*(b+1)=k*b+k:=by rw[Int.mul_add,Int.mul_one]
 have e5:k*2≤k*(b+1):=Int.mul_le_mul_of_nonneg_left (by omega) (by omega)
 refine⟨hk1,by omega, ?_,by omega⟩
 by_cases hk2:k=1
 ·subst hk2;omega
 ·have e2:0≤(k - 2)*(b+1 - 2):=Int.mul_nonneg (by omega) (by omega)
  have e3:(k - 2)*(b+1 - 2)=k*b - k - 2*b+2:=by
   rw[show b+1 - 2=b - 1 by omega,Int.sub_mul,Int.mul_sub,Int.mul_sub]
   omega
  omega
end Go.Abs
namespace Go.Proofs.YtofjebmoebhiiaaGreatDoor.Ev
open Go.Abs Go.IntWalk
section
variable {k:Int}{v:List Int}{n:Nat}
theorem aa9 (hv:DU v)(Xb:v.length=n)(hn:2≤n)(Wx:500000000≤v.getD (n - 1) 0):∀(J:Nat) (q u:List Int),DU q→DU u→J≤q.length→J+n≤u.length→u.length≤1000000000000→q.length≤1000000000000→VU ((u.drop J).take n)<VU v→
  ∃q' u',eJ k v n ((J:Int) - 1) q u=eJ k v n (-1) q' u'∧q'.length=q.length∧DU q'∧u'.length=u.length∧DU u'∧q'.drop J=q.drop J∧
   VU (u.take J)+1000000000^J*VU ((u.drop J).take n)=VU v*VU (q'.take J)+VU (u'.take n)∧VU (u'.take n)<VU v:=by
 intro J
 induction J with
 |zero=>
  intro q u hq hu h1 h2 h3 h4 hx
  refine⟨q,u,rfl,rfl,hq,rfl,hu,rfl, ?_,by simpa using hx⟩
  simp[VU,val]
 |succ J ih=>
  intro q u hq hu h1 h2 h3 h4 hx
  have hw:(u.drop J).take (n+1)=u.getD J 0::(u.drop (J+1)).take n:=by
   rw[drop_eq (show J<u.length by omega),List.take_succ_cons]
  have hd:=hu.getD (by omega) J
  have hRv:VU ((u.drop J).take (n+1))=u.getD J 0+1000000000*VU ((u.drop (J+1)).take n):=by rw[hw];rfl
  have hXn:=xR ((hu.drop (J+1)).take n)
  have aqe:VU ((u.drop J).take (n+1))<VU v*1000000000:=by rw[hRv];omega
  obtain⟨u1,s1,s2,s3,s4,s5⟩:=aeB (k:=k) hv Xb hn Wx hu (show J+n<u.length by omega) h3 (show J<q.length by omega) h4 aqe
  have Zr:0<VU v:=by omega
  have aqf:0≤VU ((u.drop J).take (n+1)):=by omega
  have q0:0≤VU ((u.drop J).take (n+1)) / VU v:=Int.ediv_nonneg aqf (by omega)
  have q1:VU ((u.drop J).take (n+1)) / VU v<1000000000:=Int.ediv_lt_of_lt_mul Zr (by rw[Int.mul_comm];omega)
  obtain⟨q',u',t1,t2,t3,t4,t5,t6,t7,t8⟩:=ih (q.set J (VU ((u.drop J).take (n+1)) / VU v)) u1 (hq.set q0 q1 _) s3 (by simp;omega) (by omega) (by omega) (by simpa using h4) (by rw[s5];exact Int.emod_lt_of_pos _ Zr)
  have hJq:J<q'.length:=by rw[t2];simp;omega
  have hqJ:q'.getD J 0=VU ((u.drop J).take (n+1)) / VU v:=by
   have e:(q'.drop J).getD 0 0=((q.set J (VU ((u.drop J).take (n+1)) / VU v)).drop J).getD 0 0:=by rw[t6]
   rw[ra,ra,Nat.add_zero] at e
   rw[e]
   simp[List.getD,show J<q.length by omega]
  refine⟨q',u', ?_,by rw[t2];simp,t3,by rw[t4,s2],t5, ?_, ?_,t8⟩
  ·rw[show ((J+1:Nat):Int) - 1=J by omega,s1,t1]
  ·have e:(q'.drop J).drop 1=((q.set J (VU ((u.drop J).take (n+1)) / VU v)).drop J).drop 1:=by rw[t6]
   rw[List.drop_drop,List.drop_drop,set_drop] at e
   exact e
  ·have e1:=FN u (show J<u.length by omega)
   have e2:=FN q' hJq
   have e3:=Int.mul_ediv_add_emod (VU ((u.drop J).take (n+1))) (VU v)
   rw[s4,s5] at t7
   rw[hqJ] at e2
   change VU (u.take (J+1))=VU (u.take J)+1000000000^J*u.getD J 0 at e1
   change VU (q'.take (J+1))=VU (q'.take J)+1000000000^J*(VU ((u.drop J).take (n+1)) / VU v) at e2
   have e4:(1000000000:Int)^J*VU ((u.drop J).take (n+1))=1000000000^J*u.getD J 0+1000000000^(J+1)*VU ((u.drop (J+1)).take n):=by
    rw[hRv,Int.mul_add,Int.pow_succ,Int.mul_assoc]
   have e5:VU v*VU (q'.take (J+1))=VU v*VU (q'.take J)+1000000000^J*(VU v*(VU ((u.drop J).take (n+1)) / VU v)):=by
    rw[e2,Int.mul_add,Int.mul_left_comm]
   have e6:(1000000000:Int)^J*VU ((u.drop J).take (n+1))=1000000000^J*(VU v*(VU ((u.drop J).take (n+1)) / VU v))+1000000000^J*(VU ((u.drop J).take (n+1)) % VU v):=by
    rw[←Int.mul_add,e3]
   omega
end
theorem VD {N:Nat}{n:Nat}(hl:(dU N).length=n+1){x:Int}(h:x*1000000000^n≤N):x≤(dU N).getD n 0:=by
 have h1:=FN (dU N) (show n<(dU N).length by omega)
 rw[List.take_of_length_le (by omega)] at h1
 have h2:=zY (B:=1000000000) (by omega) ((HV N).take n)
 rw[show ((dU N).take n).length=n by rw[List.length_take];omega] at h2
 have h3:=Ju N
 rw[VU] at h3
 by_cases hc:x≤(dU N).getD n 0
 ·exact hc
 ·exfalso
  have h4:(1000000000:Int)^n*((dU N).getD n 0+1)≤1000000000^n*x:=Int.mul_le_mul_of_nonneg_left (by omega) (Int.pow_nonneg (by omega))
  rw[Int.mul_add,Int.mul_one,Int.mul_comm _ x] at h4
  omega
theorem ofNat_pow (n:Nat):((1000000000^n:Nat):Int)=(1000000000:Int)^n:=by
 rw[Int.natCast_pow];rfl
theorem Zu {A B:Nat}(hl:(dU A).length≤100000000000)(hB:2≤(dU B).length)(hAB:B≤A):
  ∃q r,EW (dU A) (dU B)=some (q,r)∧DU q∧DU r∧VU q=((A / B:Nat):Int)∧VU r=((A % B:Nat):Int)∧q.length≤(dU A).length∧r.length≤(dU A).length:=by
 obtain⟨n,hn⟩:∃n,(dU B).length=n+1:=⟨(dU B).length - 1,by omega⟩
 have an4:0<B:=by
  by_cases h:B=0
  ·subst h;rw[show dU 0=[] from dW _] at hB;simp at hB
  ·omega
 have aty:=ahj hAB
 have hdA:=HV A
 have hdB:=HV B
 -- HZ top digit of HZ ajz
 have an6:(1000000000^n:Nat)≤B:=(fG (B:=1000000000) (by omega) n B).1 (show n<(dU B).length by omega)
 have ht1:1≤(dU B).getD n 0:=VD hn (by rw[Int.one_mul, ←ofNat_pow];omega)
 have ht2:=hdB.getD (by omega) n
 obtain⟨k,hk⟩:∃k,k=(1000000000:Int) / ((dU B).getD n 0+1):=⟨_,rfl⟩
 obtain⟨hk1,hk2,hk3,hk4⟩:=aeC ht1 ht2.2 hk
 obtain⟨K,rfl⟩:=Int.eq_ofNat_of_zero_le (show 0≤k by omega)
 -- HZ scaled numbers
 obtain⟨u1,u2,u3⟩:=W8 (dU A) K 0 hdA ⟨by omega,by omega⟩ ⟨by omega,by omega⟩
 obtain⟨w1,w2,w3⟩:=W8 (dU B) K 0 hdB ⟨by omega,by omega⟩ ⟨by omega,by omega⟩
 rw[Ju,Int.add_zero] at u1 w1
 have hv:np (Rf (dU B) K 0)=dU (B*K):=by
  rw[acL w2,w1, ←Int.natCast_mul,Int.toNat_natCast]
 -- its length
 have ajA:=FN (dU B) (show n<(dU B).length by omega)
 rw[List.take_of_length_le (by omega)] at ajA
 have aeD:=zY (B:=1000000000) (by omega) (hdB.take n)
 have arC:=kf (B:=1000000000) (by omega) (hdB.take n)
 rw[show ((dU B).take n).length=n by rw[List.length_take];omega] at aeD
 have hVB:=Ju B
 rw[VU] at hVB
 have hPn:(0:Int)<1000000000^n:=Int.pow_pos (by omega)
 have hBK:B*K<1000000000^(n+1):=by
  have h1:(B:Int)*K≤(1000000000^n*((dU B).getD n 0+1) - 1)*K:=Int.mul_le_mul_of_nonneg_right (by rw[Int.mul_add,Int.mul_one];omega) (by omega)
  have h2:(1000000000:Int)^n*(K*((dU B).getD n 0+1))≤1000000000^n*1000000000:=Int.mul_le_mul_of_nonneg_left hk2 (by omega)
  rw[Int.sub_mul,Int.one_mul,Int.mul_assoc,Int.mul_comm ((dU B).getD n 0+1) (K:Int)] at h1
  have h3:=ofNat_pow (n+1)
  rw[Int.pow_succ] at h3
  have h4:((B*K:Nat):Int)=(B:Int)*K:=Int.natCast_mul _ _
  omega
 have aqg:1000000000^n≤B*K:=Nat.le_trans an6 (Nat.le_mul_of_pos_right _ (by omega))
 have hvl:(dU (B*K)).length=n+1:=by
  have h1:=(aL (B:=1000000000) (by omega) (n+1) (B*K)).2 hBK
  have h2:=(fG (B:=1000000000) (by omega) n (B*K)).2 aqg
  show (T3 1000000000 (B*K)).length=n+1
  omega
 have Wx:500000000≤(dU (B*K)).getD (n+1 - 1) 0:=by
  refine VD (N:=B*K) hvl ?_
  have h1:(K*(dU B).getD n 0)*1000000000^n≤(B:Int)*K:=by
   have h2:1000000000^n*(dU B).getD n 0*K≤(B:Int)*K:=Int.mul_le_mul_of_nonneg_right (by omega) (by omega)
   rw[Int.mul_comm (K*_),Int.mul_comm (K:Int), ←Int.mul_assoc]
   exact h2
  have h3:500000000*(1000000000:Int)^n≤(K*(dU B).getD n 0)*1000000000^n:=Int.mul_le_mul_of_nonneg_right hk3 (by omega)
  rw[Int.natCast_mul]
  omega
 have hvD:=HV (B*K)
 have hVv:VU (dU (B*K))=(B:Int)*K:=by rw[Ju,Int.natCast_mul]
 -- HZ loop
 have hul:(Rf (dU A) K 0).length=(dU A).length+1:=u3
 obtain⟨J,hJ⟩:∃J,(dU A).length+1=J+(n+1):=⟨(dU A).length - n,by omega⟩
 have hstart:VU (((Rf (dU A) K 0).drop J).take (n+1))<VU (dU (B*K)):=by
  rw[List.take_of_length_le (by rw[List.length_drop];omega),hVv]
  have h1:=fh 1000000000 ((Rf (dU A) K 0).take J) ((Rf (dU A) K 0).drop J)
  rw[List.take_append_drop,show ((Rf (dU A) K 0).take J).length=J by rw[List.length_take];omega] at h1
  have h2:=xR (u2.take J)
  have h3:=u1
  rw[VU] at h3 h2
  -- a<U^la
  have h4:A<1000000000^(dU A).length:=(aL (B:=1000000000) (by omega) _ A).1 (Nat.le_refl _)
  rw[show (dU A).length=J+n by omega,Nat.pow_add] at h4
  have h5:((1000000000^J*1000000000^n:Nat):Int)=(1000000000:Int)^J*1000000000^n:=by rw[Int.natCast_mul,ofNat_pow,ofNat_pow]
  have hPJ:(0:Int)<1000000000^J:=Int.pow_pos (by omega)
  have h6:(A:Int)*K<(1000000000^J*1000000000^n)*K:=Int.mul_lt_mul_of_pos_right (by omega) (by omega)
  have h7:(1000000000:Int)^n*K≤(B:Int)*K:=Int.mul_le_mul_of_nonneg_right (by rw[←ofNat_pow];omega) (by omega)
  have h8:(1000000000:Int)^J*val 1000000000 ((Rf (dU A) K 0).drop J)<1000000000^J*(1000000000^n*K):=by
   rw[←Int.mul_assoc];omega
  have h9:=Int.lt_of_mul_lt_mul_left h8 (by omega)
  show val 1000000000 ((Rf (dU A) K 0).drop J)<_
  omega
 obtain⟨q',u',t1,t2,t3,t4,t5,t6,t7,t8⟩:=aa9 (k:=K) hvD hvl (by omega) Wx J (List.replicate J 0) (Rf (dU A) K 0) (gK.replicate (by omega) _) u2 (by simp) (by omega) (by omega) (by simp;omega) hstart
 rw[List.length_replicate] at t2
 have htq:q'.take J=q':=List.take_of_length_le (by omega)
 rw[htq,hVv] at t7
 have hU0:VU ((Rf (dU A) K 0).take J)+1000000000^J*VU (((Rf (dU A) K 0).drop J).take (n+1))=(A:Int)*K:=by
  rw[List.take_of_length_le (l:=(Rf (dU A) K 0).drop J) (by rw[List.length_drop];omega), ←u1]
  have h1:=fh 1000000000 ((Rf (dU A) K 0).take J) ((Rf (dU A) K 0).drop J)
  rw[List.take_append_drop,show ((Rf (dU A) K 0).take J).length=J by rw[List.length_take];omega] at h1
  exact h1.symm
 rw[hU0] at t7
 -- HZ rest is an7
 have hsu:=t5.take (n+1)
 have hshort:=Of (b:=(K:Int)) hsu ⟨by omega,by omega⟩ (by rw[List.length_take];omega)
 obtain⟨s1,s2,s3,s4,s5⟩:=Oe (b:=(K:Int)) ⟨by omega,by omega⟩ _ hsu
 have hQ0:=xR t3
 have Yo:=xR s4
 have arD:(0:Int)<K:=by omega
 -- A=B q+r
 have hAq:(A:Int)=B*VU q'+VU (C3 K (u'.take (n+1))).1:=by
  have h1:((A:Int) - B*VU q' - VU (C3 K (u'.take (n+1))).1)*K=(C3 K (u'.take (n+1))).2:=by
   rw[Int.sub_mul,Int.sub_mul]
   have:(B:Int)*VU q'*K=B*K*VU q':=by rw[Int.mul_assoc,Int.mul_comm (VU q'), ←Int.mul_assoc]
   rw[this]
   omega
  have h2:(A:Int) - B*VU q' - VU (C3 K (u'.take (n+1))).1=0:=by
   by_cases hp:(A:Int) - B*VU q' - VU (C3 K (u'.take (n+1))).1≥1
   ·exfalso
    have:=Int.mul_le_mul_of_nonneg_right hp (show (0:Int)≤K by omega)
    rw[Int.one_mul] at this
    omega
   ·by_cases hm:(A:Int) - B*VU q' - VU (C3 K (u'.take (n+1))).1≤ -1
    ·exfalso
     have:=Int.mul_le_mul_of_nonneg_right hm (show (0:Int)≤K by omega)
     rw[Int.neg_mul,Int.one_mul] at this
     omega
    ·omega
  omega
 have hrB:VU (C3 K (u'.take (n+1))).1<B:=by
  have h1:VU (C3 K (u'.take (n+1))).1*K<(B:Int)*K:=by rw[hVv] at t8;omega
  exact Int.lt_of_mul_lt_mul_right h1 (by omega)
 obtain⟨Q,hQ⟩:=Int.eq_ofNat_of_zero_le hQ0
 obtain⟨r,hr⟩:=Int.eq_ofNat_of_zero_le Yo
 rw[hQ,hr] at hAq
 rw[hr] at hrB
 have hAN:A=B*Q+r:=by
  have:((B*Q+r:Nat):Int)=(B:Int)*Q+r:=by rw[Int.natCast_add,Int.natCast_mul]
  omega
 have hq1:A / B=Q:=by rw[hAN,Nat.mul_add_div an4,Nat.div_eq_of_lt (by omega)];omega
 have OE:A % B=r:=by rw[hAN,Nat.mul_add_mod,Nat.mod_eq_of_lt (by omega)]
 refine⟨q',(C3 K (u'.take (n+1))).1, ?_,t3,s4,by rw[hQ,hq1],by rw[hr,OE],by omega,by rw[s5,List.length_take];omega⟩
 -- HZ walk
 rw[Qv,Mh]
 have e1:(((dU B).length:Int) - 1).toNat=n:=by omega
 simp (disch:=omega) only[i64_in,gp,e1,u64_in,fe,kg,lN]
 rw[←hk]
 simp (disch:=omega) only[u64_in,u32_in]
 rw[LC hdA ⟨by omega,by omega⟩ (by omega),bS,LC hdB ⟨by omega,by omega⟩ (by omega),bS,DR (by omega),bS,hv]
 simp (disch:=omega) only[i64_in,LB,hul,hvl]
 have e2:((((dU A).length+1:Nat):Int) - ((n+1:Nat):Int)).toNat=J:=by omega
 have e3:(((dU A).length+1:Nat):Int) - ((n+1:Nat):Int) - 1=(J:Int) - 1:=by omega
 rw[e2,e3,t1,BP,yk]
 simp (disch:=omega) only[uH,FK,Int.toNat_natCast]
 rw[hshort,bS]
end Go.Proofs.YtofjebmoebhiiaaGreatDoor.Ev
namespace Go.Proofs.YtofjebmoebhiiaaGreatDoor.Ev
open Go.Abs Go.IntWalk
theorem Xe {A B:Nat}(hl:(dU A).length≤100000000000)(hl':(dU B).length≤100000000000)(hB:0<B):
  ∃q r,xz (dU A) (dU B)=some (q,r)∧DU q∧DU r∧VU q=((A / B:Nat):Int)∧VU r=((A % B:Nat):Int)∧q.length≤1000000000000∧r.length≤1000000000000:=by
 rw[NN,IQ,Jv (by omega) (by omega),bS]
 by_cases h:A<B
 ·rw[mD (by omega),au (by omega)]
  refine⟨[],dU A,rfl,gK.nil,HV A, ?_, ?_,by simp,by omega⟩
  ·rw[Nat.div_eq_of_lt h];rfl
  ·rw[Nat.mod_eq_of_lt h,Ju]
 ·have hc:¬ml (A:Int) B<0:=by unfold ml;rw[if_neg (by omega)];split<;>omega
  rw[ao hc]
  by_cases h1:(dU B).length=1
  ·rw[lO (by omega)]
   have hd:=(HV B).getD (by omega) 0
   have hBv:(dU B).getD 0 0=B:=by
    have h2:=Ju B
    cases hb:dU B with
    |nil=>rw[hb] at h1;simp at h1
    |cons x xs=>
     rw[hb] at h1 h2
     have:xs=[]:=by simpa using h1
     subst this
     simpa [VU,val] using h2
   rw[hBv] at hd
   obtain⟨s1,s2,s3,s4,s5⟩:=Oe (b:=(B:Int)) ⟨by omega,hd.2⟩ (dU A) (HV A)
   have ht:np [(C3 (B:Int) (dU A)).2]=dU (C3 (B:Int) (dU A)).2.toNat:=by
    have:DU [(C3 (B:Int) (dU A)).2]:=gK.cons s2 (by omega) gK.nil
    rw[acL this]
    simp[VU,val]
   simp (disch:=omega) only[gp,Int.toNat_zero,hBv]
   rw[Of (HV A) ⟨by omega,hd.2⟩ (by omega),bS,DR (by simp),bS,ht]
   obtain⟨r,hr⟩:=Int.eq_ofNat_of_zero_le s2
   obtain⟨Q,hQ⟩:=Int.eq_ofNat_of_zero_le (xR s4)
   rw[Ju,hQ,hr] at s1
   rw[hr] at s3
   have hAN:A=B*Q+r:=by
    have:((B*Q+r:Nat):Int)=(B:Int)*Q+r:=by rw[Int.natCast_add,Int.natCast_mul]
    rw[Int.mul_comm] at s1
    omega
   have hq1:A / B=Q:=by rw[hAN,Nat.mul_add_div hB,Nat.div_eq_of_lt (by omega)];omega
   have OE:A % B=r:=by rw[hAN,Nat.mul_add_mod,Nat.mod_eq_of_lt (by omega)]
   refine⟨_,_,rfl,s4,HV _,by rw[hQ,hq1],by rw[Ju,hr,OE];rfl,by omega, ?_⟩
   rw[hr,Int.toNat_natCast]
   have:=(aL (B:=1000000000) (by omega) 1 r).2 (by omega)
   show (T3 1000000000 r).length≤_
   omega
  ·rw[fe (by omega)]
   have hne:(dU B).length≠0:=fun e=>by
    have:=(l9 (B:=1000000000) (n:=B) (by omega)).1 (List.length_eq_zero_iff.1 e)
    omega
   obtain⟨q,r,e1,e2,e3,e4,e5,e6,e7⟩:=Zu (A:=A) (B:=B) hl (by omega) (by omega)
   rw[e1,bS]
   exact⟨q,r,rfl,e2,e3,e4,e5,by omega,by omega⟩
theorem aba:∀(y x:Nat),ly x y=some ((Nat.gcd x y:Nat):Int):=by
 intro y
 induction y using Nat.strongRecOn with
 |ind y ih=>
  intro x
  rw[He,BL]
  by_cases h:y=0
  ·subst h;rw[cZ (by omega),Nat.gcd_zero_right]
  ·have e:(x:Int).tmod y=((x % y:Nat):Int):=by rw[br (by omega),Int.natCast_emod]
   rw[cO (by omega),kg (by omega),e,ih _ (Nat.mod_lt _ (by omega)),Nat.gcd_comm y, ←Nat.gcd_rec,Nat.gcd_comm]
theorem VE {d:List Int}(hd:DU d)(hl:d.length≤2):EV d=some (VU d):=by
 rw[Qt,Mf]
 match d,hd,hl with
 | [],hd,hl=>
   simp (disch:=omega) only[List.length_nil,i64_in]
   rw[j6,jG,uH (by omega)];rfl
 | [x],hd,hl=>
   have hx:=hd.head
   simp only[List.length_singleton]
   rw[i64_in _ (by omega),j6,jG,xd (by omega),gp (by omega) (by simp)]
   have e:([x]:List Int).getD (((1:Nat):Int) - 1).toNat 0=x:=rfl
   rw[e]
   simp (disch:=omega) only[i64_in]
   rw[j6,jG,uH (by omega)]
   simp[VU,val]
 | [x,y],hd,hl=>
   have hx:=hd.head
   have hy:=hd.tail.head
   simp only[List.length_cons,List.length_nil]
   rw[i64_in _ (by omega),j6,jG,xd (by omega),gp (by omega) (by simp)]
   have e:([x,y]:List Int).getD (((0+1+1:Nat):Int) - 1).toNat 0=y:=rfl
   rw[e]
   simp (disch:=omega) only[i64_in]
   rw[j6,jG,xd (by omega),gp (by omega) (by simp)]
   have e:([x,y]:List Int).getD (((0+1+1:Nat):Int) - 1 - 1).toNat 0=x:=rfl
   rw[e]
   simp (disch:=omega) only[i64_in]
   rw[j6,jG,uH (by omega)]
   simp[VU,val]
   omega
 |_::_::_::_,hd,hl=>simp at hl
theorem ahr {t:Bool}{t2:List Int}:∀(B A:Nat),(dU A).length≤10000000000→(dU B).length≤10000000000→ed (dU A) (dU B) t t2=some (W ((Nat.gcd A B:Nat):Int)):=by
 intro B
 induction B using Nat.strongRecOn with
 |ind B ih=>
  intro A hA hB
  rw[Ad,tc]
  by_cases h:B=0
  ·subst h
   rw[show dU 0=[] from dW _,cZ (by simp),Nat.gcd_zero_right]
   simp[W]
  ·have hne:(dU B).length≠0:=fun e=>by
    have:=(l9 (B:=1000000000) (n:=B) (by omega)).1 (List.length_eq_zero_iff.1 e)
    omega
   rw[cO (by omega)]
   -- HZ step by a amM
   have Zs:(xz (dU A) (dU B)).bind (fun r6=>(mN r6.2).bind fun r7=>ed (dU B) r7 t t2)=some (W ((Nat.gcd A B:Nat):Int)):=by
    obtain⟨q,r,e1,e2,e3,e4,e5,e6,e7⟩:=Xe (A:=A) (B:=B) (by omega) (by omega) (by omega)
    have hmod:=Nat.mod_lt A (show B>0 by omega)
    have hm:=ahj (show A % B≤B by omega)
    rw[e1,bS,DR (show r.length≤_ by omega),bS,acL e3,e5,Int.toNat_natCast,ih _ hmod B hB (by omega)]
    rw[Nat.gcd_comm B, ←Nat.gcd_rec,Nat.gcd_comm]
   by_cases ha:(dU A).length≤2
   ·rw[Od (by omega)]
    by_cases hb:(dU B).length≤2
    ·rw[Od (by omega),VE (HV A) ha,bS,VE (HV B) hb,bS,Ju,Ju,NM,IP,aba,bS]
     have h1:=(aL (B:=1000000000) (by omega) 2 B).1 hb
     have h2:=Nat.gcd_le_right A (show 0<B by omega)
     rw[VC (by omega) (by omega),bS,wk]
    ·rw[Tp (by omega)];exact Zs
   ·rw[Tp (by omega)];exact Zs
theorem FO {x y:Int}(hx:Ln x≤10000000000)(hy:Ln y≤10000000000):oV (W x) (W y)=some (W ((Int.gcd x y:Nat):Int)):=by
 rw[E6,zK,W_2,W_2,ahr _ _ hx hy]
 rfl
end Go.Proofs.YtofjebmoebhiiaaGreatDoor.Ev
namespace Go.Abs
theorem aP (s:ByteArray):(bytesOf s).length=s.size:=by
 rw[bytesOf,List.length_map,Array.length_toList];rfl
theorem ma (s:ByteArray):gK 256 (bytesOf s):=fun x hx=>by
 simp only[bytesOf,List.mem_map] at hx
 obtain⟨b,_,rfl⟩:=hx
 have:=b.toNat_lt
 omega
theorem yw (s:ByteArray)(i:Int):zt s i=idx (bytesOf s) i:=by
 cases i with
 |ofNat n=>
  show (s[n]?).map _=(bytesOf s)[n]?
  simp only[bytesOf,List.getElem?_map,Array.getElem?_toList]
  rfl
 |negSucc n=>rfl
theorem lk (s:ByteArray)(l h:Nat):bytesOf (s.extract l h)=((bytesOf s).take h).drop l:=by
 simp only[bytesOf,ByteArray.data_extract,Array.toList_extract,List.extract_eq_take_drop]
 rw[←List.map_take, ←List.map_drop,List.drop_take]
theorem lP {s t:ByteArray}(h:bytesOf s=bytesOf t):s=t:=by
 apply ByteArray.ext
 apply Array.ext'
 refine(List.map_inj_right fun a b hab=> ?_).1 h
 have h2:a.toNat=b.toNat:=Int.ofNat.inj hab
 exact UInt8.toNat_inj.1 h2
theorem sP {xs:List Int}(h:gK 256 xs):bytesOf (strOf xs)=xs:=by
 simp only[bytesOf,strOf,List.map_map]
 conv=>rhs;rw[←List.map_id xs]
 apply List.map_congr_left
 intro x hx
 have:=h x hx
 simp only[Function.comp,id,UInt8.toNat_ofNat']
 omega
theorem Uv (s:ByteArray):strOf (bytesOf s)=s:=lP (sP (ma s))
theorem Zv (s:ByteArray):∀(n i:Nat) (r:List UInt8),s.size - i=n→ByteArray.toList.loop s i r=r.reverse++s.data.toList.drop i:=by
 intro n
 induction n with
 |zero=>
  intro i r h
  rw[ByteArray.toList.loop,if_neg (by omega)]
  rw[List.drop_eq_nil_of_le (by simp;exact(show s.data.size≤i by have:= @ByteArray.size_data s;omega))];simp
 |succ n ih=>
  intro i r h
  have hi:i<s.size:=by omega
  have hi':i<s.data.toList.length:=by simp;exact(show i<s.data.size by have:= @ByteArray.size_data s;omega)
  rw[ByteArray.toList.loop,if_pos hi,ih (i+1) _ (by omega)]
  rw[List.drop_eq_getElem_cons hi']
  simp
  have:s.get! i=s.data[i]'(by simpa using hi'):=by
   simp only[ByteArray.get!]
   exact getElem!_pos _ _ _
  exact this
theorem toList_eq (s:ByteArray):s.toList=s.data.toList:=by
 rw[ByteArray.toList,Zv s _ 0 [] rfl];simp
theorem Xf (s t:ByteArray):(s.toList==t.toList)=decide (bytesOf s=bytesOf t):=by
 rw[toList_eq,toList_eq]
 by_cases h:s=t
 ·subst h;simp
 ·have h1:¬bytesOf s=bytesOf t:=fun e=>h (lP e)
  have h2:¬s.data.toList=t.data.toList:=fun e=>h (ByteArray.ext (Array.ext' e))
  rw[decide_eq_false h1]
  simpa using h2
theorem Ts (s t:ByteArray):(s.toList==t.toList)=decide (s=t):=by
 rw[Xf]
 exact decide_eq_decide.2 ⟨lP,fun h=>by rw[h]⟩
theorem Uw:bytesOf ByteArray.empty=[]:=rfl
theorem Jx (s t:ByteArray):bytesOf (s++t)=bytesOf s++bytesOf t:=by
 simp only[bytesOf]
 rw[←List.map_append]
 congr 1
end Go.Abs
namespace Go.Abs
abbrev dX (n:Nat):List Int:=T3 10 n
abbrev VX (d:List Int):Int:=val 10 d
abbrev DX (d:List Int):Prop:=gK 10 d
theorem GS (n:Nat):DX (dX n):=W4 (B:=10) (by omega) n
theorem Jy (n:Nat):VX (dX n)=n:=W5 (B:=10) (by omega) n
theorem Tt {d:List Int}(h:DX d):np d=dX (VX d).toNat:=FI (B:=10) (by omega) d h
theorem Kb {d:List Int}(h:DX d):0≤VX d:=kf (by omega) h
theorem GU (n:Nat):((10^n:Nat):Int)=(10:Int)^n:=by
 rw[Int.natCast_pow];rfl
theorem Oh {k n:Nat}(h:k≤n):(10:Int)^k≤10^n:=by
 have h1:=Nat.pow_le_pow_right (show 10>0 by omega) h
 rw[←GU, ←GU]
 exact Int.ofNat_le.2 h1
def FX (d:List Int):List Int:=d.map (· +48)
def kh (n:Nat):List Int:=if n=0 then [48] else (FX (dX n)).reverse
def qI (z:Int):List Int:=(if z<0 then [45] else [])++kh z.natAbs
def fH (z:Int):ByteArray:=strOf (qI z)
theorem oJ (n:Nat):∀c∈kh n,48≤c∧c≤57:=by
 intro c hc
 unfold kh at hc
 split at hc
 ·simp at hc;omega
 ·rw[List.mem_reverse] at hc
  obtain⟨y,hy,rfl⟩:=List.mem_map.1 hc
  have:=GS n y hy
  omega
theorem abb (z:Int):gK 256 (qI z):=fun c hc=>by
 unfold qI at hc
 rcases List.mem_append.1 hc with h |h
 ·split at h
  ·simp at h;omega
  ·cases h
 ·have:=oJ _ c h
  omega
theorem du (z:Int):bytesOf (fH z)=qI z:=sP (abb z)
theorem Xh (n:Nat):kh n≠ []:=by
 unfold kh
 split
 ·simp
 ·rename_i h
  intro e
  have h1:FX (dX n)=[]:=by simpa using e
  have h2:dX n=[]:=by simpa [FX] using h1
  exact h ((l9 (B:=10) (by omega)).1 h2)
theorem qJ (n:Nat):(kh n).length=max 1 (dX n).length:=by
 unfold kh
 split
 ·rename_i h;subst h;rw[dX,dW];rfl
 ·rename_i h
  have:(dX n).length≠0:=fun e=>h ((l9 (B:=10) (by omega)).1 (List.length_eq_zero_iff.1 e))
  simp[FX];omega
theorem aeE (n:Nat):(kh n).head?=some 48↔n=0:=by
 unfold kh
 split
 ·rename_i h;simp[h]
 ·rename_i h
  have hne:dX n≠ []:=fun e=>h ((l9 (B:=10) (by omega)).1 e)
  constructor
  ·intro e
   exfalso
   rw[List.head?_reverse] at e
   have h1:dX n=(dX n).dropLast++[(dX n).getLast hne]:=(List.dropLast_concat_getLast hne).symm
   have h2:=QH (B:=10) (by omega) h1
   rw[FX,List.getLast?_map,List.getLast?_eq_some_getLast hne] at e
   simp at e
   omega
  ·intro e;exact absurd e h
def jf (l:List Int):Int:=l.foldl (fun x c=>10*x+(c - 48)) 0
theorem Kc:∀(l:List Int) (x:Int),l.foldl (fun x c=>10*x+(c - 48)) x=x*10^l.length+jf l
 | [],x=>by simp[jf]
 |c::l,x=>by
  simp only[List.foldl_cons,jf]
  rw[Kc l (10*x+(c - 48)),Kc l (10*0+(c - 48)),List.length_cons,Int.pow_succ,Int.add_mul]
  have e1:10*x*10^l.length=x*(10^l.length*10):=by rw[Int.mul_comm 10 x,Int.mul_assoc,Int.mul_comm 10]
  rw[e1];simp only[Int.mul_zero,Int.zero_add];omega
theorem DT (l m:List Int):jf (l++m)=jf l*10^m.length+jf m:=by
 rw[jf,List.foldl_append,Kc]
 rfl
theorem xS:∀(d:List Int),jf (FX d).reverse=VX d
 | []=>rfl
 |x::d=>by
  simp only[FX,List.map_cons,List.reverse_cons]
  rw[DT]
  have:=xS d
  rw[FX] at this
  rw[this]
  simp[jf,VX,val];omega
theorem FP (n:Nat):jf (kh n)=n:=by
 unfold kh
 split
 ·rename_i h;subst h;rfl
 ·rw[xS,Jy]
theorem zp:∀(l:List Int),(∀c∈l,48≤c∧c≤57)→0≤jf l∧jf l<10^l.length
 | [],_=>by simp[jf]
 |c::l,h=>by
  have h1:=h c (by simp)
  have h2:=zp l (fun x hx=>h x (by simp[hx]))
  have h3:jf (c::l)=(c - 48)*10^l.length+jf l:=by
   have:=Kc l (10*0+(c - 48))
   simpa [jf] using this
  rw[h3,List.length_cons,Int.pow_succ]
  have hp:(0:Int)<10^l.length:=Int.pow_pos (by omega)
  have h4:0≤(c - 48)*10^l.length:=Int.mul_nonneg (by omega) (by omega)
  have h5:(c - 48)*10^l.length≤9*10^l.length:=Int.mul_le_mul_of_nonneg_right (by omega) (by omega)
  omega
def Ru (c:Int):Bool:=decide (48≤c)&&decide (c≤57)
theorem yx (c:Int):Ru c=true↔48≤c∧c≤57:=by simp[Ru]
theorem aeF {l:List Int}(h:∀c∈l,48≤c∧c≤57)(hne:l≠ [])(h0:l.head?=some 48→l=[48]):l=kh (jf l).toNat:=by
 by_cases hz:l.head?=some 48
 ·rw[h0 hz];rfl
 · -- HZ digits from HZ lowest one on
   have hD:DX (l.map (· - 48)).reverse:=fun x hx=>by
    rw[List.mem_reverse] at hx
    obtain⟨c,hc,rfl⟩:=List.mem_map.1 hx
    have:=h c hc
    omega
   have an8:FX (l.map (· - 48)).reverse=l.reverse:=by
    simp only[FX, ←List.map_reverse,List.map_map]
    conv=>rhs;rw[←List.map_id l.reverse]
    apply List.map_congr_left
    intro c _
    simp only[Function.comp,id];omega
   have hv:VX (l.map (· - 48)).reverse=jf l:=by rw[←xS,an8,List.reverse_reverse]
   have an9:np (l.map (· - 48)).reverse=(l.map (· - 48)).reverse:=by
    cases l with
    |nil=>exact absurd rfl hne
    |cons c l=>
     simp only[List.map_cons,List.reverse_cons]
     exact CQ (fun e=>hz (by simp;omega)) _
   have hu:=aa6 (B:=10) (by omega) hD an9
   rw[show val ((10:Nat):Int) (l.map (· - 48)).reverse=jf l from hv] at hu
   have hnz:(jf l).toNat≠0:=fun e=>by
    rw[e,dW] at hu
    exact hne (by simpa using hu)
   unfold kh
   rw[if_neg hnz,dX, ←hu,an8,List.reverse_reverse]
theorem Zw {m n:Nat}(h:kh m=kh n):m=n:=by
 have h1:=FP m
 rw[h,FP n] at h1
 omega
theorem ahs {x y:Int}(h:qI x=qI y):x=y:=by
 unfold qI at h
 have key:∀(m n:Nat),([45]:List Int)++kh m≠ []++kh n:=fun m n e=>by
  have:(45:Int)∈kh n:=by
   rw[List.nil_append] at e
   rw[←e];simp
  have:=oJ n _ this
  omega
 split at h<;>split at h
 ·have:=Zw (List.append_cancel_left h);omega
 ·exact absurd h (key _ _)
 ·exact absurd h.symm (key _ _)
 ·have:=Zw (List.append_cancel_left h);omega
theorem ajB {x y:Int}(h:fH x=fH y):x=y:=ahs (by rw[←du, ←du,h])
theorem abc {x y:Int}:fH x=fH y↔x=y:=⟨ajB,fun h=>by rw[h]⟩
def iR (l:List Int):Bool:=l.head?==some 45
def bo (l:List Int):List Int:=if l.head?=some 45 then l.tail else l
def fP (l:List Int):Bool:=
 (bo l).all Ru&& !((bo l).isEmpty)&&(!((bo l).head?==some 48)||((bo l).length==1&& !(iR l)))
def numOf (l:List Int):Int:=if iR l then -jf (bo l) else jf (bo l)
theorem QI (z:Int):fP (qI z)=true∧numOf (qI z)=z:=by
 have hr:=oJ z.natAbs
 have hne:=Xh z.natAbs
 have hh:=aeE z.natAbs
 by_cases h:z<0
 ·have hb:bo (qI z)=kh z.natAbs:=by simp[bo,qI,h]
  have hm:iR (qI z)=true:=by simp[iR,qI,h]
  have hz:¬(kh z.natAbs).head?=some 48:=fun e=>by have:=hh.1 e;omega
  refine⟨?_, ?_⟩
  ·unfold fP
   rw[hb,hm]
   have h1:(kh z.natAbs).all Ru=true:=List.all_eq_true.2 fun c hc=>(yx c).2 (hr c hc)
   have h2:(kh z.natAbs).isEmpty=false:=by simpa using hne
   have h3:((kh z.natAbs).head?==some 48)=false:=by simpa using hz
   rw[h1,h2,h3];rfl
  ·unfold numOf
   rw[hb,hm,FP];simp;omega
 ·have hb':(qI z).head?≠some 45:=by
   simp only[qI,h,if_false,List.nil_append]
   intro e
   have:(45:Int)∈kh z.natAbs:=List.mem_of_mem_head? (by rw[e];rfl)
   have:=hr _ this
   omega
  have hb:bo (qI z)=kh z.natAbs:=by
   unfold bo;rw[if_neg hb'];simp[qI,h]
  have hm:iR (qI z)=false:=by simpa [iR] using hb'
  refine⟨?_, ?_⟩
  ·unfold fP
   rw[hb,hm]
   have h1:(kh z.natAbs).all Ru=true:=List.all_eq_true.2 fun c hc=>(yx c).2 (hr c hc)
   have h2:(kh z.natAbs).isEmpty=false:=by simpa using hne
   rw[h1,h2]
   by_cases h3:(kh z.natAbs).head?=some 48
   ·have:z.natAbs=0:=hh.1 h3
    rw[this];rfl
   ·have h4:((kh z.natAbs).head?==some 48)=false:=by simpa using h3
    rw[h4];rfl
  ·unfold numOf
   rw[hb,hm,FP];simp;omega
theorem Tu {l:List Int}(h:fP l=true):l=qI (numOf l):=by
 unfold fP at h
 simp only[Bool.and_eq_true,Bool.or_eq_true,Bool.not_eq_true',List.isEmpty_eq_false_iff] at h
 obtain⟨⟨h1,h2⟩,h3⟩:=h
 have hr:∀c∈bo l,48≤c∧c≤57:=fun c hc=>(yx c).1 (List.all_eq_true.1 h1 c hc)
 have h0:(bo l).head?=some 48→bo l=[48]∧iR l=false:=fun e=>by
  rcases h3 with h3 |h3
  ·rw[e] at h3;cases h3
  ·refine⟨?_,h3.2⟩
   cases hb:bo l with
   |nil=>exact absurd hb h2
   |cons c r=>
    rw[hb] at e h3
    simp at e h3
    rw[e,h3.1]
 have hn:=aeF hr h2 (fun e=>(h0 e).1)
 have hb:=zp _ hr
 by_cases hm:l.head?=some 45
 ·have hm':iR l=true:=by simpa [iR] using hm
  have hnz:jf (bo l)≠0:=fun e=>by
   rw[e] at hn
   have:(bo l).head?=some 48:=by rw[hn];rfl
   have:=(h0 this).2
   rw[hm'] at this;cases this
  have hl:l=45::bo l:=by
   cases l with
   |nil=>cases hm
   |cons c r=>simp at hm;subst hm;simp[bo]
  unfold numOf qI
  rw[if_pos hm',if_pos (by omega)]
  conv=>lhs;rw[hl,hn]
  have:(-jf (bo l)).natAbs=(jf (bo l)).toNat:=by omega
  rw[this];rfl
 ·have hm':iR l=false:=by simpa [iR] using hm
  have hl:bo l=l:=by unfold bo;rw[if_neg hm]
  unfold numOf qI
  rw[hm',hl]
  rw[hl] at hn hb
  simp only[Bool.false_eq_true,if_false]
  rw[if_neg (by omega),List.nil_append]
  have:(jf l).natAbs=(jf l).toNat:=by omega
  rw[this];exact hn
def nd (z:Int):Nat:=(kh z.natAbs).length
theorem jT (z:Int)(k:Nat)(hk:1≤k):nd z≤k↔z.natAbs<10^k:=by
 unfold nd
 rw[qJ]
 have:=aL (B:=10) (by omega) k z.natAbs
 simp only[dX]
 rw[←this]
 omega
theorem Tv (z:Int):nd (-z)=nd z:=by unfold nd;rw[Int.natAbs_neg]
theorem Zx (z:Int):(fH z).size=nd z+(if z<0 then 1 else 0):=by
 rw[←aP,du]
 unfold qI nd
 split<;>simp<;>omega
end Go.Abs
namespace Go.Proofs.YtofjebmoebhiiaaGreatDoor.Ev
open Go.Abs Go.IntWalk
theorem take_one {l:List Int}:l.take 1=[45]↔l.head?=some 45:=by
 cases l<;>simp
theorem Xi (s:ByteArray):iJ s (bs [45])=some (strOf (bo (bytesOf s)),iR (bytesOf s)):=by
 have h45:bytesOf (bs [45])=[45]:=rfl
 have hsz:(bs [45]).size=1:=rfl
 have hlen:=aP s
 rw[yV,rO,sD,mV,sE,mW,hsz]
 by_cases h0:1≤s.size
 ·rw[xd (by omega),FK (by omega) (by omega) (by omega),bS,Xf,h45,lk]
  have e1:((0:Int)).toNat=0:=rfl
  have e2:(((1:Nat):Int)).toNat=1:=rfl
  rw[e1,e2,List.drop_zero]
  by_cases hm:(bytesOf s).head?=some 45
  ·have hd:decide ((bytesOf s).take 1=[45])=true:=decide_eq_true (take_one.2 hm)
   rw[hd]
   simp only[Bool.not_true,cF]
   rw[FK (by omega) (by omega) (by omega),bS]
   have hb:bo (bytesOf s)=(bytesOf s).tail:=by unfold bo;rw[if_pos hm]
   have hm':iR (bytesOf s)=true:=by simpa [iR] using hm
   have hx:s.extract 1 ((s.size:Nat):Int).toNat=strOf (bo (bytesOf s)):=by
    apply lP
    rw[lk,hb,sP (fun x hx=>ma s x (List.mem_of_mem_tail hx)),Int.toNat_natCast, ←hlen,List.take_length]
    simp
   rw[hm',hx]
  ·have hd:decide ((bytesOf s).take 1=[45])=false:=decide_eq_false (fun e=>hm (take_one.1 e))
   rw[hd]
   simp only[Bool.not_false,cT]
   rw[bS]
   have hb:bo (bytesOf s)=bytesOf s:=by unfold bo;rw[if_neg hm]
   have hm':iR (bytesOf s)=false:=by simpa [iR] using hm
   rw[hb,hm',Uv]
 ·have he:bytesOf s=[]:=List.length_eq_zero_iff.1 (by omega)
  rw[uH (by omega),bS]
  simp only[Bool.not_false,cT]
  rw[bS]
  have:s=strOf (bo (bytesOf s)):=by
   apply lP
   rw[he,sP]
   ·rfl
   ·rw[show bo ([]:List Int)=[] from rfl];exact gK.nil
  rw[←this,he];rfl
theorem abd {s:ByteArray}{neg:Bool}{e:Int}{t4:Bool}{t5:List Int}{c:List Int}(hc:gK 256 c)(hl:c.length≤9):∀(m k:Nat) (x:Int) (d:List Int),m+k=c.length→x=jf (c.take k)→(∀b∈c.take k,48≤b∧b≤57)→d.length≤100000000000000 / 5→
  nt s neg e x c c.length k d t4 t5=bif c.all Ru then jC s neg (IntKind.wrap .i64 (e - 9)) (d++[jf c]) t4 t5 else some ((false,[],()),false):=by
 intro m
 induction m with
 |zero=>
  intro k x d hk hx hd XV
  have hk':k=c.length:=by omega
  subst hk'
  rw[List.take_length] at hx hd
  have ha:c.all Ru=true:=List.all_eq_true.2 fun b hb=>(yx b).2 (hd b hb)
  rw[BJ,yf,ao (by omega),ja (by omega) (by omega),ha,cT,hx]
 |succ m ih=>
  intro k x d hk hx hd XV
  have hkl:k<c.length:=by omega
  have hb:=hc.getD (by omega) k
  have hxb:=zp (c.take k) hd
  rw[show (c.take k).length=k by rw[List.length_take];omega] at hxb
  have atL:(10:Int)^k≤10^8:=Oh (by omega)
  rw[BJ,yf,au (by omega),gp (by omega) (by omega),Int.toNat_natCast]
  by_cases h1:c.getD k 0<48
  ·have ha:c.all Ru=false:=by
    rw[List.all_eq_false]
    refine⟨c.getD k 0, ?_,by rw[yx];omega⟩
    simp only[List.getD,hkl,List.getElem?_eq_getElem,Option.getD_some]
    exact List.getElem_mem hkl
   rw[au h1,ha,cF]
  ·by_cases h2:c.getD k 0>57
   ·have ha:c.all Ru=false:=by
     rw[List.all_eq_false]
     refine⟨c.getD k 0, ?_,by rw[yx];omega⟩
     simp only[List.getD,hkl,List.getElem?_eq_getElem,Option.getD_some]
     exact List.getElem_mem hkl
    rw[ao h1,cO h2,ha,cF]
   ·rw[ao h1,cZ h2]
    simp (disch:=omega) only[u8_in,u32_in,i64_in]
    have wz:=fun x d=>ih (k+1) x d (by omega)
    simp only[Int.natCast_add,Int.natCast_one] at wz
    rw[wz]
    ·rw[dy hkl,DT, ←hx]
     simp[jf];omega
    ·rw[dy hkl]
     intro b hb'
     rcases List.mem_append.1 hb' with h |h
     ·exact hd b h
     ·simp only[List.mem_singleton] at h;subst h;omega
    ·exact XV
theorem abe {s:ByteArray}{neg:Bool}{t4:Bool}{t5:List Int}(hs:s.size≤140737488355328):∀(m e:Nat) (d:List Int),e≤m→e≤s.size→DU d→d.length*9+e≤140737488355328+9→
  jC s neg e d t4 t5=bif ((bytesOf s).take e).all Ru then some (W (bif neg then -(VU d+1000000000^d.length*jf ((bytesOf s).take e)) else (VU d+1000000000^d.length*jf ((bytesOf s).take e))),true) else some ((false,[],()),false):=by
 intro m
 induction m using Nat.strongRecOn with
 |ind m ih=>
  intro e d hm he hd XV
  have hbl:=aP s
  rw[BI,ye]
  by_cases h0:e=0
  ·subst h0
   rw[cZ (by omega),yv hd (by omega),bS]
   simp only[List.take_zero,List.all_nil,cT,jf,List.foldl_nil,Int.mul_zero,Int.add_zero]
   try rfl
  ·rw[cO (by omega)]
   -- HZ ao0 begin
   obtain⟨b,hb⟩:∃b:Nat,b=e - 9:=⟨_,rfl⟩
   have e0:(bif decide (IntKind.wrap .i64 ((e:Int) - 9)>0) then IntKind.wrap .i64 ((e:Int) - 9) else 0)=(b:Int):=by
    rw[i64_in _ (by omega)]
    by_cases h:(e:Int) - 9>0
    ·rw[cO h];omega
    ·rw[cZ h];omega
   rw[e0]
   have hx:bytesOf (s.extract b e)=((bytesOf s).take e).drop b:=lk s b e
   have hxl:(bytesOf (s.extract b e)).length=e - b:=by rw[hx];simp;omega
   have hxs:(s.extract b e).size≤140737488355328:=by rw[←aP,hxl];omega
   simp only[Int.toNat_natCast]
   rw[FK (by omega) (by omega) (by omega),ap2 hxs]
   have hI:=abd (s:=s) (neg:=neg) (e:=(e:Int)) (t4:=t4) (t5:=t5) (c:=bytesOf (s.extract b e)) (ma _) (by omega) (e - b) 0 0 d (by omega) (by simp[jf]) (by simp) (by omega)
   simp only[Int.natCast_zero] at hI
   rw[hI,hx,i64_in _ (by omega)]
   have PL:(bytesOf s).take e=(bytesOf s).take b++((bytesOf s).take e).drop b:=by
    conv=>lhs;rw[Tq ((bytesOf s).take e) b]
    rw[List.take_take,Nat.min_eq_left (by omega)]
   cases hca:(((bytesOf s).take e).drop b).all Ru with
   |false=>
    have:((bytesOf s).take e).all Ru=false:=by rw[PL,List.all_append,hca,Bool.and_false]
    rw[this,cF,cF]
   |true=>
    rw[cT]
    have hcd:∀x∈((bytesOf s).take e).drop b,48≤x∧x≤57:=fun x hx=>(yx x).1 (List.all_eq_true.1 hca x hx)
    have hcb:=zp _ hcd
    have hcl:(((bytesOf s).take e).drop b).length=e - b:=by rw[←hx,hxl]
    rw[hcl] at hcb
    have hpw:(10:Int)^(e - b)≤10^9:=Oh (by omega)
    have XR:DU (d++[jf (((bytesOf s).take e).drop b)]):=hd.append (gK.cons hcb.1 (by omega) gK.nil)
    have hVd:VU (d++[jf (((bytesOf s).take e).drop b)])=VU d+1000000000^d.length*jf (((bytesOf s).take e).drop b):=by
     rw[VU,fh];simp[val]
    by_cases h9:9≤e
    ·have e1:(e:Int) - 9=(b:Int):=by omega
     rw[e1,ih b (by omega) b _ (Nat.le_refl _) (by omega) XR (by simp;omega),hVd]
     have h4:((bytesOf s).take e).all Ru=((bytesOf s).take b).all Ru:=by
      conv=>lhs;rw[PL]
      rw[List.all_append,hca,Bool.and_true]
     have h5:jf ((bytesOf s).take e)=jf ((bytesOf s).take b)*1000000000+jf (((bytesOf s).take e).drop b):=by
      conv=>lhs;rw[PL]
      rw[DT,hcl,show e - b=9 by omega]
      rfl
     have h6:VU d+1000000000^d.length*jf (((bytesOf s).take e).drop b)+1000000000^(d++[jf (((bytesOf s).take e).drop b)]).length*jf ((bytesOf s).take b)
       =VU d+1000000000^d.length*jf ((bytesOf s).take e):=by
      rw[h5,List.length_append,List.length_singleton,Int.pow_succ,Int.mul_add,Int.mul_assoc,Int.mul_comm (1000000000:Int) (jf _)]
      omega
     rw[h4,h6]
    · -- HZ last chunk
      have hb0:b=0:=by omega
      subst hb0
      rw[BI,ye,cZ (by omega),yv XR (by simp;omega),bS,hVd]
      rw[List.drop_zero] at hca ⊢
      rw[hca,cT]
      try rfl
theorem uI {s:ByteArray}(hs:s.size≤140737488355328):ET s=bif fP (bytesOf s) then some (W (numOf (bytesOf s)),true) else some ((false,[],()),false):=by
 rw[Qq,Md,Xi,bS]
 have hbody:bytesOf (strOf (bo (bytesOf s)))=bo (bytesOf s):=sP (fun x hx=>ma s x (by
  unfold bo at hx
  split at hx
  ·exact List.mem_of_mem_tail hx
  ·exact hx))
 have hbl:(bo (bytesOf s)).length≤s.size:=by
  rw[←aP]
  unfold bo
  split
  ·simp
  ·exact Nat.le_refl _
 have hsz:(strOf (bo (bytesOf s))).size=(bo (bytesOf s)).length:=by rw[←aP,hbody]
 generalize hB:bo (bytesOf s)=B at*
 generalize hM:iR (bytesOf s)=M at*
 simp only
 rw[Xf,hbody,Uw]
 cases B with
 |nil=>
  have:fP (bytesOf s)=false:=by unfold fP;rw[hB];simp
  rw[this];rfl
 |cons c r=>
  have h1:decide ((c::r:List Int)=[])=false:=by simp
  rw[h1,cF,yw,hbody]
  have h2:idx (c::r) (0:Int)=some c:=rfl
  rw[h2,bS]
  have hout:=abe (s:=strOf (c::r)) (neg:=M) (t4:=false) (t5:=[]) (by rw[hsz];omega) (c::r).length (c::r).length [] (Nat.le_refl _) (by rw[hsz];exact Nat.le_refl _) gK.nil (by simp at hbl ⊢;omega)
  rw[hbody,List.take_length] at hout
  have aaV:jC (strOf (c::r)) M ((c::r).length:Int) [] false []=bif (c::r).all Ru then some (W (numOf (bytesOf s)),true) else some ((false,[],()),false):=by
   rw[hout]
   have:(bif M then -(VU []+1000000000^([]:List Int).length*jf (c::r)) else (VU []+1000000000^([]:List Int).length*jf (c::r)))=numOf (bytesOf s):=by
    unfold numOf
    rw[hB,hM]
    cases M<;>simp[VU,val]
   rw[this]
  have hok:fP (bytesOf s)=((c::r).all Ru&&(!(c==48)||((c::r).length==1&& !M))):=by
   unfold fP
   rw[hB,hM]
   simp
  by_cases hc:c=48
  ·subst hc
   rw[lO rfl]
   rw[hok]
   by_cases hl:r=[]
   ·subst hl
    rw[hsz,cZ (by simp)]
    cases M with
    |true=>rfl
    |false=>
     rw[cF,aaV];rfl
   ·have hr:0<r.length:=List.length_pos_iff.2 hl
    rw[hsz,cO (by simp;omega)]
    have h5:((48::r:List Int).length==1)=false:=by simp;exact hl
    rw[h5]
    simp
  ·rw[fe hc,hsz,aaV,hok]
   have:(c==48)=false:=Jt hc
   rw[this]
   simp
end Go.Proofs.YtofjebmoebhiiaaGreatDoor.Ev
namespace Go.Abs
theorem ajC {n:Nat}(h:0<n):(dX n).length=(dX (n / 10)).length+1:=by
 rw[dX,yt (by omega) h,List.length_cons]
theorem VF (n c:Nat):(10:Nat)^(9*n+c)=1000000000^n*10^c:=by
 rw[Nat.pow_add,Nat.pow_mul]
def g9:Nat→Int→List Int
 |0,_=>[]
 |k+1,x=>x % 10::g9 k (x / 10)
theorem Kd:∀k x,(g9 k x).length=k
 |0,_=>rfl
 |k+1,x=>by simp[g9,Kd k]
theorem aoa:∀k x,DX (g9 k x)
 |0,_=>gK.nil
 |k+1,x=>gK.cons (by omega) (by omega) (aoa k _)
theorem aht:∀k (x:Int),0≤x→x<10^k→VX (g9 k x)=x
 |0,x,h0,h1=>by simp at h1;simp[g9,VX,val];omega
 |k+1,x,h0,h1=>by
  rw[Int.pow_succ] at h1
  have ih:=aht k (x / 10) (by omega) (by omega)
  simp only[g9,VX,val] at ih ⊢
  rw[ih];omega
def LD (d:List Int):List Int:=d.flatMap (g9 9)
theorem Oi:∀d:List Int,(LD d).length=9*d.length
 | []=>rfl
 |x::d=>by
  have:=Oi d
  simp only[LD,List.flatMap_cons,List.length_append,Kd,List.length_cons] at this ⊢
  omega
theorem Xj:∀d:List Int,DX (LD d)
 | []=>gK.nil
 |x::d=>by simp only[LD,List.flatMap_cons];exact(aoa 9 x).append (Xj d)
theorem VG:∀d:List Int,gK 1000000000 d→VX (LD d)=val 1000000000 d
 | [],_=>rfl
 |x::d,h=>by
  have ih:=VG d h.tail
  have hx:=h.head
  simp only[LD,List.flatMap_cons] at ih ⊢
  rw[VX,fh,Kd]
  have:=aht 9 x hx.1 (by simpa using hx.2)
  rw[VX] at this ih
  rw[this,ih,val]
  rfl
theorem GV (d e:List Int):FX (d++e)=FX d++FX e:=by simp[FX]
theorem qK (d:List Int):(FX d).length=d.length:=by simp[FX]
end Go.Abs
namespace Go.Proofs.YtofjebmoebhiiaaGreatDoor.Ev
open Go.Abs Go.IntWalk
theorem Zy:∀(x n:Nat),x<1000000000→n+x≤1000000000000000→dr n x=some (((n+(dX x).length:Nat)):Int):=by
 intro x
 induction x using Nat.strongRecOn with
 |ind x ih=>
  intro n hx hn
  rw[vp,o9]
  by_cases h:x=0
  ·subst h;rw[cZ (by omega),show dX 0=[] from dW _];rfl
  ·have e:IntKind.wrap .u32 ((x:Int).tdiv 10)=((x / 10:Nat):Int):=by rw[u32_quo _ _ (by omega)];omega
   have e2:IntKind.wrap .i64 ((n:Int)+1)=((n+1:Nat):Int):=by rw[i64_in _ (by omega)];omega
   rw[cO (by omega),e,e2,ih (x / 10) (Nat.div_lt_self (by omega) (by omega)) (n+1) (by omega) (by omega),ajC (n:=x) (by omega)]
   congr 2;omega
theorem K3 {z:Int}(hz:Ln z≤20000000000000):gT (W z)=some ((dX z.natAbs).length:Int):=by
 rw[Ae,tf,ahl]
 by_cases h:z=0
 ·subst h
  have:Ln 0=0:=(zo 0).2 rfl
  rw[this,lO (by omega),show dX (Int.natAbs 0)=[] from dW _];rfl
 ·have hpos:Ln z≠0:=fun e=>h ((zo z).1 e)
  obtain⟨n,hn⟩:∃n,Ln z=n+1:=⟨Ln z - 1,by omega⟩
  have hd:=HV z.natAbs
  have hl:(dU z.natAbs).length=n+1:=hn
  have ajA:=hd.getD (by omega) n
  rw[fe (by omega)]
  simp only[W_2,oI]
  have e1:((Ln z:Int) - 1).toNat=n:=by omega
  simp (disch:=omega) only[i64_in,gp,e1,oI]
  obtain⟨t,ht⟩:=Int.eq_ofNat_of_zero_le ajA.1
  rw[ht] at ajA ⊢
  have e2:(9:Int)*((Ln z:Int) - 1)=((9*n:Nat):Int):=by omega
  rw[e2,Zy t (9*n) (by omega) (by omega)]
  congr 2
  -- HZ number atM ao1 two aqj
  have h1:=FN (dU z.natAbs) (show n<(dU z.natAbs).length by omega)
  rw[List.take_of_length_le (by omega),ht] at h1
  have h2:=zY (B:=1000000000) (by omega) (hd.take n)
  have h3:=kf (B:=1000000000) (by omega) (hd.take n)
  rw[show ((dU z.natAbs).take n).length=n by rw[List.length_take];omega] at h2
  have h4:=Ju z.natAbs
  rw[VU] at h4
  have ht0:0<t:=by
   have hne:dU z.natAbs=(dU z.natAbs).take n++[(t:Int)]:=by
    conv=>lhs;rw[←List.take_of_length_le (l:=dU z.natAbs) (i:=n+1) (by omega)]
    rw[dy (by omega),ht]
   have:=QH (B:=1000000000) (by omega) hne
   omega
  have hc:(dX t).length≠0:=fun e=>by
   have:=(l9 (B:=10) (n:=t) (by omega)).1 (List.length_eq_zero_iff.1 e)
   omega
  obtain⟨c,hcc⟩:∃c,(dX t).length=c+1:=⟨(dX t).length - 1,by omega⟩
  have h5:=(aL (B:=10) (by omega) (c+1) t).1 (by rw[←hcc];exact Nat.le_refl _)
  have h6:=(fG (B:=10) (by omega) c t).1 (by show c<(dX t).length;omega)
  have h7:z.natAbs<10^(9*n+(c+1)):=by
   rw[VF]
   have:((1000000000:Nat)^n)*(t+1)≤1000000000^n*10^(c+1):=Nat.mul_le_mul_left _ h5
   rw[Nat.mul_add,Nat.mul_one] at this
   have e:=ofNat_pow n
   have e':((1000000000^n*t:Nat):Int)=1000000000^n*(t:Int):=by rw[Int.natCast_mul,e]
   omega
  have h8:10^(9*n+c)≤z.natAbs:=by
   rw[VF]
   have:((1000000000:Nat)^n)*10^c≤1000000000^n*t:=Nat.mul_le_mul_left _ h6
   have e:=ofNat_pow n
   have e':((1000000000^n*t:Nat):Int)=1000000000^n*(t:Int):=by rw[Int.natCast_mul,e]
   omega
  have h9:=(aL (B:=10) (by omega) (9*n+(c+1)) z.natAbs).2 h7
  have h10:=(fG (B:=10) (by omega) (9*n+c) z.natAbs).2 h8
  show 9*n+(dX t).length=(T3 10 z.natAbs).length
  omega
def VH (z:Int):Bool:=decide (1000<nd z)
theorem DV {z:Int}(hz:Ln z≤20000000000000):mQ (W z)=some (VH z):=by
 rw[Dw,xL]
 show (gT (W z)).bind _=_
 rw[K3 hz,bS]
 congr 1
 unfold VH nd
 rw[qJ]
 exact decide_eq_decide.2 (by omega)
theorem abf {t:List Int}{t2 t3:Int}{a:Bool}{a2:List Int}:∀(m k:Nat) (x:Int) (out:List Int),m+k=9→0≤x→x<1000000000→out.length+m≤10000000000000→
  eI x t t2 t3 k out a a2=dD t t2 (IntKind.wrap .i64 (t3+1)) (out++FX (g9 m x)) a a2:=by
 intro m
 induction m with
 |zero=>
  intro k x out hk h0 h1 ho
  rw[qo,mr,ao (by omega)]
  simp[g9,FX]
 |succ m ih=>
  intro k x out hk h0 h1 ho
  rw[qo,mr,au (by omega)]
  simp (disch:=omega) only[br,u32_in,u8_in,u32_quo,ja,i64_in]
  have wz:=fun x out=>ih (k+1) x out (by omega)
  simp only[Int.natCast_add,Int.natCast_one] at wz
  rw[wz _ _ (by omega) (by omega) (by simp;omega)]
  simp only[g9,FX,List.map_cons,List.append_assoc,List.singleton_append,Int.add_comm (48:Int)]
theorem abg {d:List Int}{a:Bool}{a2:List Int}(hd:DU d)(hl:d.length≤1000000000000):∀(m i:Nat) (out:List Int),m+i=d.length→out.length=9*i→
  dD d d.length i out a a2=dE (out++FX (LD (d.drop i))) a a2:=by
 intro m
 induction m with
 |zero=>
  intro i out hi ho
  rw[qn,mq,ao (by omega),drop_nil (by omega)]
  simp[LD,FX]
 |succ m ih=>
  intro i out hi ho
  have hx:=hd.getD (by omega) i
  rw[qn,mq,au (by omega),gp (by omega) (by omega),Int.toNat_natCast]
  have hI:=abf (t:=d) (t2:=d.length) (t3:=i) (a:=a) (a2:=a2) 9 0 (d.getD i 0) out rfl hx.1 hx.2 (by omega)
  simp only[Int.natCast_zero] at hI
  have wz:=fun out=>ih (i+1) out (by omega)
  simp only[Int.natCast_add,Int.natCast_one] at wz
  rw[hI,i64_in _ (by omega),wz _ (by rw[List.length_append,qK,Kd];omega),drop_eq (show i<d.length by omega)]
  simp only[LD,List.flatMap_cons,GV,List.append_assoc]
theorem ahu:∀(m:Nat) (M A C:List Int),M.length=m→A.length=C.length→(A++M++C).length≤1000000000000000→
  dF A.length ((A.length:Int)+M.length - 1) (A++M++C)=some (strOf (A++M.reverse++C)):=by
 intro m
 induction m using Nat.strongRecOn with
 |ind m ih=>
  intro M A C hm hac hl
  rw[yU,rL]
  by_cases h:M.length≤1
  ·rw[ao (by omega)]
   have:M.reverse=M:=by
    match M,h with
    | [],_=>rfl
    | [x],_=>rfl
    |_::_::_,h=>simp at h
   rw[this]
  ·obtain⟨x,M1,rfl⟩:∃x M1,M=x::M1:=by
    cases M with
    |nil=>simp at h
    |cons x M1=>exact⟨x,M1,rfl⟩
   have hne:M1≠ []:=fun e=>by rw[e] at h;simp at h
   obtain⟨M2,y,rfl⟩:∃M2 y,M1=M2++[y]:=⟨M1.dropLast,M1.getLast hne,(List.dropLast_concat_getLast hne).symm⟩
   have hlen:(A++x::(M2++[y])++C).length=A.length+M2.length+2+C.length:=by simp;omega
   have hM:(x::(M2++[y])).length=M2.length+2:=by simp
   rw[hM]
   rw[hlen] at hl
   have ej:((A.length:Int)+((M2.length+2:Nat):Int) - 1).toNat=A.length+M2.length+1:=by omega
   have hL:A++x::(M2++[y])++C=A++(x::(M2++(y::C))):=by simp
   rw[hL] at hlen ⊢
   have gx:(A++(x::(M2++(y::C)))).getD A.length 0=x:=by simp[List.getD]
   have gy:(A++(x::(M2++(y::C)))).getD (A.length+M2.length+1) 0=y:=by
    rw[List.getD,List.getElem?_append_right (by omega)]
    have:A.length+M2.length+1 - A.length=M2.length+1:=by omega
    rw[this]
    simp
   have s1:(A++(x::(M2++(y::C)))).set A.length y=A++(y::(M2++(y::C))):=by
    rw[List.set_append_right _ _ (by omega)];simp
   have s2:(A++(y::(M2++(y::C)))).set (A.length+M2.length+1) x=(A++[y])++M2++(x::C):=by
    rw[List.set_append_right _ _ (by omega)]
    have:A.length+M2.length+1 - A.length=M2.length+1:=by omega
    rw[this,List.set_cons_succ,List.set_append_right _ _ (by omega)]
    simp
   have Za:(A++(y::(M2++(y::C)))).length=A.length+M2.length+2+C.length:=by simp;omega
   rw[au (by omega)]
   simp (disch:=omega) only[gp,tN,ej,Int.toNat_natCast,gx,gy,s1,s2,i64_in]
   have:=ih M2.length (by simp at hm;omega) M2 (A++[y]) (x::C) rfl (by simp;omega) (by simp;omega)
   have e1:((A++[y]).length:Int)=(A.length:Int)+1:=by simp
   rw[e1] at this
   have e2:(A.length:Int)+1+M2.length - 1=(A.length:Int)+((M2.length+2:Nat):Int) - 1 - 1:=by omega
   rw[e2] at this
   rw[this]
   simp
theorem VI (o:List Int)(hl:o.length≤1000000000000000):dF 0 ((o.length:Int) - 1) o=some (strOf o.reverse):=by
 have:=ahu o.length o [] [] rfl rfl (by simpa using hl)
 simpa using this
theorem abh {a:Bool}{a2:List Int}:∀(n:Nat) (ds:List Int),ds.length=n→n≤100000000000000→DX ds→VX ds≠0→
  dE (FX ds) a a2=some (strOf ((if a then [45] else [])++(FX (np ds)).reverse)):=by
 intro n
 induction n with
 |zero=>
  intro ds hn _ _ hv
  have:ds=[]:=List.length_eq_zero_iff.1 hn
  subst this
  exact absurd rfl hv
 |succ n ih=>
  intro ds hn hl hd hv
  have hne:ds≠ []:=fun e=>by rw[e] at hn;cases hn
  obtain⟨d',y,rfl⟩:∃d' y,ds=d'++[y]:=⟨ds.dropLast,ds.getLast hne,(List.dropLast_concat_getLast hne).symm⟩
  have hn':d'.length=n:=by simpa using hn
  have hy:=hd.right.head
  rw[GV,yS,rK]
  have hcl:(FX d'++FX [y]).length=d'.length+1:=by simp[qK]
  have e1:(((d'.length+1:Nat):Int) - 1).toNat=d'.length:=by omega
  have g1:(FX d'++FX [y]).getD d'.length 0=y+48:=by
   rw[List.getD,List.getElem?_append_right (by rw[qK];omega),qK]
   simp[FX]
  simp (disch:=omega) only[hcl,i64_in,gp,tN,e1,g1]
  by_cases h0:y=0
  ·subst h0
   have hv':VX d'≠0:=fun e=>hv (by rw[VX,fh,show val 10 d'=0 from e];simp[val])
   have ht:(FX d'++FX [0]).take d'.length=FX d':=List.take_left' (qK _)
   rw[lO (by omega),FK (by omega) (by omega) (by omega),ht,ih d' hn' (by omega) hd.left hv',zn]
  ·rw[fe (by omega),CQ h0, ←GV]
   have aql:(FX (d'++[y])).length=d'.length+1:=by simp[qK]
   cases a with
   |true=>
    rw[cT,ja (by omega) (by omega)]
    have e5:IntKind.wrap .i64 (((FX (d'++[y])++[45]).length:Int) - 1)=((FX (d'++[y])++[45]).length:Int) - 1:=i64_in _ (by simp[qK];omega)
    rw[e5,VI _ (by simp[qK];omega)]
    simp
   |false=>
    rw[cF]
    have:=VI (FX (d'++[y])) (by omega)
    rw[aql] at this
    rw[this]
    simp
theorem DW {z:Int}(hz:Ln z≤10000000000):mM (W z)=some (fH z):=by
 rw[Dt,xJ,ahl,W_1,W_2]
 by_cases h:z=0
 ·subst h
  have:Ln 0=0:=(zo 0).2 rfl
  rw[this,lO (by omega)]
  rfl
 ·have hpos:Ln z≠0:=fun e=>h ((zo z).1 e)
  rw[fe (by omega)]
  simp (disch:=omega) only[i64_in,LB]
  have hd:=HV z.natAbs
  have h1:=abg (a:=decide (z<0)) (a2:=dU z.natAbs) hd (by rw[oI];omega) (dU z.natAbs).length 0 [] (by omega) rfl
  simp only[Int.natCast_zero,List.drop_zero,List.nil_append,oI] at h1
  have hv:VX (LD (dU z.natAbs))=z.natAbs:=by rw[VG _ hd];exact Ju _
  rw[h1,abh _ _ rfl (by rw[Oi,oI];omega) (Xj _) (by rw[hv];omega),Tt (Xj _),hv,Int.toNat_natCast]
  unfold fH qI kh
  rw[if_neg (show ¬z.natAbs=0 by omega)]
  congr 3
  by_cases h2:z<0<;>simp[h2]
end Go.Proofs.YtofjebmoebhiiaaGreatDoor.Ev
namespace Go.Proofs.YtofjebmoebhiiaaGreatDoor.Ev
open Go.Abs Go.IntWalk
theorem ahv {z:Int}{k:Nat}(h:nd z≤k):Ln z≤k / 9+1:=by
 rw[FL]
 have h1:=(jT z (k+1) (by omega)).1 (by omega)
 have h2:10^(k+1)≤10^(9*(k / 9+1)):=Nat.pow_le_pow_right (by omega) (by omega)
 rw[Nat.pow_mul] at h2
 exact Nat.lt_of_lt_of_le h1 h2
def Sm (z:Int):Prop:=nd z≤1000
instance (z:Int):Decidable (Sm z):=inferInstanceAs (Decidable (nd z≤1000))
theorem Sm.Ln {z:Int}(h:Sm z):Ln z≤112:=ahv h
theorem abi (z:Int):Sm z↔z.natAbs<10^1000:=jT z 1000 (by omega)
theorem Sm.mono {x y:Int}(h:Sm y)(hxy:x.natAbs≤y.natAbs):Sm x:=(abi x).2 (Nat.lt_of_le_of_lt hxy ((abi y).1 h))
theorem Sm.neg {x:Int}(h:Sm x):Sm (-x):=h.mono (by omega)
def wo (s:ByteArray):Prop:=s.size≤140737488355328
section
variable {a b:ByteArray}{x y:Int}(ha:wo a)(hb:wo b)(hx:Sm x)(hy:Sm y)
include hx hy
end
section
variable {x:Int}(hx:Sm x)
include hx
end
section
variable {a b:ByteArray}(ha:wo a)(hb:wo b)
include ha
include hb
end
end Go.Proofs.YtofjebmoebhiiaaGreatDoor.Ev
namespace Go.Proofs.YtofjebmoebhiiaaGreatDoor.Ev
open Go.Abs Go.IntWalk
theorem abj:∀(n:Nat) (d:List Int),d.length=n→n≤1000000000000000→dP d=some (np d):=by
 intro n
 induction n with
 |zero=>
  intro d hd hn
  have:d=[]:=List.length_eq_zero_iff.1 hd
  subst this
  rw[pg,lI];rfl
 |succ n ih=>
  intro d hd hn
  obtain⟨d',y,rfl⟩:∃d' y,d=d'++[y]:=by
   have hne:d≠ []:=fun e=>by rw[e] at hd;cases hd
   exact⟨d.dropLast,d.getLast hne,(List.dropLast_concat_getLast hne).symm⟩
  have hl:d'.length=n:=by simpa using hd
  have hy:(d'++[y]).getD d'.length 0=y:=by simp[List.getD]
  have ht:(d'++[y]).take d'.length=d':=by simp
  rw[pg,lI]
  simp only[List.length_append,List.length_cons,List.length_nil]
  simp (disch:=omega) only[i64_in,cO,FK,anR]
  rw[qH (by omega) (by simp;omega)]
  have e:(((d'.length+(0+1):Nat):Int) - 1).toNat=d'.length:=by omega
  rw[e,hy,ht,bS]
  by_cases h0:y=0
  ·subst h0
   rw[zn,ih d' hl (by omega),lO rfl]
  ·rw[fe h0,CQ h0]
theorem Jz {d:List Int}(h:d.length≤1000000000000000):bf d=some (np d):=by
 rw[B1,vz];exact abj _ d rfl h
theorem abk {d:List Int}(hd:DX d)(hl:d.length≤100000000000000):∀(k:Nat) (out:List Int),k≤d.length→out.length+k≤1000000000000000 / 10→
  dL d ((k:Int) - 1) out=some (strOf (out++(FX (d.take k)).reverse)):=by
 intro k
 induction k with
 |zero=>
  intro out hk ho
  rw[pe,lF,uH (by omega)]
  simp[FX]
 |succ k ih=>
  intro out hk ho
  have hx:=hd.getD (by omega) k
  have e:((k+1:Nat):Int) - 1=k:=by omega
  rw[pe,lF,e,xd (by omega),gp (by omega) (by omega),Int.toNat_natCast]
  simp (disch:=omega) only[i64_in,u8_in,ja]
  rw[ih _ (by omega) (by simp;omega),dy (show k<d.length by omega),GV]
  simp[FX,Int.add_comm]
theorem wq {minus:Bool}{d:List Int}(hd:DX d)(hl:d.length≤10000000000000):al minus d=some (fH (if minus then -VX d else VX d)):=by
 obtain⟨v,hv⟩:=Int.eq_ofNat_of_zero_le (Kb hd)
 rw[BW,vu,Jz (by omega),bS,Tt hd,hv,Int.toNat_natCast]
 have hlen:=A4 d
 rw[Tt hd,hv,Int.toNat_natCast] at hlen
 by_cases h0:v=0
 ·subst h0
  rw[show dX 0=[] from dW _,lO (by rfl)]
  cases minus<;>rfl
 ·have hne:(dX v).length≠0:=fun e=>h0 ((l9 (B:=10) (by omega)).1 (List.length_eq_zero_iff.1 e))
  rw[fe (by omega)]
  have hw:=abk (GS v) (by omega) (dX v).length
  have e5:IntKind.wrap .i64 (((dX v).length:Int) - 1)=((dX v).length:Int) - 1:=i64_in _ (by omega)
  cases minus with
  |true=>
   rw[cT,ja (by omega) (by omega),e5,hw _ (Nat.le_refl _) (by simp;omega),List.take_length]
   unfold fH qI kh
   simp only[if_true]
   rw[if_pos (by omega),if_neg (by omega)]
   have:(-(v:Int)).natAbs=v:=by omega
   rw[this]
   simp
  |false=>
   rw[cF,e5,hw _ (Nat.le_refl _) (by simp;omega),List.take_length]
   unfold fH qI kh
   simp only[Bool.false_eq_true,if_false]
   rw[if_neg (by omega),if_neg (by omega)]
   simp
def Nd (k:Nat)(z:Int):Prop:=z.natAbs<10^k
theorem Nd.mono {k l:Nat}{z:Int}(h:Nd k z)(hkl:k≤l):Nd l z:=Nat.lt_of_lt_of_le h (Nat.pow_le_pow_right (by omega) hkl)
theorem Nd.add {k l:Nat}{x y:Int}(hx:Nd k x)(hy:Nd l y):Nd (max k l+1) (x+y):=by
 have h1:=hx.mono (Nat.le_max_left k l)
 have h2:=hy.mono (Nat.le_max_right k l)
 unfold Nd at*
 rw[Nat.pow_succ]
 omega
theorem Nd.neg {k:Nat}{x:Int}(hx:Nd k x):Nd k (-x):=by unfold Nd at*;omega
theorem Nd.sub {k l:Nat}{x y:Int}(hx:Nd k x)(hy:Nd l y):Nd (max k l+1) (x - y):=hx.add hy.neg
theorem Nd.mul {k l:Nat}{x y:Int}(hx:Nd k x)(hy:Nd l y):Nd (k+l) (x*y):=by
 unfold Nd at*
 rw[Int.natAbs_mul,Nat.pow_add]
 exact Nat.mul_lt_mul'' hx hy
theorem Nd.Sm {k:Nat}{x:Int}(hx:Nd k x)(hk:k≤1000):Sm x:=(abi x).2 (hx.mono hk)
theorem Nd.le {k:Nat}{x y:Int}(hy:Nd k y)(h:x.natAbs≤y.natAbs):Nd k x:=Nat.lt_of_le_of_lt h hy
end Go.Proofs.YtofjebmoebhiiaaGreatDoor.Ev
namespace Go.Proofs.YtofjebmoebhiiaaGreatDoor.Ev
open Go.Abs Go.IntWalk
theorem Ke (x y:Int):((fH x).toList==(fH y).toList)=decide (x=y):=by
 rw[Ts]
 exact decide_eq_decide.2 abc
theorem VJ {x y:Int}(h:x=y):((fH x).toList==(fH y).toList)=true:=by rw[Ke];exact decide_eq_true h
theorem VK {x y:Int}(h:¬x=y):((fH x).toList==(fH y).toList)=false:=by rw[Ke];exact decide_eq_false h
theorem ahw {l:List Nat}{z:Int}(h:fP (bytesOf (bs l))=true)(hz:numOf (bytesOf (bs l))=z):bs l=fH z:=
 lP (by rw[du, ←hz];exact Tu h)
theorem aob:bs [48]=fH 0:=ahw rfl rfl
theorem aqm:bs [49]=fH 1:=ahw rfl rfl
section
variable {x y:Int}(hx:Sm x)(hy:Sm y)
include hx hy
end
end Go.Proofs.YtofjebmoebhiiaaGreatDoor.Ev
namespace Go.Proofs.YtofjebmoebhiiaaGreatDoor.Ev
open Go.Abs
end Go.Proofs.YtofjebmoebhiiaaGreatDoor.Ev
namespace Go.Abs
def PM (l:List Int):List Int:=((l.filter (fun c=>c != 45)).reverse).map (· - 48)
theorem QJ (l m:List Int):PM (l++m)=PM m++PM l:=by simp[PM]
theorem aoc {c:Int}(h:¬c=45):([c]:List Int).filter (fun c=>c != 45)=[c]:=by simp[List.filter_cons,h]
theorem aod {c:Int}(h:¬c=45):PM [c]=[c - 48]:=by simp[PM,List.filter_cons,h]
theorem DY (n:Nat):(kh n).filter (fun c=>c != 45)=kh n:=by
 apply List.filter_eq_self.2
 intro c hc
 have:=oJ n c hc
 simp;omega
theorem aeG (n:Nat):np (PM (kh n))=dX n:=by
 unfold PM
 rw[DY]
 unfold kh
 split
 ·rename_i h;subst h;rw[dX,dW];rfl
 ·rw[List.reverse_reverse]
  have:(FX (dX n)).map (· - 48)=dX n:=by
   simp only[FX,List.map_map]
   conv=>rhs;rw[←List.map_id (dX n)]
   apply List.map_congr_left
   intro c _
   simp only[Function.comp,id];omega
  rw[this]
  exact Ob (B:=10) (by omega) n
theorem aeH (z:Int):np (PM (qI z))=dX z.natAbs:=by
 unfold qI
 rw[QJ]
 have:PM (if z<0 then [45] else [])=[]:=by split<;>rfl
 rw[this,List.append_nil,aeG]
theorem LF (z:Int):(dX z.natAbs).length≤nd z:=by unfold nd;rw[qJ];omega
theorem VL {m n:Nat}(h:m≤n):(dX m).length≤(dX n).length:=by
 have l2:=(aL (B:=10) (by omega) (dX n).length n).1 (Nat.le_refl _)
 exact(aL (B:=10) (by omega) (dX n).length m).2 (by omega)
theorem Oj {x y:Int}(h:x.natAbs≤y.natAbs):nd x≤nd y:=by
 unfold nd;rw[qJ,qJ]
 have:=VL h
 omega
theorem abl (z:Int):1≤nd z:=by unfold nd;rw[qJ];omega
theorem ahx (z:Int):z.natAbs<10^nd z:=(jT z _ (abl z)).1 (Nat.le_refl _)
theorem ahy (x y:Int):nd (x*y)≤nd x+nd y:=by
 rw[jT _ _ (by have:=abl x;omega),Int.natAbs_mul,Nat.pow_add]
 exact Nat.mul_lt_mul'' (ahx x) (ahx y)
theorem JA {x:Int}(h:x.natAbs<10):nd x=1:=by
 have h1:=(jT x 1 (by omega)).2 (by omega)
 have:=abl x
 omega
def Bd (z:Int):Prop:=nd z≤100000
end Go.Abs
namespace Go.Proofs.YtofjebmoebhiiaaGreatDoor.Ev
open Go.Abs Go.IntWalk
theorem Xk {s:ByteArray}{minus:Bool}(hs:s.size≤100000000000):∀(k:Nat) (d:List Int),k≤s.size→d.length+k≤1000000000000→
  cS s minus ((k:Int) - 1) d=some (minus,np (d++PM ((bytesOf s).take k))):=by
 intro k
 induction k with
 |zero=>
  intro d hk hd
  rw[mX,jm,uH (by omega),Jz (by omega),bS]
  simp[PM]
 |succ k ih=>
  intro d hk hd
  have hb:=(ma s).getD (by omega) k
  have hl:=aP s
  have e:((k+1:Nat):Int) - 1=k:=by omega
  rw[mX,jm,e,xd (by omega),yw,qH (by omega) (by omega),bS,Int.toNat_natCast,dy (show k<(bytesOf s).length by omega),QJ]
  by_cases h:(bytesOf s).getD k 0=45
  ·rw[mi h,i64_in _ (by omega),ih d (by omega) (by omega)]
   have:PM [(bytesOf s).getD k 0]=[]:=by rw[h];rfl
   rw[this,List.nil_append]
  ·rw[FJ h,bS]
   simp (disch:=omega) only[i64_in,ja]
   rw[ih _ (by omega) (by simp;omega)]
   rw[aod h,List.append_assoc]
theorem Tw (z:Int):(fH z).size>0∧(bytesOf (fH z)).getD 0 0=(if z<0 then 45 else (kh z.natAbs).getD 0 0):=by
 have hn:=Xh z.natAbs
 constructor
 ·rw[←aP,du]
  unfold qI
  have:0<(kh z.natAbs).length:=List.length_pos_iff.2 hn
  simp;omega
 ·rw[du]
  unfold qI
  split<;>rfl
theorem abm (n:Nat):(kh n).getD 0 0≠45:=by
 have hn:=Xh n
 have h1:=oJ n
 cases h:kh n with
 |nil=>exact absurd h hn
 |cons c r=>
  rw[h] at h1
  have:=h1 c (by simp)
  simp;omega
theorem VM (z:Int):((bytesOf (fH z)).getD 0 0==45)=decide (z<0):=by
 rw[(Tw z).2]
 by_cases h:z<0
 ·rw[if_pos h,decide_eq_true h];rfl
 ·rw[if_neg h,decide_eq_false h]
  exact Jt (abm _)
theorem uJ (z:Int):(fH z).size≤nd z+1:=by rw[Zx];split<;>omega
theorem mc {z:Int}(hz:Bd z):aq (fH z)=some (decide (z<0),dX z.natAbs):=by
 have h1:=(Tw z).1
 have hsz:=uJ z
 unfold Bd at hz
 have hl:=aP (fH z)
 rw[yY,rQ,cO (by omega),yw,qH (by omega) (by omega),bS]
 have e0:(0:Int).toNat=0:=rfl
 rw[e0,VM,i64_in _ (by omega),Xk (by omega) _ [] (Nat.le_refl _) (by simp;omega),List.nil_append, ←hl,List.take_length,du,aeH]
theorem Tx {s:ByteArray}(hs:wo s):eK s=some ((bo (bytesOf s)).length:Int):=by
 have hl:=aP s
 unfold wo at hs
 rw[y5,rT]
 by_cases h:s.size>0
 ·rw[cO (by omega),yw,qH (by omega) (by omega),bS]
  have e0:(0:Int).toNat=0:=rfl
  rw[e0]
  cases hb:bytesOf s with
  |nil=>rw[hb] at hl;simp at hl;omega
  |cons c r=>
   rw[hb] at hl
   have:(c::r).getD 0 0=c:=rfl
   rw[this]
   by_cases hc:c=45
   ·subst hc
    rw[lO rfl,i64_in _ (by omega)]
    have:bo (45::r)=r:=by simp[bo]
    rw[this]
    simp at hl
    congr 1;omega
   ·rw[fe hc]
    have:bo (c::r)=c::r:=by unfold bo;rw[if_neg (by simp;exact hc)]
    rw[this,hl]
 ·have hb:bytesOf s=[]:=List.length_eq_zero_iff.1 (by omega)
  rw[cZ (by omega),hb]
  have:s.size=0:=by omega
  rw[this];rfl
theorem ahz {s:ByteArray}(hs:wo s):iY s=some (decide ((bo (bytesOf s)).length>1000)):=by
 rw[BY,vv,Tx hs,bS]
 congr 1
 exact decide_eq_decide.2 (by omega)
theorem ahA (z:Int):bo (bytesOf (fH z))=kh z.natAbs:=by
 rw[du]
 unfold bo qI
 by_cases h:z<0
 ·simp[h]
 ·have:(kh z.natAbs).head?≠some 45:=by
   intro e
   have:(45:Int)∈kh z.natAbs:=List.mem_of_mem_head? (by rw[e];rfl)
   have:=oJ _ _ this
   omega
  simp[h,this]
theorem Zz {s:ByteArray}(hs:s.size≤140737488355328):∀(m k:Nat),m+k=s.size→cB s k=some (((bytesOf s).drop k).all Ru):=by
 intro m
 have hl:=aP s
 induction m with
 |zero=>
  intro k hk
  rw[nS,ky,ao (by omega),drop_nil (by omega)];rfl
 |succ m ih=>
  intro k hk
  have hb:=(ma s).getD (by omega) k
  have wz:=ih (k+1) (by omega)
  simp only[Int.natCast_add,Int.natCast_one] at wz
  rw[nS,ky,au (by omega),yw,qH (by omega) (by omega),bS,Int.toNat_natCast,drop_eq (show k<(bytesOf s).length by omega),List.all_cons,bS]
  by_cases h1:(bytesOf s).getD k 0<48
  ·have:Ru ((bytesOf s).getD k 0)=false:=by
    cases hd:Ru ((bytesOf s).getD k 0) with
    |false=>rfl
    |true=>have:=(yx _).1 hd;omega
   rw[au h1,this];rfl
  ·rw[ao h1]
   by_cases h2:(bytesOf s).getD k 0>57
   ·have:Ru ((bytesOf s).getD k 0)=false:=by
     cases hd:Ru ((bytesOf s).getD k 0) with
     |false=>rfl
     |true=>have:=(yx _).1 hd;omega
    rw[cO h2,this];rfl
   ·rw[cZ h2,(yx _).2 (by omega),Bool.true_and,i64_in _ (by omega),wz]
theorem PN {s:ByteArray}(hs:wo s):jQ s=some (fP (bytesOf s)):=by
 have hl:=aP s
 unfold wo at hs
 have akA:∀t:ByteArray,t.size≤140737488355328→cB t 0=some ((bytesOf t).all Ru):=fun t ht=>by
  have:=Zz ht t.size 0 (by omega)
  simpa using this
 rw[Ag,th]
 have e0:(0:Int).toNat=0:=rfl
 by_cases h:s.size>0
 ·rw[cO (by omega),yw,qH (by omega) (by omega),bS,e0]
  cases hb:bytesOf s with
  |nil=>rw[hb] at hl;simp at hl;omega
  |cons c r=>
   rw[hb] at hl
   have hgc:(c::r).getD 0 0=c:=rfl
   rw[hgc]
   by_cases hc:c=45
   ·subst hc
    have hbo:bo (45::r)=r:=by simp[bo]
    have hmo:iR (45::r)=true:=rfl
    have e1:(1:Int).toNat=1:=rfl
    have hx:bytesOf (s.extract 1 s.size)=r:=by
     rw[lk,hb, ←hl,List.take_length];rfl
    have hxs:(s.extract 1 s.size).size=r.length:=by rw[←aP,hx]
    have hrl:r.length+1=s.size:=by simpa using hl
    rw[lO rfl,FK (by omega) (by omega) (by omega)]
    simp only[e1,Int.toNat_natCast]
    have hok:fP (45::r)=(r.all Ru&& !r.isEmpty&&(!(r.head?==some 48)||(r.length==1&&false))):=by
     unfold fP;rw[hbo,hmo];rfl
    rw[hxs,hok]
    cases r with
    |nil=>
     simp only[List.length_nil]
     rw[cZ (by omega),lO (by rfl)]
     try rfl
    |cons c2 r2=>
     rw[cO (by simp),yw,hx]
     have hi:idx (c2::r2) (0:Int)=some c2:=rfl
     rw[hi,bS]
     by_cases h48:c2=48
     ·subst h48
      rw[lO rfl]
      simp
     ·rw[fe h48,fe (by simp;omega),bS,fe h48,akA _ (by rw[hxs];omega),hx]
      have:(some c2==some 48)=false:=by simpa using h48
      simp[this,h48]
   ·have hbo:bo (c::r)=c::r:=by unfold bo;rw[if_neg (by simp;exact hc)]
    have hmo:iR (c::r)=false:=by simpa [iR] using hc
    have hok:fP (c::r)=((c::r).all Ru&&(!(c==48)||(c::r).length==1)):=by
     unfold fP;rw[hbo,hmo];simp
    rw[fe hc,fe (by omega),bS,akA _ hs,hb,hok]
    by_cases h48:c=48
    ·subst h48
     rw[lO rfl]
     cases r with
     |nil=>rw[cZ (by rw[←hl];simp)];rfl
     |cons c2 r2=>rw[cO (by rw[←hl];simp;omega)];simp
    ·rw[fe h48]
     have:(c==48)=false:=Jt h48
     simp[this]
 ·have hb:bytesOf s=[]:=List.length_eq_zero_iff.1 (by omega)
  rw[cZ (by omega),lO (by omega),hb];rfl
theorem abn:∀(k u:Nat) (d:List Int),u<10^k→u≤9223372036854775807→d.length+k≤1000→cW u d=(al false (d++dX u)).bind fun r=>some r:=by
 intro k
 induction k with
 |zero=>
  intro u d hu hu' hd
  have:u=0:=by rw[Nat.pow_zero] at hu;omega
  subst this
  rw[mZ,jo,cZ (by omega),show dX 0=[] from dW _,List.append_nil]
 |succ k ih=>
  intro u d hu hu' hd
  rw[mZ,jo]
  by_cases h0:u=0
  ·subst h0
   rw[cZ (by omega),show dX 0=[] from dW _,List.append_nil]
  ·rw[cO (by omega),ja (by omega) (by omega),i64_quo _ _ (by omega),br (by omega)]
   have e1:((u:Int) / 10)=((u / 10:Nat):Int):=by omega
   have e2:((u:Int) % 10)=((u % 10:Nat):Int):=by omega
   rw[Nat.pow_succ] at hu
   rw[e1,e2,ih (u / 10) _ (by omega) (by omega) (by simp;omega),show dX u=_ from yt (B:=10) (by omega) (by omega)]
   simp
theorem abo:∀(k u:Nat) (d:List Int),u<10^k→u≤9223372036854775807→d.length+k≤1000→cV u d=(al true (d++dX u)).bind fun r=>some r:=by
 intro k
 induction k with
 |zero=>
  intro u d hu hu' hd
  have:u=0:=by rw[Nat.pow_zero] at hu;omega
  subst this
  rw[mY,jn,cZ (by omega),show dX 0=[] from dW _,List.append_nil]
 |succ k ih=>
  intro u d hu hu' hd
  rw[mY,jn]
  by_cases h0:u=0
  ·subst h0
   rw[cZ (by omega),show dX 0=[] from dW _,List.append_nil]
  ·rw[cO (by omega),ja (by omega) (by omega),i64_quo _ _ (by omega),br (by omega)]
   have e1:((u:Int) / 10)=((u / 10:Nat):Int):=by omega
   have e2:((u:Int) % 10)=((u % 10:Nat):Int):=by omega
   rw[Nat.pow_succ] at hu
   rw[e1,e2,ih (u / 10) _ (by omega) (by omega) (by simp;omega),show dX u=_ from yt (B:=10) (by omega) (by omega)]
   simp
theorem me {n:Int}(h0: -9223372036854775808≤n)(h1:n≤9223372036854775807):bE n=some (fH n):=by
 rw[yZ,rR]
 by_cases h:n<0
 ·obtain⟨u,hu⟩:∃u:Nat,(u:Int)= -n:=⟨n.natAbs,by omega⟩
  have hm:n.tmod 10= -((u % 10:Nat):Int):=by
   have:n= -(u:Int):=by omega
   rw[this,Int.neg_tmod,br (by omega)];omega
  have hq:n.tdiv 10= -((u / 10:Nat):Int):=by
   have:n= -(u:Int):=by omega
   rw[this,Int.neg_tdiv,lN (by omega)];omega
  have e1:IntKind.wrap .i64 (0 - n.tmod 10)=((u % 10:Nat):Int):=by rw[hm,i64_in _ (by omega)];omega
  have e2:IntKind.wrap .i64 (n.tdiv 10)= -((u / 10:Nat):Int):=by rw[hq,i64_in _ (by omega)]
  have e3:IntKind.wrap .i64 (0 - -((u / 10:Nat):Int))=((u / 10:Nat):Int):=by rw[i64_in _ (by omega)];omega
  have hl:([((u % 10:Nat):Int)]:List Int).length=1:=rfl
  rw[au h]
  simp only[e1,e2,e3]
  rw[ja (by omega) (by first |omega | (rw[hl];omega)),List.nil_append,abo 19 (u / 10) _ (by omega) (by omega) (by simp)]
  have hd:DX ([((u % 10:Nat):Int)]++dX (u / 10)):=(gK.cons (by omega) (by omega) gK.nil).append (GS _)
  have hv:VX ([((u % 10:Nat):Int)]++dX (u / 10))=u:=by
   have:=Jy (u / 10)
   simp only[VX,List.singleton_append,val] at this ⊢
   rw[this];omega
  have hlen:(dX (u / 10)).length≤19:=(aL (B:=10) (by omega) 19 (u / 10)).2 (by omega)
  rw[wq hd (by simp;omega),bS,hv]
  congr 2
  rw[if_pos rfl];omega
 ·obtain⟨u,rfl⟩:=Int.eq_ofNat_of_zero_le (show 0≤n by omega)
  have hlen:(dX u).length≤19:=(aL (B:=10) (by omega) 19 u).2 (by omega)
  rw[ao h,abn 19 u [] (by omega) (by omega) (by simp),List.nil_append,wq (GS u) (by omega),bS,Jy]
  rfl
theorem ZA {z:Int}(hz:nd z≤9):∀(m k:Nat) (n:Int),m+k=(fH z).size→n=jf (((bytesOf (fH z)).take k).filter (fun c=>c != 45))→
  dn (fH z) n k=some (z,true):=by
 intro m
 have hsz:=uJ z
 have hl:=aP (fH z)
 have hh:=Tw z
 induction m with
 |zero=>
  intro k n hk hn
  have hk':k=(bytesOf (fH z)).length:=by omega
  rw[hk',List.take_length] at hn
  have hf:(bytesOf (fH z)).filter (fun c=>c != 45)=kh z.natAbs:=by
   rw[du]
   unfold qI
   rw[List.filter_append,DY]
   split<;>rfl
  rw[hf,FP] at hn
  have e0:(0:Int).toNat=0:=rfl
  rw[nT,kz,ao (by omega),cO (by omega),yw,qH (by omega) (by omega),bS,e0,VM]
  have hzb:z.natAbs<10^9:=(jT z 9 (by omega)).1 hz
  by_cases h:z<0
  ·rw[decide_eq_true h,cT,i64_in _ (by omega)]
   congr 2;omega
  ·rw[decide_eq_false h,cF]
   congr 2;omega
 |succ m ih=>
  intro k n hk hn
  have hkl:k<(bytesOf (fH z)).length:=by omega
  have hb:=(ma (fH z)).getD (by omega) k
  have wz:=fun n=>ih (k+1) n (by omega)
  simp only[Int.natCast_add,Int.natCast_one] at wz
  rw[nT,kz,au (by omega),yw,qH (by omega) (by omega),bS,Int.toNat_natCast]
  -- all ao3 but HZ sign are digits
  have hmem:∀c∈(bytesOf (fH z)).filter (fun c=>c != 45),48≤c∧c≤57:=by
   rw[du]
   unfold qI
   rw[List.filter_append,DY]
   intro c hc
   rcases List.mem_append.1 hc with h |h
   ·exfalso
    split at h
    ·simp at h
    ·cases h
   ·exact oJ _ c h
  have hlen:(((bytesOf (fH z)).take k).filter (fun c=>c != 45)).length≤9:=by
   have h1:(((bytesOf (fH z)).take k).filter (fun c=>c != 45)).length≤((bytesOf (fH z)).filter (fun c=>c != 45)).length:=
    ((List.take_sublist k (bytesOf (fH z))).filter _).length_le
   have h2:(bytesOf (fH z)).filter (fun c=>c != 45)=kh z.natAbs:=by
    rw[du]
    unfold qI
    rw[List.filter_append,DY]
    split<;>rfl
   rw[h2] at h1
   unfold nd at hz
   omega
  have hnb:=zp (((bytesOf (fH z)).take k).filter (fun c=>c != 45)) (fun c hc=>hmem c (((List.take_sublist k _).filter _).subset hc))
  have hp:=Oh hlen
  rw[←hn] at hnb
  have hts:(bytesOf (fH z)).take (k+1)=(bytesOf (fH z)).take k++[(bytesOf (fH z)).getD k 0]:=dy hkl
  by_cases h:(bytesOf (fH z)).getD k 0=45
  ·rw[mi h,i64_in _ (by omega),wz n (by rw[hts,List.filter_append,h];simpa using hn)]
  ·rw[FJ h,bS]
   simp (disch:=omega) only[i64_in]
   rw[wz]
   rw[hts,List.filter_append,aoc h,DT, ←hn]
   simp only[jf,List.foldl_cons,List.foldl_nil,List.length_singleton,Int.mul_zero,Int.zero_add,Int.pow_one]
   omega
theorem A7 {z:Int}(hz:Bd z):dd (fH z)=some (if nd z≤9 then (z,true) else (0,false)):=by
 unfold Bd at hz
 have alW:wo (fH z):=by unfold wo;have:=uJ z;omega
 rw[Ah,ti,Tx alW,bS,ahA]
 have e:(kh z.natAbs).length=nd z:=rfl
 rw[e]
 by_cases h:nd z≤9
 ·rw[cZ (by omega),if_pos h]
  have:=ZA h (fH z).size 0 0 (by omega) (by simp[jf])
  simpa using this
 ·rw[cO (by omega),if_neg h]
end Go.Proofs.YtofjebmoebhiiaaGreatDoor.Ev
namespace Go.Proofs.YtofjebmoebhiiaaGreatDoor.Ev
open Go.Abs Go.IntWalk
theorem abp {a b:List Int}(ha:DX a)(hb:DX b)(hl:a.length=b.length)(hl':a.length≤1000000000000):∀(k:Nat),k≤a.length→
  dO a b ((k:Int) - 1)=some (ml (VX (a.take k)) (VX (b.take k))):=by
 intro k
 induction k with
 |zero=>
  intro hk
  rw[pf,lH]
  simp (disch:=omega) only[uH]
  simp[ml]
 |succ k ih=>
  intro hk
  have e:((k+1:Nat):Int) - 1=k:=by omega
  rw[pf,lH,e,dy (show k<a.length by omega),dy (show k<b.length by omega)]
  simp (disch:=omega) only[xd,gp,Int.toNat_natCast,i64_in]
  have hta:(a.take k).length=(b.take k).length:=by simp;omega
  by_cases h1:a.getD k 0<b.getD k 0
  ·rw[au h1,mD (W6 (by omega) (ha.take k) (hb.take k) hta h1)]
  ·rw[ao h1]
   by_cases h2:a.getD k 0>b.getD k 0
   ·rw[cO h2,oH (W6 (by omega) (hb.take k) (ha.take k) hta.symm h2)]
   ·have h:a.getD k 0=b.getD k 0:=by omega
    rw[cZ h2,ih (by omega)]
    simp only[VX,fh,hta,h]
    generalize (10:Int)^(b.take k).length*val 10 [b.getD k 0]=z
    by_cases h1:val 10 (a.take k)<val 10 (b.take k)
    ·rw[mD h1,mD (by omega)]
    ·by_cases h2:val 10 (b.take k)<val 10 (a.take k)
     ·rw[oH h2,oH (by omega)]
     ·rw[wh (by omega),wh (by omega)]
theorem Ol {m n:Nat}(hm:(dX m).length≤1000000000000)(hn:(dX n).length≤1000000000000):da (dX m) (dX n)=some (ml m n):=by
 rw[B0,vw]
 by_cases h:(dX m).length=(dX n).length
 ·have:=abp (GS m) (GS n) h hm (dX m).length (Nat.le_refl _)
  rw[mi (by omega)]
  simp (disch:=omega) only[i64_in]
  rw[this,List.take_length]
  rw[h,List.take_length,Jy,Jy]
 ·rw[FJ (by omega)]
  have l1:=(aL (B:=10) (by omega) (dX m).length m).1 (Nat.le_refl _)
  have l2:=(aL (B:=10) (by omega) (dX n).length n).1 (Nat.le_refl _)
  by_cases h1:(dX m).length<(dX n).length
  ·rw[au (by omega)]
   have:=(fG (B:=10) (by omega) (dX m).length n).1 h1
   rw[mD (by omega)]
  ·rw[ao (by omega)]
   have:=(fG (B:=10) (by omega) (dX n).length m).1 (show (dX n).length<(dX m).length by omega)
   rw[oH (by omega)]
def ZB:List Int→List Int→Int→List Int
 | [],[],c=>if c>0 then [c % 10] else []
 |x::xs,[],c=>(c+x) % 10::ZB xs [] ((c+x) / 10)
 | [],y::ys,c=>(c+y) % 10::ZB [] ys ((c+y) / 10)
 |x::xs,y::ys,c=>(c+x+y) % 10::ZB xs ys ((c+x+y) / 10)
theorem aeI {a b:List Int}(ha:DX a)(hb:DX b)(hl:a.length≤1000000000000)(hl':b.length≤1000000000000):∀(m k:Nat) (c:Int) (out:List Int),m+k=max a.length b.length→out.length=k→0≤c∧c≤1→
  eL a b c k out=some (out++ZB (a.drop k) (b.drop k) c):=by
 intro m
 induction m with
 |zero=>
  intro k c out hk ho hc
  have hka:a.length≤k:=by omega
  have hkb:b.length≤k:=by omega
  rw[drop_nil hka,drop_nil hkb,lJ,jc]
  rw[ao (by omega),ao (by omega)]
  by_cases h:c>0
  ·have hc1:c=1:=by omega
   subst hc1
   simp (disch:=omega) only[cO,ao,ja,br,lN,i64_in]
   rw[lJ,jc]
   simp (disch:=omega) only[ao,cZ]
   simp[ZB]
  ·rw[cZ h]
   have:c=0:=by omega
   subst this
   simp[ZB]
 |succ m ih=>
  intro k c out hk ho hc
  have hx:=ha.getD (by omega) k
  have hy:=hb.getD (by omega) k
  have wz:=fun c out=>ih (k+1) c out (by omega)
  simp only[Int.natCast_add,Int.natCast_one] at wz
  rw[lJ,jc]
  by_cases hka:k<a.length
  ·by_cases hkb:k<b.length
   ·rw[drop_eq hka,drop_eq hkb]
    simp (disch:=omega) only[au,gp,Int.toNat_natCast,i64_in,br,lN,ja]
    rw[wz _ _ (by simp;omega) (by omega)]
    simp[ZB]
   ·have hd:b.drop (k+1)=[]:=drop_nil (by omega)
    rw[drop_eq hka,drop_nil (show b.length≤k by omega)]
    simp (disch:=omega) only[au,ao,gp,Int.toNat_natCast,i64_in,br,lN,ja]
    rw[wz _ _ (by simp;omega) (by omega),hd]
    simp[ZB]
  ·have hkb:k<b.length:=by omega
   have hd:a.drop (k+1)=[]:=drop_nil (by omega)
   rw[drop_eq hkb,drop_nil (show a.length≤k by omega)]
   simp (disch:=omega) only[au,ao,gp,Int.toNat_natCast,i64_in,br,lN,ja]
   rw[wz _ _ (by simp;omega) (by omega),hd]
   simp[ZB]
theorem Rv:∀(a b:List Int) (c:Int),DX a→DX b→0≤c∧c≤1→VX (ZB a b c)=VX a+VX b+c∧DX (ZB a b c)∧(ZB a b c).length≤max a.length b.length+1
 | [],[],c,ha,hb,hc=>by
   simp only[ZB]
   split
   ·exact⟨by simp[VX,val];omega,gK.cons (by omega) (by omega) gK.nil,by simp⟩
   ·exact⟨by simp[VX,val];omega,gK.nil,by simp⟩
 |x::xs,[],c,ha,hb,hc=>by
  have hx:=ha.head
  obtain⟨e1,e2,e3⟩:=Rv xs [] ((c+x) / 10) ha.tail gK.nil (by omega)
  simp only[ZB]
  refine⟨?_,gK.cons (by omega) (by omega) e2,by simp at e3 ⊢;omega⟩
  simp only[VX,val] at e1 ⊢
  rw[e1];omega
 | [],y::ys,c,ha,hb,hc=>by
   have hy:=hb.head
   obtain⟨e1,e2,e3⟩:=Rv [] ys ((c+y) / 10) gK.nil hb.tail (by omega)
   simp only[ZB]
   refine⟨?_,gK.cons (by omega) (by omega) e2,by simp at e3 ⊢;omega⟩
   simp only[VX,val] at e1 ⊢
   rw[e1];omega
 |x::xs,y::ys,c,ha,hb,hc=>by
  have hx:=ha.head
  have hy:=hb.head
  obtain⟨e1,e2,e3⟩:=Rv xs ys ((c+x+y) / 10) ha.tail hb.tail (by omega)
  simp only[ZB]
  refine⟨?_,gK.cons (by omega) (by omega) e2,by simp at e3 ⊢;omega⟩
  simp only[VX,val] at e1 ⊢
  rw[e1];omega
theorem ajD {a b:List Int}(ha:DX a)(hb:DX b)(hl:a.length≤1000000000000)(hl':b.length≤1000000000000):
  ∃r,iC a b=some r∧VX r=VX a+VX b∧DX r∧r.length≤max a.length b.length+1:=by
 obtain⟨e1,e2,e3⟩:=Rv a b 0 ha hb ⟨by omega,by omega⟩
 have:=aeI ha hb hl hl' (max a.length b.length) 0 0 [] (by omega) rfl ⟨by omega,by omega⟩
 refine⟨ZB a b 0, ?_,by omega,e2,e3⟩
 rw[Dy,xN]
 simpa using this
def VN:List Int→List Int→Int→List Int
 | [],_,_=>[]
 |x::xs,[],c=>if x - c<0 then (x - c+10)::VN xs [] 1 else (x - c)::VN xs [] 0
 |x::xs,y::ys,c=>if x - c - y<0 then (x - c - y+10)::VN xs ys 1 else (x - c - y)::VN xs ys 0
theorem abq {a b:List Int}(ha:DX a)(hb:DX b)(hl:a.length≤1000000000000):∀(m k:Nat) (c:Int) (out:List Int),m+k=a.length→out.length=k→0≤c∧c≤1→
  bA a b c k out=(bf (out++VN (a.drop k) (b.drop k) c)).bind fun r=>some r:=by
 intro m
 induction m with
 |zero=>
  intro k c out hk ho hc
  rw[jq,fM,ao (by omega),drop_nil (show a.length≤k by omega)]
  simp[VN]
 |succ m ih=>
  intro k c out hk ho hc
  have hx:=ha.getD (by omega) k
  have hy:=hb.getD (by omega) k
  have wz:=fun c out=>ih (k+1) c out (by omega)
  simp only[Int.natCast_add,Int.natCast_one] at wz
  rw[jq,fM,au (by omega),gp (by omega) (by omega),Int.toNat_natCast,drop_eq (show k<a.length by omega)]
  have hl1:∀z:Int,([z]:List Int).length=1:=fun z=>rfl
  by_cases hkb:k<b.length
  ·rw[drop_eq hkb,au (by omega),gp (by omega) (by omega),Int.toNat_natCast]
   simp (disch:=omega) only[i64_in,hl1]
   by_cases h:a.getD k 0 - c - b.getD k 0<0
   ·rw[au h,ja (by omega) (by omega),wz _ _ (by simp;omega) ⟨by omega,by omega⟩]
    simp only[VN,if_pos h];simp
   ·rw[ao h,ja (by omega) (by omega),wz _ _ (by simp;omega) ⟨by omega,by omega⟩]
    simp only[VN,if_neg h];simp
  ·have hd:b.drop (k+1)=[]:=drop_nil (by omega)
   rw[drop_nil (show b.length≤k by omega),ao (by omega)]
   simp (disch:=omega) only[i64_in]
   by_cases h:a.getD k 0 - c<0
   ·rw[au h,ja (by omega) (by omega),wz _ _ (by simp;omega) ⟨by omega,by omega⟩,hd]
    simp only[VN,if_pos h];simp
   ·rw[ao h,ja (by omega) (by omega),wz _ _ (by simp;omega) ⟨by omega,by omega⟩,hd]
    simp only[VN,if_neg h];simp
theorem Rw:∀(a b:List Int) (c:Int),b.length≤a.length→DX a→DX b→0≤c∧c≤1→
  ∃c',0≤c'∧VX (VN a b c)=VX a - VX b - c+c'*10^a.length∧DX (VN a b c)∧(VN a b c).length=a.length
 | [],[],c,hl,ha,hb,hc=>⟨c,hc.1,by simp[VN,VX,val];omega,gK.nil,rfl⟩
 | [],y::ys,c,hl,ha,hb,hc=>by simp at hl
 |x::xs,[],c,hl,ha,hb,hc=>by
  have hx:=ha.head
  have key:∀d:Int,(0≤d∧d≤1)→∃c',0≤c'∧VX (VN xs [] d)=VX xs - d+c'*10^xs.length∧DX (VN xs [] d)∧(VN xs [] d).length=xs.length:=fun d hd=>by
   obtain⟨c',h2,h3,h4,h5⟩:=Rw xs [] d (by simp) ha.tail gK.nil hd
   exact⟨c',h2,by simpa [VX,val] using h3,h4,h5⟩
  simp only[VN]
  split
  ·obtain⟨c',h2,h3,h4,h5⟩:=key 1 ⟨by omega,by omega⟩
   refine⟨c',h2, ?_,gK.cons (by omega) (by omega) h4,by simp[h5]⟩
   simp only[VX,val,List.length_cons,Int.pow_succ] at h3 ⊢
   rw[←Int.mul_assoc,h3];omega
  ·obtain⟨c',h2,h3,h4,h5⟩:=key 0 ⟨by omega,by omega⟩
   refine⟨c',h2, ?_,gK.cons (by omega) (by omega) h4,by simp[h5]⟩
   simp only[VX,val,List.length_cons,Int.pow_succ] at h3 ⊢
   rw[←Int.mul_assoc,h3];omega
 |x::xs,y::ys,c,hl,ha,hb,hc=>by
  have hx:=ha.head
  have hy:=hb.head
  simp only[VN]
  split
  ·obtain⟨c',h2,h3,h4,h5⟩:=Rw xs ys 1 (by simp at hl;omega) ha.tail hb.tail ⟨by omega,by omega⟩
   refine⟨c',h2, ?_,gK.cons (by omega) (by omega) h4,by simp[h5]⟩
   simp only[VX,val,List.length_cons,Int.pow_succ] at h3 ⊢
   rw[←Int.mul_assoc,h3];omega
  ·obtain⟨c',h2,h3,h4,h5⟩:=Rw xs ys 0 (by simp at hl;omega) ha.tail hb.tail ⟨by omega,by omega⟩
   refine⟨c',h2, ?_,gK.cons (by omega) (by omega) h4,by simp[h5]⟩
   simp only[VX,val,List.length_cons,Int.pow_succ] at h3 ⊢
   rw[←Int.mul_assoc,h3];omega
theorem ZC {m n:Nat}(hl:(dX m).length≤1000000000000)(h:n≤m):aW (dX m) (dX n)=some (dX (m - n)):=by
 have ha:=GS m
 have hb:=GS n
 obtain⟨c',h1,h2,h3,h4⟩:=Rw (dX m) (dX n) 0 (VL h) ha hb ⟨by omega,by omega⟩
 have hv:VX (VN (dX m) (dX n) 0)=((m - n:Nat):Int):=by
  have h5:=zY (B:=10) (by omega) h3
  rw[h4] at h5
  change VX _<_ at h5
  rw[Jy,Jy] at h2
  by_cases hc:c'=0
  ·subst hc;simp at h2;omega
  ·exfalso
   have hp:(0:Int)≤10^(dX m).length:=Int.pow_nonneg (by omega)
   have h8:1*(10:Int)^(dX m).length≤c'*10^(dX m).length:=Int.mul_le_mul_of_nonneg_right (by omega) hp
   rw[Int.one_mul] at h8
   omega
 have:=abq ha hb hl (dX m).length 0 0 [] (by omega) rfl ⟨by omega,by omega⟩
 simp only[Int.natCast_zero,List.drop_zero,List.nil_append] at this
 rw[sG,nc,this,Jz (by omega),bS,Tt h3,hv,Int.toNat_natCast]
theorem aeJ {m n:Nat}{s:Bool}(hm:(dX m).length≤1000000000000)(hn:(dX n).length≤1000000000000):
  ((iC (dX m) (dX n)).bind fun r5=>(al s r5).bind fun r6=>some r6)=some (fH (if s then -((m:Int)+n) else (m:Int)+n)):=by
 obtain⟨r,e1,e2,e3,e4⟩:=ajD (GS m) (GS n) hm hn
 rw[e1,bS,wq e3 (by omega),bS,e2,Jy,Jy]
theorem Tz {m n:Nat}{s:Bool}(hm:(dX m).length≤1000000000000)(h:n≤m):
  ((aW (dX m) (dX n)).bind fun r5=>(al s r5).bind fun r6=>some r6)=some (fH (if s then -((m:Int) - n) else (m:Int) - n)):=by
 have:=VL (show m - n≤m by omega)
 rw[ZC hm h,bS,wq (GS _) (by omega),bS,Jy]
 have:((m - n:Nat):Int)=(m:Int) - n:=by omega
 rw[this]
theorem ZD {x y:Int}(hx:Bd x)(hy:Bd y):gj (fH x) (fH y)=some (fH (x+y)):=by
 have hlx:=LF x
 have hly:=LF y
 rw[B2,vD,A7 hx,bS,A7 hy,bS]
 unfold Bd at hx hy
 -- HZ PO way
 have PO:((aq (fH x)).bind fun r3=>(aq (fH y)).bind fun r4=>
   bif (r3.1==r4.1) then
    (iC r3.2 r4.2).bind fun r5=>(al r3.1 r5).bind fun r6=>some r6
   else
    (da r3.2 r4.2).bind fun r7=>
    bif (decide (r7<(0:Int))) then
     (aW r4.2 r3.2).bind fun r8=>(al r4.1 r8).bind fun r9=>some r9
    else
     (aW r3.2 r4.2).bind fun M4=>(al r3.1 M4).bind fun r11=>some r11)=some (fH (x+y)):=by
  rw[mc hx,bS,mc hy,bS]
  simp only
  by_cases hs:(x<0↔y<0)
  ·have:(decide (x<0)==decide (y<0))=true:=beq_iff_eq.2 (decide_eq_decide.2 hs)
   rw[this,cT,aeJ (by omega) (by omega)]
   congr 2
   by_cases h:x<0
   ·rw[decide_eq_true h,if_pos rfl];omega
   ·rw[decide_eq_false h,if_neg (by simp)];omega
  ·have:(decide (x<0)==decide (y<0))=false:=by simpa using hs
   rw[this,cF,Ol (by omega) (by omega),bS]
   by_cases hc:x.natAbs<y.natAbs
   ·rw[au (MP.2 (by omega)),Tz (by omega) (by omega)]
    congr 2
    by_cases h:y<0
    ·rw[decide_eq_true h,if_pos rfl];omega
    ·rw[decide_eq_false h,if_neg (by simp)];omega
   ·rw[ao (fun e=>by have:=MP.1 e;omega),Tz (by omega) (by omega)]
    congr 2
    by_cases h:x<0
    ·rw[decide_eq_true h,if_pos rfl];omega
    ·rw[decide_eq_false h,if_neg (by simp)];omega
 by_cases h1:nd x≤9
 ·rw[if_pos h1]
  simp only[cT]
  by_cases h2:nd y≤9
  ·rw[if_pos h2]
   simp only[cT]
   have b1:=(jT x 9 (by omega)).1 h1
   have b2:=(jT y 9 (by omega)).1 h2
   rw[i64_in _ (by omega),me (by omega) (by omega),bS]
  ·rw[if_neg h2]
   simp only[cF]
   exact PO
 ·rw[if_neg h1]
  simp only[cF]
  exact PO
theorem Xl {x:Int}(hx:Bd x):di (fH x)=some (fH (-x)):=by
 have hlx:=LF x
 rw[vt,pb,mc hx,bS]
 unfold Bd at hx
 rw[wq (GS _) (by omega),bS,Jy]
 congr 2
 by_cases h:x<0
 ·rw[decide_eq_true h,if_neg (by simp)];omega
 ·rw[decide_eq_false h,if_pos (by rfl)];omega
theorem aeK {x y:Int}(hx:Bd x)(hy:Bd y):jR (fH x) (fH y)=some (fH (x - y)):=by
 rw[Ai,tj,Xl hy,bS,ZD hx (by unfold Bd at*;rw[Tv];exact hy),bS]
 rfl
theorem On {x:Int}(hx:Bd x):gd (fH x)=some (fH x.natAbs):=by
 have hlx:=LF x
 rw[vC,pj,mc hx,bS]
 unfold Bd at hx
 rw[wq (GS _) (by omega),bS,Jy]
 rfl
theorem JB {x y:Int}(hx:Bd x)(hy:Bd y):bJ (fH x) (fH y)=some (ml x y):=by
 have hlx:=LF x
 have hly:=LF y
 rw[wM,qp,mc hx,bS,mc hy,bS]
 unfold Bd at hx hy
 simp only
 rw[Ol (by omega) (by omega),Ol (by omega) (by omega),bS,bS]
 rcases (show x<y∨x=y∨y<x by omega) with h |h |h
 all_goals
  by_cases h1:x<0<;>by_cases h2:y<0
  all_goals simp only[h1,h2,decide_true,decide_false,beq_self_eq_true,Bool.not_true,Bool.not_false,cT,cF,show (true==false)=false from rfl,show (false==true)=false from rfl,Option.some.injEq]
  all_goals unfold ml
  all_goals (repeat' split)<;>omega
def pmL:List Int→Int→List Int→List Int
 | [],x,os=>os
 |y::ys,x,o::os=>(o+x*y)::pmL ys x os
 |_::_,_,[]=>[]
def ptL:List Int→List Int→List Int→List Int
 | [],b,o=>o
 |x::xs,b,o=>match pmL b x o with
  | []=>[]
  |h::t=>h::ptL xs b t
def QK:List Int→List Int
 | []=>[]
 | [o]=>[o]
 |o::p::r=>o % 10::QK ((p+o / 10)::r)
termination_by l=>l.length
theorem MR:∀(b:List Int) (x:Int) (o:List Int),b.length≤o.length→(pmL b x o).length=o.length
 | [],x,o,h=>by simp[pmL]
 |y::ys,x,[],h=>by simp at h
 |y::ys,x,o::os,h=>by simp only[pmL,List.length_cons];rw[MR ys x os (by simpa using h)]
theorem acQ:∀(b:List Int) (x:Int) (o:List Int),b.length≤o.length→VX (pmL b x o)=VX o+x*VX b
 | [],x,o,h=>by simp[pmL,VX,val]
 |y::ys,x,[],h=>by simp at h
 |y::ys,x,o::os,h=>by
  have ih:=acQ ys x os (by simpa using h)
  simp only[pmL,VX,val] at ih ⊢
  have e:x*(y+10*val 10 ys)=x*y+10*(x*val 10 ys):=by rw[Int.mul_add,Int.mul_left_comm]
  rw[ih,e];omega
def C4 (M:Int)(l:List Int):Prop:=∀x∈l,0≤x∧x≤M
theorem C4.mono {M M':Int}{l:List Int}(h:C4 M l)(hM:M≤M'):C4 M' l:=fun x hx=>by have:=h x hx;omega
theorem C4.getD {M:Int}{l:List Int}(h:C4 M l)(hM:0≤M)(k:Nat):0≤l.getD k 0∧l.getD k 0≤M:=by
 by_cases hk:k<l.length
 ·have:l.getD k 0=l[k]:=by simp[List.getD,hk]
  rw[this];exact h _ (List.getElem_mem hk)
 ·rw[getD_none (by omega)];omega
theorem C4.take {M:Int}{l:List Int}(h:C4 M l)(k:Nat):C4 M (l.take k):=fun x hx=>h x (List.mem_of_mem_take hx)
theorem C4.drop {M:Int}{l:List Int}(h:C4 M l)(k:Nat):C4 M (l.drop k):=fun x hx=>h x (List.mem_of_mem_drop hx)
theorem C4.append {M:Int}{l m:List Int}(h:C4 M l)(h':C4 M m):C4 M (l++m):=fun x hx=>by
 rcases List.mem_append.1 hx with hx |hx
 ·exact h x hx
 ·exact h' x hx
theorem ZE {M x:Int}(hx:0≤x∧x≤9):∀(b o:List Int),DX b→C4 M o→C4 (M+81) (pmL b x o)
 | [],o,hb,ho=>ho.mono (by omega)
 |y::ys,[],hb,ho=>fun z hz=>by cases hz
 |y::ys,o::os,hb,ho=>by
  have hy:=hb.head
  have h1:=Int.mul_nonneg hx.1 hy.1
  have h2:x*y≤9*y:=Int.mul_le_mul_of_nonneg_right hx.2 hy.1
  have h3:=ho o (by simp)
  have ih:=ZE hx ys os hb.tail (fun z hz=>ho z (by simp[hz]))
  intro z hz
  simp only[pmL,List.mem_cons] at hz
  rcases hz with rfl |hz
  ·omega
  ·exact ih z hz
theorem Xm {p q:Bool}{x y:List Int}{i:Nat}(hy:DX y)(hx:0≤x.getD i 0∧x.getD i 0≤9)(hi:i<x.length)(hlx:x.length≤10000000)(hly:y.length≤10000000):
  ∀(m k:Nat) (M:Int) (out:List Int),m+k=y.length→out.length=x.length+y.length+1→C4 M out→0≤M→M+81*m≤1000000000000000→
  dj p x q y i k out=bu p x q y (i+1) (out.take (i+k)++pmL (y.drop k) (x.getD i 0) (out.drop (i+k))):=by
 intro m
 induction m with
 |zero=>
  intro k M out hk ho hu h0 hM
  rw[nO,ku,ao (by omega),drop_nil (show y.length≤k by omega),i64_in _ (by omega)]
  simp[pmL]
 |succ m ih=>
  intro k M out hk ho hu h0 hM
  have hyk:=hy.getD (by omega) k
  have hok:=hu.getD h0 (i+k)
  have h1:=Int.mul_nonneg hx.1 hyk.1
  have h2:x.getD i 0*y.getD k 0≤9*y.getD k 0:=Int.mul_le_mul_of_nonneg_right hx.2 hyk.1
  have e1:((i:Int)+k).toNat=i+k:=by omega
  have wz:=fun M out=>ih (k+1) M out (by omega)
  simp only[Int.natCast_add,Int.natCast_one] at wz
  rw[nO,ku]
  simp (disch:=omega) only[au,i64_in,gp,tN,e1,Int.toNat_natCast]
  have jg:C4 (M+81) (out.set (i+k) (out.getD (i+k) 0+x.getD i 0*y.getD k 0)):=fun z hz=>by
   rcases List.mem_or_eq_of_mem_set hz with hz |rfl
   ·have:=hu z hz;omega
   ·omega
  rw[wz (M+81) _ (by simp[ho]) jg (by omega) (by omega),drop_eq (show k<y.length by omega),drop_eq (show i+k<out.length by omega)]
  simp only[pmL]
  rw[show i+(k+1)=i+k+1 by omega,CS (by omega),set_drop]
  simp
theorem acR:∀(a b o:List Int),o.length=a.length+b.length+1→DX a→VX (ptL a b o)=VX o+VX a*VX b∧(ptL a b o).length=o.length
 | [],b,o,hl,ha=>by simp[ptL,VX,val]
 |x::xs,b,o,hl,ha=>by
  have hlen:=MR b x o (by simp at hl;omega)
  have hval:=acQ b x o (by simp at hl;omega)
  simp only[ptL]
  split
  ·rename_i e;rw[e] at hlen;simp at hlen hl;omega
  ·rename_i h t e
   rw[e] at hlen hval
   obtain⟨f1,f2⟩:=acR xs b t (by simp at hl hlen;omega) ha.tail
   refine⟨?_,by simp[f2] at hlen ⊢;omega⟩
   simp only[VX,val] at hval f1 ⊢
   rw[f1,Int.add_mul,Int.mul_assoc]
   omega
theorem Xn {p q:Bool}{x y:List Int}(hxd:DX x)(hy:DX y)(hlx:x.length≤10000000)(hly:y.length≤10000000):
  ∀(m i:Nat) (out:List Int),m+i=x.length→out.length=x.length+y.length+1→C4 (81*i) out→
  ∃o',bu p x q y i out=cA p q 0 o'∧o'=out.take i++ptL (x.drop i) y (out.drop i)∧C4 1000000000000 o':=by
 intro m
 induction m with
 |zero=>
  intro i out hi ho hu
  refine⟨out, ?_, ?_,hu.mono (by omega)⟩
  ·rw[nN,kt,ao (by omega)]
  ·rw[drop_nil (show x.length≤i by omega)];simp[ptL]
 |succ m ih=>
  intro i out hi ho hu
  have hx:=hxd.getD (by omega) i
  have hI:=Xm (p:=p) (q:=q) (i:=i) hy ⟨hx.1,by omega⟩ (by omega) hlx hly y.length 0 (81*i) out (by omega) ho hu (by omega) (by omega)
  simp only[Int.natCast_zero,Nat.add_zero,List.drop_zero] at hI
  rw[nN,kt,au (by omega),hI]
  have wz:=fun out=>ih (i+1) out (by omega)
  simp only[Int.natCast_add,Int.natCast_one] at wz
  have ahB:=MR y (x.getD i 0) (out.drop i) (by rw[List.length_drop];omega)
  have hup:C4 (81*((i:Int)+1)) (out.take i++pmL y (x.getD i 0) (out.drop i)):=((hu.take i).mono (by omega)).append ((ZE ⟨hx.1,by omega⟩ y (out.drop i) hy (hu.drop i)).mono (by omega))
  obtain⟨o',e1,e2,e3⟩:=wz (out.take i++pmL y (x.getD i 0) (out.drop i)) (by rw[List.length_append,ahB,List.length_take,List.length_drop];omega) hup
  refine⟨o',e1, ?_,e3⟩
  rw[e2,drop_eq (show i<x.length by omega)]
  simp only[ptL]
  cases hp:pmL y (x.getD i 0) (out.drop i) with
  |nil=>rw[hp] at ahB;simp at ahB;omega
  |cons h t=>
   have htl:(out.take i).length=i:=by simp;omega
   have h7:(out.take i++h::t).drop (i+1)=t:=by
    rw[List.drop_append,htl]
    have:(out.take i).drop (i+1)=[]:=drop_nil (by omega)
    rw[this];simp
   have h8:(out.take i++h::t).take (i+1)=out.take i++[h]:=by
    rw[List.take_append,htl]
    have:(out.take i).take (i+1)=out.take i:=List.take_of_length_le (by omega)
    rw[this];simp
   rw[h7,h8];simp
theorem acS (o:Int):QK [o]=[o]:=by rw[QK]
theorem acT (o p:Int)(r:List Int):QK (o::p::r)=o % 10::QK ((p+o / 10)::r):=by rw[QK]
theorem acU:∀(n:Nat) (l:List Int),l.length=n→(∀x∈l,0≤x)→VX (QK l)=VX l∧(QK l).length=l.length∧(∀x∈QK l,0≤x)∧DX (QK l).dropLast
 |0,l,hl,h=>by
  have:l=[]:=List.length_eq_zero_iff.1 hl
  subst this
  rw[QK];exact⟨rfl,rfl,h,gK.nil⟩
 |1,l,hl,h=>by
  obtain⟨o,rfl⟩:∃o,l=[o]:=by
   cases l with
   |nil=>cases hl
   |cons o r=>exact⟨o,by have:r=[]:=List.length_eq_zero_iff.1 (by simpa using hl);rw[this]⟩
  rw[acS];exact⟨rfl,rfl,h,gK.nil⟩
 |n+2,l,hl,h=>by
  match l,hl,h with
  |o::q::r,hl,h=>
   have h1:=h o (by simp)
   have h2:=h q (by simp)
   obtain⟨e1,e2,e3,e4⟩:=acU (n+1) ((q+o / 10)::r) (by simpa using hl) (fun x hx=>by
    rcases List.mem_cons.1 hx with rfl |hx
    ·omega
    ·exact h x (by simp[hx]))
   rw[acT]
   refine⟨?_,by simp[e2], ?_, ?_⟩
   ·simp only[VX,val] at e1 ⊢
    rw[e1];omega
   ·intro x hx
    rcases List.mem_cons.1 hx with rfl |hx
    ·omega
    ·exact e3 x hx
   ·have hne:QK ((q+o / 10)::r)≠ []:=fun e=>by rw[e] at e2;simp at e2
    rw[List.dropLast_cons_of_ne_nil hne]
    exact gK.cons (by omega) (by omega) e4
theorem Xo {p q:Bool}:∀(n:Nat) (A l:List Int),l.length=n+1→(A++l).length≤100000000→(∀x∈l,0≤x)→(∀x∈l.tail,x≤1000000000000)→l.getD 0 0≤2000000000000→
  cA p q A.length (A++l)=(al (!(p==q)) (A++QK l)).bind fun r=>some r:=by
 intro n
 induction n with
 |zero=>
  intro A l hl hlen h0 h1 h2
  obtain⟨o,rfl⟩:∃o,l=[o]:=by
   cases l with
   |nil=>cases hl
   |cons o r=>exact⟨o,by have:r=[]:=List.length_eq_zero_iff.1 (by simpa using hl);rw[this]⟩
  have ab9:(A++[o]).length=A.length+1:=by simp
  rw[nP,kx,i64_in _ (by omega),ao (by omega),acS]
 |succ n ih=>
  intro A l hl hlen h0 h1 h2
  match l,hl,hlen,h0,h1,h2 with
  |o::t::r,hl,hlen,h0,h1,h2=>
   have ho:=h0 o (by simp)
   have ht:=h0 t (by simp)
   have ht1:=h1 t (by simp)
   have ho1:o≤2000000000000:=h2
   have ab9:(A++o::t::r).length=A.length+r.length+2:=by simp;omega
   have e1:((A.length:Int)+1).toNat=A.length+1:=by omega
   have g0:(A++o::t::r).getD A.length 0=o:=by simp[List.getD]
   have g1:(A++o::t::r).getD (A.length+1) 0=t:=by
    rw[List.getD,List.getElem?_append_right (by omega),show A.length+1 - A.length=1 by omega];rfl
   have s1:∀z,(A++o::t::r).set (A.length+1) z=A++o::z::r:=fun z=>by
    rw[List.set_append_right _ _ (by omega),show A.length+1 - A.length=1 by omega];rfl
   have s2:∀z w,(A++o::z::r).set A.length w=A++w::z::r:=fun z w=>by
    rw[List.set_append_right _ _ (by omega),show A.length - A.length=0 by omega];rfl
   have Za:∀z,(A++o::z::r).length=A.length+r.length+2:=fun z=>by simp;omega
   have g2:∀z,(A++o::z::r).getD A.length 0=o:=fun z=>by simp[List.getD]
   rw[nP,kx]
   simp (disch:=omega) only[i64_in,au,gp,tN,e1,g0,g1,s1,Int.toNat_natCast,lN,br]
   have hl2:=Za (t+o / 10)
   simp (disch:=omega) only[gp,tN,g2,s2,Int.toNat_natCast,br]
   have:=ih (A++[o % 10]) ((t+o / 10)::r) (by simpa using hl) (by simp at hlen ⊢;omega) (fun x hx=>by
    rcases List.mem_cons.1 hx with rfl |hx
    ·omega
    ·exact h0 x (by simp[hx])) (fun x hx=>h1 x (by simp at hx ⊢;exact .inr hx)) (by show t+o / 10≤_;omega)
   have e3:((A++[o % 10]).length:Int)=(A.length:Int)+1:=by simp
   rw[e3] at this
   simp only[List.append_assoc,List.singleton_append] at this
   rw[acT]
   exact this
theorem ZF {m n:Nat}{s t:Bool}(hm:(dX m).length≤10000000)(hn:(dX n).length≤10000000):
  bu s (dX m) t (dX n) 0 (List.replicate ((dX m).length+(dX n).length+1) 0)=some (fH (if s=t then (m:Int)*n else -((m:Int)*n))):=by
 have hdm:=GS m
 have hdn:=GS n
 obtain⟨o',e1,e2,e3⟩:=Xn (p:=s) (q:=t) hdm hdn hm hn (dX m).length 0 (List.replicate ((dX m).length+(dX n).length+1) 0) (by omega) (by simp) (fun x hx=>by
  obtain⟨_,rfl⟩:=List.mem_replicate.1 hx;omega)
 simp only[Int.natCast_zero,List.take_zero,List.nil_append,List.drop_zero] at e1 e2
 obtain⟨v1,v2⟩:=acR (dX m) (dX n) (List.replicate ((dX m).length+(dX n).length+1) 0) (by simp) hdm
 rw[←e2,List.length_replicate] at v2
 rw[←e2,Jy,Jy] at v1
 simp only[VX,LA,Int.zero_add] at v1
 have hnn:∀x∈o',0≤x:=fun x hx=>(e3 x hx).1
 obtain⟨c1,c2,c3,c4⟩:=acU _ o' rfl hnn
 have hc:=Xo (p:=s) (q:=t) ((dX m).length+(dX n).length) [] o' (by omega) (by simp;omega) hnn (fun x hx=>(e3 x (List.mem_of_mem_tail hx)).2) (by have:=(e3.getD (by omega) 0).2;omega)
 simp only[List.nil_append,List.length_nil,Int.natCast_zero] at hc
 rw[e1,hc]
 -- HZ last entry is a digit,too
 have hne:QK o'≠ []:=fun e=>by rw[e] at c2;simp at c2;omega
 have PL:QK o'=(QK o').dropLast++[(QK o').getLast hne]:=(List.dropLast_concat_getLast hne).symm
 have hvs:VX (QK o')=VX (QK o').dropLast+10^(QK o').dropLast.length*(QK o').getLast hne:=by
  conv=>lhs;rw[PL]
  rw[VX,fh];simp[val]
 have XV:(QK o').dropLast.length=(dX m).length+(dX n).length:=by rw[List.length_dropLast,c2,v2];omega
 have aeD:=Kb c4
 have aoe:=c3 _ (List.getLast_mem hne)
 have alY:(QK o').getLast hne<10:=by
  by_cases hcc:(QK o').getLast hne<10
  ·exact hcc
  ·exfalso
   have h1:=(aL (B:=10) (by omega) (dX m).length m).1 (Nat.le_refl _)
   have h2:=(aL (B:=10) (by omega) (dX n).length n).1 (Nat.le_refl _)
   have h3:m*n<10^(dX m).length*10^(dX n).length:=Nat.mul_lt_mul'' h1 h2
   rw[←Nat.pow_add] at h3
   have h4:((m*n:Nat):Int)<((10^((dX m).length+(dX n).length):Nat):Int):=Int.ofNat_lt.2 h3
   rw[GU,Int.natCast_mul] at h4
   have h5:(10:Int)^((dX m).length+(dX n).length)*1≤10^((dX m).length+(dX n).length)*(QK o').getLast hne:=Int.mul_le_mul_of_nonneg_left (by omega) (Int.pow_nonneg (by omega))
   rw[XV] at hvs
   rw[c1] at hvs
   change VX o'=_ at v1
   omega
 have hD:DX (QK o'):=by
  rw[PL]
  exact c4.append (gK.cons aoe alY gK.nil)
 rw[wq hD (by rw[c2,v2];omega),bS,c1]
 change VX o'=_ at v1
 rw[v1]
 congr 2
 cases s<;>cases t<;>simp
theorem VO {x y:Int}(hx:Bd x)(hy:Bd y):fu (fH x) (fH y)=some (fH (x*y)):=by
 have hlx:=LF x
 have hly:=LF y
 rw[Af,tg,A7 hx,bS,A7 hy,bS]
 unfold Bd at hx hy
 have PO:((aq (fH x)).bind fun r3=>(aq (fH y)).bind fun r4=>
   bif (iS 8 (IntKind.wrap .i64 ((IntKind.wrap .i64 ((r3.2.length:Int)+(r4.2.length:Int)))+(1:Int))) (IntKind.wrap .i64 ((IntKind.wrap .i64 ((r3.2.length:Int)+(r4.2.length:Int)))+(1:Int)))) then
   bu r3.1 r3.2 r4.1 r4.2 (0:Int) (List.replicate (IntKind.wrap .i64 ((IntKind.wrap .i64 ((r3.2.length:Int)+(r4.2.length:Int)))+(1:Int))).toNat (0:Int))
   else none)=some (fH (x*y)):=by
  rw[mc hx,bS,mc hy,bS]
  simp only
  simp (disch:=omega) only[i64_in,LB]
  have e1:(((dX x.natAbs).length:Int)+(dX y.natAbs).length+1).toNat=(dX x.natAbs).length+(dX y.natAbs).length+1:=by omega
  rw[e1,ZF (by omega) (by omega)]
  congr 2
  by_cases h1:x<0<;>by_cases h2:y<0
  ·have a1:(x.natAbs:Int)= -x:=by omega
   have a2:(y.natAbs:Int)= -y:=by omega
   rw[decide_eq_true h1,decide_eq_true h2,if_pos rfl,a1,a2];simp[Int.neg_mul,Int.mul_neg]
  ·have a1:(x.natAbs:Int)= -x:=by omega
   have a2:(y.natAbs:Int)=y:=by omega
   rw[decide_eq_true h1,decide_eq_false h2,if_neg (by simp),a1,a2];simp[Int.neg_mul,Int.mul_neg]
  ·have a1:(x.natAbs:Int)=x:=by omega
   have a2:(y.natAbs:Int)= -y:=by omega
   rw[decide_eq_false h1,decide_eq_true h2,if_neg (by simp),a1,a2];simp[Int.neg_mul,Int.mul_neg]
  ·have a1:(x.natAbs:Int)=x:=by omega
   have a2:(y.natAbs:Int)=y:=by omega
   rw[decide_eq_false h1,decide_eq_false h2,if_pos rfl,a1,a2]
 by_cases h1:nd x≤9
 ·rw[if_pos h1]
  simp only[cT]
  by_cases h2:nd y≤9
  ·rw[if_pos h2]
   simp only[cT]
   have b1:=(jT x 9 (by omega)).1 h1
   have b2:=(jT y 9 (by omega)).1 h2
   have b3:(x*y).natAbs<10^9*10^9:=by rw[Int.natAbs_mul];exact Nat.mul_lt_mul'' b1 b2
   rw[i64_in _ (by omega),me (by omega) (by omega),bS]
  ·rw[if_neg h2]
   simp only[cF]
   exact PO
 ·rw[if_neg h1]
  simp only[cF]
  exact PO
end Go.Proofs.YtofjebmoebhiiaaGreatDoor.Ev
namespace Go.Abs
theorem ahC {x y:Int}(hy:y≠0){Q R:Int}(hQ:Q=((x.natAbs / y.natAbs:Nat):Int))(hR:R=((x.natAbs % y.natAbs:Nat):Int)):
  (x.fdiv y=if (x<0↔y<0) then Q else if R=0 then -Q else -Q - 1)∧
  (x.fmod y=if (x<0↔y<0) then (if x<0 then -R else R) else if R=0 then 0 else (if x<0 then -R else R)+y):=by
 have hdm:=Nat.div_add_mod x.natAbs y.natAbs
 have hlt:=Nat.mod_lt x.natAbs (show y.natAbs>0 by omega)
 obtain⟨A,hA⟩:∃A,A=x.natAbs:=⟨_,rfl⟩
 obtain⟨B,hB⟩:∃B,B=y.natAbs:=⟨_,rfl⟩
 rw[←hA, ←hB] at hdm hlt hQ hR
 have atP:(B:Int)*Q+R=A:=by rw[hQ,hR, ←Int.natCast_mul, ←Int.natCast_add,hdm]
 have hR0:0≤R:=by rw[hR];exact Int.natCast_nonneg _
 have hRB:R<B:=by rw[hR];exact Int.ofNat_lt.2 hlt
 by_cases h1:x<0<;>by_cases h2:y<0
 ·have hx':x= -(A:Int):=by omega
  have hy':y= -(B:Int):=by omega
  have hu:=(Int.fdiv_fmod_unique' (a:=x) (b:=y) (r:= -R) (q:=Q) h2).2 ⟨by rw[hx',hy',Int.neg_mul];omega,by omega,by omega⟩
  rw[hu.1,hu.2]
  simp[h1,h2]
 ·have hx':x= -(A:Int):=by omega
  have hy':y=(B:Int):=by omega
  by_cases hz:R=0
  ·have hu:=(Int.fdiv_fmod_unique (a:=x) (b:=y) (r:= -R) (q:= -Q) (by omega)).2 ⟨by rw[hx',hy',Int.mul_neg];omega,by omega,by omega⟩
   rw[hu.1,hu.2]
   simp[h1,h2,hz]
  ·have hu:=(Int.fdiv_fmod_unique (a:=x) (b:=y) (r:= -R+y) (q:= -Q - 1) (by omega)).2 ⟨by rw[hx',hy',Int.mul_sub,Int.mul_neg];omega,by omega,by omega⟩
   rw[hu.1,hu.2]
   simp[h1,h2,hz]
 ·have hx':x=(A:Int):=by omega
  have hy':y= -(B:Int):=by omega
  by_cases hz:R=0
  ·have hu:=(Int.fdiv_fmod_unique' (a:=x) (b:=y) (r:=R) (q:= -Q) (by omega)).2 ⟨by rw[hx',hy',Int.neg_mul_neg];omega,by omega,by omega⟩
   rw[hu.1,hu.2]
   simp[h1,h2,hz]
  ·have hu:=(Int.fdiv_fmod_unique' (a:=x) (b:=y) (r:=R+y) (q:= -Q - 1) (by omega)).2 ⟨by rw[hx',hy',Int.mul_sub,Int.neg_mul_neg];omega,by omega,by omega⟩
   rw[hu.1,hu.2]
   simp[h1,h2,hz]
 ·have hx':x=(A:Int):=by omega
  have hy':y=(B:Int):=by omega
  have hu:=(Int.fdiv_fmod_unique (a:=x) (b:=y) (r:=R) (q:=Q) (by omega)).2 ⟨by rw[hx',hy'];omega,by omega,by omega⟩
  rw[hu.1,hu.2]
  simp[h1,h2]
end Go.Abs
namespace Go.Proofs.YtofjebmoebhiiaaGreatDoor.Ev
open Go.Abs Go.IntWalk
section
variable {b:ByteArray}{p s:Bool}
theorem aof {x:List Int}{B:Nat}(hB:0<B)(hBl:(dX B).length≤10000000){i:Int}{q:List Int}(hq:q.length≤10000000):∀(S k:Nat),(dX S).length≤10000001→k+S / B≤1000→
  cg b p x s (dX B) (dX S) i k q=bj b p x s (dX B) (dX (S % B)) (IntKind.wrap .i64 (i - 1)) (q++[((k+S / B:Nat):Int)]):=by
 intro S
 induction S using Nat.strongRecOn with
 |ind S ih=>
  intro k hS hk
  rw[rz,l8,Ol (by omega) (by omega),bS]
  by_cases h:B≤S
  ·have hc:ml (S:Int) B≥0:=by
    by_cases hh:ml (S:Int) B≥0
    ·exact hh
    ·have:=MP.1 (show ml (S:Int) B<0 by omega)
     omega
   have e1:=Nat.mod_eq_sub_mod h
   have e2:S / B=(S - B) / B+1:=Nat.div_eq_sub_div hB h
   obtain⟨D,hD⟩:∃D,(S - B) / B=D:=⟨_,rfl⟩
   rw[e2,hD] at hk
   rw[xd hc,ZC (by omega) h,bS,i64_in _ (by omega)]
   have:=ih (S - B) (by omega) (k+1) (by have:=VL (show S - B≤S by omega);omega) (by rw[hD];omega)
   simp only[Int.natCast_add,Int.natCast_one] at this
   rw[this, ←e1,e2]
   congr 3
   omega
  ·have hc:¬ml (S:Int) B≥0:=by rw[mD (by omega)];omega
   rw[uH hc,ja (by omega) (by omega),Nat.mod_eq_of_lt (by omega),Nat.div_eq_of_lt (by omega),Nat.add_zero]
theorem aog {x:List Int}(hx:DX x){B:Nat}(hB:0<B)(hBl:(dX B).length≤10000000)(hxl:x.length≤10000000):∀(k:Nat) (R:Nat) (q:List Int),k≤x.length→R<B→q.length+k≤10000000→DX q→
  VX (x.drop k)=B*VX q.reverse+R→
  ∃q' R',bj b p x s (dX B) (dX R) ((k:Int) - 1) q=aG b p s (dX R') 0 q'∧R'<B∧DX q'∧VX x=B*VX q'.reverse+R'∧q'.length≤10000000:=by
 intro k
 induction k with
 |zero=>
  intro R q hk hR hql hq hv
  refine⟨q,R, ?_,hR,hq,by simpa using hv,by omega⟩
  rw[kX,ig,uH (by omega)]
 |succ k ih=>
  intro R q hk hR hql hq hv
  have hxk:=hx.getD (by omega) k
  have hRl:=VL (show R≤B by omega)
  have e:((k+1:Nat):Int) - 1=k:=by omega
  obtain⟨c,hc⟩:=Int.eq_ofNat_of_zero_le hxk.1
  rw[hc] at hxk
  have hDc:DX ([(c:Int)]++dX R):=(gK.cons hxk.1 hxk.2 gK.nil).append (GS R)
  have hVc:VX ([(c:Int)]++dX R)=((c+10*R:Nat):Int):=by
   have:=Jy R
   simp only[VX,List.singleton_append,val] at this ⊢
   rw[this];omega
  have hlen:(dX (c+10*R)).length≤10000001:=by
   have h1:=A4 ([(c:Int)]++dX R)
   rw[Tt hDc,hVc,Int.toNat_natCast] at h1
   simp at h1
   show (dX (c+10*R)).length≤_
   omega
  have hdiv:(c+10*R) / B<10:=by
   rw[Nat.div_lt_iff_lt_mul hB]
   omega
  have hmod:=Nat.mod_lt (c+10*R) hB
  have hdm:=Nat.div_add_mod (c+10*R) B
  rw[kX,ig,e,xd (by omega),gp (by omega) (by omega),Int.toNat_natCast,hc,ja (by omega) (by omega),Jz (by simp;omega),bS,Tt hDc,hVc,Int.toNat_natCast]
  have h1:=aof (b:=b) (p:=p) (s:=s) (x:=x) hB hBl (i:=k) (q:=q) (by omega) (c+10*R) 0 hlen (by omega)
  simp only[Int.natCast_zero,Nat.zero_add] at h1
  rw[h1,i64_in _ (by omega)]
  refine ih _ _ (by omega) hmod (by simp;omega) (hq.append (gK.cons (Int.natCast_nonneg _) (Int.ofNat_lt.2 hdiv) gK.nil)) ?_
  rw[drop_eq (show k<x.length by omega),hc,List.reverse_append,List.reverse_singleton,List.singleton_append]
  simp only[VX,val] at hv ⊢
  rw[hv]
  have h2:((B*((c+10*R) / B)+(c+10*R) % B:Nat):Int)=((c+10*R:Nat):Int):=by rw[hdm]
  rw[Int.natCast_add,Int.natCast_mul] at h2
  have h3:(B:Int)*(((c+10*R) / B:Nat)+10*val 10 q.reverse)=B*((c+10*R) / B:Nat)+10*(B*val 10 q.reverse):=by rw[Int.mul_add,Int.mul_left_comm]
  rw[h3]
  omega
theorem alZ {r:List Int}:∀(m:Nat) (M A C:List Int),M.length=m→A.length=C.length→(A++M++C).length≤1000000000→
  aG b p s r A.length (A++M++C)=aG b p s r (((A++M++C).length:Int) / 2) (A++M.reverse++C):=by
 intro m
 induction m using Nat.strongRecOn with
 |ind m ih=>
  intro M A C hm hac hl
  by_cases h:M.length≤1
  ·have hrev:M.reverse=M:=by
    match M,h with
    | [],_=>rfl
    | [x],_=>rfl
    |_::_::_,h=>simp at h
   have:((A++M++C).length:Int) / 2=A.length:=by simp;omega
   rw[hrev,this]
  ·obtain⟨x,M1,rfl⟩:∃x M1,M=x::M1:=by
    cases M with
    |nil=>simp at h
    |cons x M1=>exact⟨x,M1,rfl⟩
   have hne:M1≠ []:=fun e=>by rw[e] at h;simp at h
   obtain⟨M2,y,rfl⟩:∃M2 y,M1=M2++[y]:=⟨M1.dropLast,M1.getLast hne,(List.dropLast_concat_getLast hne).symm⟩
   have hlen:(A++x::(M2++[y])++C).length=A.length+M2.length+2+C.length:=by simp;omega
   rw[hlen] at hl
   have hL:A++x::(M2++[y])++C=A++(x::(M2++(y::C))):=by simp
   have hR:A++(x::(M2++[y])).reverse++C=(A++[y])++M2.reverse++(x::C):=by simp
   have aoh:((A++[y])++M2++(x::C)).length=A.length+M2.length+2+C.length:=by simp;omega
   have WL:=ih M2.length (by simp at hm;omega) M2 (A++[y]) (x::C) rfl (by simp;omega) (by omega)
   have e1:((A++[y]).length:Int)=(A.length:Int)+1:=by simp
   rw[e1,aoh] at WL
   rw[hlen,hR, ←WL,hL]
   rw[hL] at hlen
   have gx:(A++(x::(M2++(y::C)))).getD A.length 0=x:=by simp[List.getD]
   have gy:(A++(x::(M2++(y::C)))).getD (A.length+M2.length+1) 0=y:=by
    rw[List.getD,List.getElem?_append_right (by omega)]
    have:A.length+M2.length+1 - A.length=M2.length+1:=by omega
    rw[this]
    simp
   have s1:(A++(x::(M2++(y::C)))).set A.length y=A++(y::(M2++(y::C))):=by
    rw[List.set_append_right _ _ (by omega)];simp
   have s2:(A++(y::(M2++(y::C)))).set (A.length+M2.length+1) x=(A++[y])++M2++(x::C):=by
    rw[List.set_append_right _ _ (by omega)]
    have:A.length+M2.length+1 - A.length=M2.length+1:=by omega
    rw[this,List.set_cons_succ,List.set_append_right _ _ (by omega)]
    simp
   have Za:(A++(y::(M2++(y::C)))).length=A.length+M2.length+2+C.length:=by simp;omega
   have ej:(((A.length+M2.length+2+C.length:Nat):Int) - 1 - A.length).toNat=A.length+M2.length+1:=by omega
   rw[kY,ik]
   simp only[hlen]
   rw[lN (by omega)]
   simp (disch:=omega) only[au,i64_in,gp,tN,ej,Int.toNat_natCast,gx,gy,s1,s2]
theorem ajE {r q:List Int}(hl:q.length≤1000000000):aG b p s r 0 q=aG b p s r ((q.length:Int) / 2) q.reverse:=by
 have:=alZ (b:=b) (p:=p) (s:=s) (r:=r) q.length q [] [] rfl rfl (by simpa using hl)
 simpa using this
end
theorem Xp {x y:Int}(hx:Bd x)(hy:Bd y)(hy0:y≠0):dq (fH x) (fH y)=some (fH (x.fdiv y),fH (x.fmod y)):=by
 have hlx:=LF x
 have hly:=LF y
 obtain⟨fq,fr⟩:=ahC (x:=x) (y:=y) hy0 rfl rfl
 have hdm:=Nat.div_add_mod x.natAbs y.natAbs
 have hlt:=Nat.mod_lt x.natAbs (show y.natAbs>0 by omega)
 have hbx:=hx
 have hby:=hy
 rw[vB,ph,A7 hx,bS,A7 hy,bS]
 unfold Bd at hx hy
 -- HZ PO way
 have PO:((aq (fH x)).bind fun r9=>(aq (fH y)).bind fun M4=>
   let Uh:Int:=(IntKind.wrap .i64 ((M4.2.length:Int) - (1:Int)))
   let e12:Int:=(bif decide (Uh>(0:Int)) then Uh else (0:Int))
   let WU:Int:=(bif decide ((IntKind.wrap .i64 ((r9.2.length:Int) - e12))>(0:Int)) then (IntKind.wrap .i64 ((r9.2.length:Int) - e12)) else (0:Int))
   bif (c8 r9.2.length WU (r9.2.length:Int)) then
   bif (aE 8 1 0 (cut r9.2 WU (r9.2.length:Int)).length) then
   let e14:List Int:=(([]:List Int)++(cut r9.2 WU (r9.2.length:Int)))
   (bf e14).bind fun r15=>
   bj (fH y) r9.1 r9.2 M4.1 M4.2 r15 (IntKind.wrap .i64 (WU - (1:Int))) ([]:List Int)
   else none
   else none)=some (fH (x.fdiv y),fH (x.fmod y)):=by
  rw[mc hbx,bS,mc hby,bS]
  simp only
  obtain⟨LX,hLX⟩:∃LX,LX=(dX x.natAbs).length:=⟨_,rfl⟩
  obtain⟨LY,hLY⟩:∃LY,LY=(dX y.natAbs).length:=⟨_,rfl⟩
  have atS:0<LY:=by
   have:(dX y.natAbs).length≠0:=fun e=>by
    have:=(l9 (B:=10) (n:=y.natAbs) (by omega)).1 (List.length_eq_zero_iff.1 e)
    omega
   omega
  obtain⟨st,hst⟩:∃st:Nat,st=LX - (LY - 1):=⟨_,rfl⟩
  rw[←hLX, ←hLY]
  have Uh:IntKind.wrap .i64 ((LY:Int) - 1)=((LY - 1:Nat):Int):=by rw[i64_in _ (by omega)];omega
  have e12:(bif decide (((LY - 1:Nat):Int)>0) then ((LY - 1:Nat):Int) else 0)=((LY - 1:Nat):Int):=by
   by_cases h:((LY - 1:Nat):Int)>0
   ·rw[cO h]
   ·rw[cZ h];omega
  have WU:(bif decide (IntKind.wrap .i64 ((LX:Int) - ((LY - 1:Nat):Int))>0) then IntKind.wrap .i64 ((LX:Int) - ((LY - 1:Nat):Int)) else 0)=(st:Int):=by
   rw[i64_in _ (by omega)]
   by_cases h:(LX:Int) - ((LY - 1:Nat):Int)>0
   ·rw[cO h];omega
   ·rw[cZ h];omega
  have ahD:cut (dX x.natAbs) (st:Int) (LX:Int)=(dX x.natAbs).drop st:=by
   unfold cut
   rw[Int.toNat_natCast,Int.toNat_natCast,hLX,List.take_length]
  simp only[Uh,e12,WU,ahD]
  have XV:((dX x.natAbs).drop st).length=LX - st:=by rw[List.length_drop,hLX]
  have hDd:=(GS x.natAbs).drop st
  obtain⟨R0,hR0⟩:=Int.eq_ofNat_of_zero_le (Kb hDd)
  rw[FK (by omega) (by omega) (by omega),ja (by omega) (by omega),List.nil_append,Jz (by omega),bS,Tt hDd,hR0,Int.toNat_natCast,i64_in _ (by omega)]
  -- HZ first digits are less aqc HZ ajz
  have aqq:R0<y.natAbs:=by
   have h1:VX ((dX x.natAbs).drop st)<10^((dX x.natAbs).drop st).length:=zY (B:=10) (by omega) hDd
   have h2:=Oh (show ((dX x.natAbs).drop st).length≤LY - 1 by omega)
   have h3:=(fG (B:=10) (by omega) (LY - 1) y.natAbs).1 (by show LY - 1<(dX y.natAbs).length;omega)
   have h4:((10^(LY - 1):Nat):Int)≤(y.natAbs:Int):=Int.ofNat_le.2 h3
   rw[GU] at h4
   omega
  obtain⟨q',R',w1,w2,w3,w4,w5⟩:=aog (b:=fH y) (p:=decide (x<0)) (s:=decide (y<0)) (GS x.natAbs) (B:=y.natAbs) (by omega) (by omega) (by omega) st R0 [] (by omega) aqq (by simp;omega) gK.nil (by rw[hR0];simp[VX,val])
  have hq0:=Kb (show DX q'.reverse from fun z hz=>w3 z (List.mem_reverse.1 hz))
  obtain⟨Q,hQ⟩:=Int.eq_ofNat_of_zero_le hq0
  rw[Jy,hQ] at w4
  have hAN:x.natAbs=y.natAbs*Q+R':=by
   have:((y.natAbs*Q+R':Nat):Int)=(y.natAbs:Int)*Q+R':=by rw[Int.natCast_add,Int.natCast_mul]
   omega
  have hq1:x.natAbs / y.natAbs=Q:=by rw[hAN,Nat.mul_add_div (by omega),Nat.div_eq_of_lt w2];omega
  have OE:x.natAbs % y.natAbs=R':=by rw[hAN,Nat.mul_add_mod,Nat.mod_eq_of_lt w2]
  rw[hq1,OE] at fq
  rw[OE] at fr
  have atT:=VL (show R'≤y.natAbs by omega)
  rw[w1,ajE (by omega),kY,ik]
  have hql:(q'.reverse).length=q'.length:=by simp
  rw[hql,lN (by omega)]
  simp (disch:=omega) only[i64_in,ao]
  have hD':DX q'.reverse:=fun z hz=>w3 z (List.mem_reverse.1 hz)
  rw[wq hD' (by rw[hql];omega),bS,wq (GS R') (by omega),bS,hQ,Jy,aob]
  have aqr:nd (Q:Int)≤100000:=by
   have:Q≤x.natAbs:=by rw[←hq1];exact Nat.div_le_self _ _
   have:=Oj (x:=(Q:Int)) (y:=x) (by omega)
   omega
  have aoi:nd (R':Int)≤100000:=by
   have:=Oj (x:=(R':Int)) (y:=y) (by omega)
   omega
  have b1:Bd 1:=by unfold Bd;rw[JA (by decide)];omega
  by_cases hs:(x<0↔y<0)
  ·have hd:(decide (x<0)==decide (y<0))=true:=beq_iff_eq.2 (decide_eq_decide.2 hs)
   rw[if_pos hs] at fq fr
   rw[hd,Bool.not_true,fq,fr]
   simp only[Bool.false_eq_true,if_false,cF,decide_eq_true_eq]
   cases ((fH (if x<0 then -(R':Int) else (R':Int))).toList==(fH 0).toList)<;>rfl
  ·have hd:(decide (x<0)==decide (y<0))=false:=by
    cases hh:(decide (x<0)==decide (y<0)) with
    |false=>rfl
    |true=>exact absurd (decide_eq_decide.1 (beq_iff_eq.1 hh)) hs
   rw[if_neg hs] at fq fr
   rw[hd,Bool.not_false,fq,fr]
   simp only[if_true,cT,decide_eq_true_eq]
   by_cases hz:R'=0
   ·subst hz
    have:(if x<0 then -((0:Nat):Int) else ((0:Nat):Int))=0:=by split<;>rfl
    rw[this,VJ rfl,Bool.not_true,cF,if_pos (by rfl),if_pos (by rfl)]
   ·have h1:¬(if x<0 then -(R':Int) else (R':Int))=0:=by split<;>omega
    rw[VK h1,Bool.not_false,cT,if_neg (show ¬((R':Nat):Int)=0 by omega),if_neg (show ¬((R':Nat):Int)=0 by omega),aqm,aeK (by unfold Bd;rw[Tv];exact aqr) b1,bS,ZD (by
     unfold Bd
     split
     ·rw[Tv];exact aoi
     ·exact aoi) hby,bS]
 by_cases h1:nd x≤9
 ·rw[if_pos h1]
  simp only[cT]
  by_cases h2:nd y≤9
  ·rw[if_pos h2]
   simp only[cT]
   have c1:=(jT x 9 (by omega)).1 h1
   have c2:=(jT y 9 (by omega)).1 h2
   have aqs:=Nat.div_le_self x.natAbs y.natAbs
   -- truncated aoj by HZ absolute values
   have eq1:x.tdiv y=if (x<0↔y<0) then ((x.natAbs / y.natAbs:Nat):Int) else -((x.natAbs / y.natAbs:Nat):Int):=by
    by_cases a:x<0<;>by_cases b:y<0
    ·have hx':x= -(x.natAbs:Int):=by omega
     have hy':y= -(y.natAbs:Int):=by omega
     rw[if_pos (by simp[a,b])]
     conv=>lhs;rw[hx',hy']
     rw[Int.neg_tdiv,Int.tdiv_neg,Int.neg_neg,lN (by omega),Int.natCast_ediv]
    ·have hx':x= -(x.natAbs:Int):=by omega
     have hy':y=(y.natAbs:Int):=by omega
     rw[if_neg (by simp[a,b])]
     conv=>lhs;rw[hx',hy']
     rw[Int.neg_tdiv,lN (by omega),Int.natCast_ediv]
    ·have hx':x=(x.natAbs:Int):=by omega
     have hy':y= -(y.natAbs:Int):=by omega
     rw[if_neg (by simp[a,b])]
     conv=>lhs;rw[hx',hy']
     rw[Int.tdiv_neg,lN (by omega),Int.natCast_ediv]
    ·have hx':x=(x.natAbs:Int):=by omega
     have hy':y=(y.natAbs:Int):=by omega
     rw[if_pos (by simp[a,b])]
     conv=>lhs;rw[hx',hy']
     rw[lN (by omega),Int.natCast_ediv]
   have eq2:x.tmod y=if x<0 then -((x.natAbs % y.natAbs:Nat):Int) else ((x.natAbs % y.natAbs:Nat):Int):=by
    have key:x.tmod y=x.tmod (y.natAbs:Int):=by
     by_cases b:y<0
     ·have hy':y= -(y.natAbs:Int):=by omega
      conv=>lhs;rw[hy']
      rw[Int.tmod_neg]
     ·have hy':y=(y.natAbs:Int):=by omega
      conv=>lhs;rw[hy']
    rw[key]
    by_cases a:x<0
    ·have hx':x= -(x.natAbs:Int):=by omega
     rw[if_pos a]
     conv=>lhs;rw[hx']
     rw[Int.neg_tmod,br (by omega),Int.natCast_emod]
    ·have hx':x=(x.natAbs:Int):=by omega
     rw[if_neg a]
     conv=>lhs;rw[hx']
     rw[br (by omega),Int.natCast_emod]
   obtain⟨Q,hQ⟩:∃Q,Q=x.natAbs / y.natAbs:=⟨_,rfl⟩
   obtain⟨R,hR⟩:∃R,R=x.natAbs % y.natAbs:=⟨_,rfl⟩
   rw[kg hy0,kg hy0,eq1,eq2,fq,fr]
   rw[←hQ, ←hR] at hdm
   rw[←hR] at hlt
   rw[←hQ] at aqs
   rw[←hQ, ←hR]
   clear hQ hR fq fr eq1 eq2
   by_cases hz:R=0
   ·subst hz
    have e0:(if x<0 then -((0:Nat):Int) else ((0:Nat):Int))=0:=by split<;>rfl
    rw[e0,mi rfl]
    by_cases hs:(x<0↔y<0)
    ·rw[if_pos hs,if_pos hs,if_pos hs,i64_in _ (by omega),me (by omega) (by omega),bS,me (by omega) (by omega),bS]
    ·rw[if_neg hs,if_neg hs,if_neg hs,if_pos (by rfl),if_pos (by rfl),i64_in _ (by omega),me (by omega) (by omega),bS,me (by omega) (by omega),bS]
   ·have Yo:¬(if x<0 then -(R:Int) else (R:Int))=0:=by split<;>omega
    rw[FJ Yo]
    have hsg:(decide ((if x<0 then -(R:Int) else (R:Int))<0))=decide (x<0):=decide_eq_decide.2 (by split<;>omega)
    rw[hsg]
    by_cases hs:(x<0↔y<0)
    ·have hd:(decide (x<0)==decide (y<0))=true:=beq_iff_eq.2 (decide_eq_decide.2 hs)
     rw[hd,Bool.not_true,cF,if_pos hs,if_pos hs,if_pos hs,i64_in _ (by omega),me (by omega) (by omega),bS,me (by split<;>omega) (by split<;>omega),bS]
    ·have hd:(decide (x<0)==decide (y<0))=false:=by
      cases hh:(decide (x<0)==decide (y<0)) with
      |false=>rfl
      |true=>exact absurd (decide_eq_decide.1 (beq_iff_eq.1 hh)) hs
     rw[hd,Bool.not_false,cT,if_neg hs,if_neg hs,if_neg hs,if_neg (show ¬((R:Nat):Int)=0 by omega),if_neg (show ¬((R:Nat):Int)=0 by omega)]
     have w1:IntKind.wrap .i64 (-(Q:Int))= -(Q:Int):=i64_in _ (by omega)
     have w2:IntKind.wrap .i64 (-(Q:Int) - 1)= -(Q:Int) - 1:=i64_in _ (by omega)
     have w3:IntKind.wrap .i64 ((if x<0 then -(R:Int) else (R:Int))+y)=(if x<0 then -(R:Int) else (R:Int))+y:=i64_in _ (by split<;>omega)
     simp only[w1,w2,w3]
     rw[me (by omega) (by omega),bS,me (by split<;>omega) (by split<;>omega),bS]
  ·rw[if_neg h2]
   simp only[cF]
   exact PO
 ·rw[if_neg h1]
  simp only[cF]
  exact PO
end Go.Proofs.YtofjebmoebhiiaaGreatDoor.Ev
namespace Go.Proofs.YtofjebmoebhiiaaGreatDoor.Ev
open Go.Abs Go.IntWalk
theorem Sm.Bd {z:Int}(h:Sm z):Bd z:=by unfold Sm at h;unfold Go.Abs.Bd;omega
theorem CT {z:Int}{k:Nat}(h:nd z≤k)(hk:k≤100000):Bd z:=by unfold Bd;omega
theorem ahE {z:Int}(h:z.natAbs<10):Bd z:=CT (Nat.le_of_eq (JA h)) (by omega)
theorem Ux:∀(y x:Nat),Bd x→Bd y→cp (fH x) (fH y)=some (fH ((Nat.gcd x y:Nat):Int)):=by
 intro y
 induction y using Nat.strongRecOn with
 |ind y ih=>
  intro x hx hy
  rw[sF,na,aob]
  by_cases h:y=0
  ·subst h
   rw[VJ (by rfl),Bool.not_true,cF,Nat.gcd_zero_right]
  ·have e:(x:Int).fmod y=((x % y:Nat):Int):=by rw[Int.fmod_eq_emod_of_nonneg _ (by omega),Int.natCast_emod]
   have hlt:=Nat.mod_lt x (show y>0 by omega)
   rw[VK (by omega),Bool.not_false,cT,Xp hx hy (by omega),bS,e,ih _ hlt y hy (CT (Oj (x:=((x % y:Nat):Int)) (y:=(y:Int)) (by simp;omega)) hy),Nat.gcd_comm y, ←Nat.gcd_rec,Nat.gcd_comm]
theorem ZG {x y:Int}(hx:Bd x)(hy:Bd y):dN (fH x) (fH y)=some (fH ((Int.gcd x y:Nat):Int)):=by
 rw[wO,qq,On hx,bS,On hy,bS,Ux y.natAbs x.natAbs (CT (Oj (y:=x) (by simp)) hx) (CT (Oj (y:=y) (by simp)) hy)]
 rfl
section
variable {x y:Int}(hx:Sm x)(hy:Sm y)
include hx hy
end
section
variable {x:Int}(hx:Sm x)
include hx
end
end Go.Proofs.YtofjebmoebhiiaaGreatDoor.Ev
namespace Go.Proofs.YtofjebmoebhiiaaGreatDoor.Ev
open Go.Abs Go.IntWalk
def fs:List Int→Option Nat
 | []=>none
 |x::r=>if x=47 then some 0 else (fs r).map (· +1)
theorem akD:∀{l:List Int} {k:Nat},fs l=some k→k<l.length
 |x::r,k,h=>by
  simp only[fs] at h
  split at h
  ·cases h;simp
  ·cases hr:fs r with
   |none=>rw[hr] at h;cases h
   |some j=>rw[hr] at h;cases h;have:=akD hr;simp;omega
theorem acV:∀(l:List UInt8) (i:Nat),Uj 47 i l=match fs (l.map fun b=>(b.toNat:Int)) with
  |none=> -1
  |some k=>((i+k:Nat):Int)
 | [],i=>rfl
 |x::r,i=>by
  simp only[Uj,List.map_cons,fs]
  by_cases h:(x.toNat:Int)=47
  ·rw[acI h,cT,if_pos h];rfl
  ·rw[Jt h,cF,if_neg h,acV r (i+1)]
   cases fs (r.map fun b=>(b.toNat:Int)) with
   |none=>rfl
   |some k=>show ((i+1+k:Nat):Int)=((i+(k+1):Nat):Int);congr 1;omega
theorem Xq (s:ByteArray):eO s 47=some (match fs (bytesOf s) with
  |none=> -1
  |some k=>((k:Nat):Int)):=by
 have h:eO s 47=(bif decide ((0:Int)≤47)&&decide ((47:Int)<256) then some (Uj 47 0 s.data.toList) else none):=Di T B (Go.Abs.look fns) 165 (s,47)
 rw[h]
 have e:(decide ((0:Int)≤47)&&decide ((47:Int)<256))=true:=rfl
 rw[e,cT,acV]
 unfold bytesOf
 cases fs (s.data.toList.map fun b=>(b.toNat:Int)) with
 |none=>rfl
 |some k=>simp
theorem aok:bytesOf (bs [47])=[47]:=rfl
theorem ahF {s:ByteArray}(hs:s.size≤100000):tU s (bs [47])=some (match fs (bytesOf s) with
  |none=>(s,ByteArray.empty,false)
  |some k=>(s.extract 0 k,s.extract (k+1) s.size,true)):=by
 have hi:iM s (bs [47])=some (match fs (bytesOf s) with
  |none=> -1
  |some k=>((k:Nat):Int)):=by
  rw[yW,rP]
  have e1:((bs [47]).size:Int)=1:=rfl
  rw[e1,fe (by omega),Ts, ]
  by_cases hq:bs [47]=s
  ·subst hq
   rw[decide_eq_true rfl,cT,aok]
   rfl
  ·rw[decide_eq_false hq,cF,lO rfl]
   have e2:zt (bs [47]) 0=some 47:=rfl
   rw[e2,bS,Xq,bS]
 rw[IV,En,BT,vq,hi,bS]
 cases hf:fs (bytesOf s) with
 |none=>simp only;rw[uH (by omega),bS]
 |some k=>
  have hk:=akD hf
  rw[aP] at hk
  simp only
  have e1:((bs [47]).size:Int)=1:=rfl
  rw[e1,xd (by omega),FK (by omega) (by omega) (by omega),i64_in _ (by omega),FK (by omega) (by omega) (by omega),bS]
  have e2:((k:Int)+1).toNat=k+1:=by omega
  have e3:((k:Int)).toNat=k:=by omega
  have e4:((s.size:Int)).toNat=s.size:=by omega
  rw[e2,e3,e4]
  rfl
theorem abr {s:ByteArray}(hs:s.size≤100000):∀(m i:Nat),m+i=s.size→dh s i=some (match fs ((bytesOf s).drop i) with
  |none=>(s,bs [49],false)
  |some k=>(s.extract 0 (i+k),s.extract (i+k+1) s.size,true)):=by
 intro m
 induction m with
 |zero=>
  intro i hi
  have hl:=aP s
  rw[nU,kC,ao (by omega),List.drop_eq_nil_of_le (by omega)]
  rfl
 |succ m ih=>
  intro i hi
  have hl:=aP s
  have hd:(bytesOf s).drop i=(bytesOf s).getD i 0::(bytesOf s).drop (i+1):=drop_eq (by omega)
  rw[nU,kC,au (by omega),yw,gp (by omega) (by omega),hd]
  have e0:((i:Int)).toNat=i:=by omega
  simp only[e0,fs]
  by_cases hc:(bytesOf s).getD i 0=47
  ·rw[lO hc,FK (by omega) (by omega) (by omega),i64_in _ (by omega),FK (by omega) (by omega) (by omega),if_pos hc]
   have e2:((i:Int)+1).toNat=i+1:=by omega
   have e4:((s.size:Int)).toNat=s.size:=by omega
   rw[e2,e4]
   rfl
  ·have e1:(i:Int)+1=((i+1:Nat):Int):=by omega
   rw[fe hc,i64_in _ (by omega),e1,ih (i+1) (by omega),if_neg hc]
   cases fs ((bytesOf s).drop (i+1)) with
   |none=>rfl
   |some k=>
    show some (s.extract 0 (i+1+k),s.extract (i+1+k+1) s.size,true)=some (s.extract 0 (i+(k+1)),s.extract (i+(k+1)+1) s.size,true)
    have e:i+1+k=i+(k+1):=by omega
    rw[e]
theorem TA {s:ByteArray}(hs:s.size≤100000):cH s=some (match fs (bytesOf s) with
  |none=>(s,bs [49],false)
  |some k=>(s.extract 0 k,s.extract (k+1) s.size,true)):=by
 rw[Ak,tl]
 have:=abr hs s.size 0 (by omega)
 simp only[List.drop_zero,Nat.zero_add] at this
 exact this
theorem uK {s:ByteArray}(h:fP (bytesOf s)=true):s=fH (numOf (bytesOf s)):=lP (by rw[du];exact Tu h)
theorem TB (z:Int):fP (bytesOf (fH z))=true:=by rw[du];exact(QI z).1
theorem Kf (z:Int):numOf (bytesOf (fH z))=z:=by rw[du];exact(QI z).2
theorem wu (z:Int):nd z≤(fH z).size:=by rw[Zx];omega
theorem DZ (z:Int):Ln z≤nd z:=by
 rw[FL]
 have h1:1≤nd z:=by
  have:=qJ z.natAbs
  unfold nd;omega
 have h:=(jT z (nd z) h1).1 (Nat.le_refl _)
 exact Nat.lt_of_lt_of_le h (Nat.pow_le_pow_left (by omega) _)
inductive Rt:ByteArray→Int→Int→Prop
 |whole (n:Int):Rt (fH n) n 1
 |Xr {s:ByteArray} {k:Nat} {n d:Int} (hk:fs (bytesOf s)=some k) (h1:s.extract 0 k=fH n) (h2:s.extract (k+1) s.size=fH d) (hn:n≠0) (hd:2≤d) (hg:Int.gcd n d=1):Rt s n d
def wx (s:ByteArray):Bool:=match fs (bytesOf s) with
 |none=>fP (bytesOf s)
 |some k=>fP (bytesOf (s.extract 0 k))&&fP (bytesOf (s.extract (k+1) s.size))&& !(numOf (bytesOf (s.extract 0 k))==0)&&decide (2≤numOf (bytesOf (s.extract (k+1) s.size)))&&(Int.gcd (numOf (bytesOf (s.extract 0 k))) (numOf (bytesOf (s.extract (k+1) s.size)))==1)
theorem aeL {l:List Int}(h:∀x∈l,x≠47):fs l=none:=by
 induction l with
 |nil=>rfl
 |cons x r ih=>simp only[fs];rw[if_neg (h x (by simp)),ih fun y hy=>h y (by simp[hy])];rfl
theorem Xs (z:Int):fs (bytesOf (fH z))=none:=by
 rw[du]
 refine aeL fun x hx=> ?_
 unfold qI at hx
 rcases List.mem_append.1 hx with hx |hx
 ·split at hx
  ·simp at hx;omega
  ·cases hx
 ·have:=oJ _ x hx;omega
theorem o5 {s:ByteArray}:wx s=true↔∃n d,Rt s n d:=by
 constructor
 ·intro h
  unfold wx at h
  cases hf:fs (bytesOf s) with
  |none=>
   rw[hf] at h
   exact⟨numOf (bytesOf s),1,by have:=Rt.whole (numOf (bytesOf s));rw[←uK h] at this;exact this⟩
  |some k=>
   rw[hf] at h
   simp only[Bool.and_eq_true,decide_eq_true_eq,Bool.not_eq_true',beq_eq_false_iff_ne,beq_iff_eq] at h
   obtain⟨⟨⟨⟨h1,h2⟩,h3⟩,h4⟩,h5⟩:=h
   exact⟨_,_,Rt.Xr hf (uK h1) (uK h2) h3 h4 h5⟩
 ·rintro ⟨n,d,h⟩
  unfold wx
  cases h with
  |whole=>rw[Xs];exact TB _
  |Xr hk h1 h2 hn hd hg=>
   rw[hk]
   simp only[h1,h2,TB,Kf,hg,Bool.and_eq_true,decide_eq_true_eq,Bool.not_eq_true',beq_eq_false_iff_ne,beq_iff_eq]
   exact⟨⟨⟨⟨trivial,trivial⟩,hn⟩,hd⟩,trivial⟩
theorem extract_size (s:ByteArray)(a b:Nat):(s.extract a b).size≤s.size:=by
 rw[ByteArray.size_extract];omega
theorem Rt.bounds {s:ByteArray}{n d:Int}(h:Rt s n d)(hs:s.size≤1000):nd n≤1000∧nd d≤1000∧0<d:=by
 cases h with
 |whole=>exact⟨by have:=wu n;omega,by have:=JA (x:=1) (by decide);omega,by omega⟩
 |Xr hk h1 h2 hn hd hg=>
  refine⟨?_, ?_,by omega⟩
  ·have e1:=wu n;rw[←h1] at e1;exact Nat.le_trans e1 (Nat.le_trans (extract_size s _ _) hs)
  ·have e1:=wu d;rw[←h2] at e1;exact Nat.le_trans e1 (Nat.le_trans (extract_size s _ _) hs)
def kN (s:ByteArray):Int×Int:=match fs (bytesOf s) with
 |none=>(numOf (bytesOf s),1)
 |some k=>(numOf (bytesOf (s.extract 0 k)),numOf (bytesOf (s.extract (k+1) s.size)))
theorem Rt.val {s:ByteArray}{n d:Int}(h:Rt s n d):kN s=(n,d):=by
 unfold kN
 cases h with
 |whole=>rw[Xs,Kf]
 |Xr hk h1 h2 hn hd hg=>rw[hk];simp only[h1,h2,Kf]
abbrev WR (n d:Int):(Bool×List Int×Unit)×(Bool×List Int×Unit)×Unit:=(W n,(W d,()))
theorem aeM:xy 1=some (W 1):=VC (by omega) (by omega)
theorem aeN:Ln 1≤100000000000:=by have:=DZ 1;have:=JA (x:=1) (by decide);omega
theorem PQ {s:ByteArray}{n d:Int}(hs:s.size≤1000)(h:Rt s n d):gg s=some (WR n d,true):=by
 obtain⟨b1,b2,b3⟩:=h.bounds hs
 have l1:=DZ n
 have l2:=DZ d
 rw[BH,yd,ahF (by omega),bS]
 cases h with
 |whole=>
  rw[Xs]
  simp only
  rw[uI (by omega),TB,cT,bS,Kf]
  simp only
  rw[Bool.not_true,cF,Bool.not_false,cT,aeM,bS]
 |Xr hk h1 h2 hn hd hg=>
  rw[hk]
  simp only
  rw[h1,uI (by have:=wu n;rw[←h1] at this ⊢;exact Nat.le_trans (extract_size s _ _) (by omega)),TB,cT,bS,Kf]
  simp only
  rw[Bool.not_true,cF,cF,h2,uI (by rw[←h2];exact Nat.le_trans (extract_size s _ _) (by omega)),TB,cT,bS,Kf]
  simp only
  rw[Bool.not_true,cF,wk,wm,bS]
  have hs0:¬aa7 n=0:=by unfold aa7;split<;>(try split)<;>omega
  rw[fe hs0,aeM,bS]
  simp only[wk]
  rw[jS (by omega) aeN,bS,oH (by omega),Tp (by omega),FO (by omega) (by omega),bS,hg,bS]
  simp only[wk]
  have e1:((1:Nat):Int)=1:=rfl
  rw[e1,jS aeN aeN,bS,wh rfl,mi rfl]
theorem VP {s:ByteArray}(hs:s.size≤1000)(h:wx s=false):∃j,gg s=some (j,false):=by
 rw[BH,yd,ahF (by omega),bS]
 unfold wx at h
 cases hf:fs (bytesOf s) with
 |none=>
  rw[hf] at h
  simp only at h ⊢
  rw[uI (by omega),h,cF,bS]
  simp only
  rw[Bool.not_false,cT,aeM,bS]
  exact⟨_,rfl⟩
 |some k=>
  rw[hf] at h
  simp only at h ⊢
  have q1:=extract_size s 0 k
  have q2:=extract_size s (k+1) s.size
  rw[uI (by omega)]
  by_cases o1:fP (bytesOf (s.extract 0 k))=true
  ·rw[o1,cT,bS]
   simp only
   rw[Bool.not_true,cF,cF,uI (by omega)]
   by_cases o2:fP (bytesOf (s.extract (k+1) s.size))=true
   ·rw[o2,cT,bS]
    simp only
    have s1:=uK o1
    have s2:=uK o2
    rw[o1,o2] at h
    generalize numOf (bytesOf (s.extract 0 k))=n at h s1 ⊢
    generalize numOf (bytesOf (s.extract (k+1) s.size))=d at h s2 ⊢
    have b1:=wu n
    have b2:=wu d
    rw[←s1] at b1
    rw[←s2] at b2
    have l1:=DZ n
    have l2:=DZ d
    rw[Bool.not_true,cF,wk,wm,bS]
    by_cases hn:n=0
    ·rw[lO (by subst hn;rfl)];exact⟨_,rfl⟩
    ·have hs0:¬aa7 n=0:=by unfold aa7;split<;>(try split)<;>omega
     rw[fe hs0,aeM,bS]
     simp only[wk]
     rw[jS (by omega) aeN,bS]
     by_cases hd:2≤d
     ·rw[oH (by omega),Tp (by omega),FO (by omega) (by omega),bS,bS]
      simp only[wk]
      have hg:¬Int.gcd n d=1:=fun e=>by
       rw[Jt hn,e,decide_eq_true hd] at h
       cases h
      have lg:Ln ((Int.gcd n d:Nat):Int)≤Ln n:=ajw (by
       have h1:Int.gcd n d ∣ n.natAbs:=Nat.gcd_dvd_left _ _
       simp only[Int.natAbs_natCast]
       exact Nat.le_of_dvd (by omega) h1)
      rw[jS (by omega) aeN,bS,FJ (by unfold ml;split<;>(try split)<;>omega)]
      exact⟨_,rfl⟩
     ·rw[Od (by unfold ml;split<;>(try split)<;>omega)];exact⟨_,rfl⟩
   ·have o2':fP (bytesOf (s.extract (k+1) s.size))=false:=by simpa using o2
    rw[o2',cF,bS]
    simp only
    rw[Bool.not_false,cT]
    exact⟨_,rfl⟩
  ·have o1':fP (bytesOf (s.extract 0 k))=false:=by simpa using o1
   rw[o1',cF,bS]
   simp only
   rw[Bool.not_false,cT,aeM,bS]
   exact⟨_,rfl⟩
theorem ajF {n d:Int}(h1:nd n≤1000)(h2:nd d≤1000):mO (WR n d)=some false:=by
 have l1:=DZ n
 have l2:=DZ d
 have e1:VH n=false:=by unfold VH;exact decide_eq_false (by omega)
 have e2:VH d=false:=by unfold VH;exact decide_eq_false (by omega)
 rw[Du,xK]
 simp only[wk]
 rw[DV (by omega),bS,e1,cF,DV (by omega),bS,e2]
theorem TC {s:ByteArray}(hs:s.size≤1000):tS s=some (wx s):=by
 rw[IU,Em,Lp,GC]
 cases h:wx s with
 |true=>
  obtain⟨n,d,hr⟩:=o5.1 h
  obtain⟨b1,b2,b3⟩:=hr.bounds hs
  rw[PQ hs hr,bS]
  simp only
  rw[cT]
  simp only[wk]
  rw[ajF b1 b2,bS,bS]
  rfl
 |false=>
  obtain⟨j,hj⟩:=VP hs h
  rw[hj,bS]
  simp only
  rw[cF,bS]
theorem abt {n d:Int}(hd:0<d):jD (WR n d)=some (W d):=by
 rw[E8,zM]
 simp only[wk]
 rw[wm,bS,fe (by unfold aa7;split<;>(try split)<;>omega)]
theorem al1 {n d m k:Int}(h1:nd n≤1000)(h2:nd d≤1000)(h3:nd m≤1000)(h4:nd k≤1000)(hd:0<d)(hk:0<k):oU (WR n d) (WR m k)=some (ml (n*k) (m*d)):=by
 have l1:=DZ n
 have l2:=DZ d
 have l3:=DZ m
 have l4:=DZ k
 have l5:=ahk n k
 have l6:=ahk m d
 rw[E4,zG]
 simp only[wk]
 rw[abt hk,bS]
 simp only[wk]
 rw[FM (by omega) (by omega),bS,abt hd,bS]
 simp only[wk]
 rw[FM (by omega) (by omega),bS,jS (by omega) (by omega),bS]
theorem PR {s:ByteArray}{z:Int}(h:fP (bytesOf s)=true)(e:numOf (bytesOf s)=z):s=fH z:=by rw[←e];exact uK h
theorem ahG:bs [49]=fH 1:=PR rfl rfl
theorem aol:bs [50]=fH 2:=PR rfl rfl
theorem al2:bs [48]=fH 0:=PR rfl rfl
theorem ajG {s:ByteArray}(hs:s.size≤1000):oX s=some (wx s):=by
 rw[Fg,zS,TA (by omega),bS]
 unfold wx
 cases hf:fs (bytesOf s) with
 |none=>
  simp only
  rw[PN (show wo s by unfold wo;omega),bS]
  cases fP (bytesOf s) with
  |true=>rw[Bool.not_true,cF,Bool.not_false,cT]
  |false=>rw[Bool.not_false,cT]
 |some k=>
  have q1:=extract_size s 0 k
  have q2:=extract_size s (k+1) s.size
  simp only
  rw[PN (show wo (s.extract 0 k) by unfold wo;omega),bS]
  cases o1:fP (bytesOf (s.extract 0 k)) with
  |false=>rw[Bool.not_false,cT];rfl
  |true=>
   rw[Bool.not_true,cF,cF,PN (show wo (s.extract (k+1) s.size) by unfold wo;omega),bS]
   cases o2:fP (bytesOf (s.extract (k+1) s.size)) with
   |false=>rw[cF];rfl
   |true=>
    have s1:=uK o1
    have s2:=uK o2
    have b1:=wu (numOf (bytesOf (s.extract 0 k)))
    have b2:=wu (numOf (bytesOf (s.extract (k+1) s.size)))
    rw[←s1] at b1
    rw[←s2] at b2
    rw[cT]
    generalize numOf (bytesOf (s.extract 0 k))=n at s1 b1 ⊢
    generalize numOf (bytesOf (s.extract (k+1) s.size))=d at s2 b2 ⊢
    rw[s1,s2,al2,ahG,aol,Ke]
    by_cases hn:n=0
    ·rw[decide_eq_true hn,Bool.not_true,cF,acI hn]
     simp
    ·rw[decide_eq_false hn,Bool.not_false,cT,Jt hn,JB (CT (k:=1000) (by omega) (by omega)) (ahE (by decide)),bS]
     by_cases hd:2≤d
     ·rw[xd (by unfold ml;split<;>(try split)<;>omega),ZG (CT (k:=1000) (by omega) (by omega)) (CT (k:=1000) (by omega) (by omega)),bS,Ke,decide_eq_true hd]
      congr 1
      simp only[Bool.not_false,Bool.and_true,Bool.true_and]
      rw[Bool.eq_iff_iff,decide_eq_true_eq,beq_iff_eq]
      omega
     ·rw[uH (by rw[mD (by omega)];omega),decide_eq_false hd]
      simp
theorem aeO (l:List Int):(bo l).length≤l.length:=by
 unfold bo;split
 ·rw[List.length_tail];omega
 ·exact Nat.le_refl _
theorem Rx {s:ByteArray}(hs:s.size≤1000):iY s=some false:=by
 rw[ahz (show wo s by unfold wo;omega)]
 have:=aeO (bytesOf s)
 rw[aP] at this
 congr 1
 exact decide_eq_false (by omega)
theorem abu {s:ByteArray}(hs:s.size≤1000):lh s=some false:=by
 rw[B3,vE,TA (by omega),bS]
 cases hf:fs (bytesOf s) with
 |none=>
  simp only
  have e:(bs [49]).size=1:=rfl
  rw[Rx hs,bS,cF,Rx (by rw[e];omega),bS]
 |some k=>
  have q1:=extract_size s 0 k
  have q2:=extract_size s (k+1) s.size
  simp only
  rw[Rx (by omega),bS,cF,Rx (by omega),bS]
theorem TD {s:ByteArray}(hs:s.size≤1000):fp s=some (wx s):=by
 rw[Aj,tk,abu hs,bS,Bool.not_false,cT,ajG hs,bS]
theorem Rt.split {s:ByteArray}{n d:Int}(h:Rt s n d)(hs:s.size≤1000):∃b,cH s=some (fH n,fH d,b):=by
 rw[TA (by omega)]
 cases h with
 |whole=>rw[Xs];exact⟨false,by simp only;rw[ahG]⟩
 |Xr hk h1 h2 hn hd hg=>rw[hk];exact⟨true,by simp only[h1,h2]⟩
theorem Rt.ahH {s:ByteArray}{n d:Int}(h:Rt s n d):(s.toList==(bs [105,110,102]).toList)=false:=by
 rw[Ts]
 refine decide_eq_false fun e=> ?_
 have h2:=o5.2 ⟨n,d,h⟩
 rw[e] at h2
 exact absurd h2 (by decide)
theorem Xt {a b:ByteArray}{n d m k:Int}(h:Rt a n d)(g:Rt b m k)(ha:a.size≤1000)(hb:b.size≤1000):bH a b=some (ml (n*k) (m*d)):=by
 obtain⟨a1,a2,a3⟩:=h.bounds ha
 obtain⟨b1,b2,b3⟩:=g.bounds hb
 obtain⟨x,hx⟩:=h.split ha
 obtain⟨y,hy⟩:=g.split hb
 have p1:=ahy n k
 have p2:=ahy m d
 rw[wP,qu,h.ahH,cF,cF,g.ahH,cF,hx,bS,hy,bS]
 simp only
 rw[ahG,Ke,Ke]
 have PO:((fu (fH n) (fH k)).bind fun r12=>(fu (fH m) (fH d)).bind fun r13=>(bJ r12 r13).bind fun r14=>some r14)=some (ml (n*k) (m*d)):=by
  rw[VO (CT (k:=1000) (by omega) (by omega)) (CT (k:=1000) (by omega) (by omega)),bS,VO (CT (k:=1000) (by omega) (by omega)) (CT (k:=1000) (by omega) (by omega)),bS,JB (CT (k:=3000) (by omega) (by omega)) (CT (k:=3000) (by omega) (by omega)),bS]
 by_cases h1:d=1
 ·rw[decide_eq_true h1,cT]
  by_cases h2:k=1
  ·rw[decide_eq_true h2,cT,JB (CT (k:=1000) (by omega) (by omega)) (CT (k:=1000) (by omega) (by omega)),bS,h1,h2,Int.mul_one,Int.mul_one]
  ·rw[decide_eq_false h2,cF];exact PO
 ·rw[decide_eq_false h1,cF];exact PO
end Go.Proofs.YtofjebmoebhiiaaGreatDoor.Ev
namespace Go.Abs
abbrev Tm:=Int×Int×Unit
abbrev Tr2:=Int×(Int×Int×Unit)×Unit
theorem ZH {α:Type}{a:α}{r:List α}:idx (a::r) 0=some a:=rfl
theorem aeP {α:Type}{a:α}{r:List α}{n:Int}(h:n=((a::r).length:Int)):cut (a::r) 1 n=r:=by
 subst h;simp[cut]
theorem eY {α:Type}(d:α){l:List α}{k:Nat}(h:k<l.length):l.drop k=l.getD k d::l.drop (k+1):=by
 rw[List.drop_eq_getElem_cons h]
 simp[List.getD,h]
theorem ahI {α β:Type}(d:α){xs:List α}{i:Int}{f:α→Option β}(h0:0≤i)(h:i<xs.length):(idx xs i).bind f=f (xs.getD i.toNat d):=by
 rw[acJ d h0 h];exact bS _ _
theorem gG {α β:Type}(d:α){xs:List α}{k:Nat}{f:α→Option β}(h:k<xs.length):(idx xs (k:Int)).bind f=f (xs.getD k d):=by
 rw[acJ d (by omega) (by omega),Int.toNat_natCast];exact bS _ _
def cf:List Tm→Int→Int
 | [],_=>0
 |t::r,i=>if t.1=i then t.2.1 else cf r i
theorem GW (i:Int):cf [] i=0:=rfl
theorem rb (t:Tm)(r:List Tm)(i:Int):cf (t::r) i=if t.1=i then t.2.1 else cf r i:=rfl
def Sr:Int→List Tm→Prop
 |_,[]=>True
 |lo,t::r=>lo<t.1∧Sr t.1 r
theorem Sr.mono {lo lo':Int}{l:List Tm}(h:Sr lo l)(g:lo'≤lo):Sr lo' l:=by
 cases l with
 |nil=>trivial
 |cons t r=>exact⟨by have:=h.1;omega,h.2⟩
theorem Sr.cf0:∀{l:List Tm} {lo i:Int},Sr lo l→i≤lo→cf l i=0
 | [],lo,i,h,hi=>rfl
 |t::r,lo,i,h,hi=>by
  have h1:=h.1
  rw[cf,if_neg (by omega)]
  exact Sr.cf0 h.2 (by omega)
theorem Sr.mem:∀{l:List Tm} {lo:Int},Sr lo l→∀t∈l,lo<t.1
 |u::r,lo,h,t,ht=>by
  rcases List.mem_cons.1 ht with rfl |ht
  ·exact h.1
  ·have:=Sr.mem h.2 t ht;have:=h.1;omega
structure Vc (p n:Int) (l:List Tm):Prop where
 s:Sr (-1) l
 r:∀t∈l,t.1<n∧1≤t.2.1∧t.2.1<p
def Cp (p:Int)(l:List Tm):Prop:=∀t∈l,1≤t.2.1∧t.2.1<p
theorem Vc.c {p n:Int}{l:List Tm}(h:Vc p n l):Cp p l:=fun t ht=>(h.r t ht).2
theorem Vc.nil {p n:Int}:Vc p n []:=⟨trivial,fun t ht=>by cases ht⟩
theorem Vc.mono {p n m:Int}{l:List Tm}(h:Vc p n l)(g:n≤m):Vc p m l:=⟨h.s,fun t ht=>by have:=h.r t ht;omega⟩
theorem JC {p:Int}(hp:0<p):∀{l:List Tm},Cp p l→∀i,0≤cf l i∧cf l i<p
 | [],h,i=>⟨by simp[cf],by simpa [cf] using hp⟩
 |t::r,h,i=>by
  have h1:=h t (by simp)
  have h2:=JC hp (l:=r) (fun u hu=>h u (by simp[hu])) i
  rw[cf];split
  ·omega
  ·exact h2
theorem JD:∀{l:List Tm} {lo:Int},Sr lo l→∀t∈l,cf l t.1=t.2.1
 |u::r,lo,h,t,ht=>by
  rcases List.mem_cons.1 ht with rfl |ht
  ·rw[cf,if_pos rfl]
  ·have:=Sr.mem h.2 t ht
   rw[cf,if_neg (by omega)]
   exact JD h.2 t ht
theorem VQ:∀{l:List Tm} {i:Int},cf l i≠0→∃t∈l,t.1=i
 | [],i,h=>by simp[cf] at h
 |t::r,i,h=>by
  rw[cf] at h
  split at h
  ·rename_i e;exact⟨t,by simp,e⟩
  ·obtain⟨u,hu,e⟩:=VQ h;exact⟨u,by simp[hu],e⟩
theorem Sr.ext:∀{a b:List Tm} {lo p:Int},Sr lo a→Sr lo b→Cp p a→Cp p b→(∀i,cf a i=cf b i)→a=b
 | [],[],_,_,_,_,_,_,_=>rfl
 | [],t::r,lo,p,ha,hb,ca,cb,h=>by
   have:=h t.1;rw[GW,rb,if_pos rfl] at this
   have h1:=cb t (by simp)
   omega
 |t::r,[],lo,p,ha,hb,ca,cb,h=>by
  have:=h t.1;rw[GW,rb,if_pos rfl] at this
  have h1:=ca t (by simp)
  omega
 |t::r,u::s,lo,p,ha,hb,ca,cb,h=>by
  have h1:=ca t (by simp)
  have h2:=cb u (by simp)
  have e:t.1=u.1:=by
   rcases Int.lt_trichotomy t.1 u.1 with hl |hl |hl
   ·have:=h t.1
    rw[cf,if_pos rfl,cf,if_neg (by omega),Sr.cf0 hb.2 (by omega)] at this
    omega
   ·exact hl
   ·have:=h u.1
    rw[cf,if_neg (by omega),Sr.cf0 ha.2 (by omega),cf,if_pos rfl] at this
    omega
  have e2:t.2.1=u.2.1:=by
   have:=h t.1
   rw[cf,if_pos rfl,cf,if_pos e.symm] at this
   exact this
  have e3:r=s:=by
   refine Sr.ext (lo:=t.1) ha.2 (by rw[e];exact hb.2) (fun x hx=>ca x (by simp[hx])) (fun x hx=>cb x (by simp[hx])) fun i=> ?_
   have:=h i
   rw[cf,cf] at this
   by_cases hi:t.1=i
   ·rw[Sr.cf0 ha.2 (by omega),Sr.cf0 hb.2 (by omega)]
   ·rw[if_neg hi,if_neg (by omega)] at this
    exact this
  obtain⟨t1,t2,t3⟩:=t
  obtain⟨u1,u2,u3⟩:=u
  simp only at e e2
  subst e e2 e3
  rfl
def mg:List Tm→List Tm→List Tr2
 | [],[]=>[]
 |a::r,[]=>(a.1,((a.2.1,((0:Int),())),()))::mg r []
 | [],b::s=>(b.1,(((0:Int),(b.2.1,())),()))::mg [] s
 |a::r,b::s=>if a.1<b.1 then (a.1,((a.2.1,((0:Int),())),()))::mg r (b::s)
  else if b.1<a.1 then (b.1,(((0:Int),(b.2.1,())),()))::mg (a::r) s
  else (a.1,((a.2.1,(b.2.1,())),()))::mg r s
termination_by a b=>a.length+b.length
def fl (p k:Int):List Tr2→List Tm
 | []=>[]
 |x::r=>if (x.2.1.1+k*x.2.1.2.1) % p≠0 then (x.1,((x.2.1.1+k*x.2.1.2.1) % p,()))::fl p k r else fl p k r
def uL (p:Int)(a:List Tm)(k:Int)(b:List Tm):List Tm:=fl p k (mg a b)
theorem Oo {p k:Int}{x:Tr2}{r:List Tr2}{lo:Int}(hlo:lo<x.1)(hr:Sr x.1 (fl p k r)):
  Sr lo (fl p k (x::r))∧∀i,cf (fl p k (x::r)) i=if x.1=i then (x.2.1.1+k*x.2.1.2.1) % p else cf (fl p k r) i:=by
 rw[fl]
 split
 ·exact⟨⟨hlo,hr⟩,fun i=>by rw[cf]⟩
 ·rename_i h
  refine⟨hr.mono (by omega),fun i=> ?_⟩
  split
  ·rename_i e;rw[Sr.cf0 hr (by omega)];omega
  ·rfl
theorem ajH {p k:Int}(hp:0<p):∀(a b:List Tm) (lo:Int),Sr lo a→Sr lo b→Cp p a→
  Sr lo (uL p a k b)∧∀i,cf (uL p a k b) i=(cf a i+k*cf b i) % p:=by
 intro a b
 induction a,b using mg.induct with
 |case1=>intro lo ha hb ca;exact⟨by unfold uL;rw[mg];trivial,fun i=>by simp[uL,mg,fl,cf]⟩
 |case2 a r ih=>
  intro lo ha hb ca
  obtain⟨h1,h2⟩:=ih a.1 ha.2 trivial fun t ht=>ca t (by simp[ht])
  unfold uL at h1 h2 ⊢
  rw[mg]
  obtain⟨g1,g2⟩:=Oo (p:=p) (k:=k) (x:=(a.1,((a.2.1,((0:Int),())),()))) (lo:=lo) ha.1 h1
  refine⟨g1,fun i=> ?_⟩
  rw[g2,h2,cf]
  simp only[cf,Int.mul_zero,Int.add_zero]
  split<;>rfl
 |case3 b s ih=>
  intro lo ha hb ca
  obtain⟨h1,h2⟩:=ih b.1 trivial hb.2 fun t ht=>ca t ht
  unfold uL at h1 h2 ⊢
  rw[mg]
  obtain⟨g1,g2⟩:=Oo (p:=p) (k:=k) (x:=(b.1,(((0:Int),(b.2.1,())),()))) (lo:=lo) hb.1 h1
  refine⟨g1,fun i=> ?_⟩
  rw[g2,h2]
  simp only[cf,Int.zero_add]
  split<;>rfl
 |case4 a r b s hlt ih=>
  intro lo ha hb ca
  obtain⟨h1,h2⟩:=ih a.1 ha.2 ⟨hlt,hb.2⟩ fun t ht=>ca t (by simp[ht])
  unfold uL at h1 h2 ⊢
  rw[mg,if_pos hlt]
  obtain⟨g1,g2⟩:=Oo (p:=p) (k:=k) (x:=(a.1,((a.2.1,((0:Int),())),()))) (lo:=lo) ha.1 h1
  refine⟨g1,fun i=> ?_⟩
  rw[g2,h2,rb a r i]
  simp only[Int.mul_zero,Int.add_zero]
  split
  ·rename_i e;rw[Sr.cf0 (lo:=a.1) (l:=b::s) ⟨hlt,hb.2⟩ (by omega),Int.mul_zero,Int.add_zero]
  ·rfl
 |case5 a r b s hlt hgt ih=>
  intro lo ha hb ca
  obtain⟨h1,h2⟩:=ih b.1 ⟨hgt,ha.2⟩ hb.2 ca
  unfold uL at h1 h2 ⊢
  rw[mg,if_neg hlt,if_pos hgt]
  obtain⟨g1,g2⟩:=Oo (p:=p) (k:=k) (x:=(b.1,(((0:Int),(b.2.1,())),()))) (lo:=lo) hb.1 h1
  refine⟨g1,fun i=> ?_⟩
  rw[g2,h2,rb b s i]
  simp only[Int.zero_add]
  split
  ·rename_i e;rw[Sr.cf0 (lo:=b.1) (l:=a::r) ⟨hgt,ha.2⟩ (by omega),Int.zero_add]
  ·rfl
 |case6 a r b s hlt hgt ih=>
  intro lo ha hb ca
  have e:a.1=b.1:=by omega
  obtain⟨h1,h2⟩:=ih a.1 ha.2 (by rw[e];exact hb.2) fun t ht=>ca t (by simp[ht])
  unfold uL at h1 h2 ⊢
  rw[mg,if_neg hlt,if_neg hgt]
  obtain⟨g1,g2⟩:=Oo (p:=p) (k:=k) (x:=(a.1,((a.2.1,(b.2.1,())),()))) (lo:=lo) ha.1 h1
  refine⟨g1,fun i=> ?_⟩
  rw[g2,h2,cf,cf, ←e]
  split<;>rfl
theorem abv {p k:Int}(hp:0<p):∀{l:List Tr2} {t:Tm},t∈fl p k l→(1≤t.2.1∧t.2.1<p)∧∃x∈l,x.1=t.1
 |x::r,t,h=>by
  rw[fl] at h
  split at h
  ·rename_i hne
   rcases List.mem_cons.1 h with rfl |h
   ·have h1:=Int.emod_nonneg (x.2.1.1+k*x.2.1.2.1) (show p≠0 by omega)
    have h2:=Int.emod_lt_of_pos (x.2.1.1+k*x.2.1.2.1) hp
    exact⟨⟨by simp only;omega,h2⟩,x,by simp,rfl⟩
   ·obtain⟨h1,y,hy,e⟩:=abv hp h
    exact⟨h1,y,by simp[hy],e⟩
  ·obtain⟨h1,y,hy,e⟩:=abv hp h
   exact⟨h1,y,by simp[hy],e⟩
theorem al3:∀(a b:List Tm) (x:Tr2),x∈mg a b→(∃t∈a,t.1=x.1)∨∃t∈b,t.1=x.1:=by
 intro a b
 induction a,b using mg.induct with
 |case1=>intro x h;rw[mg] at h;cases h
 |case2 a r ih=>
  intro x h
  rw[mg] at h
  rcases List.mem_cons.1 h with rfl |h
  ·exact .inl ⟨a,by simp,rfl⟩
  ·rcases ih x h with ⟨t,ht,e⟩ | ⟨t,ht,e⟩
   ·exact .inl ⟨t,by simp[ht],e⟩
   ·exact .inr ⟨t,ht,e⟩
 |case3 b s ih=>
  intro x h
  rw[mg] at h
  rcases List.mem_cons.1 h with rfl |h
  ·exact .inr ⟨b,by simp,rfl⟩
  ·rcases ih x h with ⟨t,ht,e⟩ | ⟨t,ht,e⟩
   ·exact .inl ⟨t,ht,e⟩
   ·exact .inr ⟨t,by simp[ht],e⟩
 |case4 a r b s hlt ih=>
  intro x h
  rw[mg,if_pos hlt] at h
  rcases List.mem_cons.1 h with rfl |h
  ·exact .inl ⟨a,by simp,rfl⟩
  ·rcases ih x h with ⟨t,ht,e⟩ | ⟨t,ht,e⟩
   ·exact .inl ⟨t,by simp[ht],e⟩
   ·exact .inr ⟨t,ht,e⟩
 |case5 a r b s hlt hgt ih=>
  intro x h
  rw[mg,if_neg hlt,if_pos hgt] at h
  rcases List.mem_cons.1 h with rfl |h
  ·exact .inr ⟨b,by simp,rfl⟩
  ·rcases ih x h with ⟨t,ht,e⟩ | ⟨t,ht,e⟩
   ·exact .inl ⟨t,ht,e⟩
   ·exact .inr ⟨t,by simp[ht],e⟩
 |case6 a r b s hlt hgt ih=>
  intro x h
  rw[mg,if_neg hlt,if_neg hgt] at h
  rcases List.mem_cons.1 h with rfl |h
  ·exact .inl ⟨a,by simp,rfl⟩
  ·rcases ih x h with ⟨t,ht,e⟩ | ⟨t,ht,e⟩
   ·exact .inl ⟨t,by simp[ht],e⟩
   ·exact .inr ⟨t,by simp[ht],e⟩
theorem Oq {p k n:Int}(hp:0<p){a b:List Tm}(ha:Vc p n a)(hb:Vc p n b):Vc p n (uL p a k b)∧∀i,cf (uL p a k b) i=(cf a i+k*cf b i) % p:=by
 obtain⟨h1,h2⟩:=ajH (k:=k) hp a b (-1) ha.s hb.s ha.c
 refine⟨⟨h1,fun t ht=> ?_⟩,h2⟩
 obtain⟨g1,x,hx,e⟩:=abv hp ht
 refine⟨?_,g1⟩
 rcases al3 a b x hx with ⟨u,hu,e'⟩ | ⟨u,hu,e'⟩
 ·have:=(ha.r u hu).1;omega
 ·have:=(hb.r u hu).1;omega
end Go.Abs
namespace Go.Proofs.YtofjebmoebhiiaaGreatDoor.Ev
open Go.Abs Go.IntWalk
theorem FQ {α:Type}(a:α)(r:List α):(((a::r).length:Nat):Int)=(r.length:Int)+1:=by simp
theorem ZI:∀(t t2:List Tm) (trace:List Tr2),dQ t t2 trace=some (trace++mg t t2):=by
 intro t t2
 induction t,t2 using mg.induct with
 |case1=>
  intro trace
  rw[dx,cY,List.length_nil,cZ (by omega),cZ (by omega),mg,List.append_nil]
 |case2 a r ih=>
  intro trace
  rw[dx,cY,List.length_nil,FQ]
  rw[cO (by omega),lO (by omega),ZH,bS,bS,FK (by omega) (by omega) (Int.le_of_eq (FQ _ _).symm),aeP (FQ _ _).symm,ih,mg,List.append_assoc]
  rfl
 |case3 b s ih=>
  intro trace
  rw[dx,cY,List.length_nil,FQ]
  rw[cZ (by omega),cO (by omega),fe (by omega),cZ (by omega),lO (by omega),ZH,bS,bS,FK (by omega) (by omega) (Int.le_of_eq (FQ _ _).symm),aeP (FQ _ _).symm,ih,mg,List.append_assoc]
  rfl
 |case4 a r b s hlt ih=>
  intro trace
  rw[dx,cY,FQ,FQ]
  rw[cO (by omega),fe (by omega),cO (by omega),ZH,bS,ZH,bS,au hlt,bS,bS,FK (by omega) (by omega) (Int.le_of_eq (FQ _ _).symm),aeP (FQ _ _).symm,ih,mg,if_pos hlt,List.append_assoc]
  rfl
 |case5 a r b s hlt hgt ih=>
  intro trace
  rw[dx,cY,FQ,FQ]
  rw[cO (by omega),fe (by omega),cO (by omega),ZH,bS,ZH,bS,ao hlt,fe (by omega),bS,bS,au hgt,bS,bS,FK (by omega) (by omega) (Int.le_of_eq (FQ _ _).symm),aeP (FQ _ _).symm,ih,mg,if_neg hlt,if_pos hgt,List.append_assoc]
  rfl
 |case6 a r b s hlt hgt ih=>
  intro trace
  rw[dx,cY,FQ,FQ]
  rw[cO (by omega),fe (by omega),cO (by omega),ZH,bS,ZH,bS,ao hlt,fe (by omega),bS,bS,ao hgt,bS,bS,bS,FK (by omega) (by omega) (Int.le_of_eq (FQ _ _).symm),FK (by omega) (by omega) (Int.le_of_eq (FQ _ _).symm),aeP (FQ _ _).symm,aeP (FQ _ _).symm,ih,mg,if_neg hlt,if_neg hgt,List.append_assoc]
  rfl
theorem PS {p k:Int}(hp:0<p∧p≤251)(hk:0≤k∧k<p):∀(rest:List Tr2) (row:List Tm),(∀x∈rest,(0≤x.2.1.1∧x.2.1.1<p)∧0≤x.2.1.2.1∧x.2.1.2.1<p)→row.length+rest.length≤1000000000→
  iB row p k rest=some (row++fl p k rest)
 | [],row,h,hl=>by
   rw[vi,q6,fl,List.append_nil]
 |x::r,row,h,hl=>by
  obtain⟨⟨h1,h2⟩,h3,h4⟩:=h x (by simp)
  have hm:0≤k*x.2.1.2.1∧k*x.2.1.2.1≤251*251:=⟨Int.mul_nonneg (by omega) (by omega),Int.mul_le_mul (by omega) (by omega) (by omega) (by omega)⟩
  rw[vi,q6]
  simp only
  rw[i64_in (k*x.2.1.2.1) (by omega),i64_in _ (by omega),kg (by omega),br (by omega),fl]
  by_cases hz:(x.2.1.1+k*x.2.1.2.1) % p=0
  ·rw[mi hz,if_neg (by omega)]
   exact PS hp hk r row (fun y hy=>h y (by simp[hy])) (by simp at hl;omega)
  ·rw[FJ hz,if_pos hz,ja (by omega) (by simp at hl;omega),PS hp hk r _ (fun y hy=>h y (by simp[hy])) (by simp at hl ⊢;omega),List.append_assoc]
   rfl
theorem ahJ {p:Int}(hp:0<p):∀(a b:List Tm),Cp p a→Cp p b→∀x∈mg a b,(0≤x.2.1.1∧x.2.1.1<p)∧0≤x.2.1.2.1∧x.2.1.2.1<p:=by
 intro a b
 induction a,b using mg.induct with
 |case1=>intro ha hb x h;rw[mg] at h;cases h
 |case2 a r ih=>
  intro ha hb x h
  rw[mg] at h
  rcases List.mem_cons.1 h with rfl |h
  ·have:=ha a (by simp);simp only;omega
  ·exact ih (fun t ht=>ha t (by simp[ht])) hb x h
 |case3 b s ih=>
  intro ha hb x h
  rw[mg] at h
  rcases List.mem_cons.1 h with rfl |h
  ·have:=hb b (by simp);simp only;omega
  ·exact ih ha (fun t ht=>hb t (by simp[ht])) x h
 |case4 a r b s hlt ih=>
  intro ha hb x h
  rw[mg,if_pos hlt] at h
  rcases List.mem_cons.1 h with rfl |h
  ·have:=ha a (by simp);simp only;omega
  ·exact ih (fun t ht=>ha t (by simp[ht])) hb x h
 |case5 a r b s hlt hgt ih=>
  intro ha hb x h
  rw[mg,if_neg hlt,if_pos hgt] at h
  rcases List.mem_cons.1 h with rfl |h
  ·have:=hb b (by simp);simp only;omega
  ·exact ih ha (fun t ht=>hb t (by simp[ht])) x h
 |case6 a r b s hlt hgt ih=>
  intro ha hb x h
  rw[mg,if_neg hlt,if_neg hgt] at h
  rcases List.mem_cons.1 h with rfl |h
  ·have h1:=ha a (by simp);have h2:=hb b (by simp);simp only;omega
  ·exact ih (fun t ht=>ha t (by simp[ht])) (fun t ht=>hb t (by simp[ht])) x h
theorem aeQ:∀(a b:List Tm),(mg a b).length≤a.length+b.length:=by
 intro a b
 induction a,b using mg.induct with
 |case1=>rw[mg];simp
 |case2 a r ih=>rw[mg];simp only[List.length_cons] at ih ⊢;omega
 |case3 b s ih=>rw[mg];simp only[List.length_cons] at ih ⊢;omega
 |case4 a r b s hlt ih=>rw[mg,if_pos hlt];simp only[List.length_cons] at ih ⊢;omega
 |case5 a r b s hlt hgt ih=>rw[mg,if_neg hlt,if_pos hgt];simp only[List.length_cons] at ih ⊢;omega
 |case6 a r b s hlt hgt ih=>rw[mg,if_neg hlt,if_neg hgt];simp only[List.length_cons] at ih ⊢;omega
theorem TE {p k:Int}(hp:0<p∧p≤251)(hk:0≤k∧k<p){a b:List Tm}(ha:Cp p a)(hb:Cp p b)(hl:a.length+b.length≤1000000000):tW p a k b=some (uL p a k b):=by
 rw[IM,Ef,E2,zE,bS,BE,vj,ZI,bS]
 have:=aeQ a b
 rw[List.nil_append,PS hp hk _ _ (ahJ hp.1 a b ha hb) (by simp;omega)]
 rfl
def ob:Option Int→Int→Bool
 |none,_=>false
 |some q,x=>decide (x≤q)
def QL (p:Int):Option Int→List Tm→Int
 |_,[]=>0
 |q,t::r=>if t.1<0∨t.1≥1024∨t.2.1<1∨t.2.1≥p then 1 else if ob q t.1=true then 6 else QL p (some t.1) r
abbrev A8:Tm:=(0,(0,()))
def prev (c:List Tm):Nat→Option Int
 |0=>none
 |i+1=>some (c.getD i A8).1
theorem ZJ {p:Int}{c:List Tm}(hl:c.length≤1000000000):∀(m i:Nat),m+i=c.length→gh p c c (c.length:Int) i=some (QL p (prev c i) (c.drop i)):=by
 intro m
 induction m with
 |zero=>intro i hi;rw[ta,pZ,ao (by omega),List.drop_eq_nil_of_le (by omega)];rfl
 |succ m ih=>
  intro i hi
  rw[ta,pZ,au (by omega),gG A8 (by omega),eY A8 (by omega),QL]
  have e1:IntKind.wrap .i64 ((i:Int)+1)=((i+1:Nat):Int):=by rw[i64_in _ (by omega)];omega
  have wz:=ih (i+1) (by omega)
  have ep:prev c (i+1)=some (c.getD i A8).1:=rfl
  rw[ep] at wz
  generalize c.getD i A8=t at wz ⊢
  by_cases h1:t.1<0
  ·rw[au h1,if_pos (.inl h1)]
  ·rw[ao h1]
   by_cases h2:t.1≥1024
   ·rw[xd h2,if_pos (.inr (.inl h2))]
   ·rw[uH h2]
    by_cases h3:t.2.1<1
    ·rw[au h3,if_pos (.inr (.inr (.inl h3)))]
    ·rw[ao h3]
     by_cases h4:t.2.1≥p
     ·rw[xd h4,if_pos (.inr (.inr (.inr h4)))]
     ·rw[uH h4,if_neg (by omega),e1,wz]
      cases i with
      |zero=>rw[cZ (by omega),if_neg (by intro h;cases h)]
      |succ j=>
       have e2:IntKind.wrap .i64 (((j+1:Nat):Int) - 1)=(j:Int):=by rw[i64_in _ (by omega)];omega
       rw[cO (by omega),e2,gG A8 (by omega)]
       by_cases h5:t.1≤(c.getD j A8).1
       ·rw[Od h5,if_pos (show ob (prev c (j+1)) t.1=true from decide_eq_true h5)]
       ·rw[Tp h5,if_neg (by intro h;exact h5 (of_decide_eq_true h))]
def ZK (p:Int)(c:List Tm):Int:=QL p none c
theorem ZL {p:Int}:∀{c:List Tm} {q:Option Int},QL p q c=0→(∀t∈c,0≤t.1∧t.1<1024∧1≤t.2.1∧t.2.1<p)∧Sr (q.getD (-1)) c
 | [],q,h=>⟨fun t ht=>(by cases ht),trivial⟩
 |t::r,q,h=>by
  rw[QL] at h
  split at h
  ·cases h
  ·rename_i h1
   split at h
   ·cases h
   ·rename_i h2
    obtain⟨g1,g2⟩:=ZL h
    refine⟨fun u hu=> ?_, ?_,g2⟩
    ·rcases List.mem_cons.1 hu with rfl |hu
     ·omega
     ·exact g1 u hu
    ·cases q with
     |none=>simp only[Option.getD_none];omega
     |some q=>
      simp only[Option.getD_some]
      have:¬t.1≤q:=fun g=>h2 (decide_eq_true g)
      omega
theorem ZM {p:Int}:∀{c:List Tm} {q:Option Int},(∀t∈c,0≤t.1∧t.1<1024∧1≤t.2.1∧t.2.1<p)→Sr (q.getD (-1)) c→QL p q c=0
 | [],q,h,g=>rfl
 |t::r,q,h,g=>by
  have h1:=h t (by simp)
  have h2:=g.1
  rw[QL,if_neg (by omega),if_neg (by
   cases q with
   |none=>intro h;cases h
   |some q=>simp only[Option.getD_some] at h2;intro h;have:=of_decide_eq_true h;omega)]
  exact ZM (q:=some t.1) (fun u hu=>h u (by simp[hu])) g.2
theorem JE {p:Int}{c:List Tm}:ZK p c=0↔Vc p 1024 c:=by
 constructor
 ·intro h
  obtain⟨g1,g2⟩:=ZL h
  exact⟨g2,fun t ht=>by have:=g1 t ht;omega⟩
 ·intro h
  refine ZM (fun t ht=> ?_) h.s
  have h1:=h.r t ht
  have h2:=Sr.mem h.s t ht
  omega
end Go.Proofs.YtofjebmoebhiiaaGreatDoor.Ev
namespace Go.Proofs.YtofjebmoebhiiaaGreatDoor.Ev
open Go.Abs Go.IntWalk
def prB (p:Nat):Bool:=Nat.ble 2 p&&Nat.ble p 251&&(List.range 14).all fun d=> !(p % (d+2)==0)||p==d+2
def Pr (p:Int):Prop:=2≤p∧p≤251∧prB p.toNat=true
instance (p:Int):Decidable (Pr p):=by unfold Pr;infer_instance
theorem acW {α:Type}{f g:Nat→α}{n:Nat}(h:(List.range n).map f=(List.range n).map g){i:Nat}(hi:i<n):f i=g i:=by
 have:=congrArg (fun l=>l[i]?) h
 simpa [hi] using this
theorem ZN:(List.range 250).map (fun i=>vV 400 ((i+2:Nat):Int))=(List.range 250).map fun i=>some (prB (i+2)):=by kernel_rfl
theorem Xu:(List.range 250).map (fun i=>tJ 400 ((i+2:Nat):Int))=(List.range 250).map fun i=>some (prB (i+2)):=by kernel_rfl
theorem ahK {i:Nat}(hi:i<250):decide (Pr ((i+2:Nat):Int))=prB (i+2):=by
 rw[Bool.eq_iff_iff,decide_eq_true_eq]
 unfold Pr
 rw[Int.toNat_natCast]
 exact⟨fun h=>h.2.2,fun h=>⟨by omega,by omega,h⟩⟩
theorem abw {p:Int}(hp:p≤1∨251<p):∀(m t:Nat),m+t=16→jB p t=some false:=by
 intro m
 induction m with
 |zero=>
  intro t ht
  rw[xE,sW,ao (by omega)]
  rcases hp with h |h
  ·rw[cZ (by omega)]
  ·rw[cO (by omega),ahd (by omega)]
 |succ m ih=>
  intro t ht
  have e1:IntKind.wrap .i64 ((t:Int)+1)=((t+1:Nat):Int):=by rw[i64_in _ (by omega)];omega
  rw[xE,sW,au (by omega),e1,ih (t+1) (by omega)]
  by_cases h:(t:Int)>1
  ·rw[cO h,kg (by omega)]
   cases (p.tmod t==0)<;>cases (p != (t:Int))<;>rfl
  ·rw[cZ h]
theorem yy (p:Int):lU p=some (decide (Pr p)):=by
 by_cases h:2≤p∧p≤251
 ·obtain⟨i,hi⟩:=Int.eq_ofNat_of_zero_le (show 0≤p - 2 by omega)
  have e:p=((i+2:Nat):Int):=by omega
  subst e
  have:=acW ZN (show i<250 by omega)
  rw[yp] at this
  rw[this,ahK (by omega)]
 ·have hf:decide (Pr p)=false:=decide_eq_false fun g=>h ⟨g.1,g.2.1⟩
  rw[Ll,Gx,hf]
  exact abw (by omega) 16 0 rfl
theorem aeR (p:Int):gQ p=some (decide (Pr p)):=by
 by_cases h:2≤p∧p≤251
 ·obtain⟨i,hi⟩:=Int.eq_ofNat_of_zero_le (show 0≤p - 2 by omega)
  have e:p=((i+2:Nat):Int):=by omega
  subst e
  have:=acW Xu (show i<250 by omega)
  rw[AA] at this
  rw[this,ahK (by omega)]
 ·have hf:decide (Pr p)=false:=decide_eq_false fun g=>h ⟨g.1,g.2.1⟩
  rw[Ay,tI,hf,vR,pL]
  by_cases h1:2<p
  ·rw[au h1,Tp (by omega),xd (by omega),ahd (by omega)]
  ·rw[ao h1,uH (by omega)]
theorem Xv {p a:Int}(hp:2≤p∧p≤251):dY p a=some (a % p):=by
 have h1:=Int.tmod_lt_of_pos a (show 0<p by omega)
 have h2:=Int.lt_tmod_of_pos a (show 0<p by omega)
 rw[BG,vk,kg (by omega),kg (by omega),i64_in _ (by omega),br (by omega),Int.add_emod_right]
 congr 1
 rw[Int.tmod_def,Int.sub_mul_emod_self_left]
theorem QM {p:Int}(hp:Pr p)(a:Int):sw p a=some (a % p):=by
 rw[Qp,Ma,Mb,J9,yy,bS,decide_eq_true hp,Bool.not_true,cF,bS,mi rfl,Xv ⟨hp.1,hp.2.1⟩,bS]
def iv (p a:Int):Int:=((a.toNat^(p.toNat - 2) % p.toNat:Nat):Int)
theorem abx {f:Nat}(hf:2≤f∧f≤251):∀(n o b:Nat),o<f→b<f→n≤1000→dp f n o b=some ((o*b^n % f:Nat):Int):=by
 intro n
 induction n using Nat.strongRecOn with
 |ind n ih=>
  intro o b ho hb hn
  rw[vm,o8]
  by_cases h0:n=0
  ·subst h0
   rw[cZ (by omega),Nat.pow_zero,Nat.mul_one,Nat.mod_eq_of_lt ho]
  ·have e1:((n:Int).tmod 2)=((n % 2:Nat):Int):=by rw[br (by omega),Int.natCast_emod];rfl
   have e2:IntKind.wrap .i64 ((n:Int).tdiv 2)=((n / 2:Nat):Int):=by rw[lN (by omega),i64_in _ (by omega)];omega
   have bb:b*b≤251*251:=Nat.mul_le_mul (by omega) (by omega)
   have ob:o*b≤251*251:=Nat.mul_le_mul (by omega) (by omega)
   have c1:((b:Int)*(b:Int))=((b*b:Nat):Int):=by rw[Int.natCast_mul]
   have c2:((o:Int)*(b:Int))=((o*b:Nat):Int):=by rw[Int.natCast_mul]
   have e3:(IntKind.wrap .i64 ((b:Int)*(b:Int))).tmod (f:Int)=((b*b % f:Nat):Int):=by
    rw[c1,i64_in _ (by omega),br (by omega),Int.natCast_emod]
   have e4:(IntKind.wrap .i64 ((o:Int)*(b:Int))).tmod (f:Int)=((o*b % f:Nat):Int):=by
    rw[c2,i64_in _ (by omega),br (by omega),Int.natCast_emod]
   have hpw:(b*b)^(n / 2)=b^(2*(n / 2)):=by rw[Nat.pow_mul,Nat.pow_two]
   rw[cO (by omega),e1,e2,e3,e4]
   by_cases h1:n % 2=1
   ·rw[h1,lO (by rfl),kg (by omega),kg (by omega),ih (n / 2) (by omega) _ _ (Nat.mod_lt _ (by omega)) (Nat.mod_lt _ (by omega)) (by omega)]
    congr 2
    rw[Nat.mul_mod,Nat.mod_mod, ←Nat.pow_mod, ←Nat.mul_mod,hpw,Nat.mul_assoc, ←Nat.pow_succ']
    have:(2*(n / 2)).succ=n:=by omega
    rw[this]
   ·have h2:n % 2=0:=by omega
    rw[h2,fe (by omega),kg (by omega),ih (n / 2) (by omega) _ _ ho (Nat.mod_lt _ (by omega)) (by omega)]
    congr 2
    rw[Nat.mul_mod, ←Nat.pow_mod, ←Nat.mul_mod,hpw]
    have:2*(n / 2)=n:=by omega
    rw[this]
theorem ahL:((List.range 252).all fun p=> !(prB p)||(List.range p).all fun a=>a==0||a*(a^(p - 2) % p) % p==1)=true:=by kernel_rfl
theorem TF {p a:Int}(hp:Pr p)(ha:1≤a∧a<p):a*iv p a % p=1:=by
 obtain⟨h1,h2,h3⟩:=hp
 have h:=List.all_eq_true.1 ahL p.toNat (List.mem_range.2 (by omega))
 rw[h3,Bool.not_true,Bool.false_or] at h
 have h:=List.all_eq_true.1 h a.toNat (List.mem_range.2 (by omega))
 rw[Bool.or_eq_true] at h
 rcases h with h |h
 ·have:=beq_iff_eq.1 h;omega
 ·have h:=beq_iff_eq.1 h
  unfold iv
  have e1:(a.toNat:Int)=a:=by omega
  have e2:(p.toNat:Int)=p:=by omega
  have h':((a.toNat*(a.toNat^(p.toNat - 2) % p.toNat) % p.toNat:Nat):Int)=1:=by rw[h];rfl
  rw[Int.natCast_emod,Int.natCast_mul,e1,e2] at h'
  exact h'
theorem TG {p a:Int}(hp:Pr p)(ha:1≤a∧a<p):1≤iv p a∧iv p a<p:=by
 have h:=TF hp ha
 obtain⟨h1,h2,h3⟩:=hp
 have h4:iv p a<p:=by
  unfold iv
  have:=Nat.mod_lt (a.toNat^(p.toNat - 2)) (show 0<p.toNat by omega)
  omega
 have h5:0≤iv p a:=by unfold iv;omega
 refine⟨?_,h4⟩
 by_cases h0:iv p a=0
 ·rw[h0,Int.mul_zero,Int.zero_emod] at h;omega
 ·omega
theorem ZO {p a:Int}(hp:Pr p)(ha:1≤a∧a<p):yN p a=some (iv p a,0):=by
 obtain⟨h1,h2,h3⟩:=hp
 have hm:a % p=a:=Int.emod_eq_of_lt (by omega) ha.2
 rw[Qo,L9,Mb,J9,yy,bS,decide_eq_true ⟨h1,h2,h3⟩,Bool.not_true,cF,bS,mi rfl,Xv ⟨h1,h2⟩,bS,hm,fe (by omega),wL,ql,Ac,tb,Xv ⟨h1,h2⟩,bS,hm]
 obtain⟨q,hq⟩:=Int.eq_ofNat_of_zero_le (show 0≤p by omega)
 obtain⟨b,hb⟩:=Int.eq_ofNat_of_zero_le (show 0≤a by omega)
 subst hq hb
 have e:IntKind.wrap .i64 ((q:Int) - 2)=((q - 2:Nat):Int):=by rw[i64_in _ (by omega)];omega
 have:=abx (f:=q) (by omega) (q - 2) 1 b (by omega) (by omega) (by omega)
 rw[Nat.one_mul] at this
 have e1:((1:Nat):Int)=1:=rfl
 rw[e1] at this
 rw[e,this,bS,bS]
 unfold iv
 rw[Int.toNat_natCast,Int.toNat_natCast]
theorem Xw {p a:Int}(hp:2≤p∧p≤251)(ha:1≤a∧a<p){w:Int}(hw:1≤w∧w<p)(hm:a*w % p=1)(hu:∀b,1≤b→b<p→a*b % p=1→b=w):∀(m:Nat) (b:Int),1≤b→b≤w→w - b=m→eN p a b=some w:=by
 intro m
 induction m with
 |zero=>
  intro b h1 h2 h3
  have:b=w:=by omega
  subst this
  have hb:0≤a*b∧a*b≤251*251:=⟨Int.mul_nonneg (by omega) (by omega),Int.mul_le_mul (by omega) (by omega) (by omega) (by omega)⟩
  rw[sJ,ni,au (by omega),kg (by omega),i64_in _ (by omega),br (by omega),lO hm]
 |succ m ih=>
  intro b h1 h2 h3
  have hb:0≤a*b∧a*b≤251*251:=⟨Int.mul_nonneg (by omega) (by omega),Int.mul_le_mul (by omega) (by omega) (by omega) (by omega)⟩
  rw[sJ,ni,au (by omega),kg (by omega),i64_in (a*b) (by omega),br (by omega),fe (fun e=>by have:=hu b h1 (by omega) e;omega),i64_in _ (by omega)]
  exact ih (b+1) (by omega) (by omega) (by omega)
theorem aeS {p a b w:Int}(hp:2≤p)(hb:0≤b∧b<p)(hw:0≤w∧w<p)(h1:a*b % p=1)(h2:a*w % p=1):b=w:=by
 have e1:b*(a*w) % p=b:=by
  rw[Int.mul_emod,h2,Int.mul_one,Int.emod_emod_of_dvd _ (Int.dvd_refl p),Int.emod_eq_of_lt hb.1 hb.2]
 have e2:w*(a*b) % p=w:=by
  rw[Int.mul_emod,h1,Int.mul_one,Int.emod_emod_of_dvd _ (Int.dvd_refl p),Int.emod_eq_of_lt hw.1 hw.2]
 have e3:b*(a*w)=w*(a*b):=by
  rw[←Int.mul_assoc,Int.mul_comm b a,Int.mul_assoc,Int.mul_comm b w, ←Int.mul_assoc,Int.mul_comm a w,Int.mul_assoc]
 rw[←e1,e3,e2]
theorem aby {p a:Int}(hp:Pr p)(ha:1≤a∧a<p):nC p a=some (iv p a):=by
 have hr:=TG hp ha
 rw[HI,za]
 refine Xw ⟨hp.1,hp.2.1⟩ ha hr (TF hp ha) (fun b h1 h2 h3=>aeS hp.1 (by omega) (by omega) h3 (TF hp ha)) (iv p a - 1).toNat 1 (by omega) (by omega) (by omega)
theorem zZ {p:Int}(hp:Pr p){c:List Tm}(hl:c.length≤1000000000):lr p c=some (ZK p c):=by
 rw[Hc,BC,yy,bS,decide_eq_true hp,Bool.not_true,cF]
 exact ZJ hl c.length 0 (by omega)
theorem LG {p k:Int}(hp:Pr p){a b:List Tm}(ha:Vc p 1024 a)(hb:Vc p 1024 b)(hla:a.length≤100000000)(hlb:b.length≤100000000):iW p a k b=some (uL p a (k % p) b,0):=by
 have h0:∀{x y:List Tm},([x,y]:List (List Tm)).length=2:=rfl
 rw[Lk,Gw,BD,vh,h0,kq,iF,au (by omega)]
 have i0:idx ([a,b]:List (List Tm)) 0=some a:=rfl
 have i1:idx ([a,b]:List (List Tm)) 1=some b:=rfl
 have w1:IntKind.wrap .i64 ((0:Int)+1)=1:=rfl
 have w2:IntKind.wrap .i64 ((1:Int)+1)=2:=rfl
 rw[i0,bS,zZ hp (by omega),bS,JE.2 ha,mi rfl,w1,kq,iF,au (by omega),i1,bS,zZ hp (by omega),bS,JE.2 hb,mi rfl,w2,kq,iF,ao (by omega),bS,mi rfl,QM hp,bS]
 have h1:=Int.emod_nonneg k (show p≠0 by have:=hp.1;omega)
 have h2:=Int.emod_lt_of_pos k (show 0<p by have:=hp.1;omega)
 rw[TE ⟨by have:=hp.1;omega,hp.2.1⟩ ⟨h1,h2⟩ ha.c hb.c (by omega),bS]
theorem ahM {c:List Tm}(hl:c.length≤1000000000):iV c=some (match c.getLast? with |some t=>(t.1,true) |none=>(0,false)):=by
 rw[Lj,Gv]
 by_cases h:c=[]
 ·subst h;rw[List.length_nil,lO (by rfl)];rfl
 ·have hn:c.length≠0:=fun e=>h (List.length_eq_zero_iff.1 e)
  have e:IntKind.wrap .i64 ((c.length:Int) - 1)=((c.length - 1:Nat):Int):=by rw[i64_in _ (by omega)];omega
  rw[fe (by omega)]
  simp only[e]
  rw[gG A8 (by omega),List.getLast?_eq_getElem?]
  have:c[c.length - 1]? =some (c.getD (c.length - 1) A8):=by simp[List.getD,show c.length - 1<c.length by omega]
  rw[this]
end Go.Proofs.YtofjebmoebhiiaaGreatDoor.Ev
namespace Go.Abs
abbrev Cl:=Int×ByteArray×List Tm×Unit
abbrev ju:Cl:=(0,(ByteArray.empty,([],())))
theorem gH {l:List Int}{k j:Nat}{v:Int}:(l.set k v).getD j 0=if k=j∧k<l.length then v else l.getD j 0:=by
 simp only[List.getD,List.getElem?_set]
 by_cases h:k=j
 ·subst h
  by_cases hk:k<l.length
  ·simp[hk]
  ·simp[hk]
 ·simp[h]
theorem Ot (n j:Nat):(List.replicate n (0:Int)).getD j 0=0:=by
 simp only[List.getD,List.getElem?_replicate];split<;>rfl
structure Vr (n:Nat) (l:List Tm) (v:List Int):Prop where
 len:v.length=n
 at_:∀j:Nat,j<n→v.getD j 0=cf l j
def mh (out:List Int):List Tm→List Int
 | []=>out
 |t::r=>mh (out.set t.1.toNat t.2.1) r
theorem MS:∀(l:List Tm) (out:List Int),(mh out l).length=out.length
 | [],out=>rfl
 |t::r,out=>by rw[mh,MS r];simp
theorem TH {p:Int}:∀{l:List Tm} {lo:Int} {out:List Int} {j:Nat},Sr lo l→ -1≤lo→Cp p l→(∀t∈l,t.1<out.length)→(mh out l).getD j 0=if cf l j=0 then out.getD j 0 else cf l j
 | [],lo,out,j,h,h0,hc,hn=>by rw[mh,GW,if_pos rfl]
 |t::r,lo,out,j,h,h0,hc,hn=>by
  have h1:=h.1
  have h2:=hn t (by simp)
  have h3:=hc t (by simp)
  rw[mh,TH (lo:=t.1) (p:=p) h.2 (by omega) (fun u hu=>hc u (by simp[hu])) (fun u hu=>by rw[List.length_set];exact hn u (by simp[hu])),gH,rb]
  by_cases e:t.1=j
  ·rw[if_pos e,Sr.cf0 h.2 (by omega),if_pos rfl,if_pos (by omega),if_neg (by omega)]
  ·rw[if_neg e,if_neg (show ¬(t.1.toNat=j∧t.1.toNat<out.length) by omega)]
def MT (i:Nat):List Int→List Tm
 | []=>[]
 |x::r=>if x≠0 then ((i:Int),(x,()))::MT (i+1) r else MT (i+1) r
theorem abz:∀(v:List Int) (i:Nat) (lo:Int),lo<i→Sr lo (MT i v)
 | [],i,lo,h=>trivial
 |x::r,i,lo,h=>by
  rw[MT];split
  ·exact⟨h,abz r (i+1) i (by omega)⟩
  ·exact abz r (i+1) lo (by omega)
theorem Xx:∀(v:List Int) (i j:Nat),cf (MT i v) j=if i≤j then v.getD (j - i) 0 else 0
 | [],i,j=>by simp[MT,GW]
 |x::r,i,j=>by
  have ih:=Xx r (i+1) j
  rw[MT]
  by_cases hx:x≠0
  ·rw[if_pos hx,rb,ih]
   by_cases e:i=j
   ·subst e;simp
   ·rw[if_neg (by simp only;omega)]
    by_cases h:i≤j
    ·rw[if_pos h,if_pos (by omega)]
     obtain⟨k,hk⟩:∃k,j - i=k+1:=⟨j - i - 1,by omega⟩
     have:j - (i+1)=k:=by omega
     rw[hk,this];simp
    ·rw[if_neg h,if_neg (by omega)]
  ·rw[if_neg hx,ih]
   have hx:x=0:=by omega
   by_cases e:i=j
   ·subst e;rw[if_neg (by omega),if_pos (Nat.le_refl _)];simpa using hx.symm
   ·by_cases h:i≤j
    ·rw[if_pos h,if_pos (by omega)]
     obtain⟨k,hk⟩:∃k,j - i=k+1:=⟨j - i - 1,by omega⟩
     have:j - (i+1)=k:=by omega
     rw[hk,this];simp
    ·rw[if_neg h,if_neg (by omega)]
theorem Xy:∀{v:List Int} {i:Nat} {t:Tm},t∈MT i v→(i:Int)≤t.1∧t.1<i+v.length∧t.2.1∈v∧t.2.1≠0
 |x::r,i,t,h=>by
  rw[MT] at h
  split at h
  ·rename_i hx
   rcases List.mem_cons.1 h with rfl |h
   ·exact⟨by simp,by simp;omega,by simp,hx⟩
   ·have:=Xy h
    exact⟨by omega,by simp only[List.length_cons];omega,by simp[this.2.2.1],this.2.2.2⟩
  ·have:=Xy h
   exact⟨by omega,by simp only[List.length_cons];omega,by simp[this.2.2.1],this.2.2.2⟩
theorem TI:∀(v:List Int) (i:Nat),(MT i v).length≤v.length
 | [],i=>by simp[MT]
 |x::r,i=>by rw[MT];have:=TI r (i+1);split<;>simp<;>omega
def Rs (p:Int)(out:List Int):Prop:=∀j:Nat,0≤out.getD j 0∧out.getD j 0<p
theorem Rs.set {p v:Int}{out:List Int}(h:Rs p out)(hv:0≤v∧v<p)(k:Nat):Rs p (out.set k v):=fun j=>by
 rw[gH];split
 ·exact hv
 ·exact h j
def df (aa:List Cl)(r:Int):List Tm:=(aa.getD r.toNat ju).2.2.1
def HW (p:Int)(aa:List Cl)(out:List Tm):List Tm→List Tm
 | []=>out
 |t::r=>HW p aa (uL p out (t.2.1 % p) (df aa t.1)) r
theorem LH:∀{l:List Tm} {lo:Int} {n:Int},Sr lo l→(∀t∈l,t.1<n)→lo<n→(l.length:Int)≤n - lo - 1
 | [],lo,n,h,hn,hl=>by simp;omega
 |t::r,lo,n,h,hn,hl=>by
  have:=LH h.2 (fun u hu=>hn u (by simp[hu])) (hn t (by simp))
  have:=h.1
  simp only[List.length_cons];omega
theorem Vc.length {p n:Int}{l:List Tm}(h:Vc p n l)(hn:0≤n):(l.length:Int)≤n:=by
 have:=LH h.s (fun t ht=>(h.r t ht).1) (by omega);omega
end Go.Abs
namespace Go.Proofs.YtofjebmoebhiiaaGreatDoor.Ev
open Go.Abs Go.IntWalk
theorem b5 {i:Nat}(h:i≤1000000000):IntKind.wrap .i64 ((i:Int)+1)=((i+1:Nat):Int):=by rw[i64_in _ (by omega)];omega
theorem abA {x:List Tm}{n:Nat}(hl:x.length≤1000000000)(hx:∀t∈x,0≤t.1∧t.1<n):∀(m i:Nat) (out:List Int),m+i=x.length→out.length=n→fT x i out=some (mh out (x.drop i)):=by
 intro m
 induction m with
 |zero=>intro i out hi ho;rw[vS,pN,ao (by omega),List.drop_eq_nil_of_le (by omega)];rfl
 |succ m ih=>
  intro i out hi ho
  have hb:∀{β:Type} {f:Tm→Option β},(idx x (i:Int)).bind f=f (x.getD i A8):=gG A8 (by omega)
  have hm:x.getD i A8∈x:=by
   have:x.getD i A8=x[i]'(by omega):=by simp[List.getD,show i<x.length by omega]
   rw[this];exact List.getElem_mem _
  have hr:=hx _ hm
  rw[vS,pN,au (by omega),hb,hb,gp (by omega) (by omega),tN (by omega),b5 (by omega),ih (i+1) _ (by omega) (by simpa using ho),eY A8 (show i<x.length by omega),mh]
theorem ZP {p:Int}{x:List Tm}{n:Nat}(hn:n≤1000000)(hx:Vc p n x):∃v,qP x n=some v∧Vr n x v∧(0<p→Rs p v):=by
 have hl:=hx.length (by omega)
 have hx':∀t∈x,0≤t.1∧t.1<n:=fun t ht=>⟨by have:=Sr.mem hx.s t ht;omega,(hx.r t ht).1⟩
 have hg:∀j:Nat,(mh (List.replicate n 0) x).getD j 0=cf x j:=fun j=>by
  rw[TH hx.s (by omega) hx.c (fun t ht=>by rw[List.length_replicate];exact(hx' t ht).2),Ot]
  split<;>omega
 refine⟨mh (List.replicate n 0) x, ?_,⟨by rw[MS,List.length_replicate],fun j _=>hg j⟩,fun hp j=>by rw[hg];exact JC hp hx.c j⟩
 rw[KM,Cn,LB (by omega) (by omega) (by omega),Int.toNat_natCast]
 exact abA (by omega) hx' x.length 0 _ (by omega) (by simp)
theorem ZQ {p:Int}(hp:Pr p){x:List Tm}{c2:List Cl}(hxl:x.length≤1000000)(hx:∀t∈x,(0≤t.1∧t.1<c2.length)∧Vc p 1024 (df c2 t.1)):
  ∀(m i:Nat) (S:List Tm),m+i=x.length→Vc p 1024 S→eZ S x (x.length:Int) i p c2=some (HW p c2 S (x.drop i)):=by
 intro m
 induction m with
 |zero=>intro i S hi hS;rw[nE,lC,ao (by omega),List.drop_eq_nil_of_le (by omega),HW]
 |succ m ih=>
  intro i S hi hS
  have hm:x.getD i A8∈x:=by
   have:x.getD i A8=x[i]'(by omega):=by simp[List.getD,show i<x.length by omega]
   rw[this];exact List.getElem_mem _
  obtain⟨h1,h3⟩:=hx _ hm
  have hl:=h3.length (by omega)
  have hl2:=hS.length (by omega)
  rw[nE,lC,au (by omega),gG A8 (by omega),ahI ju (by omega) (by omega)]
  have e:(c2.getD (x.getD i A8).1.toNat ju).2.2.1=df c2 (x.getD i A8).1:=rfl
  rw[e,LG hp hS h3 (by omega) (by omega),bS,b5 (by omega)]
  simp only
  rw[ih (i+1) _ (by omega) (Oq (by have:=hp.1;omega) hS h3).1,eY A8 (show i<x.length by omega),HW]
theorem aeT {p:Int}(hp:Pr p){x:List Tm}{c2:List Cl}(hxl:x.length≤1000000)(hx:∀t∈x,(0≤t.1∧t.1<c2.length)∧Vc p 1024 (df c2 t.1)):tT (p,(c2,())) x=some (HW p c2 [] x):=by
 have h:=ZQ hp hxl hx x.length 0 [] (by omega) Vc.nil
 rw[IK,Ec]
 simp only
 have e:mL x (x.length:Int) 0 [] p c2=eZ [] x (x.length:Int) 0 p c2:=by
  rw[Dk,xB,nE,lC]
 rw[e]
 simpa using h
end Go.Proofs.YtofjebmoebhiiaaGreatDoor.Ev
namespace Go.Proofs.YtofjebmoebhiiaaGreatDoor.Ev
open Go.Abs Go.IntWalk
def ki (aa:List Cl)(j:Nat):ByteArray:=(aa.getD j ju).2.1
def MU (aa:List Cl)(j:Nat):Bool:=decide (0<j)&&decide (ml ((kN (ki aa j)).1*(kN (ki aa (j - 1))).2) ((kN (ki aa (j - 1))).1*(kN (ki aa j)).2)<0)
def wy (p:Int)(aa:List Cl)(j:Nat):Int:=
 if (aa.getD j ju).1<0∨4<(aa.getD j ju).1∨wx (ki aa j)=false then 1
 else if ZK p (aa.getD j ju).2.2.1≠0 then ZK p (aa.getD j ju).2.2.1
 else if ((aa.getD j ju).2.2.1.any fun t=>decide (t.1≥(j:Int)))=true then 7
 else if ((aa.getD j ju).2.2.1.any fun t=>(aa.getD t.1.toNat ju).1 != (aa.getD j ju).1 - 1)=true then 10
 else if (HW p aa [] (aa.getD j ju).2.2.1)≠ [] then 11
 else if MU aa j=true then 6 else 0
def QN (p:Int)(aa:List Cl)(j:Nat):Nat→Int
 |0=>0
 |m+1=>if wy p aa j≠0 then wy p aa j else QN p aa (j+1) m
def fi (p:Int)(aa:List Cl):Int:=if Pr p then (if 1024<aa.length then 3 else QN p aa 0 aa.length) else 8
structure Good (p:Int) (aa:List Cl) (j:Nat):Prop where
 Qm:0≤(aa.getD j ju).1∧(aa.getD j ju).1≤4
 at_:wx (ki aa j)=true
 bd:Vc p j (df aa j)
 low:j≤1024→Vc p 1024 (df aa j)
 al4:∀t∈df aa j,(aa.getD t.1.toNat ju).1=(aa.getD j ju).1 - 1
 cyc:HW p aa [] (df aa j)=[]
 ord:MU aa j=false
theorem gI (aa:List Cl)(j:Nat):df aa j=(aa.getD j ju).2.2.1:=by unfold df;rw[Int.toNat_natCast]
theorem Xz {p:Int}{aa:List Cl}{j:Nat}(h:wy p aa j=0):Good p aa j:=by
 unfold wy at h
 split at h
 ·cases h
 ·rename_i h1
  split at h
  ·rename_i h2;exact absurd h h2
  ·rename_i h2
   split at h
   ·cases h
   ·rename_i h3
    split at h
    ·cases h
    ·rename_i h4
     split at h
     ·cases h
     ·rename_i h5
      split at h
      ·cases h
      ·rename_i h6
       have hv:=JE.1 (show ZK p (aa.getD j ju).2.2.1=0 by omega)
       refine⟨by omega, ?_, ?_,fun _=>by rw[gI];exact hv, ?_, ?_,by simpa using h6⟩
       ·cases hh:wx (ki aa j) with
        |true=>rfl
        |false=>exact absurd (.inr (.inr hh)) h1
       ·rw[gI]
        refine⟨hv.s,fun t ht=>⟨?_,(hv.r t ht).2⟩⟩
        have:¬t.1≥(j:Int):=fun g=>h3 (List.any_eq_true.2 ⟨t,ht,decide_eq_true g⟩)
        omega
       ·intro t ht
        rw[gI] at ht
        have:¬((aa.getD t.1.toNat ju).1 != (aa.getD j ju).1 - 1)=true:=fun g=>h4 (List.any_eq_true.2 ⟨t,ht,g⟩)
        simpa using this
       ·rw[gI]
        exact Decidable.not_not.1 h5
structure Sz (aa:List Cl):Prop where
 at_:∀j,(ki aa j).size≤1000
 bd:∀j,((aa.getD j ju).2.2.1).length≤1000
theorem abB {s:List Tm}{j:Int}(hl:s.length≤1000000):∀(m i:Nat),m+i=s.length→∃r:Int,bO s j (s.length:Int) i=some r∧decide (r≥0)=(s.drop i).any fun t=>decide (t.1≥j):=by
 intro m
 induction m with
 |zero=>
  intro i hi
  rw[j7,gw,ao (by omega),List.drop_eq_nil_of_le (by omega)]
  exact⟨-1,rfl,rfl⟩
 |succ m ih=>
  intro i hi
  rw[j7,gw,au (by omega),gG A8 (by omega),EX,zw,bS,eY A8 (show i<s.length by omega),List.any_cons]
  by_cases h:(s.getD i A8).1≥j
  ·rw[xd h,decide_eq_true h]
   exact⟨i,rfl,by rw[Bool.true_or];exact decide_eq_true (by omega)⟩
  ·rw[uH h,decide_eq_false h,Bool.false_or,b5 (by omega)]
   exact ih (i+1) (by omega)
theorem aon {s:List Tm}{j:Int}(hl:s.length≤1000000):ef s j=some (s.any fun t=>decide (t.1≥j)):=by
 obtain⟨r,h1,h2⟩:=abB (j:=j) hl s.length 0 (by omega)
 have e0:((0:Nat):Int)=0:=rfl
 rw[e0] at h1
 rw[rm,lX,ua,nK,h1,bS,h2,List.drop_zero]
theorem abC {s:List Tm}{p d:Int}{aa:List Cl}{a:ByteArray}{b:List Tm}(hd:0≤d∧d≤4)(hl:s.length≤1000000)(hs:∀t∈s,0≤t.1∧t.1<aa.length):∀(m i:Nat),m+i=s.length→
  ∃r:Int,bP s p aa d a b (s.length:Int) i=some r∧decide (r≥0)=(s.drop i).any fun t=>(aa.getD t.1.toNat ju).1 != d - 1:=by
 intro m
 induction m with
 |zero=>
  intro i hi
  rw[j8,gz,ao (by omega),List.drop_eq_nil_of_le (by omega)]
  exact⟨-1,rfl,rfl⟩
 |succ m ih=>
  intro i hi
  have hm:s.getD i A8∈s:=by
   have:s.getD i A8=s[i]'(by omega):=by simp[List.getD,show i<s.length by omega]
   rw[this];exact List.getElem_mem _
  have h1:=hs _ hm
  rw[j8,gz,au (by omega),gG A8 (by omega),EY,zx]
  simp only
  rw[ahI ju h1.1 h1.2,bS,i64_in (d - 1) (by omega),eY A8 (show i<s.length by omega),List.any_cons]
  cases hc:((aa.getD (s.getD i A8).1.toNat ju).1 != d - 1) with
  |true=>
   rw[cT]
   exact⟨i,rfl,by rw[Bool.true_or];exact decide_eq_true (by omega)⟩
  |false=>
   rw[cF,Bool.false_or,b5 (by omega)]
   exact ih (i+1) (by omega)
theorem aoo {s:List Tm}{p d:Int}{aa:List Cl}{a:ByteArray}{b:List Tm}(hd:0≤d∧d≤4)(hl:s.length≤1000000)(hs:∀t∈s,0≤t.1∧t.1<aa.length):
  eg s ((p,(aa,())),(d,(a,(b,()))))=some (s.any fun t=>(aa.getD t.1.toNat ju).1 != d - 1):=by
 obtain⟨r,h1,h2⟩:=abC (p:=p) (a:=a) (b:=b) hd hl hs s.length 0 (by omega)
 have e0:((0:Nat):Int)=0:=rfl
 rw[e0] at h1
 rw[rq,lY,ub,nL]
 simp only
 rw[h1,bS,h2,List.drop_zero]
theorem QO {s:ByteArray}(h:wx s=true)(hs:s.size≤1000):Rt s (kN s).1 (kN s).2∧nd (kN s).1≤1000∧nd (kN s).2≤1000∧0<(kN s).2:=by
 obtain⟨n,d,hr⟩:=o5.1 h
 rw[hr.val]
 exact⟨hr,hr.bounds hs⟩
theorem al5 {p:Int}{aa:List Cl}{j:Nat}{b:List Tm}(hj:j<aa.length)(hl:aa.length≤1024)(hI:∀i,i<j→wy p aa i=0)(hb:Vc p 1024 b)(hr:∀t∈b,t.1<j):
  ∀t∈b,(0≤t.1∧t.1<aa.length)∧Vc p aa.length (df aa t.1):=fun t ht=>by
 have h1:=hr t ht
 have h2:=Sr.mem hb.s t ht
 have e:t.1=((t.1.toNat:Nat):Int):=by omega
 have h3:=(Xz (hI t.1.toNat (by omega))).bd
 refine⟨by omega, ?_⟩
 rw[e]
 exact h3.mono (by omega)
theorem ZR {p:Int}(hp:Pr p){aa:List Cl}(hs:Sz aa)(hl:aa.length≤1024){j:Nat}{l:(Bool×List Int×Unit)×(Bool×List Int×Unit)×Unit}(hj:j<aa.length)(hI:∀i,i<j→wy p aa i=0)(hL:0<j→l=WR (kN (ki aa (j - 1))).1 (kN (ki aa (j - 1))).2)(E:Int)(hE:wy p aa j=E):
  dJ aa (aa.length:Int) j p aa l.1.1 l.1.2.1 l.2.1.1 l.2.1.2.1=if E=0 then dJ aa (aa.length:Int) ((j+1:Nat):Int) p aa (W (kN (ki aa j)).1).1 (W (kN (ki aa j)).1).2.1 (W (kN (ki aa j)).2).1 (W (kN (ki aa j)).2).2.1 else some E:=by
 have ea:(aa.getD j ju).2.1=ki aa j:=rfl
 have ha:=hs.at_ j
 have hb:=hs.bd j
 generalize hK:dJ aa (aa.length:Int) ((j+1:Nat):Int) p aa (W (kN (ki aa j)).1).1 (W (kN (ki aa j)).1).2.1 (W (kN (ki aa j)).2).1 (W (kN (ki aa j)).2).2.1=K
 rw[u7,qW,au (by omega),gG ju (by omega),ea]
 unfold wy at hE
 generalize hx:aa.getD j ju=x at hE hb ⊢
 cases ahN:wx (ki aa j) with
 |false=>
  obtain⟨jk,hjk⟩:=VP ha ahN
  rw[if_pos (.inr (.inr ahN))] at hE
  subst hE
  rw[hjk,bS]
  simp only
  rw[Bool.not_false,cT,if_neg (by omega)]
  cases decide (x.1<0)<;>cases decide (x.1>4)<;>rfl
 |true=>
  obtain⟨hrt,n1,n2,n3⟩:=QO ahN ha
  rw[PQ ha hrt,bS]
  simp only
  by_cases h1:x.1<0
  ·rw[if_pos (.inl h1)] at hE
   subst hE
   rw[au h1,if_neg (by omega)]
  rw[ao h1]
  by_cases h2:x.1>4
  ·rw[if_pos (.inr (.inl h2))] at hE
   subst hE
   rw[cO h2,if_neg (by omega)]
  have hc1:¬(x.1<0∨4<x.1∨wx (ki aa j)=false):=by
   rintro (h |h |h)
   ·exact h1 h
   ·exact h2 h
   ·rw[ahN] at h;cases h
  rw[if_neg hc1] at hE
  rw[cZ h2,Bool.not_true,cF,TC ha,bS,ahN,Bool.not_true,cF,zZ hp (by omega),bS]
  by_cases h3:ZK p x.2.2.1=0
  ·rw[if_neg (show ¬ZK p x.2.2.1≠0 by omega)] at hE
   rw[mi h3,aon (by omega),bS]
   have hv:=JE.1 h3
   cases h4:(x.2.2.1.any fun t=>decide (t.1≥(j:Int))) with
   |true=>
    rw[h4,if_pos rfl] at hE
    subst hE
    rw[cT,if_neg (by omega)]
   |false=>
    rw[h4,if_neg (by decide)] at hE
    rw[cF]
    have hr:∀t∈x.2.2.1,t.1<j:=fun t ht=>by
     have:=List.any_eq_false.1 h4 t ht
     have:¬t.1≥(j:Int):=fun g=>this (decide_eq_true g)
     omega
    have hin:=al5 hj hl hI hv hr
    rw[aoo (by omega) (by omega) (fun t ht=>(hin t ht).1),bS]
    cases h5:(x.2.2.1.any fun t=>(aa.getD t.1.toNat ju).1 != x.1 - 1) with
    |true=>
     rw[h5,if_pos rfl] at hE
     subst hE
     rw[cT,if_neg (by omega)]
    |false=>
     rw[h5,if_neg (by decide)] at hE
     rw[cF,aeT hp (by omega) (fun t ht=>⟨(hin t ht).1,(hin t ht).2.mono (by omega)⟩),bS]
     by_cases h6:HW p aa [] x.2.2.1=[]
     ·rw[h6,if_neg (by simp)] at hE
      rw[h6,List.length_nil,cZ (by omega),b5 (by omega),hK]
      simp only[wk]
      unfold MU at hE
      by_cases h7:0<j
      ·have hg:=Xz (hI (j - 1) (by omega))
       obtain⟨atY,m1,m2,m3⟩:=QO hg.at_ (hs.at_ (j - 1))
       have hl':=hL h7
       subst hl'
       rw[cO (by omega),al1 n1 n2 m1 m2 n3 m3,bS]
       rw[decide_eq_true h7,Bool.true_and] at hE
       by_cases h8:ml ((kN (ki aa j)).1*(kN (ki aa (j - 1))).2) ((kN (ki aa (j - 1))).1*(kN (ki aa j)).2)<0
       ·rw[decide_eq_true h8,if_pos rfl] at hE
        subst hE
        rw[au h8,if_neg (by omega)]
       ·rw[decide_eq_false h8,if_neg (by decide)] at hE
        subst hE
        rw[ao h8,if_pos rfl]
      ·rw[decide_eq_false h7,Bool.false_and,if_neg (by decide)] at hE
       subst hE
       rw[cZ (by omega),if_pos rfl]
     ·rw[if_pos h6] at hE
      subst hE
      have hlen:0<(HW p aa [] x.2.2.1).length:=by
       cases hq:HW p aa [] x.2.2.1 with
       |nil=>exact absurd hq h6
       |cons a b=>simp
      rw[cO (by omega),if_neg (by omega)]
  ·rw[if_pos h3] at hE
   subst hE
   rw[FJ h3,if_neg h3]
theorem aeU {p:Int}(hp:Pr p){aa:List Cl}(hs:Sz aa)(hl:aa.length≤1024):∀(m j:Nat) (l:(Bool×List Int×Unit)×(Bool×List Int×Unit)×Unit),m+j=aa.length→(∀i,i<j→wy p aa i=0)→(0<j→l=WR (kN (ki aa (j - 1))).1 (kN (ki aa (j - 1))).2)→
  dJ aa (aa.length:Int) j p aa l.1.1 l.1.2.1 l.2.1.1 l.2.1.2.1=some (QN p aa j m):=by
 intro m
 induction m with
 |zero=>intro j l hj hI hL;rw[u7,qW,ao (by omega)];rfl
 |succ m ih=>
  intro j l hj hI hL
  rw[ZR hp hs hl (by omega) hI hL _ rfl,QN]
  by_cases h:wy p aa j=0
  ·rw[if_pos h,if_neg (show ¬wy p aa j≠0 by omega)]
   exact ih (j+1) (WR (kN (ki aa j)).1 (kN (ki aa j)).2) (by omega) (fun i hi=>by
    by_cases e:i=j
    ·rw[e];exact h
    ·exact hI i (by omega)) (fun _=>by rw[Nat.add_sub_cancel])
  ·rw[if_neg h,if_pos h]
theorem JF {p:Int}{aa:List Cl}(hs:Sz aa):jA (p,(aa,()))=some (fi p aa):=by
 rw[IJ,Eb]
 simp only
 unfold fi
 rw[yy,bS]
 by_cases hp:Pr p
 ·rw[decide_eq_true hp,Bool.not_true,cF,if_pos hp]
  by_cases hl:1024<aa.length
  ·rw[cO (by omega),if_pos hl]
  ·rw[cZ (by omega),if_neg hl]
   have:=aeU hp hs (by omega) aa.length 0 ((false,([],())),((false,([],())),())) (by omega) (fun i hi=>by omega) (fun h=>by omega)
   exact this
 ·rw[decide_eq_false hp,Bool.not_false,cT,if_neg hp]
theorem sQ {p:Int}{aa:List Cl}(h:fi p aa=0):Pr p∧aa.length≤1024∧∀j,j<aa.length→Good p aa j:=by
 unfold fi at h
 split at h
 ·rename_i hp
  split at h
  ·cases h
  ·rename_i hl
   have key:∀(m j:Nat),m+j=aa.length→QN p aa j m=0→∀i,j≤i→i<aa.length→wy p aa i=0:=by
    intro m
    induction m with
    |zero=>intro j hj h i h1 h2;omega
    |succ m ih=>
     intro j hj h i h1 h2
     rw[QN] at h
     split at h
     ·rename_i hne;exact absurd h hne
     ·rename_i hne
      by_cases e:i=j
      ·subst e;omega
      ·exact ih (j+1) (by omega) h i (by omega) h2
   exact⟨hp,by omega,fun j hj=>Xz (key aa.length 0 (by omega) h j (by omega) hj)⟩
 ·cases h
end Go.Proofs.YtofjebmoebhiiaaGreatDoor.Ev
namespace Go.Abs
theorem TJ {l:List Tm}{t:Tm}(h:l.getLast?=some t):∃r,l=r++[t]:=by
 cases hl:l with
 |nil=>subst hl;cases h
 |cons a r=>
  have hne:l≠ []:=by rw[hl];simp
  rw[List.getLast?_eq_some_getLast hne] at h
  have h:=Option.some.inj h
  exact⟨l.dropLast,by rw[←hl, ←h,List.dropLast_concat_getLast hne]⟩
theorem fD {l:List Tm}{t:Tm}(h:l.getLast?=some t):t∈l:=by
 obtain⟨r,rfl⟩:=TJ h;simp
theorem ZS:∀{l:List Tm} {lo:Int} {t:Tm},Sr lo l→l.getLast?=some t→∀u∈l,u.1≤t.1
 |a::r,lo,t,h,hl,u,hu=>by
  cases r with
  |nil=>
   simp at hl hu;subst hl hu;exact Int.le_refl _
  |cons b s=>
   have hl':(b::s).getLast?=some t:=by simpa [List.getLast?_cons_cons] using hl
   have ih:=ZS h.2 hl'
   rcases List.mem_cons.1 hu with rfl |hu
   ·have:=ih b (by simp);have:=h.2.1;omega
   ·exact ih u hu
theorem XA {l:List Tm}{lo:Int}{t:Tm}(h:Sr lo l)(hl:l.getLast?=some t){i:Int}(hi:t.1<i):cf l i=0:=by
 by_cases h0:cf l i=0
 ·exact h0
 ·obtain⟨u,hu,e⟩:=VQ h0
  have:=ZS h hl u hu
  omega
def abD (x:List Tm):Int×Bool:=match x.getLast? with
 |some t=>(t.1,true)
 |none=>(0,false)
structure Sto (p:Int) (n:Nat) (st:List (Option (List Tm))):Prop where
 len:st.length=n
 ok:∀i y,st.getD i none=some y→Vc p n y∧∃u,y.getLast?=some u∧u.1=i
theorem aqu {α:Type}{l:List (Option α)}{i:Nat}(h:i<l.length):l[i]? =some (l.getD i none):=by
 simp[List.getD,h]
def sR (p:Int)(st:List (Option (List Tm))):Nat→List Tm→Int→List Tm×Int
 |0,x,a=>(x,a)
 |f+1,x,a=>match x.getLast? with
  |none=>(x,a)
  |some t=>match st.getD t.1.toNat none with
   |none=>(x,a)
   |some y=>sR p st f (uL p x ((-t.2.1*Go.Proofs.YtofjebmoebhiiaaGreatDoor.Ev.iv p ((y.getLast?.getD (0,(0,()))).2.1)) % p) y) (a+1)
end Go.Abs
namespace Go.Proofs.YtofjebmoebhiiaaGreatDoor.Ev
open Go.Abs Go.IntWalk
theorem kill {p c d:Int}(hp:Pr p)(hc:1≤c∧c<p)(hd:1≤d∧d<p):(c+(-c*iv p d) % p*d) % p=0:=by
 have h:=TF hp hd
 have h0:p≠0:=by have:=hp.1;omega
 rw[Int.add_emod,Int.mul_emod,Int.emod_emod_of_dvd _ (Int.dvd_refl p), ←Int.mul_emod, ←Int.add_emod]
 have e:c+ -c*iv p d*d=c*(1 - d*iv p d):=by
  rw[Int.mul_sub,Int.mul_one,Int.neg_mul,Int.neg_mul,Int.mul_assoc,Int.mul_comm (iv p d) d]
  omega
 rw[e,Int.mul_emod,Int.sub_emod,h]
 have h1:(1:Int) % p=1:=Int.emod_eq_of_lt (by omega) (by have:=hp.1;omega)
 rw[h1]
 simp
theorem ZT {p:Int}(hp:Pr p){n:Nat}{x y:List Tm}{t u:Tm}(hx:Vc p n x)(hy:Vc p n y)(ht:x.getLast?=some t)(hu:y.getLast?=some u)(e:t.1=u.1):
  ∀s∈uL p x ((-t.2.1*iv p u.2.1) % p) y,s.1<t.1:=fun s hs=>by
 have hpp:0<p:=by have:=hp.1;omega
 obtain⟨h1,h2⟩:=Oq (k:=(-t.2.1*iv p u.2.1) % p) hpp hx hy
 have h3:=JD h1.s s hs
 have h4:=h1.r s hs
 rw[h2] at h3
 have ct:=JD hx.s t (fD ht)
 have cu:=JD hy.s u (fD hu)
 rcases Int.lt_trichotomy s.1 t.1 with h |h |h
 ·exact h
 ·exfalso
  rw[h,ct,e,cu,kill hp (hx.r t (fD ht)).2 (hy.r u (fD hu)).2] at h3
  omega
 ·exfalso
  rw[XA hx.s ht h,XA hy.s hu (by omega)] at h3
  simp at h3;omega
theorem ahO {x:List Tm}(h:x≠ []):uQ [] (.o6 (.st (.pair (.int .i64) (.pair (.int .i64) (.unit))))) [⟨.slice (.st (.pair (.int .i64) (.pair (.int .i64) (.unit)))),x⟩]=some (some x):=by
 cases x with
 |nil=>exact absurd rfl h
 |cons a r=>rfl
theorem ajI {α β:Type}{xs:List (Option α)}{k:Nat}{f:Option α→Option β}(h:k<xs.length):(xs[k]?).bind f=f (xs.getD k none):=by rw[aqu h];exact bS _ _
theorem acX {α β:Type}{xs:List (Option α)}{i:Int}{f:Option α→Option β}(h0:0≤i)(h:i<xs.length):(idx xs i).bind f=f (xs.getD i.toNat none):=ahI none h0 h
abbrev Hp3:=List (Option (List Tm))
noncomputable def VR (j:Nat)(x:List Tm)(out:Nat)(st:List (Option (List Tm)))(dt:List Int)(e:Bool)(p:Int)(aa:List Cl)(a w2:Int)(c5:Hp3)(rest:List (Int×Unit)):Option ((Nat×Int×Int×Unit)×Hp3):=
 match x.getLast? with
 |some t=>ak out out (st.set t.1.toNat (some x)) (dt.set t.1.toNat j) e p aa a w2 c5 rest
 |none=>if dt.getD j 0= -2 then ak out out st (dt.set j (-1)) e p aa a w2 c5 rest else ak out out st dt e p aa a w2 c5 rest
theorem aeV {p:Int}(hp:Pr p){n:Nat}(hn:n≤1024){st:List (Option (List Tm))}(hst:Sto p n st){dt:List Int}(hdt:dt.length=n){j:Nat}(hj:j<n){e:Bool}{aa:List Cl}{w2:Int}{out:Nat}{c5:Hp3}{rest:List (Int×Unit)}:
  ∀(f:Nat) (x:List Tm) (a:Int),Vc p n x→(∀t∈x,t.1<f)→0≤a→a+f≤1000000000→
   bw j x (abD x).1 (abD x).2 out st dt e p aa a w2 c5 rest=VR j (sR p st f x a).1 out st dt e p aa (sR p st f x a).2 w2 c5 rest:=by
 intro f
 have stop:∀(x:List Tm) (a:Int),Vc p n x→(∀t,x.getLast?=some t→st.getD t.1.toNat none=none)→bw j x (abD x).1 (abD x).2 out st dt e p aa a w2 c5 rest=VR j x out st dt e p aa a w2 c5 rest:=by
  intro x a hx hno
  rw[kT,ie]
  unfold VR abD
  cases hl:x.getLast? with
  |none=>
   simp only
   rw[cF,cF,gp (by omega) (by omega),tN (by omega),Int.toNat_natCast]
   by_cases h2:dt.getD j 0= -2
   ·rw[lO h2,gp (by omega) (by omega),tN (by omega),if_pos h2]
   ·rw[fe h2,if_neg h2]
  |some t=>
   have ht:=hx.r t (fD hl)
   have ht0:=Sr.mem hx.s t (fD hl)
   have hne:x≠ []:=fun e=>by rw[e] at hl;cases hl
   have hlen:=hst.len
   simp only
   rw[cT,acX (by omega) (by omega),ajI (by omega),hno t hl]
   have e1:(!(Option.isNone (none:Option (List Tm))))=false:=rfl
   rw[e1,cF,cT,acX (by omega) (by omega),ajI (by omega),ahO hne,bS,gp (by omega) (by omega),tN (by omega)]
 induction f with
 |zero=>
  intro x a hx hf ha hb
  have:x=[]:=by
   cases x with
   |nil=>rfl
   |cons t r=>
    have h1:=hf t (by simp)
    have h2:=Sr.mem hx.s t (by simp)
    omega
  subst this
  rw[sR]
  exact stop [] a hx (fun t ht=>by cases ht)
 |succ f ih=>
  intro x a hx hf ha hb
  rw[sR]
  cases hl:x.getLast? with
  |none=>exact stop x a hx (fun t ht=>by rw[hl] at ht;cases ht)
  |some t=>
   simp only
   cases hy:st.getD t.1.toNat none with
   |none=>exact stop x a hx (fun u hu=>by rw[hl] at hu;cases hu;exact hy)
   |some y=>
    simp only
    have ht:=hx.r t (fD hl)
    have ht0:=Sr.mem hx.s t (fD hl)
    have hne:x≠ []:=fun e=>by rw[e] at hl;cases hl
    have hlen:=hst.len
    have hf':=hf t (fD hl)
    obtain⟨hvy,u,hu,hu1⟩:=hst.ok _ y hy
    have hur:=hvy.r u (fD hu)
    have hxl:=hx.length (by omega)
    have hyl:=hvy.length (by omega)
    have atZ:y.length≠0:=fun e=>by rw[List.length_eq_zero_iff.1 e] at hu;cases hu
    have at1:x.length≠0:=fun e=>hne (List.length_eq_zero_iff.1 e)
    have gl:∀{z:List Tm} {v:Tm},z.getLast?=some v→z.getD (z.length - 1) A8=v:=fun {z v} h=>by
     obtain⟨r,rfl⟩:=TJ h
     simp[List.getD]
    have ey:IntKind.wrap .i64 (((lst (some y)).length:Int) - 1)=((y.length - 1:Nat):Int):=by
     show IntKind.wrap .i64 ((y.length:Int) - 1)=_
     rw[i64_in _ (by omega)];omega
    have ex:IntKind.wrap .i64 ((x.length:Int) - 1)=((x.length - 1:Nat):Int):=by rw[i64_in _ (by omega)];omega
    have hiv:=TG hp hur.2
    have hm1:0≤t.2.1*iv p u.2.1:=Int.mul_nonneg (by omega) (by omega)
    have hm2:t.2.1*iv p u.2.1≤251*251:=Int.mul_le_mul (by have:=hp.2.1;omega) (by have:=hp.2.1;omega) (by omega) (by omega)
    have e7:IntKind.wrap .i64 (IntKind.wrap .i64 (0 - t.2.1)*iv p u.2.1)= -t.2.1*iv p u.2.1:=by
     have:=hp.2.1
     rw[i64_in (0 - t.2.1) (by omega)]
     have:(0 - t.2.1)*iv p u.2.1= -(t.2.1*iv p u.2.1):=by rw[Int.zero_sub,Int.neg_mul]
     rw[this,i64_in _ (by omega),Int.neg_mul]
    have hpp:0<p:=by have:=hp.1;omega
    have hk:(-t.2.1*iv p u.2.1) % p % p=(-t.2.1*iv p u.2.1) % p:=Int.emod_emod_of_dvd _ (Int.dvd_refl p)
    have hpl:=ZT hp hx hvy hl hu (by omega)
    have hv':=(Oq (k:=(-t.2.1*iv p u.2.1) % p) hpp hx hvy).1
    have ab9:=hv'.length (by omega)
    have hd:(y.getLast?.getD (0,(0,())))=u:=by rw[hu];rfl
    have wz:=ih (uL p x ((-t.2.1*iv p u.2.1) % p) y) (a+1) hv' (fun s hs=>by have:=hpl s hs;omega) (by omega) (by omega)
    rw[hd, ←wz,kT,ie]
    have el:abD x=(t.1,true):=by unfold abD;rw[hl]
    rw[el]
    simp only
    rw[cT,acX (by omega) (by omega),ajI (by omega),hy]
    have e1:(!(Option.isNone (some y)))=true:=rfl
    rw[e1,cT,acX (by omega) (by omega),ajI (by omega),hy,ey]
    have e2:lst (some y)=y:=rfl
    rw[e2,gG A8 (by omega),gl hu,ZO hp hur.2,bS,ex,gG A8 (by omega),gl hl,e7,QM hp,bS,LG hp (hx.mono (by omega)) (hvy.mono (by omega)) (by omega) (by omega),bS,hk]
    simp only
    rw[ahM (by omega),bS,i64_in (a+1) (by omega)]
    rfl
end Go.Proofs.YtofjebmoebhiiaaGreatDoor.Ev
namespace Go.Proofs.YtofjebmoebhiiaaGreatDoor.Ev
open Go.Abs Go.IntWalk
theorem _root_.Go.Abs.Vr.out {n:Nat}{x:List Tm}{v:List Int}(h:Vr n x v){j:Nat}(hj:n≤j):v.getD j 0=0:=by
 have:=h.len
 simp only[List.getD]
 rw[List.getElem?_eq_none (by omega)];rfl
abbrev aqv:=(Int×List Cl×Unit)×Nat×Nat×Nat×Int×Int×Unit
def h5 (p:Int)(aa:List Cl)(a k:Int):List (Option (List aqv)):=[some [((p,(aa,())),((1:Nat),((1:Nat),((1:Nat),(a,(k,()))))))]]
structure Sv (p:Int) (n:Nat) (st:List (Option (List Tm))) (sd:List (Option (List Int))):Prop where
 len:sd.length=n
 none_:∀i,st.getD i none=none→sd.getD i none=none
 some_:∀i y,st.getD i none=some y→∃w,sd.getD i none=some w∧Vr n y w∧Rs p w
end Go.Proofs.YtofjebmoebhiiaaGreatDoor.Ev
namespace Go.Proofs.YtofjebmoebhiiaaGreatDoor.Ev
open Go.Abs Go.IntWalk
theorem ahP {s:List Tm}(h:s.length≤1000000):lu s=some s:=by
 have e:lu s=(bif aE 16 2 0 s.length then some s else none):=Di T B (Go.Abs.look fns) 84 s
 rw[e,ja (by omega) (by omega)]
structure Rel (p:Int) (n:Nat) (st:List (Option (List Tm))) (dt:List Int) (sd:List (Option (List Int))) (by_:List Int) (em:List Bool):Prop where
 sto:Sto p n st
 sv:Sv p n st sd
 ldt:dt.length=n
 lby:by_.length=n
 lem:em.length=n
 d:∀i,i<n→dt.getD i 0=match st.getD i none with |some _=>by_.getD i 0 |none=>bif em.getD i false then -1 else -2
 b:∀i,i<n→0≤by_.getD i 0
theorem XB {α:Type}{l:List (Option α)}{k j:Nat}{v:Option α}:(l.set k v).getD j none=if k=j∧k<l.length then v else l.getD j none:=by
 simp only[List.getD,List.getElem?_set]
 by_cases h:k=j
 ·subst h
  by_cases hk:k<l.length
  ·simp[hk]
  ·simp[hk]
 ·simp[h]
theorem aoq {l:List Bool}{k j:Nat}{v:Bool}:(l.set k v).getD j false=if k=j∧k<l.length then v else l.getD j false:=by
 simp only[List.getD,List.getElem?_set]
 by_cases h:k=j
 ·subst h
  by_cases hk:k<l.length
  ·simp[hk]
  ·simp[hk]
 ·simp[h]
theorem Rel.put {p:Int}{n:Nat}{st:List (Option (List Tm))}{dt:List Int}{sd:List (Option (List Int))}{by_:List Int}{em:List Bool}(h:Rel p n st dt sd by_ em){x:List Tm}{v:List Int}{t:Tm}(hx:Vc p n x)(hv:Vr n x v)(hr:Rs p v)(ht:x.getLast?=some t){j:Nat}:
  Rel p n (st.set t.1.toNat (some x)) (dt.set t.1.toNat j) (sd.set t.1.toNat (some v)) (by_.set t.1.toNat j) em:=by
 have htr:=hx.r t (fD ht)
 have ht0:=Sr.mem hx.s t (fD ht)
 have l1:=h.sto.len
 have l2:=h.sv.len
 have l3:=h.ldt
 have l4:=h.lby
 refine⟨⟨by simpa using l1,fun i y hy=> ?_⟩,⟨by simpa using l2,fun i hi=> ?_,fun i y hy=> ?_⟩,by simpa using l3,by simpa using l4,h.lem,fun i hi=> ?_,fun i hi=> ?_⟩
 ·rw[XB] at hy
  split at hy
  ·rename_i e
   cases hy
   exact⟨hx,t,ht,by omega⟩
  ·exact h.sto.ok i y hy
 ·rw[XB] at hi ⊢
  split at hi
  ·cases hi
  ·rename_i e
   rw[if_neg (by omega)]
   exact h.sv.none_ i hi
 ·rw[XB] at hy ⊢
  split at hy
  ·rename_i e
   cases hy
   rw[if_pos (by omega)]
   exact⟨v,rfl,hv,hr⟩
  ·rename_i e
   rw[if_neg (by omega)]
   exact h.sv.some_ i y hy
 ·rw[gH,XB,gH]
  by_cases e:t.1.toNat=i
  ·rw[if_pos (by omega),if_pos (by omega)]
   simp only
   rw[if_pos (by omega)]
  ·rw[if_neg (by omega),if_neg (by omega)]
   rw[h.d i hi]
   cases st.getD i none with
   |none=>rfl
   |some y=>simp only;rw[if_neg (by omega)]
 ·rw[gH]
  split
  ·omega
  ·exact h.b i hi
theorem Rel.empty {p:Int}{n:Nat}{st:List (Option (List Tm))}{dt:List Int}{sd:List (Option (List Int))}{by_:List Int}{em:List Bool}(h:Rel p n st dt sd by_ em){j:Nat}(hj:j<n):
  Rel p n st (if dt.getD j 0= -2 then dt.set j (-1) else dt) sd by_ (em.set j true):=by
 have l3:=h.ldt
 have l5:=h.lem
 refine⟨h.sto,h.sv,by split<;>simpa using l3,h.lby,by simpa using l5,fun i hi=> ?_,h.b⟩
 have hd:=h.d i hi
 by_cases e:j=i
 ·subst e
  have e5:(em.set j true).getD j false=true:=by rw[aoq,if_pos ⟨rfl,by omega⟩]
  rw[e5]
  cases hs:st.getD j none with
  |some y=>
   rw[hs] at hd
   have hb:=h.b j hi
   simp only at hd ⊢
   rw[if_neg (by omega)]
   exact hd
  |none=>
   rw[hs] at hd
   simp only at hd ⊢
   rw[cT]
   cases he:em.getD j false with
   |true=>rw[he,cT] at hd;rw[if_neg (by omega)];exact hd
   |false=>rw[he,cF] at hd;rw[if_pos hd,gH,if_pos (by omega)]
 ·have e5:(em.set j true).getD i false=em.getD i false:=by rw[aoq,if_neg (by omega)]
  rw[e5, ←hd]
  split
  ·rw[gH,if_neg (by omega)]
  ·rfl
def QP (dt:List Int):Nat→Nat→List Tm
 |_,0=>[]
 |i,m+1=>if dt.getD i 0> -2 then ((i:Int),(dt.getD i 0,()))::QP dt (i+1) m else QP dt (i+1) m
theorem TK (dt:List Int):∀(m i:Nat),(QP dt i m).length≤m
 |0,i=>by simp[QP]
 |m+1,i=>by rw[QP];have:=TK dt m (i+1);split<;>simp<;>omega
theorem aeW {dt:List Int}(hn:dt.length≤1024){w w2:Int}:∀(m i out:Nat) (c5:Hp3) (l:List Tm),m+i=dt.length→ag c5 out=some l→l.length≤i→
  ∃out' hp',bk out (dt.length:Int) i dt w w2 c5=some ((out',(w,(w2,()))),hp')∧ag hp' out'=some (l++QP dt i m):=by
 intro m
 induction m with
 |zero=>
  intro i out c5 l hi hg hl
  rw[kS,ic,ao (by omega)]
  exact⟨out,c5,rfl,by rw[QP,List.append_nil];exact hg⟩
 |succ m ih=>
  intro i out c5 l hi hg hl
  rw[kS,ic,au (by omega),gp (by omega) (by omega),tN (by omega),Int.toNat_natCast,QP,b5 (by omega)]
  by_cases h:dt.getD i 0> -2
  ·rw[cO h,hg,bS,ja (by omega) (by omega),if_pos h]
   simp only
   have hg':ag (dA c5 out++[some (l++[((i:Int),(dt.getD i 0,()))])]) ((dA c5 out).length+1)=some (l++[((i:Int),(dt.getD i 0,()))]):=by
    simp[ag]
   obtain⟨o',h',g1,g2⟩:=ih (i+1) _ _ _ (by omega) hg' (by simp;omega)
   refine⟨o',h',g1, ?_⟩
   rw[g2,List.append_assoc]
   rfl
  ·rw[cZ h,if_neg h]
   exact ih (i+1) out c5 l (by omega) hg (by omega)
end Go.Proofs.YtofjebmoebhiiaaGreatDoor.Ev
namespace Go.Abs
abbrev tP:Ty:= .st (.pair (.int .i64) (.pair (.int .i64) (.unit)))
theorem JH {α:Type}{f:α→Option α}(h:∀y,f y=some y):∀ys:List α,ll f ys=some ys
 | []=>rfl
 |a::r=>by rw[ll,h a,JH h r]
theorem abE {ae:List aT}{hp:List (Option (List Tm))}(h3:ae[3]? =some ⟨58,tP,0,true,hp⟩){n:Nat}{l:List Tm}(hg:ag hp n=some l):typed ae (.slice tP) (.rv (.cv ⟨.ref 3,n⟩))=some l:=by
 unfold typed
 simp only
 unfold uQ snap F1
 simp only
 rw[h3]
 simp only
 cases n with
 |zero=>
  have:l=[]:=by simpa [ag] using hg.symm
  subst this
  rfl
 |succ k=>
  have hb:Nat.beq (k+1) 0=false:=rfl
  rw[hb,hg]
  simp only[cond_false,Option.bind_some]
  rw[JH (fun y=>by obtain⟨a,b,u⟩:=y;rfl)]
  rfl
end Go.Abs
namespace Go.Proofs.YtofjebmoebhiiaaGreatDoor.Ev
open Go.Abs Go.IntWalk
def rg:Nat→Nat→List (Int×Unit)
 |_,0=>[]
 |j,m+1=>((j:Int),())::rg (j+1) m
theorem ahR {n:Nat}(hn:n≤1000000):∀(m j:Nat) (tr:List (Int×Unit)),m+j=n→cX n j tr=some (tr++rg j m):=by
 intro m
 induction m with
 |zero=>intro j tr h;rw[mT,ji,ao (by omega),rg,List.append_nil]
 |succ m ih=>
  intro j tr h
  rw[mT,ji,au (by omega),b5 (by omega),ih (j+1) _ (by omega),rg,List.append_assoc]
  rfl
theorem al7 {p:Int}(hp:Pr p){n:Nat}(hn:n≤1024){aa:List Cl}(hc:aa.length=n){st:List (Option (List Tm))}(hst:Sto p n st){dt:List Int}(hdt:dt.length=n){j:Nat}(hj:j<n)(hx:Vc p n (df aa j)){a w2:Int}(ha:0≤a)(hb:a+n≤1000000000){out:Nat}{c5:Hp3}{rest:List (Int×Unit)}:
  ak out out st dt false p aa a w2 c5 (((j:Int),())::rest)=VR j (sR p st n (df aa j) a).1 out st dt false p aa (sR p st n (df aa j) a).2 w2 c5 rest:=by
 have hl:=hx.length (by omega)
 rw[kR,hU]
 simp only
 rw[cF,gG ju (by omega)]
 have eb:(aa.getD j ju).2.2.1=df aa j:=by rw[gI]
 rw[eb,ahP (by omega),bS,ahM (by omega),bS]
 exact aeV hp hn hst hdt hj n (df aa j) a hx (fun t ht=>(hx.r t ht).1) ha hb
theorem al8 {n:Nat}(hn:n≤1024){st:List (Option (List Tm))}{p:Int}{aa:List Cl}(hc:aa.length=n){c5:Hp3}:∀(m i:Nat),m+i=n→
  ch 0 (n:Int) i st (List.replicate i (-2)++List.replicate m 0) false p aa 0 0 c5=ak 0 0 st (List.replicate n (-2)) false p aa 0 0 c5 (rg 0 n):=by
 intro m
 induction m with
 |zero=>
  intro i hi
  have e0:((0:Nat):Int)=0:=rfl
  have hw:=ahR (n:=n) (by omega) n 0 [] (by omega)
  rw[e0,List.nil_append] at hw
  have hi':i=n:=by omega
  subst hi'
  rw[kQ,gZ,ao (by omega),Bu,ve,bS,yP,rG]
  simp only
  rw[hc,hw,bS,List.replicate_zero,List.append_nil]
 |succ m ih=>
  intro i hi
  have hl:(List.replicate i (-2:Int)++List.replicate (m+1) 0).length=n:=by simp;omega
  rw[kQ,gZ,au (by omega),gp (by omega) (by omega),Int.toNat_natCast,tN (by omega),b5 (by omega)]
  have e:(List.replicate i (-2:Int)++List.replicate (m+1) 0).set i (-2)=List.replicate (i+1) (-2)++List.replicate m 0:=by
   rw[List.set_append_right _ _ (by simp)]
   simp only[List.length_replicate,Nat.sub_self,List.replicate_succ,List.set_cons_zero]
   rw[←List.replicate_succ,List.replicate_succ',List.append_assoc]
   rfl
  rw[e]
  exact ih (i+1) (by omega)
end Go.Proofs.YtofjebmoebhiiaaGreatDoor.Ev
namespace Go.Proofs.YtofjebmoebhiiaaGreatDoor.Ev
open Go.Abs Go.IntWalk
abbrev FY:=List (List Int)
theorem oQ {β:Type}{xs:FY}{k:Nat}{f:List Int→Option β}(h:k<xs.length):(idx xs (k:Int)).bind f=f (xs.getD k []):=gG [] h
theorem aw {α:Type}{d:α}{l:List α}{k:Nat}(h:k<l.length):l.getD k d∈l:=by
 have:l.getD k d=l[k]:=by simp[List.getD,h]
 rw[this];exact List.getElem_mem _
def Sx (n:Nat)(l:FY):Prop:=l.length≤n∧∀s∈l,s.length≤4
theorem Sx.getD {n:Nat}{l:FY}(h:Sx n l){k:Nat}(hk:k<l.length):(l.getD k []).length≤4:=h.2 _ (aw hk)
theorem VS {n:Nat}(h:n≤4):shl .i64 1 (n:Int)=((2^n:Nat):Int)∧2^n≤16:=by
 have:n=0∨n=1∨n=2∨n=3∨n=4:=by omega
 rcases this with rfl |rfl |rfl |rfl |rfl<;>exact⟨rfl,by decide⟩
end Go.Proofs.YtofjebmoebhiiaaGreatDoor.Ev
namespace Go.Abs
abbrev Ce:=List Int×ByteArray×Unit
abbrev fQ:Ce:=([],(ByteArray.empty,()))
abbrev OG:=Nat×ByteArray×Unit
abbrev aeX:OG:=(0,(ByteArray.empty,()))
abbrev tCe:Ty:= .st (.pair (.slice (.int .i64)) (.pair (.str) (.unit)))
abbrev al9:Ty:= .st (.pair (.ref 4) (.pair (.str) (.unit)))
theorem D0 {α:Type}{xs ys:List (Option (List α))}{n:Nat}{l:List α}(h:ag xs n=some l):ag (xs++ys) n=some l:=by
 cases n with
 |zero=>exact h
 |succ m=>
  simp only[ag] at h ⊢
  cases hx:xs[m]? with
  |none=>rw[hx] at h;cases h
  |some o=>
   rw[hx] at h
   rw[List.getElem?_append_left (List.getElem?_eq_some_iff.1 hx).1,hx]
   exact h
theorem lQ {α:Type}{xs:List (Option (List α))}{l:List α}:ag (xs++[some l]) (xs.length+1)=some l:=by simp[ag]
theorem abF {α:Type}{xs:List (Option (List α))}{y:Option (List α)}:dA (xs++[y]) (xs.length+1)=xs++[none]:=by simp[dA]
theorem ajL {α:Type}{xs:List (Option (List α))}{n:Nat}{l:List α}(h:ag xs n=some l)(hn:n≠0):∃m,n=m+1∧m<xs.length:=by
 cases n with
 |zero=>exact absurd rfl hn
 |succ m=>
  simp only[ag] at h
  cases hx:xs[m]? with
  |none=>rw[hx] at h;cases h
  |some o=>exact⟨m,rfl,(List.getElem?_eq_some_iff.1 hx).1⟩
theorem rf {α:Type}{xs:List (Option (List α))}{n:Nat}{l l':List α}(h:ag xs n=some l)(hn:n≠0):ag (jg xs n l') n=some l':=by
 obtain⟨m,rfl,hm⟩:=ajL h hn
 simp[ag,jg,hm]
theorem XC {α:Type}{xs:List (Option (List α))}{n:Nat}{l:List α}(h:ag xs n=some l)(hl:l≠ []):n≠0:=fun e=>by
 subst e
 simp only[ag,Option.some.injEq] at h
 exact hl h.symm
theorem zq {α β:Type}{f:α→Option β}{g:α→β}:∀ys:List α,(∀y∈ys,f y=some (g y))→ll f ys=some (ys.map g)
 | [],_=>rfl
 |a::r,h=>by rw[ll,h a (by simp),zq r fun y hy=>h y (by simp[hy])];rfl
theorem VT {ae:List aT}{hp:List (Option (List Int))}(h4:ae[4]? =some ⟨3, .int .i64,0,true,hp⟩){n:Nat}{l:List Int}(hg:ag hp n=some l)(r:List CV):snap ae (.slice (.int .i64)) (⟨.ref 4,n⟩::r)=some (l,r):=by
 unfold snap F1
 simp only
 rw[h4]
 simp only
 cases n with
 |zero=>
  have:l=[]:=by simpa [ag] using hg.symm
  subst this
  rfl
 |succ k=>
  have hb:Nat.beq (k+1) 0=false:=rfl
  rw[hb,hg]
  simp only[cond_false,Option.bind_some]
  rw[JH (fun y=>by rfl)]
  rfl
theorem TL {ae:List aT}{hp:List (Option (List Int))}(h4:ae[4]? =some ⟨3, .int .i64,0,true,hp⟩){n:Nat}{l:List Int}(hg:ag hp n=some l):typed ae (.slice (.int .i64)) (.rv (.cv ⟨.ref 4,n⟩))=some l:=by
 unfold typed
 simp only
 unfold uQ
 rw[VT h4 hg]
theorem abG {ae:List aT}{aD:List (Option (List Int))}{kn:List (Option (List OG))}(h4:ae[4]? =some ⟨3, .int .i64,0,true,aD⟩)(h8:ae[8]? =some ⟨101,al9,0,true,kn⟩){n:Nat}{rows:List OG}(hg:ag kn n=some rows)
  (hr:∀x∈rows,∃s,ag aD x.1=some s):typed ae (.slice tCe) (.rv (.cv ⟨.ref 8,n⟩))=some (rows.map fun x=>((ag aD x.1).getD [],(x.2.1,()))):=by
 unfold typed
 simp only
 unfold uQ snap F1
 simp only
 rw[h8]
 simp only
 cases n with
 |zero=>
  have:rows=[]:=by simpa [ag] using hg.symm
  subst this
  rfl
 |succ k=>
  have hb:Nat.beq (k+1) 0=false:=rfl
  rw[hb,hg]
  simp only[cond_false,Option.bind_some]
  rw[zq (g:=fun x:OG=>((ag aD x.1).getD [],(x.2.1,()))) rows (fun y hy=>by
   obtain⟨s,hs⟩:=hr y hy
   obtain⟨a,b,u⟩:=y
   have e:snap ae tCe (flat al9 ((a,(b,u)):OG))=some ((s,(b,())),[]):=by
    have e0:flat al9 ((a,(b,u)):OG)=[⟨.ref 4,a⟩,⟨.str,b⟩]:=rfl
    rw[e0,snap,snap,VT h4 hs]
    rfl
   rw[e,hs]
   rfl)]
  rfl
end Go.Abs
namespace Go.Proofs.YtofjebmoebhiiaaGreatDoor.Ev
open Go.Abs Go.IntWalk
theorem ZU:((List.range 24).all fun i=>match w8 400 ((i:Int) - 8) 4 with
  |some s=>wx s&&Nat.ble s.size 20
  |none=>false)=true:=by kernel_rfl
def At (s:ByteArray):Prop:=wx s=true∧s.size≤20
theorem ZV (n:Int):∃s,qS n=some s∧At s:=by
 have h1:=Int.tmod_lt_of_pos n (show (0:Int)<24 by omega)
 have h2:=Int.lt_tmod_of_pos n (show (0:Int)<24 by omega)
 rw[KD,Cd]
 rw[i64_in (n.tmod 24+24) (by omega),br (by omega)]
 have h3:=Int.emod_nonneg (n.tmod 24+24) (show (24:Int)≠0 by omega)
 have h4:=Int.emod_lt_of_pos (n.tmod 24+24) (show (0:Int)<24 by omega)
 rw[i64_in _ (by omega)]
 obtain⟨i,hi⟩:=Int.eq_ofNat_of_zero_le h3
 rw[hi]
 have ht:=List.all_eq_true.1 ZU i (List.mem_range.2 (by omega))
 rw[GQ] at ht
 cases hf:fX ((i:Int) - 8) 4 with
 |none=>rw[hf] at ht;cases ht
 |some s=>
  rw[hf] at ht
  simp only[Bool.and_eq_true] at ht
  exact⟨s,by rw[bS],ht.1,Nat.le_of_ble_eq_true ht.2⟩
def Cs (l:List Ce):Prop:=l.length≤800∧∀x∈l,x.1.length≤4∧At x.2.1
def Cr (aD:List (Option (List Int)))(rows:List OG):Prop:=∀x∈rows,(∃s,ag aD x.1=some s∧s.length≤4)∧At x.2.1
theorem Cr.append {aD ys:List (Option (List Int))}{rows:List OG}(h:Cr aD rows):Cr (aD++ys) rows:=fun x hx=>by
 obtain⟨⟨s,h1,h2⟩,h3⟩:=h x hx
 exact⟨⟨s,D0 h1,h2⟩,h3⟩
end Go.Proofs.YtofjebmoebhiiaaGreatDoor.Ev
namespace Go.Proofs.YtofjebmoebhiiaaGreatDoor.Ev
open Go.Abs Go.IntWalk
theorem Cr.set {aD:List (Option (List Int))}{rows:List OG}(h:Cr aD rows){x:OG}(hx:(∃s,ag aD x.1=some s∧s.length≤4)∧At x.2.1)(k:Nat):Cr aD (rows.set k x):=fun y hy=>by
 rcases List.mem_or_eq_of_mem_set hy with hy |rfl
 ·exact h y hy
 ·exact hx
def Ats (n:Nat)(l:List ByteArray):Prop:=l.length=n∧∀s∈l,At s
theorem acY {β:Type}{xs:List ByteArray}{k:Nat}{f:ByteArray→Option β}(h:k<xs.length):(idx xs (k:Int)).bind f=f (xs.getD k ByteArray.empty):=gG _ h
theorem Cs.nil:Cs []:=⟨by simp,fun x hx=>by cases hx⟩
theorem JI {β:Type}{xs:List Ce}{k:Nat}{f:Ce→Option β}(h:k<xs.length):(idx xs (k:Int)).bind f=f (xs.getD k fQ):=gG fQ h
end Go.Proofs.YtofjebmoebhiiaaGreatDoor.Ev
namespace Go.Abs
abbrev tTm:Ty:= .st (.pair (.int .i64) (.pair (.int .i64) .unit))
abbrev tCl:Ty:= .st (.pair (.int .i64) (.pair (.str) (.pair (.slice tTm) (.unit))))
abbrev tCh:Ty:= .st (.pair (.int .i64) (.pair (.slice tCl) (.unit)))
theorem ajN (ae:List aT)(y:Cl):snap ae tCl (flat tCl y)=some (y,[]):=by
 obtain⟨a,b,c,u⟩:=y
 rfl
theorem MV {ae:List aT}{hp:List (Option (List Cl))}(h0:ae[0]? =some ⟨42,tCl,0,true,hp⟩){p:Int}{n:Nat}{l:List Cl}(hg:ag hp n=some l):
  typed ae tCh (.rv (.agg [⟨.int .i64,p⟩,⟨.ref 0,n⟩]))=some (p,(l,())):=by
 unfold typed
 simp only
 have e:snap ae (.slice tCl) [⟨.ref 0,n⟩]=some (l,[]):=by
  unfold snap F1
  simp only
  rw[h0]
  simp only
  cases n with
  |zero=>
   have:l=[]:=by simpa [ag] using hg.symm
   subst this
   rfl
  |succ k=>
   have hb:Nat.beq (k+1) 0=false:=rfl
   rw[hb,hg]
   simp only[cond_false,Option.bind_some]
   rw[zq (g:=fun x:Cl=>x) l (fun y _=>by rw[ajN])]
   simp
 unfold uQ
 rw[show snap ae (.pair (.int .i64) (.pair (.slice tCl) (.unit))) [⟨.int .i64,p⟩,⟨.ref 0,n⟩]=some ((p,(l,())),[]) from by
  unfold snap
  rw[show snap ae (.int .i64) [⟨.int .i64,p⟩,⟨.ref 0,n⟩]=some (p,[⟨.ref 0,n⟩]) from rfl]
  simp only
  unfold snap
  rw[e]
  rfl]
theorem TM {p:Int}{n:Nat}{v:List Int}(hv:v.length≤n)(hr:Rs p v):Vc p n (MT 0 v):=⟨abz v 0 (-1) (by omega),fun t ht=>by
 obtain⟨h1,h2,h3,h4⟩:=Xy ht
 obtain⟨k,hk,he⟩:=List.getElem_of_mem h3
 have:=hr k
 simp only[List.getD,List.getElem?_eq_getElem hk,Option.getD_some] at this
 omega⟩
theorem Rs.rep {p:Int}(hp:0<p)(n:Nat):Rs p (List.replicate n 0):=fun j=>by rw[Ot];omega
end Go.Abs
namespace Go.Proofs.YtofjebmoebhiiaaGreatDoor.Ev
open Go.Abs Go.IntWalk
def Gd (p:Int)(aa:List Cl)(n:Nat):Prop:=∀x∈aa,At x.2.1∧Vc p n x.2.2.1
theorem Gd.set {p:Int}{aa:List Cl}{n:Nat}(h:Gd p aa n){x:Cl}(hx:At x.2.1∧Vc p n x.2.2.1)(k:Nat):Gd p (aa.set k x) n:=fun y hy=>by
 rcases List.mem_or_eq_of_mem_set hy with hy |rfl
 ·exact h y hy
 ·exact hx
def Go1 (p:Int)(aa:List Cl):Prop:=aa.length≤30∧(aa=[]∨Pr p)∧Gd p aa aa.length
theorem Uy {v:Nat}{aD:List (Option (List Int))}{l:List Int}(hg:ag aD v=some l)(hl:l.length≤1000000):∀(m i:Nat) (out:List Tm),m+i=l.length→out.length≤i→bN v i out aD=some (out++MT i (l.drop i)):=by
 intro m
 induction m with
 |zero=>intro i out hi ho;rw[kd,gA,hg,bS,ao (by omega),List.drop_eq_nil_of_le (by omega),MT,List.append_nil]
 |succ m ih=>
  intro i out hi ho
  have g:l[(i:Int).toNat]? =some (l.getD i 0):=by rw[Int.toNat_natCast];simp[List.getD,show i<l.length by omega]
  have hb:∀{β:Type} {f:Int→Option β},(idx l (i:Int)).bind f=f (l.getD i 0):=gG 0 (by omega)
  rw[kd,gA,hg,bS,au (by omega),bS,hb,bS,g,bS,drop_eq (by omega),MT,b5 (by omega)]
  by_cases h:l.getD i 0=0
  ·rw[mi h,ih (i+1) out (by omega) (by omega),if_neg (by omega)]
  ·rw[FJ h,bS,hb,bS,g,bS,ja (by omega) (by omega),if_pos h]
   simp only
   rw[ih (i+1) _ (by omega) (by simp;omega),List.append_assoc]
   rfl
theorem JJ {v:Nat}{aD:List (Option (List Int))}{l:List Int}(hg:ag aD v=some l)(hl:l.length≤1000000):aR v aD=some (MT 0 l):=by
 rw[uv,oC]
 have:=Uy hg hl l.length 0 [] (by omega) (by simp)
 simpa using this
theorem ahS (n:Int):∃p,qO n=some p∧Pr p:=by
 have h1:=Int.tmod_lt_of_pos n (show (0:Int)<6 by omega)
 have h2:=Int.lt_tmod_of_pos n (show (0:Int)<6 by omega)
 rw[KK,Ck]
 rw[i64_in (n.tmod 6+6) (by omega),br (by omega)]
 have h3:=Int.emod_nonneg (n.tmod 6+6) (show (6:Int)≠0 by omega)
 have h4:=Int.emod_lt_of_pos (n.tmod 6+6) (show (0:Int)<6 by omega)
 obtain⟨i,hi⟩:=Int.eq_ofNat_of_zero_le h3
 rw[hi] at h4 ⊢
 have h5:i<6:=by omega
 match i,h5 with
 |0,_=>exact⟨2,rfl,by decide⟩
 |1,_=>exact⟨3,rfl,by decide⟩
 |2,_=>exact⟨5,rfl,by decide⟩
 |3,_=>exact⟨2,rfl,by decide⟩
 |4,_=>exact⟨251,rfl,by decide+kernel⟩
 |5,_=>exact⟨7,rfl,by decide⟩
theorem aos {k p:Int}(hk:0≤k)(hp:2≤p∧p≤251):IntKind.wrap .i64 (k.tmod 2*IntKind.wrap .i64 (p - 2))=(k % 2)*(p - 2)∧0≤(k % 2)*(p - 2)∧(k % 2)*(p - 2)≤251:=by
 have h1:=Int.emod_nonneg k (show (2:Int)≠0 by omega)
 have h2:=Int.emod_lt_of_pos k (show (0:Int)<2 by omega)
 have e:k.tmod 2=k % 2:=br (by omega)
 rw[e,i64_in (p - 2) (by omega)]
 rcases (show k % 2=0∨k % 2=1 by omega) with h |h
 ·rw[h,Int.zero_mul];exact⟨by rw[i64_in _ (by omega)],by omega,by omega⟩
 ·rw[h,Int.one_mul];exact⟨by rw[i64_in _ (by omega)],by omega,by omega⟩
end Go.Proofs.YtofjebmoebhiiaaGreatDoor.Ev
