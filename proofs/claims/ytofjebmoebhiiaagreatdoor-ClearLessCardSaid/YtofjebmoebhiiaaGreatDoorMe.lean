/- YtofjebmoebhiiaaGreatDoorMe: a part of the proof (Sb3, Base, PA ..). No condition. -/
import Derived.Test.YtofjebmoebhiiaaGreatDoorMd
import Derived.Lib.Bytealg
import Derived.Laws.StandIn
import Derived.WalkKit
import Derived.IntWalk
import Derived.Laws.Bits64
set_option linter.unusedVariables false
set_option linter.unusedSimpArgs false
set_option maxRecDepth 100000
set_option exponentiation.threshold 2000
namespace Go.Proofs.YtofjebmoebhiiaaGreatDoor.Ev
open Go.Abs Go.RowKit Go.Lib Go.Sort
abbrev tTb:Ty:= .st (.pair (.int .i64) (.pair (.int .i64) .unit))
theorem Ri {V:View}:∀{l:List (Int×Int×Unit)} {br:List (List Value)},aC (Go.Abs.Rel V tTb) l br→br=l.map fun t=>[Value.int .i64 t.1,Value.int .i64 t.2.1]
 | [],[],_=>rfl
 |t::l,ys::br,h=>by obtain⟨h1,h2⟩:=h;have h1':∃a b,ys=a++b∧a=[Value.int .i64 t.1]∧∃c d,b=c++d∧c=[Value.int .i64 t.2.1]∧d=[]:=h1;obtain⟨a,b,rfl,rfl,c,d,rfl,rfl,rfl⟩:=h1';rw[Ri h2];rfl
theorem Rj {V:View}:∀(l:List (Int×Int×Unit)),aC (Go.Abs.Rel V tTb) l (l.map fun t=>[Value.int .i64 t.1,Value.int .i64 t.2.1])
 | []=>trivial
 |t::l=>⟨⟨[Value.int .i64 t.1],[Value.int .i64 t.2.1],rfl,rfl,[Value.int .i64 t.2.1],[],rfl,rfl,rfl⟩,Rj l⟩
abbrev C4 (xs:List El):List Value:=(xs.map JV).flatten
theorem EY:∀(xs:List El),(C4 xs).length=xs.length*2
 | []=>rfl
 |x::r=>by have:=EY r;simp only[C4,List.map_cons,List.flatten_cons,List.length_append,List.length_cons] at this ⊢;have e:(JV x).length=2:=rfl;omega
theorem Ua:∀(xs:List El) (t:Nat),t<xs.length*2→(C4 xs)[t]? =some ((JV (xs.getD (t / 2) default))[t % 2]!)
 | [],t,h=>by simp at h
 |x::r,0,_=>rfl
 |x::r,1,_=>rfl
 |x::r,t+2,h=>by
  have ih:=Ua r t (by simp at h;omega);have e1:(t+2) / 2=t / 2+1:=by omega
  have e2:(t+2) % 2=t % 2:=by omega
  rw[e1,e2];exact ih
theorem Z9 (d:Array El)(t:Nat)(h:t<d.size*2):(C4 d.toList)[t]? =some (flatK JV 2 d)[t]! :=by
 rw[get_flatK JV 2 d t h,Ua d.toList t (by simpa using h)];have:d.toList.getD (t / 2) default=d[t / 2]! :=by simp[List.getD,Array.getElem!_eq_getD]
 rw[this]
theorem ah5 {w:World}{blk n:Nat}{d:Array El}{os:Array Obj}{cur:Array Value}{e:TypeId}{fr:Nat×Nat}(h:w.heap[blk]? =some (.cells cur e fr))(hs:d.size*2≤cur.size):
  ∃afj,(sortWorldK JV 2 w blk 0 n d os).heap[blk]? =some (.cells afj e fr)∧afj.size=cur.size∧afj.toList.take (d.size*2)=C4 d.toList:=by
 have hlt:blk<w.heap.size:=(Array.getElem?_eq_some_iff.1 h).1;refine⟨putCells id 0 (flatK JV 2 d) cur, ?_,by simp[putCells], ?_⟩
 ·show ((w.heap.modify blk _)++os)[blk]? =_;rw[Array.getElem?_append_left (by simpa using hlt),Array.getElem?_modify];simp[h,onCells]
 ·apply List.ext_getElem?;intro t;by_cases ht:t<d.size*2
  ·rw[Z9 d t ht,List.getElem?_take,if_pos ht,Array.getElem?_toList,putCells,Array.getElem?_mapIdx,Array.getElem?_eq_getElem (by omega),Option.map_some,if_pos ⟨Nat.zero_le _,by rw[size_flatK];omega⟩];rfl
  ·rw[List.getElem?_eq_none (by simp;omega),List.getElem?_eq_none (by rw[EY];simp;omega)]
theorem ah6 {w:World}{blk n k:Nat}{d:Array El}{os:Array Obj}(hk:k<w.heap.size)(h:k≠blk):(sortWorldK JV 2 w blk 0 n d os).heap[k]? =w.heap[k]? :=by show ((w.heap.modify blk _)++os)[k]? =_;rw[Array.getElem?_append_left (by simpa using hk),Array.getElem?_modify];simp[Ne.symm h]
theorem aku {w:World}{blk n:Nat}{d:Array El}{os:Array Obj}:Grow (fun k=>k=blk) w (sortWorldK JV 2 w blk 0 n d os):=
 ⟨rfl,rfl,rfl,size_sortWorldK_c JV 2 w blk 0 n d os,fun k hk hn=>ah6 hk hn⟩
theorem holds_of {w:World}{blk:Nat}{l:List (Int×Int×Unit)}{cur:Array Value}{e:TypeId}(h:w.heap[blk]? =some (.cells cur e (0,0)))(hc:cur.toList.take (l.length*2)=C4 (l.map Vl))(hs:l.length*2≤cur.size):HoldsK JV 2 w blk 0 (l.map Vl).toArray:=by
 intro j hj;rw[size_flatK] at hj;have hj':j<l.length*2:=by simpa using hj
 refine⟨?_, ?_⟩
 ·have:=Z9 (l.map Vl).toArray j hj;rw[←hc,List.getElem?_take,if_pos hj',Array.getElem?_toList] at this;simp only[World.cell?,h,Nat.zero_add];exact this
 ·simp[World.frozen?,h]
theorem Wv:∀{l:List (Int×Int×Unit)},(∀x∈l,0≤x.1∧x.1<1000000000)→(l.map fun t=>[Value.int .i64 t.1,Value.int .i64 t.2.1]).flatten=C4 (l.map Vl)
 | [],_=>rfl
 |t::l,h=>by
  have ih:=Wv (l:=l) fun x hx=>h x (List.mem_cons_of_mem _ hx);have e:=alC (h t List.mem_cons_self);have e1:JV (Vl t)=[Value.int .i64 t.1,Value.int .i64 t.2.1]:=by have e2:((Vl t).1.val:Int)=t.1:=congrArg (·.1) e;show [Value.int .i64 ((Vl t).1.val:Int),Value.int .i64 t.2.1]=_;rw[e2]
  simp only[C4,List.map_cons,List.flatten_cons,e1] at ih ⊢;rw[ih]
theorem Qk:∀(xs:List El),C4 xs=((xs.map ofE).map fun t=>[Value.int .i64 t.1,Value.int .i64 t.2.1]).flatten
 | []=>rfl
 |x::r=>by have ih:=Qk r;simp only[C4,List.map_cons,List.flatten_cons] at ih ⊢;rw[ih];rfl
theorem aaa {l:List (Int×Int×Unit)}{d':Array El}(hr:∀x∈l,0≤x.1∧x.1<1000000000)(hd:Ds l)(hp:PermIn 0 (l.map Vl).toArray.size (l.map Vl).toArray d')(hs:SortedIn (ltOf cfE) 0 (l.map Vl).toArray.size d'):d'.toList.map ofE=sN l∧d'.size=l.length:=by
 have hsz:d'.size=l.length:=by rw[hp.1];simp
 have hx:(d'.extract 0 (l.map Vl).toArray.size)=d':=by rw[←hp.1];simp
 have hy:((l.map Vl).toArray.extract 0 (l.map Vl).toArray.size)=(l.map Vl).toArray:=by simp;exact List.take_of_length_le (by simp)
 have alD:=hp.2.2;rw[hx,hy] at alD;have hb:(l.map Vl).map ofE=l:=by
  rw[List.map_map];have:∀{l:List (Int×Int×Unit)},(∀x∈l,0≤x.1∧x.1<1000000000)→l.map (ofE ∘ Vl)=l:=fun {l} h=>by
   induction l with
   |nil=>rfl
   |cons t l ih=>
    rw[List.map_cons,ih fun x hx=>h x (List.mem_cons_of_mem _ hx)]
    congr 1
    exact alC (h t List.mem_cons_self)
  exact this hr
 have hq:(d'.toList.map ofE).Perm l:=by have:=alD.map ofE;rwa [hb] at this
 refine⟨ah3 hd hq ?_,hsz⟩;rw[List.pairwise_map,List.pairwise_iff_getElem];intro i j hi hj hij;have hi':i<d'.size:=by simpa using hi
 have hj':j<d'.size:=by simpa using hj
 have h1:=hs i j (Nat.zero_le _) hij (by rw[←hp.1];exact hj');rw[ltE,getElem!_pos d' i hi',getElem!_pos d' j hj'] at h1;simp only[decide_eq_false_iff_not,Nat.not_lt] at h1;show ((d'.toList[i].1.val:Nat):Int)≤((d'.toList[j].1.val:Nat):Int)
 simp only[Array.getElem_toList];omega
abbrev hr3 (hp:List (Option (List (Int×Int×Unit)))):aV:=⟨58,tTb,0,true,hp⟩
theorem aoR (hp:List (Option (List (Int×Int×Unit)))):((cC T).set 3 (hr3 hp))[3]? =some (hr3 hp):=rfl
theorem amR (hp:List (Option (List (Int×Int×Unit)))):((cC T).set 3 (hr3 hp)).set 3 (hr3 hp)=(cC T).set 3 (hr3 hp):=rfl
theorem amS (x:(Nat×Unit)×List (Option (List (Int×Int×Unit))))(y:Unit×List (Option (List (Int×Int×Unit))))(h:Wp x.1.1 x.2=some y):Mu Tryz.prog T 50 x y:=by
 obtain⟨⟨n,u⟩,hp⟩:=x;obtain⟨yu,hp'⟩:=y;refine⟨⟨_,Tryz.func50,by kernel_rfl,by kernel_rfl⟩,fun E ν args d hE hG hC hst hargs=> ?_⟩;replace hst:St E (aH ((cC T).set 3 (hr3 hp))) ⟨#[],[]⟩ E.w0 ν (fun _=>False):=hst;obtain⟨v1,r1,e1,hv,v2,e2,vs,e3,hvs⟩:∃v1 r1,args.toList=v1::r1∧bJ (view E (aH ((cC T).set 3 (hr3 hp))) ν (fun _=>False) E.w0) ⟨.ref 3,n⟩ v1∧∃v2,r1=[v2]∧∃vs:List Value,v2= .func (.func 51) #[] vs.toArray∧vs=[]:=hargs;subst hvs e3 e2;obtain rfl:args= #[v1, .func (.func 51) #[] #[]]:=by cases args;simp_all
 have fin:∀(w':World) (aK:Nm→Value),St E (aH (((cC T).set 3 (hr3 hp)).set 3 (hr3 hp'))) ⟨#[],[]⟩ w' aK (fun _=>False)→Go.Abs.Left T E 50 ((n,u),hp) (yu,hp') d (.returned (.tuple #[])) w':=fun w' aK hs=>
  ⟨.tuple #[],aK,rfl,hs,⟨[],rfl,trivial⟩⟩
 cases n with
 |zero=>
  have e:v1= .slice none 0 0:=by
   rcases IV hv with ⟨_,e⟩ | ⟨h1,_⟩
   ·exact e
   ·omega
  subst e;obtain rfl:hp=hp':=by have h':some ((),hp)=some (yu,hp'):=h;simpa using h'
  refine(Z8 0 none _ E.w0).mono ?_;rintro e w' ⟨rfl,rfl⟩;exact fin _ ν (by rw[amR];exact hst)
 |succ n=>
  have h':((ai hp (n+1)).bind fun l=>bif Nat.ble l.length 1000000&&okT l then some ((),ik hp (n+1) (sN l)) else none)=some (yu,hp'):=h;obtain⟨l,hl,h2⟩:=Option.bind_eq_some_iff.1 h';cases hc:Nat.ble l.length 1000000&&okT l with
  |false=>rw[hc] at h2;cases h2
  |true=>
   rw[hc] at h2;obtain rfl:ik hp (n+1) (sN l)=hp':=by simpa using h2
   simp only[Bool.and_eq_true,Nat.ble_eq,XY] at hc;obtain⟨hlen,hr,hd⟩:=hc;have hh:(aH ((cC T).set 3 (hr3 hp))).ae[3]? =some (hr3 hp):=aoR hp;obtain⟨⟨br,hown,hall⟩,hO,Fa⟩:=hst.Kq hh hl hv;rcases Fa with ⟨h0,_⟩ | ⟨h1,_,h3⟩
   ·omega
   ·have hy:=Ri hall;subst hy;obtain⟨_,hown⟩:=hown;rcases hown with ⟨e,_⟩ | ⟨g,cap,cur,e,_,hg,hn,hm,hcs,HC⟩
    ·have hnn:=hst.nn 3 (hr3 hp) (n+1) hh h1 (Km hl);rcases hnn with ⟨_,g,m,c,e4⟩ | ⟨e4,_⟩
     ·rw[←h3,e] at e4;cases e4
     ·cases e4
    ·have hcell:cur.toList.take (l.length*2)=C4 (l.map Vl):=by rw[←Wv hr];exact HC
     have aoS:l.length*2≤cur.size:=by rw[hcs];exact Nat.mul_le_mul_right 2 hn
     have hgl:g<E.w0.heap.size:=(Array.getElem?_eq_some_iff.1 hg).1;have hsz:(l.map Vl).toArray.size=l.length:=by simp
     have hs:=amQ g cap (l.map Vl).toArray E.w0 (holds_of hg hcell aoS) hgl (by rw[hsz];omega);have e5:v1= .slice (some ⟨g,0,none⟩) (l.map Vl).toArray.size cap:=by rw[hsz];exact e
     rw[e5];refine hs.mono ?_;rintro e6 w' ⟨rfl,d',m,os,hp1,hs1,rfl⟩;obtain⟨q1,q2⟩:=aaa hr hd hp1 hs1;have e7:d'.size*2≤cur.size:=by rw[q2];exact aoS
     obtain⟨afj,c1,c2,c3⟩:=ah5 (n:=m) (os:=os) (d:=d') hg e7;refine fin _ (NT ν 3 (n+1) (ν (.hp 3 (n+1)))) ?_;refine hst.ag5 hE (hr:=hr3 hp) (l:=l) (l':=sN l) hh rfl h1 hl (g:=g) (by rw[←h3,e];rfl) aku fun V' hV=> ?_;have amT:(sN l).length=l.length:=by rw[←q1];simp[q2]
     rw[←h3,e];refine⟨⟨_,_,_,rfl⟩,((sN l).map fun t=>[Value.int .i64 t.1,Value.int .i64 t.2.1]),⟨?_, .inr ⟨g,cap,afj, ?_,Nat.zero_le _,c1, ?_,hm,by rw[c2];exact hcs, ?_⟩⟩,Rj _⟩
     ·rw[←q1, ←Qk,EY];simp;rfl
     ·show Value.slice (some ⟨g,0,none⟩) l.length cap=Value.slice (some ⟨g,0,none⟩) (sN l).length cap;rw[amT]
     ·show (sN l).length≤cap;rw[amT];exact hn
     ·show afj.toList.take ((sN l).length*2)=_;rw[amT, ←q2,c3,Qk,q1]
theorem amU (s:ByteArray)(c:Int)(w:World):(callFunc 177 #[.string s, .int .u8 c]).run Tryz.prog w= .ok (.value (.int .i64 (indexByte s.data.toList c.toNat.toUInt8))) w:=by rw[run_callFunc_indexByte Tryz.func177 (by kernel_rfl) (by kernel_rfl) (by kernel_rfl) (by kernel_rfl),run_indexByteString];rfl
theorem akv (s:ByteArray)(c:Int)(W:World):Calls Tryz.prog 165 #[.string s, .int .u8 c] W fun e w'=>e= .returned (.int .i64 (indexByte s.data.toList c.toNat.toUInt8))∧w'=W:=by
 have hd:=amU s c W
 go_enter Tryz.func165,Tryz.ntmps165
 go_wp2
 go_ret
 exact⟨rfl,rfl⟩
theorem JW (c:Int)(hc:0≤c)(hc2:c<256):∀(l:List UInt8) (i:Nat),Va c i l=bif Go.Lib.indexByte l c.toNat.toUInt8== -1 then -1 else i+Go.Lib.indexByte l c.toNat.toUInt8
 | [],i=>rfl
 |x::r,i=>by
  have ih:=JW c hc hc2 r (i+1);have hge:=indexByte_ge r c.toNat.toUInt8;have e:((x.toNat:Int)==c)=(x==c.toNat.toUInt8):=by
   rw[Bool.eq_iff_iff,beq_iff_eq,beq_iff_eq];constructor
   ·intro h;subst h;simp
   ·intro h;subst h;simp;omega
  simp only[Va,indexByte,e,ih];generalize c.toNat.toUInt8=u at hge ⊢;cases hx:(x==u) with
  |true=>simp
  |false=>
   cases hi:(indexByte r u== -1) with
   |true=>simp
   |false=>
    have h1:(indexByte r u+1== -1)=false:=by rw[beq_eq_false_iff_ne];omega
    simp[h1];omega
theorem Nf {T:cG}{v d:Nat}{xh:Bu T v}{yh:xA T v}(hh:(T.sig v).ae=[])(hu:KS d (T.sig v) (vd _ yh)=[]):wY T v d xh yh=aH (aL T v xh):=by
 unfold wY;rw[hu];have:∀{hs:List Nat} (h:hs=[]) (x:En T hs) (l:List aV),qt T hs hs x l=l:=fun h x l=>by subst h;rfl
 unfold qB;rw[this (by simp[IE.hout,hh])];rfl
theorem akw (x:ByteArray×Int)(y:Int)(h:(bif decide (0≤x.2)&&decide (x.2<256) then some (Va x.2 0 x.1.data.toList) else none)=some y):Mu Tryz.prog T 165 x y:=by
 refine⟨⟨_,Tryz.func165,by kernel_rfl,by kernel_rfl⟩,fun E ν args d hE hG hC hst hargs=> ?_⟩;have hs:wY T 165 d x y=aH (aL T 165 x):=Nf rfl rfl;obtain⟨s,c⟩:=x;obtain⟨v1,r1,e1,h1,v2,e2,h2⟩:mM _ [.v .str, .v (.int .u8)] (s,c) args.toList:=hargs;have h1': [v1]=[.string s]:=h1;have h2': [v2]=[.int .u8 c]:=h2;simp only[List.cons.injEq,and_true] at h1' h2';subst h1' h2' e2;obtain rfl:args= #[.string s, .int .u8 c]:=by cases args;simp_all
 cases hc:decide (0≤c)&&decide (c<256) with
 |false=>simp only[hc,cond_false] at h;cases h
 |true=>
  simp only[Bool.and_eq_true,decide_eq_true_eq] at hc;refine(akv s c E.w0).mono fun e w' ⟨he,hw⟩=> ?_;subst he hw;refine⟨_,ν,rfl,by rw[hs];exact hst, ?_⟩;rw[hs];have e3:y=indexByte s.data.toList c.toNat.toUInt8:=by
   have h':Va c 0 s.data.toList=y:=by simpa [hc.1,hc.2] using h
   rw[←h',JW c hc.1 hc.2];cases hi:(indexByte s.data.toList c.toNat.toUInt8== -1) with
   |true=>simpa using (beq_iff_eq.1 hi).symm
   |false=>simp
  rw[e3];show [Value.int .i64 _]=[Value.int .i64 _]
  rfl
abbrev afk:bN T:=fun _ _=>none
theorem ara:Zk Tryz.prog T afk:=fun v xh yh h=>by cases h
theorem aoT:ZK Tryz.prog T afk:=fun v xh yh h=>by cases h
theorem amV:Tryz.f84.body.isSome=true:=by kernel_rfl
noncomputable def Ub:Code:=Tryz.f84.body.get amV
theorem aoU:Tryz.f84.body=some Ub:=by kernel_rfl
theorem abX:IS T Tryz.f84 Ub afk 0 100084 (none:Option (List tTb.den))=some ([]:List tTb.den):=by kernel_rfl
theorem abY (x:List tTb.den):IS T Tryz.f84 Ub afk 0 100084 (some x:Option (List tTb.den))=bif aG 16 2 0 x.length then some x else none:=by kernel_rfl
theorem ah7 {E:Env}{x:Bu T 84}{z:Bu T 100084}(h:Go.Abs.Callee T E 84 x):Go.Abs.Callee T E 100084 z:=
 ⟨h.j,h.m,h.om,h.acc,fun i k hi=>h.hx i k (fun hm:i∈([]:List Nat)=>by cases hm),fun i=>by
   have:=h.ro i;exact this⟩
theorem ah8 (o:Option (List tTb.den))(y:List tTb.den)(h:IS T Tryz.f84 Ub afk 0 100084 o=some y):Mu Tryz.prog T 100084 o y:=
 TK (v:=100084) ady ara aoT Tryz.func84 aoU (by kernel_rfl) rfl h
theorem amW (x y:List tTb.den)(h:(bif aG 16 2 0 x.length then some x else none)=some y):Mu Tryz.prog T 84 x y:=by
 refine⟨⟨_,Tryz.func84,by kernel_rfl,by kernel_rfl⟩,fun E ν args d hE hG hC hst hargs=> ?_⟩;have hs0:∀z:Bu T 84,aL T 84 z=cC T:=fun z=>DA rfl;have hs1:∀z:Bu T 100084,aL T 100084 z=cC T:=fun z=>DA rfl;have go:∀o:Option (List tTb.den),IS T Tryz.f84 Ub afk 0 100084 o=some y→mM (view E (aH (cC T)) ν (fun _=>False) E.w0) [.v (.px tTb)] o args.toList→Calls Tryz.prog 84 args E.w0 (Go.Abs.Left T E 84 x y d):=fun o ho ha=>by refine((ah8 o y ho).2 E ν args d hE hG (ah7 hC) (by rw[hs1 o];rw[hs0 x] at hst;exact hst) (by rw[hs1 o];exact ha)).mono ?_;rintro e w' ⟨r,aK,rfl,h1,h2⟩;have e1:wY T 100084 d o y=aH (cC T):=(Nf (T:=T) (v:=100084) rfl rfl).trans (congrArg aH (hs1 o));have e2:wY T 84 d x y=aH (cC T):=(Nf (T:=T) (v:=84) rfl rfl).trans (congrArg aH (hs0 x));rw[e1] at h1 h2;refine⟨r,aK,rfl,by rw[e2];exact h1, ?_⟩;rw[e2];exact h2
 rw[hs0 x] at hst hargs;obtain⟨v,e1,A,c,br,h1,h2,h3,h4,h5⟩:mM _ [.v (.slice tTb)] x args.toList:=hargs;simp only[List.cons.injEq,and_true] at h1;subst h1;cases A with
 |none=>
  have hx:x=[]:=List.eq_nil_of_length_eq_zero (Nat.le_zero.1 (by have h6:=h4 rfl;subst h6;exact h2));have hc:=h4 rfl;subst hx hc;have hy:y=[]:=by have h':(some []:Option (List tTb.den))=some y:=h;simpa using h'.symm
  subst hy;exact go none abX ⟨_,e1,rfl⟩
 |some ad=>refine go (some x) ((abY x).trans h) ⟨_,e1,ad,c,br,rfl,h2,h3,fun j u hj=> ?_⟩;obtain⟨Pw,e2,hv⟩:=h5 j u hj;cases e2;exact hv
theorem akx:abQ Tryz.prog T B:=fun v g hg=>by
 unfold B at hg;split at hg
 ·cases hg;exact⟨rfl,amS⟩
 ·cases hg;exact⟨rfl,amW⟩
 ·cases hg;exact⟨rfl,akw⟩
 ·cases hg
end Go.Proofs.YtofjebmoebhiiaaGreatDoor.Ev
namespace Go.Abs
theorem zK {a b:Int}(h:a<b):decide (a<b)=true:=decide_eq_true h
theorem xy {a b:Int}(h:¬a<b):decide (a<b)=false:=decide_eq_false h
theorem aoV {a b:Int}(h:a≤b):decide (a≤b)=true:=decide_eq_true h
theorem ah9 {a b:Int}(h:¬a≤b):decide (a≤b)=false:=decide_eq_false h
theorem aia {a b:Int}(h:a>b):decide (a>b)=true:=decide_eq_true h
theorem alE {a b:Int}(h:¬a>b):decide (a>b)=false:=decide_eq_false h
theorem adB {a b:Int}(h:a≥b):decide (a≥b)=true:=decide_eq_true h
theorem aab {a b:Int}(h:¬a≥b):decide (a≥b)=false:=decide_eq_false h
theorem adC {a b:Int}(h:a=b):(a==b)=true:=beq_iff_eq.2 h
theorem JX {a b:Int}(h:¬a=b):(a==b)=false:=by simpa using h
theorem aib {a b:Int}(h:¬a=b):(a != b)=true:=by simpa [bne] using h
theorem aic {a b:Int}(h:a=b):(a != b)=false:=by simp[bne,h]
theorem rb {xs:List Int}{i:Int}(h0:0≤i)(h:i<xs.length):idx xs i=some (xs.getD i.toNat 0):=by
 obtain⟨n,rfl⟩:=Int.eq_ofNat_of_zero_le h0;show xs[n]? =_;have:n<xs.length:=by omega
 simp[List.getD,this]
theorem Uc {xs:List Int}{k:Nat}(h:k<xs.length):xs[k]? =some (xs.getD k 0):=by simp[List.getD,h]
theorem adD {α:Type}(d:α){xs:List α}{i:Int}(h0:0≤i)(h:i<xs.length):idx xs i=some (xs.getD i.toNat d):=by
 obtain⟨n,rfl⟩:=Int.eq_ofNat_of_zero_le h0;show xs[n]? =_;have:n<xs.length:=by omega
 simp[List.getD,this]
theorem Sc {b s n m:Nat}(h0:0<s)(h:(n+m)*b≤140737488355328):aG b s n m=true:=by unfold aG;rw[Bool.and_eq_true];exact⟨Nat.ble_eq_true_of_le h0,Nat.ble_eq_true_of_le h⟩
theorem OM {b:Nat}{l c:Int}(h0:0≤l)(h1:l≤c)(h2:(b:Int)*c≤140737488355328):je b l c=true:=by unfold je;simp[h0,h1,h2]
theorem adE {n:Nat}{l h:Int}(h0:0≤l)(h1:l≤h)(h2:h≤n):di n l h=true:=by unfold di;simp[h0,h1,h2]
theorem aoW {a b:Nat}(h:a≤b):Nat.ble a b=true:=Nat.ble_eq_true_of_le h
def val (B:Int):List Int→Int
 | []=>0
 |x::xs=>x+B*val B xs
def gU (B:Int)(d:List Int):Prop:=∀x∈d,0≤x∧x<B
theorem gU.nil {B:Int}:gU B []:=fun x h=>by cases h
theorem gU.cons {B x:Int}{d:List Int}(h0:0≤x)(h1:x<B)(h:gU B d):gU B (x::d):=fun y hy=>by
 rcases List.mem_cons.1 hy with rfl |hy
 ·exact⟨h0,h1⟩
 ·exact h y hy
theorem gU.head {B x:Int}{d:List Int}(h:gU B (x::d)):0≤x∧x<B:=h x (by simp)
theorem gU.tail {B x:Int}{d:List Int}(h:gU B (x::d)):gU B d:=fun y hy=>h y (by simp[hy])
theorem gU.append {B:Int}{d e:List Int}(h1:gU B d)(h2:gU B e):gU B (d++e):=fun y hy=>by
 rcases List.mem_append.1 hy with hy |hy
 ·exact h1 y hy
 ·exact h2 y hy
theorem gU.left {B:Int}{d e:List Int}(h:gU B (d++e)):gU B d:=fun y hy=>h y (by simp[hy])
theorem gU.right {B:Int}{d e:List Int}(h:gU B (d++e)):gU B e:=fun y hy=>h y (by simp[hy])
theorem gU.drop {B:Int}{d:List Int}(h:gU B d)(k:Nat):gU B (d.drop k):=fun y hy=>h y (List.mem_of_mem_drop hy)
theorem gU.take {B:Int}{d:List Int}(h:gU B d)(k:Nat):gU B (d.take k):=fun y hy=>h y (List.mem_of_mem_take hy)
theorem gU.getD {B:Int}{d:List Int}(h:gU B d)(hB:0<B)(k:Nat):0≤d.getD k 0∧d.getD k 0<B:=by
 by_cases hk:k<d.length
 ·have:d.getD k 0=d[k]:=by simp[List.getD,hk]
  rw[this];exact h _ (List.getElem_mem hk)
 ·have:d.getD k 0=0:=by have h':d[k]? =none:=List.getElem?_eq_none (by omega);simp[List.getD,h']
  rw[this];exact⟨by omega,hB⟩
theorem gU.replicate {B:Int}(hB:0<B)(n:Nat):gU B (List.replicate n 0):=fun y hy=>by obtain⟨_,rfl⟩:=List.mem_replicate.1 hy;exact⟨by omega,hB⟩
theorem gU.set {B x:Int}{d:List Int}(h:gU B d)(h0:0≤x)(h1:x<B)(k:Nat):gU B (d.set k x):=fun y hy=>by
 rcases List.mem_or_eq_of_mem_set hy with hy |rfl
 ·exact h y hy
 ·exact⟨h0,h1⟩
theorem ky {B:Int}(hB:0≤B):∀{d:List Int},gU B d→0≤val B d
 | [],_=>by simp[val]
 |x::d,h=>by have h1:=h.head.1;have h2:=ky hB h.tail;have:=Int.mul_nonneg hB h2;simp only[val];omega
theorem fo (B:Int):∀(d e:List Int),val B (d++e)=val B d+B^d.length*val B e
 | [],e=>by simp[val]
 |x::d,e=>by simp only[List.cons_append,val,fo B d e,List.length_cons,Int.pow_succ,Int.mul_add];rw[←Int.mul_assoc,Int.mul_comm B (B^d.length)];omega
theorem L8 (B:Int)(n:Nat):val B (List.replicate n 0)=0:=by
 induction n with
 |zero=>rfl
 |succ n ih=>rw[List.replicate_succ,val,ih];simp
theorem Ao {B:Int}(hB:0<B):∀{d:List Int},gU B d→val B d<B^d.length
 | [],_=>by simp[val]
 |x::d,h=>by have h1:=h.head.2;have h2:=Ao hB h.tail;have h3:B*(val B d+1)≤B*B^d.length:=Int.mul_le_mul_of_nonneg_left (by omega) (by omega);simp only[val,List.length_cons,Int.pow_succ];rw[Int.mul_comm (B^d.length) B];rw[Int.mul_add] at h3;omega
def nI:List Int→List Int
 | []=>[]
 |x::xs=>match nI xs with
  | []=>if x=0 then [] else [x]
  |y::ys=>x::y::ys
theorem zL:∀d:List Int,nI (d++[0])=nI d
 | []=>rfl
 |x::d=>by simp only[List.cons_append,nI,zL d]
theorem C5 {y:Int}(hy:y≠0):∀d:List Int,nI (d++[y])=d++[y]
 | []=>by simp[nI,hy]
 |x::d=>by simp only[List.cons_append,nI,C5 hy d];cases d<;>rfl
theorem Bp:∀d:List Int,(nI d).length≤d.length
 | []=>Nat.le_refl _
 |x::d=>by
  have:=Bp d;simp only[nI];split
  ·split<;>simp
  ·rename_i y ys h;rw[h] at this;simp at this ⊢;omega
def UQ (B:Nat)(n:Nat):List Int:=if h:n=0∨B≤1 then [] else ((n % B:Nat):Int)::UQ B (n / B)
termination_by n
decreasing_by exact Nat.div_lt_self (by omega) (by omega)
theorem ee (B:Nat):UQ B 0=[]:=by rw[UQ];simp
theorem yQ {B n:Nat}(hB:1<B)(hn:0<n):UQ B n=((n % B:Nat):Int)::UQ B (n / B):=by rw[UQ,dif_neg (by omega)]
theorem mC {B n:Nat}(hB:1<B):UQ B n=[]↔n=0:=by
 constructor
 ·intro h;by_cases hn:n=0
  ·exact hn
  ·rw[yQ hB (by omega)] at h;cases h
 ·rintro rfl;exact ee B
theorem XZ {B:Nat}(hB:1<B):∀n,gU B (UQ B n):=by
 intro n;induction n using Nat.strongRecOn with
 |ind n ih=>
  by_cases hn:n=0
  ·subst hn;rw[ee];exact gU.nil
  ·rw[yQ hB (by omega)];have:=Nat.mod_lt n (show B>0 by omega);exact gU.cons (by omega) (by omega) (ih _ (Nat.div_lt_self (by omega) hB))
theorem X0 {B:Nat}(hB:1<B):∀n,val B (UQ B n)=n:=by
 intro n;induction n using Nat.strongRecOn with
 |ind n ih=>
  by_cases hn:n=0
  ·subst hn;rw[ee];rfl
  ·rw[yQ hB (by omega),val,ih _ (Nat.div_lt_self (by omega) hB)];have:=Nat.mod_add_div n B;omega
theorem F6 {B:Nat}(hB:1<B):∀d:List Int,gU B d→nI d=UQ B (val B d).toNat
 | [],_=>by simp[nI,val,ee]
 |x::d,h=>by
  have ih:=F6 hB d h.tail;have hx:=h.head;have hv:=ky (B:=B) (by omega) h.tail;obtain⟨v,hv'⟩:=Int.eq_ofNat_of_zero_le hv;obtain⟨a,rfl⟩:=Int.eq_ofNat_of_zero_le hx.1;have hab:a<B:=by omega
  simp only[nI,val,hv'];rw[hv'] at ih;have e:((a:Int)+(B:Int)*(v:Int)).toNat=a+B*v:=by rw[←Int.natCast_mul, ←Int.natCast_add];exact Int.toNat_natCast _
  rw[e];simp only[Int.toNat_natCast] at ih;by_cases hv0:v=0
  ·subst hv0;rw[ee] at ih;rw[ih];simp only;by_cases ha:a=0
   ·subst ha;simp[ee]
   ·rw[yQ hB (by omega)];have h1:(a+B*0) % B=a:=by simp[Nat.mod_eq_of_lt hab]
    have h2:(a+B*0) / B=0:=by simp[Nat.div_eq_of_lt hab]
    rw[h1,h2,ee,if_neg (by omega)]
  ·have hpos:0<a+B*v:=by have:0<B*v:=Nat.mul_pos (by omega) (by omega);omega
   rw[yQ hB hpos];have h1:(a+B*v) % B=a:=by rw[Nat.add_mul_mod_self_left,Nat.mod_eq_of_lt hab]
   have h2:(a+B*v) / B=v:=by rw[Nat.add_mul_div_left _ _ (by omega:0<B),Nat.div_eq_of_lt hab];omega
   rw[h1,h2,ih];have hne:UQ B v≠ []:=fun e=>hv0 ((mC hB).1 e);split
   ·rename_i e;exact absurd e hne
   ·rename_i y ys e;rw[e]
theorem abZ {B:Nat}(hB:1<B){d:List Int}(h:gU B d)(ht:nI d=d):d=UQ B (val B d).toNat:=by rw[←F6 hB d h,ht]
theorem ON {B:Nat}(hB:1<B)(n:Nat):nI (UQ B n)=UQ B n:=by rw[F6 hB _ (XZ hB n),X0 hB];rfl
theorem aO {B:Nat}(hB:1<B):∀(k n:Nat),(UQ B n).length≤k↔n<B^k
 |0,n=>by
  rw[Nat.pow_zero];constructor
  ·intro h;have:=(mC (n:=n) hB).1 (List.length_eq_zero_iff.1 (Nat.le_zero.1 h));omega
  ·intro h;have:n=0:=by omega
   subst this;simp[ee]
 |k+1,n=>by
  by_cases hn:n=0
  ·subst hn;simp only[ee,List.length_nil];exact⟨fun _=>Nat.pow_pos (by omega),fun _=>by omega⟩
  ·rw[yQ hB (by omega),List.length_cons];have:=aO hB k (n / B);rw[Nat.pow_succ, ←Nat.div_lt_iff_lt_mul (by omega)];omega
theorem fL {B:Nat}(hB:1<B)(k n:Nat):k<(UQ B n).length↔B^k≤n:=by have:=aO hB k n;omega
theorem Rk {B:Nat}(hB:1<B){n:Nat}:∀{d:List Int} {y:Int},UQ B n=d++[y]→y≠0:=by intro d y h hy;subst hy;have h1:=ON hB n;rw[h,zL] at h1;have h2:=Bp d;rw[h1] at h2;simp at h2;omega
theorem rL (l:List Int)(k j:Nat):(l.drop k).getD j 0=l.getD (k+j) 0:=by simp[List.getD,List.getElem?_drop]
theorem drop_eq {l:List Int}{k:Nat}(h:k<l.length):l.drop k=l.getD k 0::l.drop (k+1):=by rw[List.drop_eq_getElem_cons h];simp[List.getD,h]
theorem drop_nil {l:List Int}{k:Nat}(h:l.length≤k):l.drop k=[]:=List.drop_eq_nil_of_le h
theorem getD_none {l:List Int}{k:Nat}(h:l.length≤k):l.getD k 0=0:=by have h':l[k]? =none:=List.getElem?_eq_none (by omega);simp[List.getD,h']
theorem aoX {α:Type}(d:List α)(h:Int):cut d 0 h=d.take h.toNat:=by simp[cut]
theorem bA {a b:Int}(h:0≤a):a.tmod b=a % b:=Int.tmod_eq_emod_of_nonneg h
theorem mc {a b:Int}(h:0≤a):a.tdiv b=a / b:=Int.tdiv_eq_ediv_of_nonneg h
theorem dF {l:List Int}{k:Nat}(h:k<l.length):l.take (k+1)=l.take k++[l.getD k 0]:=by rw[List.take_add_one];simp[List.getD,h]
def mK (x y:Int):Int:=if x<y then -1 else if y<x then 1 else 0
theorem mX {x y:Int}(h:x<y):mK x y= -1:=by unfold mK;rw[if_pos h]
theorem o5 {x y:Int}(h:y<x):mK x y=1:=by unfold mK;rw[if_neg (by omega),if_pos h]
theorem wL {x y:Int}(h:x=y):mK x y=0:=by unfold mK;rw[if_neg (by omega),if_neg (by omega)]
theorem Ng {x y:Int}:mK x y<0↔x<y:=by
 unfold mK;by_cases h1:x<y
 ·rw[if_pos h1];omega
 ·rw[if_neg h1];split<;>omega
theorem X1 {B:Int}(hB:0<B){d e:List Int}{x y:Int}(hd:gU B d)(he:gU B e)(hl:d.length=e.length)(h:x<y):val B (d++[x])<val B (e++[y]):=by
 rw[fo,fo];have h1:=Ao hB hd;have h2:=ky (by omega) he;rw[hl] at h1 ⊢;have h3:B^e.length*(x+1)≤B^e.length*y:=Int.mul_le_mul_of_nonneg_left (by omega) (Int.pow_nonneg (by omega));rw[Int.mul_add] at h3;simp only[val];simp only[Int.mul_zero,Int.add_zero] at*
 omega
section
variable {α β:Type}{x y:α}{a b:Int}
theorem cT (x y:α):(bif true then x else y)=x:=(cond_true x y).trans (Eq.refl x)
theorem cF (x y:α):(bif false then x else y)=y:=(cond_false x y).trans (Eq.refl y)
theorem bS (z:α)(f:α→Option β):(some z).bind f=f z:=(Option.bind_some z f).trans (Eq.refl _)
theorem c_t {c:Bool}(h:c=true):(bif c then x else y)=x:=by rw[h];exact cT _ _
theorem c_f {c:Bool}(h:c=false):(bif c then x else y)=y:=by rw[h];exact cF _ _
theorem ax (h:a<b):(bif decide (a<b) then x else y)=x:=c_t (zK h)
theorem aq (h:¬a<b):(bif decide (a<b) then x else y)=y:=c_f (xy h)
theorem OO (h:a≤b):(bif decide (a≤b) then x else y)=x:=c_t (aoV h)
theorem Ud (h:¬a≤b):(bif decide (a≤b) then x else y)=y:=c_f (ah9 h)
theorem cX (h:a>b):(bif decide (a>b) then x else y)=x:=c_t (aia h)
theorem c5 (h:¬a>b):(bif decide (a>b) then x else y)=y:=c_f (alE h)
theorem xz (h:a≥b):(bif decide (a≥b) then x else y)=x:=c_t (adB h)
theorem u9 (h:¬a≥b):(bif decide (a≥b) then x else y)=y:=c_f (aab h)
theorem gT (h:a=b):(bif a==b then x else y)=x:=c_t (adC h)
theorem eS (h:¬a=b):(bif a==b then x else y)=y:=c_f (JX h)
theorem kz (h:¬a=b):(bif !(a==b) then x else y)=x:=c_t (by rw[JX h];exact Eq.refl _)
theorem F7 (h:¬a=b):(bif a != b then x else y)=x:=c_t (aib h)
theorem nP (h:a=b):(bif a != b then x else y)=y:=c_f (aic h)
theorem iT {p s n m:Nat}(h0:0<s)(h:(n+m)*p≤140737488355328):(bif aG p s n m then x else y)=x:=c_t (Sc h0 h)
theorem Ic {p:Nat}{l c:Int}(h0:0≤l)(h1:l≤c)(h2:(p:Int)*c≤140737488355328):(bif je p l c then x else y)=x:=c_t (OM h0 h1 h2)
theorem F8 {n:Nat}{l h:Int}(h0:0≤l)(h1:l≤h)(h2:h≤n):(bif di n l h then x else y)=x:=c_t (adE h0 h1 h2)
theorem arb {m n:Nat}(h:m≤n):(bif Nat.ble m n then x else y)=x:=c_t (aoW h)
theorem fI {xs:List Int}{i:Int}{f:Int→Option β}(h0:0≤i)(h:i<xs.length):(idx xs i).bind f=f (xs.getD i.toNat 0):=by rw[rb h0 h];exact bS _ _
theorem qu {xs:List Int}{k:Nat}{f:Int→Option β}(h:k<xs.length):(xs[k]?).bind f=f (xs.getD k 0):=by rw[Uc h];exact bS _ _
end
end Go.Abs
namespace Go.Proofs.YtofjebmoebhiiaaGreatDoor.Ev
open Go.Abs Go.IntWalk
abbrev VU (d:List Int):Int:=val 1000000000 d
abbrev DU (d:List Int):Prop:=gU 1000000000 d
abbrev dU (n:Nat):List Int:=UQ 1000000000 n
theorem IC (n:Nat):DU (dU n):=XZ (B:=1000000000) (by omega) n
theorem JY (n:Nat):VU (dU n)=n:=X0 (B:=1000000000) (by omega) n
theorem adG {d:List Int}(h:DU d):nI d=dU (VU d).toNat:=F6 (B:=1000000000) (by omega) d h
theorem yo {d:List Int}(h:DU d):0≤VU d:=ky (by omega) h
def W (z:Int):Bool×List Int×Unit:=(decide (z<0),dU z.natAbs,())
theorem afl:∀(n:Nat) (d:List Int),d.length=n→n≤1000000000000000→nO d=some (nI d):=by
 intro n;induction n with
 |zero=>intro d hd hn;have:d=[]:=List.length_eq_zero_iff.1 hd;subst this;rw[B2,yF];rfl
 |succ n ih=>
  intro d hd hn;obtain⟨d',y,rfl⟩:∃d' y,d=d'++[y]:=by
   have hne:d≠ []:=fun e=>by rw[e] at hd;cases hd
   exact⟨d.dropLast,d.getLast hne,(List.dropLast_concat_getLast hne).symm⟩
  have hl:d'.length=n:=by simpa using hd
  have hy:(d'++[y]).getD d'.length 0=y:=by simp[List.getD]
  have ht:(d'++[y]).take d'.length=d':=by simp
  rw[B2,yF];simp only[List.length_append,List.length_cons,List.length_nil];simp (disch:=omega) only[i64_in,aia,cond_true,adE,aoX];rw[rb (by omega) (by simp;omega)];have e:(((d'.length+(0+1):Nat):Int) - 1).toNat=d'.length:=by omega
  rw[e,hy,ht];simp only[Option.bind_some];by_cases h0:y=0
  ·subst h0;rw[zL,ih d' hl (by omega)];rfl
  ·rw[JX h0,C5 h0];rfl
theorem Ea {d:List Int}(h:d.length≤1000000000000000):ni d=some (nI d):=by rw[Q6,MG];exact afl _ d rfl h
theorem yS {neg:Bool}{d:List Int}(hd:DU d)(h:d.length≤1000000000000000):jl neg d=some (W (bif neg then -VU d else VU d)):=by
 rw[LQ,G3,Ea h,adG hd];have hv:=yo hd;obtain⟨v,hv'⟩:=Int.eq_ofNat_of_zero_le hv;rw[hv'];simp only[Option.bind_some,Int.toNat_natCast];have hl:(0<(dU v).length)↔0<v:=by have:=fL (B:=1000000000) (by omega) 0 v;rw[Nat.pow_zero] at this;exact this
 cases neg with
 |true=>have e:decide (((dU v).length:Int)>0)=decide (-(v:Int)<0):=decide_eq_decide.2 ⟨fun h=>by have:=hl.1 (by omega);omega,fun h=>by have:=hl.2 (by omega);omega⟩;simp only[cond_true,W,Int.natAbs_neg,Int.natAbs_natCast,e]
 |false=>simp only[cond_false,W,Int.natAbs_natCast];rw[xy (by omega)]
theorem afm {a b:List Int}(ha:DU a)(hb:DU b)(hl:a.length=b.length)(hl':a.length≤1000000000000):∀(k:Nat),k≤a.length→
  nN a b ((k:Int) - 1)=some (mK (VU (a.take k)) (VU (b.take k))):=by
 intro k;induction k with
 |zero=>intro hk;rw[BY,yE];simp (disch:=omega) only[aab,cond_false];simp[mK]
 |succ k ih=>
  intro hk;rw[BY,yE];have e:((k+1:Nat):Int) - 1=k:=by omega
  rw[e,dF (show k<a.length by omega),dF (show k<b.length by omega)];simp (disch:=omega) only[adB,cond_true,rb,Option.bind_some,Int.toNat_natCast,i64_in];have hta:(a.take k).length=(b.take k).length:=by simp;omega
  by_cases h:a.getD k 0=b.getD k 0
  ·rw[aic h,ih (by omega)];simp only[cond_false,VU,fo,hta,h];generalize (1000000000:Int)^(b.take k).length*val 1000000000 [b.getD k 0]=z;by_cases h1:val 1000000000 (a.take k)<val 1000000000 (b.take k)
   ·rw[mX h1,mX (by omega)]
   ·by_cases h2:val 1000000000 (b.take k)<val 1000000000 (a.take k)
    ·rw[o5 h2,o5 (by omega)]
    ·rw[wL (by omega),wL (by omega)]
  ·rw[aib h];simp only[cond_true];by_cases h1:a.getD k 0<b.getD k 0
   ·rw[zK h1];rw[mX (X1 (by omega) (ha.take k) (hb.take k) hta h1)];rfl
   ·rw[xy h1];rw[o5 (X1 (by omega) (hb.take k) (ha.take k) hta.symm (by omega))];rfl
theorem JZ {m n:Nat}(hm:(dU m).length≤1000000000000)(hn:(dU n).length≤1000000000000):ze (dU m) (dU n)=some (mK m n):=by
 rw[Q4,ME];by_cases h:(dU m).length=(dU n).length
 ·have:=afm (IC m) (IC n) h hm (dU m).length (Nat.le_refl _);rw[aic (by omega)];simp (disch:=omega) only[cond_false,i64_in];rw[this,h,List.take_length];rw[←h,List.take_length,JY,JY]
 ·rw[aib (by omega)];have l1:=(aO (B:=1000000000) (by omega) (dU m).length m).1 (Nat.le_refl _);have l2:=(aO (B:=1000000000) (by omega) (dU n).length n).1 (Nat.le_refl _);simp only[cond_true];by_cases h1:(dU m).length<(dU n).length
  ·rw[zK (by omega)];have:=(fL (B:=1000000000) (by omega) (dU m).length n).1 h1;rw[mX (by omega)];rfl
  ·rw[xy (by omega)];have:=(fL (B:=1000000000) (by omega) (dU n).length m).1 (show (dU n).length<(dU m).length by omega);rw[o5 (by omega)];rfl
theorem aie {m n:Nat}(h:m≤n):(dU m).length≤(dU n).length:=by have l2:=(aO (B:=1000000000) (by omega) (dU n).length n).1 (Nat.le_refl _);exact(aO (B:=1000000000) (by omega) (dU n).length m).2 (by omega)
def Ln (z:Int):Nat:=(dU z.natAbs).length
theorem F9 (z:Int)(k:Nat):Ln z≤k↔z.natAbs<1000000000^k:=aO (B:=1000000000) (by omega) k z.natAbs
theorem adH (z:Int):z.natAbs<1000000000^Ln z:=(F9 z _).1 (Nat.le_refl _)
theorem aky {x y:Int}(h:x.natAbs≤y.natAbs):Ln x≤Ln y:=aie h
theorem aif (x y:Int):Ln (x*y)≤Ln x+Ln y:=by rw[F9,Int.natAbs_mul,Nat.pow_add];have h1:=adH x;have h2:=adH y;exact Nat.mul_lt_mul'' h1 h2
theorem wM (z:Int):((W z).1,((W z).2.1,()))=W z:=rfl
theorem W_1 (z:Int):(W z).1=decide (z<0):=rfl
theorem W_2 (z:Int):(W z).2.1=dU z.natAbs:=rfl
theorem o6 (z:Int):(dU z.natAbs).length=Ln z:=rfl
theorem Ql {x:Int}(hx:Ln x≤100000000000):po (W x)=some (W (-x)):=by
 rw[Fw,Ae];simp only[W_1,W_2];rw[yS (IC _) (show (dU x.natAbs).length≤_ by rw[o6];omega),JY];by_cases h:x<0
 ·rw[zK h];have:(bif !true then -(x.natAbs:Int) else (x.natAbs:Int))= -x:=by simp only[Bool.not_true,cond_false];omega
  rw[this];rfl
 ·rw[xy h];have:(bif !false then -(x.natAbs:Int) else (x.natAbs:Int))= -x:=by simp only[Bool.not_false,cond_true];omega
  rw[this];rfl
theorem aih (x:Int):((W x).2.1.length:Int)=(Ln x:Int):=rfl
theorem zM (x:Int):Ln x=0↔x=0:=by have:=F9 x 0;rw[Nat.pow_zero] at this;omega
def ab0 (x:Int):Int:=if x<0 then -1 else if 0<x then 1 else 0
theorem wN (x:Int):iL (W x)=some (ab0 x):=by
 rw[DJ,yd,aih,W_1];have h0:=zM x;unfold ab0;by_cases hz:x=0
 ·rw[adC (by omega)];simp[hz]
 ·rw[JX (by omega)];simp only[cond_false];by_cases h:x<0
  ·rw[zK h,if_pos h];rfl
  ·rw[xy h,if_neg h,if_pos (by omega)];rfl
theorem j5 {x y:Int}(hx:Ln x≤100000000000)(hy:Ln y≤100000000000):fK (W x) (W y)=some (mK x y):=by
 rw[Fu,Ac];simp only[W_1,W_2];rw[JZ (show (dU x.natAbs).length≤_ by rw[o6];omega) (show (dU y.natAbs).length≤_ by rw[o6];omega),
  JZ (show (dU y.natAbs).length≤_ by rw[o6];omega) (show (dU x.natAbs).length≤_ by rw[o6];omega)]
 simp only[Option.bind_some];by_cases h1:x<0<;>by_cases h2:y<0
 ·rw[zK h1,zK h2];simp only[beq_self_eq_true,Bool.not_true,cond_false,cond_true,Option.some.injEq];unfold mK;by_cases h3:x<y
  ·rw[if_pos h3,if_pos (by omega)]
  ·rw[if_neg h3,if_neg (by omega)];by_cases h4:y<x
   ·rw[if_pos h4,if_pos (by omega)]
   ·rw[if_neg h4,if_neg (by omega)]
 ·rw[zK h1,xy h2,mX (x:=x) (y:=y) (by omega)];rfl
 ·rw[xy h1,zK h2,o5 (x:=x) (y:=y) (by omega)];rfl
 ·rw[xy h1,xy h2];simp only[beq_self_eq_true,Bool.not_true,cond_false,Option.some.injEq];unfold mK;by_cases h3:x<y
  ·rw[if_pos h3,if_pos (by omega)]
  ·rw[if_neg h3,if_neg (by omega)];by_cases h4:y<x
   ·rw[if_pos h4,if_pos (by omega)]
   ·rw[if_neg h4,if_neg (by omega)]
theorem adI (neg:Bool)(t:Bool)(t2:List Int):∀(n:Nat) (u:Nat) (d:List Int),u<1000000000^n→u<18446744073709551616→d.length+n≤1000→uz u neg d t t2=some (neg,(d++dU u,())):=by
 intro n;induction n with
 |zero=>
  intro u d hu hu' hd;have:u=0:=by rw[Nat.pow_zero] at hu;omega
  subst this;rw[G1,DH];simp[dU,ee]
 |succ n ih=>
  intro u d hu hu' hd;rw[G1,DH];by_cases h0:u=0
  ·subst h0;simp[dU,ee]
  ·have ht:([(u:Int) % 1000000000]:List Int).length=1:=rfl;simp (disch:=omega) only[aia,cond_true,bA,u32_in,u64_quo,ht,Sc];have e1:((u:Int) / 1000000000)=((u / 1000000000:Nat):Int):=by omega
   have e2:((u:Int) % 1000000000)=((u % 1000000000:Nat):Int):=by omega
   rw[Nat.pow_succ] at hu;rw[e1,e2,ih (u / 1000000000) _ (by omega) (by omega) (by simp;omega)];rw[show dU u=_ from yQ (B:=1000000000) (by omega) (by omega)];simp
theorem Ww {n:Int}(h0: -9223372036854775808≤n)(h1:n≤9223372036854775807):xQ n=some (W n):=by
 rw[Wt,TT];by_cases h:n<0
 ·have e1:IntKind.wrap .u64 n=n+18446744073709551616:=by rw[IntKind.wrap_u64];omega
  have e2:IntKind.wrap .u64 (0 - (n+18446744073709551616))=(n.natAbs:Int):=by rw[IntKind.wrap_u64];omega
  rw[zK h,e1,e2,adI _ _ _ 3 n.natAbs [] (by omega) (by omega) (by simp)];simp[W,h]
 ·have e1:IntKind.wrap .u64 n=(n.natAbs:Int):=by rw[IntKind.wrap_u64];omega
  rw[xy h,e1,adI _ _ _ 3 n.natAbs [] (by omega) (by omega) (by simp)];simp[W,h]
end Go.Proofs.YtofjebmoebhiiaaGreatDoor.Ev
namespace Go.Abs
theorem C6 {l:List Int}{n:Nat}{v:Int}(h:n<l.length):(l.set n v).take (n+1)=l.take n++[v]:=by rw[dF (by simpa using h),List.take_set_of_le (Nat.le_refl n)];simp[List.getD,h]
theorem set_drop {l:List Int}{n:Nat}{v:Int}:(l.set n v).drop (n+1)=l.drop (n+1):=by rw[List.drop_set_of_lt (by omega)]
theorem Ue (l:List Int)(k:Nat):l=l.take k++l.drop k:=(List.take_append_drop k l).symm
theorem J0 (n j:Nat):(List.replicate n (0:Int)).getD j 0=0:=by
 by_cases h:j<n
 ·simp only[List.getD,List.getElem?_replicate,if_pos h];rfl
 ·exact getD_none (by simp;omega)
theorem afn {x y:Int}(hx:0≤x∧x<1000000000)(hy:0≤y∧y<1000000000):0≤x*y∧x*y≤999999998000000001:=by have h1:=Int.mul_nonneg hx.1 hy.1;have h2:x*y≤999999999*y:=Int.mul_le_mul_of_nonneg_right (by omega) hy.1;exact⟨h1,by omega⟩
end Go.Abs
namespace Go.Proofs.YtofjebmoebhiiaaGreatDoor.Ev
open Go.Abs Go.IntWalk
def amL:List Int→Int→List Int→Int→List Int
 | [],x,o::os,c=>c::os
 | [],x,[],c=>[]
 |y::ys,x,o::os,c=>(x*y+o+c) % 1000000000::amL ys x os ((x*y+o+c) / 1000000000)
 |y::ys,x,[],c=>[]
def mlL:List Int→List Int→List Int→List Int
 | [],b,o=>o
 |x::xs,b,o=>match amL b x o 0 with
  | []=>[]
  |h::t=>h::mlL xs b t
theorem Nh:∀(b:List Int) (x:Int) (o:List Int) (c:Int),b.length<o.length→(amL b x o c).length=o.length
 | [],x,[],c,h=>by simp at h
 | [],x,o::os,c,h=>by simp[amL]
 |y::ys,x,[],c,h=>by simp at h
 |y::ys,x,o::os,c,h=>by simp only[amL,List.length_cons];rw[Nh ys x os _ (by simpa using h)]
theorem X2:∀(b:List Int) (x:Int) (o:List Int) (c:Int),b.length<o.length→DU b→DU o→0≤x∧x<1000000000→0≤c∧c<1000000000→o.getD b.length 0=0→
  VU (amL b x o c)=VU o+x*VU b+c∧DU (amL b x o c)∧(amL b x o c).drop (b.length+1)=o.drop (b.length+1)
 | [],x,[],c,h,hb,ho,hx,hc,hz=>by simp at h
 | [],x,o::os,c,h,hb,ho,hx,hc,hz=>by
   have:o=0:=by simpa using hz
   subst this;simp only[amL];exact⟨by simp[VU,val];omega,gU.cons hc.1 hc.2 ho.tail,by simp⟩
 |y::ys,x,[],c,h,hb,ho,hx,hc,hz=>by simp at h
 |y::ys,x,o::os,c,h,hb,ho,hx,hc,hz=>by
  have hy:=hb.head;have hoo:=ho.head;have hm:=afn hx hy;obtain⟨e1,e2,e3⟩:=X2 ys x os ((x*y+o+c) / 1000000000) (by simpa using h) hb.tail ho.tail hx (by omega) (by simpa using hz);simp only[amL];refine⟨?_,gU.cons (by omega) (by omega) e2,by simpa using e3⟩;simp only[VU,val] at e1 ⊢;have e4:x*(y+1000000000*val 1000000000 ys)=x*y+1000000000*(x*val 1000000000 ys):=by rw[Int.mul_add,Int.mul_left_comm]
  rw[e1,e4];omega
theorem adK:∀(a b o:List Int),o.length=a.length+b.length→DU a→DU b→DU o→(∀j,b.length≤j→o.getD j 0=0)→
  VU (mlL a b o)=VU o+VU a*VU b∧DU (mlL a b o)∧(mlL a b o).length=o.length
 | [],b,o,hl,ha,hb,ho,hz=>by simp[mlL,VU,val];exact ho
 |x::xs,b,o,hl,ha,hb,ho,hz=>by
  have hlt:b.length<o.length:=by simp at hl;omega
  obtain⟨e1,e2,e3⟩:=X2 b x o 0 hlt hb ho ha.head ⟨by omega,by omega⟩ (hz _ (Nat.le_refl _));have e4:=Nh b x o 0 hlt;simp only[mlL];split
  ·rename_i e;rw[e] at e4;simp at e4;omega
  ·rename_i h t e;rw[e] at e1 e2 e3 e4;obtain⟨f1,f2,f3⟩:=adK xs b t (by simp at hl e4;omega) ha.tail hb e2.tail (fun j hj=>by
    have h5:(h::t).drop (b.length+1)=t.drop b.length:=rfl;have h6:t.getD j 0=(t.drop b.length).getD (j - b.length) 0:=by rw[rL];congr 1;omega
    rw[h6, ←h5,e3,rL];exact hz _ (by omega))
   refine⟨?_,gU.cons e2.head.1 e2.head.2 f2,by simp[f3] at e4 ⊢;omega⟩;simp only[VU,val] at e1 f1 ⊢;rw[f1,Int.add_mul,Int.mul_assoc];omega
theorem afo {a b:List Int}{sa sb:Bool}{t8:List Int}{t7:Bool}{x:Int}{i:Nat}(hb:DU b)(hx:0≤x∧x<1000000000)(hi:i<a.length)(hl:a.length≤1000000000000)(hl':b.length≤1000000000000):
  ∀(m k:Nat) (c:Int) (out:List Int),m+k=b.length→out.length=a.length+b.length→DU out→0≤c∧c<1000000000→
  fB i x c a a.length i b b.length k out sa a sb b t7 t8=dn a a.length (i+1) (out.take (i+k)++amL (b.drop k) x (out.drop (i+k)) c) sa a sb b t7 t8:=by
 intro m;induction m with
 |zero=>
  intro k c out hk ho hd hc;have hk':k=b.length:=by omega
  subst hk';rw[sj,od];simp (disch:=omega) only[xy,cond_false,i64_in,u32_in];rw[rb (by omega) (by omega),Uc (show ((i:Int)+b.length).toNat<out.length by omega)];have e:((i:Int)+b.length).toNat=i+b.length:=by omega
  simp only[Option.bind_some,e];rw[drop_nil (Nat.le_refl _),drop_eq (show i+b.length<out.length by omega)];simp only[amL]
  congr 1
  conv=>lhs;rw[Ue (out.set (i+b.length) c) (i+b.length+1)]
  rw[C6 (by omega),set_drop];simp
 |succ m ih=>
  intro k c out hk ho hd hc;have hy:=hb.getD (by omega) k;have hoo:=hd.getD (by omega) (i+k);have hm:=afn hx hy;rw[sj,od];have e:((i:Int)+k).toNat=i+k:=by omega
  simp (disch:=omega) only[zK,cond_true,i64_in,rb,Uc,Option.bind_some,u64_in,Int.toNat_natCast,e];simp (disch:=omega) only[u64_in,u64_quo,bA,u32_in];have vg:=fun c out=>ih (k+1) c out (by omega);simp only[Int.natCast_add,Int.natCast_one] at vg;rw[vg _ _ (by simp[ho]) (hd.set (by omega) (by omega) _) (by omega)]
  congr 1
  rw[drop_eq (show k<b.length by omega),drop_eq (show i+k<out.length by omega)];simp only[amL];rw[show i+(k+1)=i+k+1 by omega,C6 (by omega),set_drop];have e2:c+(x*b.getD k 0+out.getD (i+k) 0)=x*b.getD k 0+out.getD (i+k) 0+c:=by omega
  rw[e2];simp
theorem afp {a b:List Int}{sa sb:Bool}{t8:List Int}{t7:Bool}(ha:DU a)(hb:DU b)(hl:a.length≤1000000000000)(hl':b.length≤1000000000000):
  ∀(m i:Nat) (out:List Int),m+i=a.length→out.length=a.length+b.length→DU out→(∀j,b.length≤j→(out.drop i).getD j 0=0)→
  dn a a.length i out sa a sb b t7 t8=jl (!(sa==sb)) (out.take i++mlL (a.drop i) b (out.drop i)):=by
 intro m;induction m with
 |zero=>
  intro i out hi ho hd hz;have hi':i=a.length:=by omega
  rw[si,oc];simp (disch:=omega) only[xy,cond_false,drop_nil,mlL,List.take_append_drop];cases jl (!(sa==sb)) out<;>rfl
 |succ m ih=>
  intro i out hi ho hd hz;have hx:=ha.getD (by omega) i;rw[si,oc];simp (disch:=omega) only[zK,cond_true,rb,Option.bind_some,Int.toNat_natCast];have hI:=afo (a:=a) (sa:=sa) (sb:=sb) (t7:=t7) (t8:=t8) (i:=i) hb hx (by omega) hl hl' b.length 0 0 out (by omega) ho hd ⟨by omega,by omega⟩;simp only[Int.natCast_zero] at hI;rw[hI];have hlen:(out.drop (i+0)).length=a.length - i+b.length:=by simp;omega
  have hlt:b.length<(out.drop (i+0)).length:=by omega
  obtain⟨e1,e2,e3⟩:=X2 b (a.getD i 0) (out.drop (i+0)) 0 hlt hb (hd.drop _) hx ⟨by omega,by omega⟩ (hz _ (Nat.le_refl _));have e4:=Nh b (a.getD i 0) (out.drop (i+0)) 0 hlt;have vg:=fun out=>ih (i+1) out (by omega);simp only[Int.natCast_add,Int.natCast_one] at vg;rw[drop_eq (show i<a.length by omega)];simp only[mlL,List.drop_zero,Nat.add_zero,Int.natCast_zero] at*
  cases hA:amL b (a.getD i 0) (out.drop i) 0 with
  |nil=>rw[hA] at e4;simp at e4;omega
  |cons h t=>
   rw[hA] at e2 e3 e4;have htl:(out.take i).length=i:=by simp;omega
   have h7:(out.take i++h::t).drop (i+1)=t:=by rw[List.drop_append,htl];have:(out.take i).drop (i+1)=[]:=drop_nil (by omega);rw[this];simp
   have h8:(out.take i++h::t).take (i+1)=out.take i++[h]:=by rw[List.take_append,htl];have:(out.take i).take (i+1)=out.take i:=List.take_of_length_le (by omega);rw[this];simp
   rw[vg _ (by simp[ho] at e4 ⊢;omega) ((hd.take _).append e2) (fun j hj=>by
    rw[h7];have h5:(h::t).drop (b.length+1)=t.drop b.length:=rfl;have h6:t.getD j 0=(t.drop b.length).getD (j - b.length) 0:=by rw[rL];congr 1;omega
    rw[h6, ←h5,e3,rL];exact hz _ (by omega)),h7,h8]
   simp
theorem Ga {x y:Int}(hx:Ln x≤100000000000)(hy:Ln y≤100000000000):pr (W x) (W y)=some (W (x*y)):=by
 rw[Fy,Ag];simp only[W_1,W_2,o6];simp (disch:=omega) only[i64_in,OM,cond_true];have arc:(((Ln x:Nat):Int)+(Ln y:Nat)).toNat=Ln x+Ln y:=by omega
 rw[arc];have ha:=IC x.natAbs;have hb:=IC y.natAbs;have h1:=afp (sa:=decide (x<0)) (sb:=decide (y<0)) (t7:=false) (t8:=[]) ha hb (by rw[o6];omega) (by rw[o6];omega) (Ln x) 0 (List.replicate (Ln x+Ln y) 0) (by rw[o6];omega)
  (by rw[List.length_replicate,o6,o6]) (gU.replicate (by omega) _) (fun j hj=>by
   rw[rL];exact J0 _ _)
 rw[o6] at h1;have h2:dn (dU x.natAbs) (Ln x) 0 (List.replicate (Ln x+Ln y) 0) (decide (x<0)) (dU x.natAbs) (decide (y<0)) (dU y.natAbs) false []=_:=h1;rw[h2];obtain⟨e1,e2,e3⟩:=adK (dU x.natAbs) (dU y.natAbs) (List.replicate (Ln x+Ln y) 0) (by rw[List.length_replicate,o6,o6]) ha hb (gU.replicate (by omega) _) (fun j hj=>by
   exact J0 _ _)
 simp only[List.take_zero,List.nil_append,List.drop_zero];rw[yS e2 (by rw[e3,List.length_replicate];omega),e1,JY,JY];simp only[VU,L8,Int.zero_add];have key:(bif !(decide (x<0)==decide (y<0)) then -((x.natAbs:Int)*(y.natAbs:Int)) else ((x.natAbs:Int)*(y.natAbs:Int)))=x*y:=by
  by_cases h1:x<0<;>by_cases h2:y<0
  ·rw[zK h1,zK h2];have e1:(x.natAbs:Int)= -x:=by omega
   have e2:(y.natAbs:Int)= -y:=by omega
   rw[e1,e2];simp[Int.neg_mul,Int.mul_neg]
  ·rw[zK h1,xy h2];have e1:(x.natAbs:Int)= -x:=by omega
   have e2:(y.natAbs:Int)=y:=by omega
   rw[e1,e2];simp[Int.neg_mul,Int.mul_neg]
  ·rw[xy h1,zK h2];have e1:(x.natAbs:Int)=x:=by omega
   have e2:(y.natAbs:Int)= -y:=by omega
   rw[e1,e2];simp[Int.neg_mul,Int.mul_neg]
  ·rw[xy h1,xy h2];have e1:(x.natAbs:Int)=x:=by omega
   have e2:(y.natAbs:Int)=y:=by omega
   rw[e1,e2];simp[Int.neg_mul,Int.mul_neg]
 rw[key]
def RY:List Int→Int→Int→List Int
 | [],k,c=>[c]
 |x::xs,k,c=>(c+x*k) % 1000000000::RY xs k ((c+x*k) / 1000000000)
theorem X3:∀(a:List Int) (k c:Int),DU a→0≤k∧k<1000000000→0≤c∧c<1000000000→VU (RY a k c)=VU a*k+c∧DU (RY a k c)∧(RY a k c).length=a.length+1
 | [],k,c,ha,hk,hc=>by simp only[RY];exact⟨by simp[VU,val],gU.cons hc.1 hc.2 gU.nil,rfl⟩
 |x::xs,k,c,ha,hk,hc=>by have hm:=afn ha.head hk;obtain⟨e1,e2,e3⟩:=X3 xs k ((c+x*k) / 1000000000) ha.tail hk (by omega);simp only[RY];refine⟨?_,gU.cons (by omega) (by omega) e2,by simp[e3]⟩;simp only[VU,val] at e1 ⊢;rw[e1,Int.add_mul,Int.mul_assoc];omega
theorem aac {a:List Int}{k:Int}(ha:DU a)(hk:0≤k∧k<1000000000)(hl:a.length≤1000000000000):∀(m i:Nat) (c:Int) (out:List Int),m+i=a.length→out.length=i→0≤c∧c<1000000000→
  jN k c a a.length i out=some (out++RY (a.drop i) k c):=by
 intro m;induction m with
 |zero=>intro i c out hi ho hc;rw[yi,tq];simp (disch:=omega) only[xy,cond_false,Sc,cond_true,drop_nil,RY,u32_in]
 |succ m ih=>intro i c out hi ho hc;have hx:=ha.getD (by omega) i;have hm:=afn hx hk;rw[yi,tq];simp (disch:=omega) only[zK,cond_true,rb,Option.bind_some,Int.toNat_natCast,u64_in];simp (disch:=omega) only[u64_in,bA,u64_quo,Sc,cond_true,i64_in,u32_in];have vg:=fun c out=>ih (i+1) c out (by omega);simp only[Int.natCast_add,Int.natCast_one] at vg;rw[vg _ _ (by simp;omega) (by omega),drop_eq (show i<a.length by omega)];simp[RY]
theorem L9 {a:List Int}{k:Int}(ha:DU a)(hk:0≤k∧k<1000000000)(hl:a.length≤1000000000000):xS a k=some (RY a k 0):=by rw[LR,G4];simp (disch:=omega) only[i64_in,OM,cond_true];have:=aac ha hk hl a.length 0 0 [] (by omega) rfl ⟨by omega,by omega⟩;simpa using this
def Dh (b:Int):List Int→List Int×Int
 | []=>([],0)
 |x::xs=>((((Dh b xs).2*1000000000+x) / b)::(Dh b xs).1,((Dh b xs).2*1000000000+x) % b)
theorem OP {b:Int}(hb:0<b∧b<1000000000):∀(a:List Int),DU a→VU a=VU (Dh b a).1*b+(Dh b a).2∧0≤(Dh b a).2∧(Dh b a).2<b∧DU (Dh b a).1∧(Dh b a).1.length=a.length
 | [],ha=>⟨by simp[Dh,VU,val],by simp[Dh],by simp[Dh];omega,gU.nil,rfl⟩
 |x::xs,ha=>by
  have hx:=ha.head;obtain⟨e1,e2,e3,e4,e5⟩:=OP hb xs ha.tail;have hd:=Int.mul_ediv_add_emod ((Dh b xs).2*1000000000+x) b;have hlt:=Int.emod_lt_of_pos ((Dh b xs).2*1000000000+x) hb.1;have hnn:=Int.emod_nonneg ((Dh b xs).2*1000000000+x) (show b≠0 by omega);have hq0:0≤((Dh b xs).2*1000000000+x) / b:=Int.ediv_nonneg (by omega) (by omega);have hq1:((Dh b xs).2*1000000000+x) / b<1000000000:=Int.ediv_lt_of_lt_mul hb.1 (by omega);simp only[Dh];refine⟨?_,hnn,hlt,gU.cons hq0 hq1 e4,by simp[e5]⟩;simp only[VU,val] at e1 ⊢;have e7:(((Dh b xs).2*1000000000+x) / b+1000000000*val 1000000000 (Dh b xs).1)*b=b*(((Dh b xs).2*1000000000+x) / b)+1000000000*(val 1000000000 (Dh b xs).1*b):=by rw[Int.add_mul,Int.mul_assoc,Int.mul_comm (_ / b) b]
  rw[e1,e7];omega
theorem ab1 {a:List Int}{b:Int}(ha:DU a)(hb:0<b∧b<1000000000)(hl:a.length≤1000000000000):∀(k:Nat) (out:List Int),k≤a.length→out.length=a.length→out.drop k=(Dh b (a.drop k)).1→
  lQ a b (Dh b (a.drop k)).2 ((k:Int) - 1) out=some (Dh b a):=by
 intro k;induction k with
 |zero=>intro out hk ho hd;rw[Ah,vK];obtain⟨e1,e2,e3,e4,e5⟩:=OP hb a ha;simp only[List.drop_zero] at hd ⊢;simp (disch:=omega) only[aab,cond_false,u32_in];rw[hd]
 |succ k ih=>
  intro out hk ho hd;obtain⟨e1,e2,e3,e4,e5⟩:=OP hb (a.drop (k+1)) (ha.drop _);have hx:=ha.getD (by omega) k;have hq0:0≤((Dh b (a.drop (k+1))).2*1000000000+a.getD k 0) / b:=Int.ediv_nonneg (by omega) (by omega);have hq1:((Dh b (a.drop (k+1))).2*1000000000+a.getD k 0) / b<1000000000:=Int.ediv_lt_of_lt_mul hb.1 (by omega);rw[Ah,vK];have e:((k+1:Nat):Int) - 1=k:=by omega
  rw[e];simp (disch:=omega) only[adB,cond_true,rb,Uc,Option.bind_some,Int.toNat_natCast,u64_in];simp (disch:=omega) only[u64_in,u64_quo,bA,JX,cond_false,u32_in,i64_in];have h1:Dh b (a.drop k)=((((Dh b (a.drop (k+1))).2*1000000000+a.getD k 0) / b)::(Dh b (a.drop (k+1))).1,((Dh b (a.drop (k+1))).2*1000000000+a.getD k 0) % b):=by rw[drop_eq (show k<a.length by omega)];rfl
  have h2:=ih (out.set k (((Dh b (a.drop (k+1))).2*1000000000+a.getD k 0) / b)) (by omega) (by simpa using ho) (by
   rw[h1,drop_eq (by simp;omega),set_drop,hd];simp[List.getD,show k<out.length by omega])
  rw[h1] at h2;exact h2
theorem OQ {a:List Int}{b:Int}(ha:DU a)(hb:0<b∧b<1000000000)(hl:a.length≤1000000000000):uB a b=some (Dh b a):=by rw[On,Jm];simp (disch:=omega) only[i64_in,OM,cond_true,Int.toNat_natCast];have:=ab1 ha hb hl a.length (List.replicate a.length 0) (Nat.le_refl _) (by simp) (by rw[drop_nil (Nat.le_refl _),drop_nil (by simp)];rfl);rw[drop_nil (Nat.le_refl _)] at this;exact this
end Go.Proofs.YtofjebmoebhiiaaGreatDoor.Ev
namespace Go.Abs
section
variable {P V R vl wl v1 v2 u1 u2 u3 g rest:Int}
theorem aii (hP:0<P)(hvl:vl<P)(hwl:0≤wl)(hV:V=vl+P*(v2+1000000000*v1))(hR:R=wl+P*(u3+1000000000*(u2+1000000000*u1)))
  (h2:v2<1000000000) (h3:0≤u3) (h4:0≤u2) (hlt:R<V*1000000000):u1≤v1:=by
 by_cases h:u1≤v1
 ·exact h
 ·exfalso;have e1:P*(v1+1)≤P*u1:=Int.mul_le_mul_of_nonneg_left (by omega) (by omega);have e2:P*(v2+1)≤P*1000000000:=Int.mul_le_mul_of_nonneg_left (by omega) (by omega);have e3:0≤P*u3:=Int.mul_nonneg (by omega) h3;have e4:0≤P*u2:=Int.mul_nonneg (by omega) h4;simp only[Int.mul_add,Int.mul_one,Int.mul_left_comm P 1000000000] at hV hR e1 e2;omega
theorem amZ (hP:0<P)(hV0:0<V)(hvl:0≤vl)(hwl:wl<P)(hV:V=vl+P*(v2+1000000000*v1))(hR:R=wl+P*(u3+1000000000*(u2+1000000000*u1)))
  (hg:0≤g) (ht:u1*1000000000+u2=g*v1+rest) (hlt:R<V*1000000000) (h:g≥1000000000∨g*v2>rest*1000000000+u3):R<g*V:=by
 rcases h with h |h
 ·have e1:V*1000000000≤V*g:=Int.mul_le_mul_of_nonneg_left h (by omega);rw[Int.mul_comm V g] at e1;omega
 ·have e1:0≤g*vl:=Int.mul_nonneg hg hvl;have e2:P*(rest*1000000000+u3+1)≤P*(g*v2):=Int.mul_le_mul_of_nonneg_left (by omega) (by omega);have e3:P*(u1*1000000000+u2)=P*(g*v1+rest):=by rw[ht]
  have e4:g*V=g*vl+(P*(g*v2)+1000000000*(P*(g*v1))):=by rw[hV,Int.mul_add,Int.mul_left_comm g P,Int.mul_add g,Int.mul_left_comm g 1000000000,Int.mul_add P,Int.mul_left_comm P 1000000000]
  simp only[Int.mul_add,Int.mul_one, ←Int.mul_assoc,Int.mul_left_comm P 1000000000] at e2 e3 hR e4;simp only[Int.mul_assoc,Int.mul_comm _ (1000000000:Int),Int.mul_left_comm _ (1000000000:Int)] at e2 e3 hR e4 ⊢;omega
theorem akA {G:Int}(hP:0<P)(hvl:0≤vl)(hwl:wl<P)(hV:V=vl+P*(v2+1000000000*v1))(hR:R=wl+P*(u3+1000000000*(u2+1000000000*u1)))
  (U3:0≤v2) (hu3:u3<1000000000) (hG:0≤G) (ht:u1*1000000000+u2+1≤G*v1):R<G*V:=by
 have h2:=Int.mul_le_mul_of_nonneg_left ht (show (0:Int)≤P by omega);have h3:0≤G*vl:=Int.mul_nonneg hG hvl;have h4:0≤P*(G*v2):=Int.mul_nonneg (by omega) (Int.mul_nonneg hG U3);have h5:G*V=G*vl+(P*(G*v2)+1000000000*(P*(G*v1))):=by rw[hV,Int.mul_add,Int.mul_left_comm G P,Int.mul_add G,Int.mul_left_comm G 1000000000,Int.mul_add P,Int.mul_left_comm P 1000000000]
 have h6:P*(u3+1)≤P*1000000000:=Int.mul_le_mul_of_nonneg_left (by omega) (by omega);simp only[Int.mul_add,Int.mul_one, ←Int.mul_assoc,Int.mul_left_comm P 1000000000] at h2 h6 h4 hR h5;simp only[Int.mul_assoc,Int.mul_comm _ (1000000000:Int),Int.mul_left_comm _ (1000000000:Int)] at h2 h6 h4 hR h5 ⊢;omega
theorem aij (hP:0<P)(Xs:1≤v1)(U3:0≤v2)(aad:0≤vl)(hvl:vl<P)(hwl:0≤wl)(hV:V=vl+P*(v2+1000000000*v1))(hR:R=wl+P*(u3+1000000000*(u2+1000000000*u1)))
  (hg:0≤g) (hg':g≤999999999) (ht:u1*1000000000+u2=g*v1+rest) (h:g*v2≤rest*1000000000+u3):g*V<R+V:=by
 have e1:g*vl≤999999999*vl:=Int.mul_le_mul_of_nonneg_right hg' aad;have e2:P*(g*v2)≤P*(rest*1000000000+u3):=Int.mul_le_mul_of_nonneg_left h (by omega);have e3:P*(u1*1000000000+u2)=P*(g*v1+rest):=by rw[ht]
 have e4:g*V=g*vl+(P*(g*v2)+1000000000*(P*(g*v1))):=by rw[hV,Int.mul_add,Int.mul_left_comm g P,Int.mul_add g,Int.mul_left_comm g 1000000000,Int.mul_add P,Int.mul_left_comm P 1000000000]
 have e5:P*1≤P*v1:=Int.mul_le_mul_of_nonneg_left Xs (by omega);have e6:0≤P*v2:=Int.mul_nonneg (by omega) U3;simp only[Int.mul_add,Int.mul_one, ←Int.mul_assoc,Int.mul_left_comm P 1000000000] at e2 e3 hR e4 hV e5;simp only[Int.mul_assoc,Int.mul_comm _ (1000000000:Int),Int.mul_left_comm _ (1000000000:Int)] at e2 e3 hR e4 hV ⊢;omega
end
def Qm (g:Int):List Int→List Int→Int→List Int×Int
 |us,[],b=>(us,b)
 | [],_::_,b=>([],b)
 |u::us,v::vs,b=>
  if u - b - g*v % 1000000000<0 then
   if u - b - g*v % 1000000000+1000000000<0 then
    ((u - b - g*v % 1000000000+2000000000)::(Qm g us vs (g*v / 1000000000+2)).1,(Qm g us vs (g*v / 1000000000+2)).2)
   else ((u - b - g*v % 1000000000+1000000000)::(Qm g us vs (g*v / 1000000000+1)).1,(Qm g us vs (g*v / 1000000000+1)).2)
  else ((u - b - g*v % 1000000000)::(Qm g us vs (g*v / 1000000000)).1,(Qm g us vs (g*v / 1000000000)).2)
def X4:List Int→List Int→Int→List Int×Int
 |us,[],c=>(us,c)
 | [],_::_,c=>([],c)
 |u::us,v::vs,c=>((u+v+c) % 1000000000::(X4 us vs ((u+v+c) / 1000000000)).1,(X4 us vs ((u+v+c) / 1000000000)).2)
theorem aae {g:Int}(hg:0≤g∧g<1000000000):∀(us vs:List Int) (hs:List Int) (b:Int),us.length=vs.length→gU 1000000000 us→gU 1000000000 vs→0≤b∧b≤1000000000→
  ∃r b',Qm g (us++hs) vs b=(r++hs,b')∧val 1000000000 us - b - g*val 1000000000 vs=val 1000000000 r - 1000000000^vs.length*b'∧gU 1000000000 r∧r.length=us.length∧0≤b'∧b'≤1000000000
 | [],[],hs,b,hl,hu,hv,hb=>⟨[],b,by simp[Qm],by simp[val],gU.nil,rfl,hb⟩
 | [],_::_,hs,b,hl,hu,hv,hb=>by simp at hl
 |_::_,[],hs,b,hl,hu,hv,hb=>by simp at hl
 |u::us,v::vs,hs,b,hl,hu,hv,hb=>by
  have h1:=hu.head;have h2:=hv.head;have hm:=afn hg h2;have ih:=fun b' hb'=>aae hg us vs hs b' (by simpa using hl) hu.tail hv.tail hb';have fin:∀(y c b':Int) (r:List Int),u - b - g*v=y - 1000000000*c→0≤y∧y<1000000000→
    val 1000000000 us - c - g*val 1000000000 vs=val 1000000000 r - 1000000000^vs.length*b'→
    val 1000000000 (u::us) - b - g*val 1000000000 (v::vs)=val 1000000000 (y::r) - 1000000000^(v::vs).length*b':=fun y c b' r e1 hy e2=>by
   simp only[val,List.length_cons,Int.pow_succ];have e3:g*(v+1000000000*val 1000000000 vs)=g*v+1000000000*(g*val 1000000000 vs):=by rw[Int.mul_add,Int.mul_left_comm]
   have e4:(1000000000:Int)^vs.length*1000000000*b'=1000000000*(1000000000^vs.length*b'):=by rw[Int.mul_comm ((1000000000:Int)^vs.length),Int.mul_assoc]
   rw[e3,e4];omega
  simp only[List.cons_append,Qm];split
  ·split
   ·obtain⟨r,b',e1,e2,e3,e4,e5⟩:=ih (g*v / 1000000000+2) (by omega);refine⟨(u - b - g*v % 1000000000+2000000000)::r,b',by rw[e1];rfl,fin _ _ _ _ (by omega) (by omega) e2,gU.cons (by omega) (by omega) e3,by simp[e4],e5⟩
   ·obtain⟨r,b',e1,e2,e3,e4,e5⟩:=ih (g*v / 1000000000+1) (by omega);refine⟨(u - b - g*v % 1000000000+1000000000)::r,b',by rw[e1];rfl,fin _ _ _ _ (by omega) (by omega) e2,gU.cons (by omega) (by omega) e3,by simp[e4],e5⟩
  ·obtain⟨r,b',e1,e2,e3,e4,e5⟩:=ih (g*v / 1000000000) (by omega);refine⟨(u - b - g*v % 1000000000)::r,b',by rw[e1];rfl,fin _ _ _ _ (by omega) (by omega) e2,gU.cons (by omega) (by omega) e3,by simp[e4],e5⟩
theorem aaf:∀(us vs:List Int) (hs:List Int) (c:Int),us.length=vs.length→gU 1000000000 us→gU 1000000000 vs→0≤c∧c≤1→
  ∃r c',X4 (us++hs) vs c=(r++hs,c')∧val 1000000000 us+val 1000000000 vs+c=val 1000000000 r+1000000000^vs.length*c'∧gU 1000000000 r∧r.length=us.length∧0≤c'∧c'≤1
 | [],[],hs,c,hl,hu,hv,hc=>⟨[],c,by simp[X4],by simp[val],gU.nil,rfl,hc⟩
 | [],_::_,hs,c,hl,hu,hv,hc=>by simp at hl
 |_::_,[],hs,c,hl,hu,hv,hc=>by simp at hl
 |u::us,v::vs,hs,c,hl,hu,hv,hc=>by
  have h1:=hu.head;have h2:=hv.head;obtain⟨r,c',e1,e2,e3,e4,e5⟩:=aaf us vs hs ((u+v+c) / 1000000000) (by simpa using hl) hu.tail hv.tail (by omega);refine⟨(u+v+c) % 1000000000::r,c',by simp only[List.cons_append,X4];rw[e1], ?_,gU.cons (by omega) (by omega) e3,by simp[e4],e5⟩;simp only[val,List.length_cons,Int.pow_succ];have e6:(1000000000:Int)^vs.length*1000000000*c'=1000000000*(1000000000^vs.length*c'):=by rw[Int.mul_comm ((1000000000:Int)^vs.length),Int.mul_assoc]
  rw[e6];omega
end Go.Abs
namespace Go.Proofs.YtofjebmoebhiiaaGreatDoor.Ev
open Go.Abs Go.IntWalk
section
variable {k:Int}{v:List Int}{n j:Nat}{q u:List Int}
theorem X5 {P V R vl wl v1 v2 u1 u2 u3:Int}(hP:0<P)(aad:0≤vl)(hvl:vl<P)(afq:0≤wl)(hwl:wl<P)(hV:V=vl+P*(v2+1000000000*v1))(hR:R=wl+P*(u3+1000000000*(u2+1000000000*u1)))
  (Xs:500000000≤v1∧v1<1000000000) (U3:0≤v2∧v2<1000000000) (hu1:0≤u1∧u1<1000000000) (hu2:0≤u2∧u2<1000000000) (hu3:0≤u3∧u3<1000000000) (hlt:R<V*1000000000)
  (hn:2≤n) (X6:v.length=n) (hun:j+n<u.length) (hul:u.length≤1000000000000)
  (gv1:v.getD (n - 1) 0=v1) (gv2:v.getD (n - 2) 0=v2) (gu3:u.getD (j+n - 2) 0=u3):∀(g:Nat) (rest:Int),u1*1000000000+u2=g*v1+rest→0≤rest→rest<1000000000→R<(g+1)*V→
  ∃g':Int,0≤g'∧g'≤999999999∧R<(g'+1)*V∧g'*V<R+V∧jM k v n j g rest q u=gv k v n j g' 0 n 0 q u:=by
 have ari:=aii hP hvl afq hV hR U3.2 hu3.1 hu2.1 hlt;have aag:0<V:=by have e5:P*1≤P*v1:=Int.mul_le_mul_of_nonneg_left (by omega) (by omega);have e6:0≤P*v2:=Int.mul_nonneg (by omega) U3.1;simp only[Int.mul_add,Int.mul_one,Int.mul_left_comm P 1000000000] at hV e5;omega
 have hR0:0≤R:=by have e3:0≤P*(u3+1000000000*(u2+1000000000*u1)):=Int.mul_nonneg (by omega) (by omega);omega
 intro g;induction g with
 |zero=>
  intro rest ht h0 h1 hb;have hz:(0:Int)*v2≤rest*1000000000+u3:=by rw[Int.zero_mul];omega
  refine⟨0,by omega,by omega,by simpa using hb,by simp;omega, ?_⟩;rw[B5,yK];have e1:((n:Int) - 2).toNat=n - 2:=by omega
  have e2:((j:Int)+n - 2).toNat=j+n - 2:=by omega
  simp (disch:=omega) only[aab,cond_false,i64_in,rb,Uc,Option.bind_some,e1,e2,gv2,gu3,Int.natCast_zero,Int.zero_mul,u64_in,alE]
 |succ g ih=>
  intro rest ht h0 h1 hb;have hgb:(g:Int)+1≤1000000001:=by
   -- g v1 is at most GJ two top digits
   have h5:(g+1:Nat)*v1≤v1*1000000000+999999999:=by
    have:u1*1000000000≤v1*1000000000:=by omega
    omega
   by_cases hc:(g:Int)+1≤1000000001
   ·exact hc
   ·have h6:(1000000002:Int)*v1≤(g+1:Nat)*v1:=Int.mul_le_mul_of_nonneg_right (by omega) (by omega);omega
  have e1:((n:Int) - 2).toNat=n - 2:=by omega
  have e1':((n:Int) - 1).toNat=n - 1:=by omega
  have e2:((j:Int)+n - 2).toNat=j+n - 2:=by omega
  have egc:((g+1:Nat):Int)=(g:Int)+1:=by omega
  have am0:(g:Int)+1 - 1=g:=by omega
  rw[egc] at ht hb ⊢;have asH:0≤((g:Int)+1)*v2∧((g:Int)+1)*v2≤1000000001*999999999:=by refine⟨Int.mul_nonneg (by omega) U3.1, ?_⟩;have h7:((g:Int)+1)*v2≤1000000001*v2:=Int.mul_le_mul_of_nonneg_right hgb U3.1;omega
  have ao1:((g:Int)+1≥1000000000∨((g:Int)+1)*v2>rest*1000000000+u3)→R<((g:Int)+1)*V:=
   amZ hP aag aad hwl hV hR (by omega) ht hlt
  -- one step down
  have aah:R<((g:Int)+1)*V→∃g':Int,0≤g'∧g'≤999999999∧R<(g'+1)*V∧g'*V<R+V∧
    (bif decide (rest+v1≥1000000000) then gv k v n j g 0 n 0 q u else jM k v n j g (rest+v1) q u)=gv k v n j g' 0 n 0 q u:=fun hR'=>by
   have ht':u1*1000000000+u2=g*v1+(rest+v1):=by rw[ht,Int.add_mul];omega
   by_cases hbr:rest+v1≥1000000000
   ·have hg9:(g:Int)≤999999999:=by
     by_cases hc:(g:Int)≤999999999
     ·exact hc
     ·exfalso;have h6:(1000000000:Int)*v1≤(g:Int)*v1:=Int.mul_le_mul_of_nonneg_right (by omega) (by omega);have:u1*1000000000≤v1*1000000000:=by omega
      omega
    have hle:(g:Int)*v2≤(rest+v1)*1000000000+u3:=by have h7:(g:Int)*v2≤999999999*v2:=Int.mul_le_mul_of_nonneg_right hg9 U3.1;omega
    refine⟨g,by omega,hg9,hR',aij hP (by omega) U3.1 aad hvl afq hV hR (by omega) hg9 ht' hle, ?_⟩;rw[adB hbr,cond_true]
   ·obtain⟨g',h1',h2',h3',h4',h5'⟩:=ih (rest+v1) ht' (by omega) (by omega) hR';refine⟨g',h1',h2',h3',h4', ?_⟩;rw[aab hbr,cond_false];exact h5'
  rw[B5,yK];by_cases hge:(g:Int)+1≥1000000000
  ·obtain⟨g',h1',h2',h3',h4',h5'⟩:=aah (ao1 (.inl hge));refine⟨g',h1',h2',h3',h4', ?_⟩;rw[←h5',xz hge];simp (disch:=omega) only[i64_in,fI,e1',gv1,u64_in,am0]
  ·by_cases hgt:((g:Int)+1)*v2>rest*1000000000+u3
   ·obtain⟨g',h1',h2',h3',h4',h5'⟩:=aah (ao1 (.inr hgt));refine⟨g',h1',h2',h3',h4', ?_⟩;rw[←h5',u9 hge];simp (disch:=omega) only[i64_in,fI,qu,e1,e1',e2,gv1,gv2,gu3,u64_in,am0,cX]
   ·refine⟨(g:Int)+1,by omega,by omega,hb,aij hP (by omega) U3.1 aad hvl afq hV hR (by omega) (by omega) ht (by omega), ?_⟩;rw[u9 hge];simp (disch:=omega) only[i64_in,fI,qu,e1,e1',e2,gv1,gv2,gu3,u64_in,am0,c5]
end
end Go.Proofs.YtofjebmoebhiiaaGreatDoor.Ev
namespace Go.Abs
theorem afr {l:List Int}{m:Nat}(h:m+2<l.length):val 1000000000 (l.take (m+3))=val 1000000000 (l.take m)+1000000000^m*(l.getD m 0+1000000000*(l.getD (m+1) 0+1000000000*l.getD (m+2) 0)):=by
 rw[dF (show m+2<l.length by omega),dF (show m+1<l.length by omega),dF (show m<l.length by omega),List.append_assoc,List.append_assoc,fo];have:(l.take m).length=m:=by simp;omega
 rw[this];simp[val]
theorem afs {l:List Int}{m:Nat}(h:m+1<l.length):val 1000000000 (l.take (m+2))=val 1000000000 (l.take m)+1000000000^m*(l.getD m 0+1000000000*l.getD (m+1) 0):=by
 rw[dF (show m+1<l.length by omega),dF (show m<l.length by omega),List.append_assoc,fo];have:(l.take m).length=m:=by simp;omega
 rw[this];simp[val]
end Go.Abs
namespace Go.Proofs.YtofjebmoebhiiaaGreatDoor.Ev
open Go.Abs Go.IntWalk
section
variable {k:Int}{v:List Int}{n j:Nat}
theorem X7 {g:Int}(hg:0≤g∧g<1000000000)(hv:DU v)(X6:v.length=n):∀(m i:Nat) (b:Int) (u q:List Int),m+i=n→0≤b∧b≤1000000000→DU u→j+n<u.length→u.length≤1000000000000→
  gv k v n j g b n i q u=gv k v n j g (Qm g (u.drop (j+i)) (v.drop i) b).2 n n q (u.take (j+i)++(Qm g (u.drop (j+i)) (v.drop i) b).1):=by
 intro m;induction m with
 |zero=>
  intro i b u q hi hb hu hju hul;have:i=n:=by omega
  subst this;have h1:v.drop i=[]:=drop_nil (by omega);have h2:∀(us:List Int),Qm g us [] b=(us,b):=fun us=>by cases us<;>rfl
  rw[h1,h2];simp only[List.take_append_drop]
 |succ m ih=>
  intro i b u q hi hb hu hju hul;have hx:=hu.getD (by omega) (j+i);have hy:=hv.getD (by omega) i;have hm:=afn hg hy;have e1:((i:Int)+(j:Int)).toNat=j+i:=by omega
  rw[B6,yL];have vg:=fun b u q=>ih (i+1) b u q (by omega);simp only[Int.natCast_add,Int.natCast_one] at vg;simp (disch:=omega) only[ax,i64_in,fI,qu,e1,Int.toNat_natCast];simp (disch:=omega) only[i64_in,bA,mc];rw[drop_eq (show i<v.length by omega),drop_eq (show j+i<u.length by omega)];simp only[Qm];by_cases h1:u.getD (j+i) 0 - b - g*v.getD i 0 % 1000000000<0
  ·rw[ax h1,if_pos h1];by_cases h2:u.getD (j+i) 0 - b - g*v.getD i 0 % 1000000000+1000000000<0
   ·rw[if_pos h2];simp (disch:=omega) only[i64_in,ax,fI,qu,e1,u32_in];rw[vg _ _ _ (by omega) (hu.set (by omega) (by omega) _) (by simpa using hju) (by simpa using hul)];rw[show j+(i+1)=j+i+1 by omega,C6 (by omega),set_drop];have e2:g*v.getD i 0 / 1000000000+1+1=g*v.getD i 0 / 1000000000+2:=by omega
    have e3:u.getD (j+i) 0 - b - g*v.getD i 0 % 1000000000+1000000000+1000000000=u.getD (j+i) 0 - b - g*v.getD i 0 % 1000000000+2000000000:=by omega
    rw[e2,e3];simp only[List.append_assoc,List.singleton_append]
   ·rw[if_neg h2];simp (disch:=omega) only[i64_in,aq,fI,qu,e1,u32_in];rw[vg _ _ _ (by omega) (hu.set (by omega) (by omega) _) (by simpa using hju) (by simpa using hul)];rw[show j+(i+1)=j+i+1 by omega,C6 (by omega),set_drop];simp only[List.append_assoc,List.singleton_append]
  ·rw[aq h1,if_neg h1];simp (disch:=omega) only[i64_in,aq,fI,qu,e1,u32_in];rw[vg _ _ _ (by omega) (hu.set (by omega) (by omega) _) (by simpa using hju) (by simpa using hul)];rw[show j+(i+1)=j+i+1 by omega,C6 (by omega),set_drop];simp only[List.append_assoc,List.singleton_append]
theorem X8 {g x:Int}(hv:DU v)(X6:v.length=n):∀(m i:Nat) (c:Int) (u q:List Int),m+i=n→0≤c∧c≤1→DU u→j+n<u.length→u.length≤1000000000000→
  lR k v n j g x c n i q u=lR k v n j g x (X4 (u.drop (j+i)) (v.drop i) c).2 n n q (u.take (j+i)++(X4 (u.drop (j+i)) (v.drop i) c).1):=by
 intro m;induction m with
 |zero=>
  intro i b u q hi hb hu hju hul;have:i=n:=by omega
  subst this;have h1:v.drop i=[]:=drop_nil (by omega);have h2:∀(us:List Int),X4 us [] b=(us,b):=fun us=>by cases us<;>rfl
  rw[h1,h2];simp only[List.take_append_drop]
 |succ m ih=>
  intro i c u q hi hc hu hju hul;have hx:=hu.getD (by omega) (j+i);have hy:=hv.getD (by omega) i;have e1:((i:Int)+(j:Int)).toNat=j+i:=by omega
  rw[B7,yM];have vg:=fun b u q=>ih (i+1) b u q (by omega);simp only[Int.natCast_add,Int.natCast_one] at vg;simp (disch:=omega) only[ax,i64_in,fI,qu,e1,Int.toNat_natCast,u32_in];simp (disch:=omega) only[u32_in,bA,mc];rw[drop_eq (show i<v.length by omega),drop_eq (show j+i<u.length by omega)];simp only[X4];rw[vg _ _ _ (by omega) (hu.set (by omega) (by omega) _) (by simpa using hju) (by simpa using hul)];rw[show j+(i+1)=j+i+1 by omega,C6 (by omega),set_drop];simp only[List.append_assoc,List.singleton_append]
set_option maxHeartbeats 2000000 in
theorem aft (hv:DU v)(X6:v.length=n)(hn:2≤n)(Xs:500000000≤v.getD (n - 1) 0){u q:List Int}(hu:DU u)(hju:j+n<u.length)(hul:u.length≤1000000000000)(hq:j<q.length)(hql:q.length≤1000000000000)
  (hlt:VU ((u.drop j).take (n+1))<VU v*1000000000):
  ∃u',eN k v n j q u=eN k v n ((j:Int) - 1) (q.set j (VU ((u.drop j).take (n+1)) / VU v)) u'∧u'.length=u.length∧DU u'∧u'.take j=u.take j∧VU ((u'.drop j).take n)=VU ((u.drop j).take (n+1)) % VU v:=by
 obtain⟨m,rfl⟩:∃m,n=m+2:=⟨n - 2,by omega⟩
 -- GJ digits
 have YI:(u.drop j).length=u.length - j:=by simp
 have hR:=afr (l:=u.drop j) (m:=m) (by rw[YI];omega);have hV:=afs (l:=v) (m:=m) (by omega);rw[show v.take (m+2)=v from List.take_of_length_le (by omega)] at hV;simp only[rL] at hR;have hP:(0:Int)<1000000000^m:=Int.pow_pos (by omega);have afq:=ky (B:=1000000000) (by omega) ((hu.drop j).take m);have hwl:=Ao (B:=1000000000) (by omega) ((hu.drop j).take m);have aad:=ky (B:=1000000000) (by omega) (hv.take m);have hvl:=Ao (B:=1000000000) (by omega) (hv.take m);rw[show ((u.drop j).take m).length=m by rw[List.length_take,YI];omega] at hwl;rw[show (v.take m).length=m by rw[List.length_take];omega] at hvl;have b1:=hv.getD (by omega) (m+1);have b2:=hv.getD (by omega) m;have c1:=hu.getD (by omega) (j+(m+2));have c2:=hu.getD (by omega) (j+(m+1));have c3:=hu.getD (by omega) (j+m);have arl:500000000≤v.getD (m+1) 0:=Xs;have ari:=aii hP hvl afq hV hR b2.2 c3.1 c2.1 hlt;have aag:0<VU v:=by have e5:(1000000000:Int)^m*1≤1000000000^m*v.getD (m+1) 0:=Int.mul_le_mul_of_nonneg_left (by omega) (by omega);have e6:0≤(1000000000:Int)^m*v.getD m 0:=Int.mul_nonneg (by omega) b2.1;have hV':VU v=_:=hV;simp only[Int.mul_add,Int.mul_one,Int.mul_left_comm ((1000000000:Int)^m) 1000000000] at hV' e5;omega
 -- GJ first ao3
 have ao4:0≤u.getD (j+(m+2)) 0*1000000000+u.getD (j+(m+1)) 0:=by omega
 obtain⟨g0,hg0⟩:∃g0:Nat,(u.getD (j+(m+2)) 0*1000000000+u.getD (j+(m+1)) 0) / v.getD (m+1) 0=g0:=Int.eq_ofNat_of_zero_le (Int.ediv_nonneg ao4 (by omega));have UX:=Int.mul_ediv_add_emod (u.getD (j+(m+2)) 0*1000000000+u.getD (j+(m+1)) 0) (v.getD (m+1) 0);have Ze:=Int.emod_nonneg (u.getD (j+(m+2)) 0*1000000000+u.getD (j+(m+1)) 0) (show v.getD (m+1) 0≠0 by omega);have NA:=Int.emod_lt_of_pos (u.getD (j+(m+2)) 0*1000000000+u.getD (j+(m+1)) 0) (show 0<v.getD (m+1) 0 by omega);rw[hg0,Int.mul_comm] at UX;have am1:val 1000000000 (List.take (m+3) (List.drop j u))<((g0:Int)+1)*VU v:=by
  -- GJ two top digits are less aro (g0+1) v1
  refine akA hP aad hwl hV hR b2.1 c3.2 (by omega) ?_;rw[Int.add_mul];omega
 obtain⟨g,hg1,hg2,hg3,hg4,hL1⟩:=X5 (k:=k) (q:=q) hP aad hvl afq hwl hV hR ⟨arl,b1.2⟩ b2 c1 c2 c3 hlt hn X6 hju hul rfl rfl rfl g0 _ UX.symm Ze (by omega) am1;change VU ((u.drop j).take (m+2+1))<(g+1)*VU v at hg3;change g*VU v<VU ((u.drop j).take (m+2+1))+VU v at hg4
 -- GJ walk as far as GJ aai
 have hgb:(g0:Int)≤1000000001:=by
  by_cases hc:(g0:Int)≤1000000001
  ·exact hc
  ·exfalso;have h6:(1000000002:Int)*v.getD (m+1) 0≤(g0:Int)*v.getD (m+1) 0:=Int.mul_le_mul_of_nonneg_right (by omega) (by omega);omega
 have w1:eN k v ((m+2:Nat):Int) j q u=jM k v ((m+2:Nat):Int) j g0 ((u.getD (j+(m+2)) 0*1000000000+u.getD (j+(m+1)) 0) % v.getD (m+1) 0) q u:=by
  rw[B4,yI];have e1:((j:Int)+((m+2:Nat):Int)).toNat=j+(m+2):=by omega
  have e2:((j:Int)+((m+2:Nat):Int) - 1).toNat=j+(m+1):=by omega
  have e3:(((m+2:Nat):Int) - 1).toNat=m+1:=by omega
  simp (disch:=omega) only[xz,i64_in,fI,qu,e1,e2,e3,u64_in,eS,kz];simp (disch:=omega) only[u64_in,eS,kz,bA,mc,hg0]
 -- GJ aai
 have YH:((u.drop j).take (m+2)).length=v.length:=by rw[List.length_take,YI];omega
 have ao5:u.drop j=(u.drop j).take (m+2)++(u.getD (j+(m+2)) 0::u.drop (j+(m+2)+1)):=by
  conv=>lhs;rw[Ue (u.drop j) (m+2)]
  rw[List.drop_drop,drop_eq (show j+(m+2)<u.length by omega)]
 obtain⟨r,b',hs1,hs2,hs3,hs4,hs5⟩:=aae (g:=g) ⟨hg1,by omega⟩ ((u.drop j).take (m+2)) v (u.getD (j+(m+2)) 0::u.drop (j+(m+2)+1)) 0 YH ((hu.drop j).take _) hv ⟨by omega,by omega⟩;have w2:=X7 (k:=k) (j:=j) (g:=g) ⟨hg1,by omega⟩ hv X6 (m+2) 0 0 u q (by omega) ⟨by omega,by omega⟩ hu hju hul;simp only[Nat.add_zero,List.drop_zero,Int.natCast_zero] at w2;rw[ao5,hs1] at w2;have hRw:VU ((u.drop j).take (m+2+1))=VU ((u.drop j).take (m+2))+1000000000^(m+2)*u.getD (j+(m+2)) 0:=by rw[dF (show m+2<(u.drop j).length by rw[YI];omega),VU,fo,rL,YH,X6];simp[val]
 have alF:=Ao (B:=1000000000) (by omega) hs3;have ao7:=ky (B:=1000000000) (by omega) hs3;have alG:=Ao (B:=1000000000) (by omega) hv;rw[hs4,YH,X6] at alF;rw[X6] at alG hs2;change VU ((u.drop j).take (m+2)) - 0 - g*VU v=VU r - 1000000000^(m+2)*b' at hs2;change VU r<_ at alF;change 0≤VU r at ao7;change VU v<_ at alG;have hjl:(u.take j).length=j:=by simp;omega
 have hu1:DU (u.take j++(r++u.getD (j+(m+2)) 0::u.drop (j+(m+2)+1))):=(hu.take j).append (hs3.append (gU.cons c1.1 c1.2 (hu.drop _)));have ao8:(u.take j++(r++u.getD (j+(m+2)) 0::u.drop (j+(m+2)+1))).length=u.length:=by simp[hs4,YH,X6];omega
 have hx1:(u.take j++(r++u.getD (j+(m+2)) 0::u.drop (j+(m+2)+1))).getD (j+(m+2)) 0=u.getD (j+(m+2)) 0:=by
  have hrl:r.length=m+2:=by rw[hs4,YH,X6]
  rw[List.getD,List.getElem?_append_right (by omega),List.getElem?_append_right (by omega)];simp[hjl,hrl]
 have ik:∀(r:List Int) (y:Int),r.length=m+2→(u.take j++(r++u.getD (j+(m+2)) 0::u.drop (j+(m+2)+1))).set (j+(m+2)) y=u.take j++(r++y::u.drop (j+(m+2)+1)):=fun r y hrl=>by rw[List.set_append_right _ _ (by omega),List.set_append_right _ _ (by omega)];simp[hjl,hrl]
 have hdt:∀(r:List Int) (y:Int),r.length=m+2→((u.take j++(r++y::u.drop (j+(m+2)+1))).drop j).take (m+2)=r:=fun r y hrl=>by have h1:(u.take j++(r++y::u.drop (j+(m+2)+1))).drop j=r++y::u.drop (j+(m+2)+1):=List.drop_left' hjl;rw[h1];exact List.take_left' hrl
 have htk:∀(l:List Int),(u.take j++l).take j=u.take j:=fun l=>List.take_left' hjl;have e1:((j:Int)+((m+2:Nat):Int)).toNat=j+(m+2):=by omega
 have hPn:(0:Int)<1000000000^(m+2):=Int.pow_pos (by omega);have UO:VU ((u.drop j).take (m+2+1)) - g*VU v=VU r+1000000000^(m+2)*(u.getD (j+(m+2)) 0 - b'):=by rw[hRw,Int.mul_sub];omega
 rw[w1,hL1,w2,B6,yL];by_cases hneg:u.getD (j+(m+2)) 0 - b'<0
 · -- one too many
   have ao9:VU ((u.drop j).take (m+2+1))<g*VU v:=by have h1:(1000000000:Int)^(m+2)*(u.getD (j+(m+2)) 0 - b'+1)≤1000000000^(m+2)*0:=Int.mul_le_mul_of_nonneg_left (by omega) (by omega);rw[Int.mul_add,Int.mul_zero,Int.mul_one] at h1;omega
   have asK:1≤g:=by
    by_cases hc:1≤g
    ·exact hc
    ·exfalso;have:g=0:=by omega
     subst this;have:=yo ((hu.drop j).take (m+2+1));rw[Int.zero_mul] at ao9;omega
   have hq:VU ((u.drop j).take (m+2+1)) / VU v=g - 1∧VU ((u.drop j).take (m+2+1)) % VU v=VU ((u.drop j).take (m+2+1)) - (g - 1)*VU v:=by
    have h1:(g - 1)*VU v=g*VU v - VU v:=by rw[Int.sub_mul,Int.one_mul]
    have h2:VU ((u.drop j).take (m+2+1))=(VU ((u.drop j).take (m+2+1)) - (g - 1)*VU v)+VU v*(g - 1):=by rw[Int.mul_comm (VU v)];omega
    have h3:0≤VU ((u.drop j).take (m+2+1)) - (g - 1)*VU v:=by rw[h1];omega
    have h4:VU ((u.drop j).take (m+2+1)) - (g - 1)*VU v<VU v:=by rw[h1];omega
    constructor
    ·rw[h2,Int.add_mul_ediv_left _ _ (by omega),Int.ediv_eq_zero_of_lt h3 h4];omega
    ·conv=>lhs;rw[h2]
     rw[Int.add_mul_emod_self_left,Int.emod_eq_of_lt h3 h4]
   obtain⟨r2,cc,ha1,ha2,ha3,ha4,ha5⟩:=aaf r v (u.getD (j+(m+2)) 0::u.drop (j+(m+2)+1)) 0 (by rw[hs4,YH]) hs3 hv ⟨by omega,by omega⟩;have w3:=X8 (k:=k) (j:=j) (g:=g - 1) (x:=u.getD (j+(m+2)) 0 - b') hv X6 (m+2) 0 0 _ q (by omega) ⟨by omega,by omega⟩ hu1 (by rw[ao8];exact hju) (by rw[ao8];exact hul);have hdj:(u.take j++(r++u.getD (j+(m+2)) 0::u.drop (j+(m+2)+1))).drop j=r++u.getD (j+(m+2)) 0::u.drop (j+(m+2)+1):=List.drop_left' hjl;simp only[Nat.add_zero,List.drop_zero,Int.natCast_zero] at w3;rw[hdj,ha1,htk] at w3;have ail:r2.length=m+2:=by rw[ha4,hs4,YH,X6]
   have hu2:DU (u.take j++(r2++u.getD (j+(m+2)) 0::u.drop (j+(m+2)+1))):=(hu.take j).append (ha3.append (gU.cons c1.1 c1.2 (hu.drop _)));have auG:(u.take j++(r2++u.getD (j+(m+2)) 0::u.drop (j+(m+2)+1))).length=u.length:=by simp[ail];omega
   refine⟨u.take j++(r2++0::u.drop (j+(m+2)+1)), ?_,by simp[ail];omega,(hu.take j).append (ha3.append (gU.cons (by omega) (by omega) (hu.drop _))),htk _, ?_⟩
   ·simp (disch:=omega) only[aq,i64_in,fI,qu,e1,hx1];simp (disch:=omega) only[ax,i64_in,u64_in];rw[w3,B7,yM,hq.1];simp (disch:=omega) only[aq,i64_in,fI,qu,e1,u32_in,ik r2 0 ail,Int.toNat_natCast]
   ·rw[hdt r2 0 ail,hq.2]
    -- GJ carry takes GJ missing unit
    have aim:=Ao (B:=1000000000) (by omega) ha3;have am2:=ky (B:=1000000000) (by omega) ha3;rw[ail] at aim;rw[X6] at ha2;change VU r+VU v+0=VU r2+1000000000^(m+2)*cc at ha2;change VU r2<_ at aim;change 0≤VU r2 at am2;have h1:VU ((u.drop j).take (m+2+1)) - (g - 1)*VU v=VU r2+1000000000^(m+2)*(u.getD (j+(m+2)) 0 - b'+cc):=by rw[Int.sub_mul,Int.one_mul,Int.mul_add];omega
    have h3:0≤VU ((u.drop j).take (m+2+1)) - (g - 1)*VU v:=by rw[Int.sub_mul,Int.one_mul];omega
    have h4:VU ((u.drop j).take (m+2+1)) - (g - 1)*VU v<VU v:=by rw[Int.sub_mul,Int.one_mul];omega
    have h5:u.getD (j+(m+2)) 0 - b'+cc=0:=by
     by_cases hp:u.getD (j+(m+2)) 0 - b'+cc≥1
     ·exfalso;have:=Int.mul_le_mul_of_nonneg_left hp (show (0:Int)≤1000000000^(m+2) by omega);rw[Int.mul_one] at this;omega
     ·by_cases hm:u.getD (j+(m+2)) 0 - b'+cc≤ -1
      ·exfalso;have:=Int.mul_le_mul_of_nonneg_left hm (show (0:Int)≤1000000000^(m+2) by omega);rw[Int.mul_neg,Int.mul_one] at this;omega
      ·omega
    rw[h1,h5];simp
 · -- auH right
   have asL:g*VU v≤VU ((u.drop j).take (m+2+1)):=by have h1:(0:Int)≤1000000000^(m+2)*(u.getD (j+(m+2)) 0 - b'):=Int.mul_nonneg (by omega) (by omega);omega
   have h3:VU ((u.drop j).take (m+2+1)) - g*VU v<VU v:=by
    have:((g:Int)+1)*VU v=g*VU v+VU v:=by rw[Int.add_mul,Int.one_mul]
    rw[this] at hg3;omega
   have hq:VU ((u.drop j).take (m+2+1)) / VU v=g∧VU ((u.drop j).take (m+2+1)) % VU v=VU ((u.drop j).take (m+2+1)) - g*VU v:=by
    have h2:VU ((u.drop j).take (m+2+1))=(VU ((u.drop j).take (m+2+1)) - g*VU v)+VU v*g:=by rw[Int.mul_comm (VU v)];omega
    constructor
    ·rw[h2,Int.add_mul_ediv_left _ _ (by omega),Int.ediv_eq_zero_of_lt (by omega) h3];omega
    ·conv=>lhs;rw[h2]
     rw[Int.add_mul_emod_self_left,Int.emod_eq_of_lt (by omega) h3]
   have hrl:r.length=m+2:=by rw[hs4,YH,X6]
   have h5:u.getD (j+(m+2)) 0 - b'=0:=by
    by_cases hp:u.getD (j+(m+2)) 0 - b'≥1
    ·exfalso;have:=Int.mul_le_mul_of_nonneg_left hp (show (0:Int)≤1000000000^(m+2) by omega);rw[Int.mul_one] at this;omega
    ·omega
   refine⟨u.take j++(r++0::u.drop (j+(m+2)+1)), ?_,by simp[hrl];omega,(hu.take j).append (hs3.append (gU.cons (by omega) (by omega) (hu.drop _))),htk _, ?_⟩
   ·rw[hq.1];simp (disch:=omega) only[aq,i64_in,fI,qu,e1,hx1];simp (disch:=omega) only[aq,i64_in,fI,qu,e1,u32_in,ik r 0 hrl,Int.toNat_natCast]
   ·rw[hdt r 0 hrl,hq.2,UO,h5];simp
end
end Go.Proofs.YtofjebmoebhiiaaGreatDoor.Ev
namespace Go.Abs
theorem Gb (l:List Int){m:Nat}(h:m<l.length):val 1000000000 (l.take (m+1))=val 1000000000 (l.take m)+1000000000^m*l.getD m 0:=by
 rw[dF h,fo];have:(l.take m).length=m:=by simp;omega
 rw[this];simp[val]
theorem afu {b k:Int}(hb:1≤b)(hb':b<1000000000)(hk:k=1000000000 / (b+1)):1≤k∧k*(b+1)≤1000000000∧500000000≤k*b∧k≤500000000:=by
 have h1:=Int.mul_ediv_add_emod 1000000000 (b+1);have h2:=Int.emod_nonneg 1000000000 (show b+1≠0 by omega);have h3:=Int.emod_lt_of_pos 1000000000 (show 0<b+1 by omega);rw[←hk,Int.mul_comm] at h1;have hk1:1≤k:=by
  by_cases hc:1≤k
  ·exact hc
  ·exfalso;have:k*(b+1)≤0*(b+1):=Int.mul_le_mul_of_nonneg_right (by omega) (by omega);rw[Int.zero_mul] at this;omega
 have e1:k*(b+1)=k*b+k:=by rw[Int.mul_add,Int.mul_one]
 have e5:k*2≤k*(b+1):=Int.mul_le_mul_of_nonneg_left (by omega) (by omega);refine⟨hk1,by omega, ?_,by omega⟩;by_cases hk2:k=1
 ·subst hk2;omega
 ·have e2:0≤(k - 2)*(b+1 - 2):=Int.mul_nonneg (by omega) (by omega);have e3:(k - 2)*(b+1 - 2)=k*b - k - 2*b+2:=by rw[show b+1 - 2=b - 1 by omega,Int.sub_mul,Int.mul_sub,Int.mul_sub];omega
  omega
end Go.Abs
namespace Go.Proofs.YtofjebmoebhiiaaGreatDoor.Ev
open Go.Abs Go.IntWalk
section
variable {k:Int}{v:List Int}{n:Nat}
theorem ab2 (hv:DU v)(X6:v.length=n)(hn:2≤n)(Xs:500000000≤v.getD (n - 1) 0):∀(J:Nat) (q u:List Int),DU q→DU u→J≤q.length→J+n≤u.length→u.length≤1000000000000→q.length≤1000000000000→VU ((u.drop J).take n)<VU v→
  ∃q' u',eN k v n ((J:Int) - 1) q u=eN k v n (-1) q' u'∧q'.length=q.length∧DU q'∧u'.length=u.length∧DU u'∧q'.drop J=q.drop J∧
   VU (u.take J)+1000000000^J*VU ((u.drop J).take n)=VU v*VU (q'.take J)+VU (u'.take n)∧VU (u'.take n)<VU v:=by
 intro J;induction J with
 |zero=>intro q u hq hu h1 h2 h3 h4 hx;refine⟨q,u,rfl,rfl,hq,rfl,hu,rfl, ?_,by simpa using hx⟩;simp[VU,val]
 |succ J ih=>
  intro q u hq hu h1 h2 h3 h4 hx;have hw:(u.drop J).take (n+1)=u.getD J 0::(u.drop (J+1)).take n:=by rw[drop_eq (show J<u.length by omega),List.take_succ_cons]
  have hd:=hu.getD (by omega) J;have hRv:VU ((u.drop J).take (n+1))=u.getD J 0+1000000000*VU ((u.drop (J+1)).take n):=by rw[hw];rfl
  have hXn:=yo ((hu.drop (J+1)).take n);have arq:VU ((u.drop J).take (n+1))<VU v*1000000000:=by rw[hRv];omega
  obtain⟨u1,s1,s2,s3,s4,s5⟩:=aft (k:=k) hv X6 hn Xs hu (show J+n<u.length by omega) h3 (show J<q.length by omega) h4 arq;have aag:0<VU v:=by omega
  have ars:0≤VU ((u.drop J).take (n+1)):=by omega
  have q0:0≤VU ((u.drop J).take (n+1)) / VU v:=Int.ediv_nonneg ars (by omega);have q1:VU ((u.drop J).take (n+1)) / VU v<1000000000:=Int.ediv_lt_of_lt_mul aag (by rw[Int.mul_comm];omega);obtain⟨q',u',t1,t2,t3,t4,t5,t6,t7,t8⟩:=ih (q.set J (VU ((u.drop J).take (n+1)) / VU v)) u1 (hq.set q0 q1 _) s3 (by simp;omega) (by omega) (by omega) (by simpa using h4) (by rw[s5];exact Int.emod_lt_of_pos _ aag);have hJq:J<q'.length:=by rw[t2];simp;omega
  have hqJ:q'.getD J 0=VU ((u.drop J).take (n+1)) / VU v:=by
   have e:(q'.drop J).getD 0 0=((q.set J (VU ((u.drop J).take (n+1)) / VU v)).drop J).getD 0 0:=by rw[t6]
   rw[rL,rL,Nat.add_zero] at e;rw[e];simp[List.getD,show J<q.length by omega]
  refine⟨q',u', ?_,by rw[t2];simp,t3,by rw[t4,s2],t5, ?_, ?_,t8⟩
  ·rw[show ((J+1:Nat):Int) - 1=J by omega,s1,t1]
  ·have e:(q'.drop J).drop 1=((q.set J (VU ((u.drop J).take (n+1)) / VU v)).drop J).drop 1:=by rw[t6]
   rw[List.drop_drop,List.drop_drop,set_drop] at e;exact e
  ·have e1:=Gb u (show J<u.length by omega);have e2:=Gb q' hJq;have e3:=Int.mul_ediv_add_emod (VU ((u.drop J).take (n+1))) (VU v);rw[s4,s5] at t7;rw[hqJ] at e2;change VU (u.take (J+1))=VU (u.take J)+1000000000^J*u.getD J 0 at e1;change VU (q'.take (J+1))=VU (q'.take J)+1000000000^J*(VU ((u.drop J).take (n+1)) / VU v) at e2;have e4:(1000000000:Int)^J*VU ((u.drop J).take (n+1))=1000000000^J*u.getD J 0+1000000000^(J+1)*VU ((u.drop (J+1)).take n):=by rw[hRv,Int.mul_add,Int.pow_succ,Int.mul_assoc]
   have e5:VU v*VU (q'.take (J+1))=VU v*VU (q'.take J)+1000000000^J*(VU v*(VU ((u.drop J).take (n+1)) / VU v)):=by rw[e2,Int.mul_add,Int.mul_left_comm]
   have e6:(1000000000:Int)^J*VU ((u.drop J).take (n+1))=1000000000^J*(VU v*(VU ((u.drop J).take (n+1)) / VU v))+1000000000^J*(VU ((u.drop J).take (n+1)) % VU v):=by rw[←Int.mul_add,e3]
   omega
end
theorem Wx {N:Nat}{n:Nat}(hl:(dU N).length=n+1){x:Int}(h:x*1000000000^n≤N):x≤(dU N).getD n 0:=by
 have h1:=Gb (dU N) (show n<(dU N).length by omega);rw[List.take_of_length_le (by omega)] at h1;have h2:=Ao (B:=1000000000) (by omega) ((IC N).take n);rw[show ((dU N).take n).length=n by rw[List.length_take];omega] at h2;have h3:=JY N;rw[VU] at h3;by_cases hc:x≤(dU N).getD n 0
 ·exact hc
 ·exfalso;have h4:(1000000000:Int)^n*((dU N).getD n 0+1)≤1000000000^n*x:=Int.mul_le_mul_of_nonneg_left (by omega) (Int.pow_nonneg (by omega));rw[Int.mul_add,Int.mul_one,Int.mul_comm _ x] at h4;omega
theorem ofNat_pow (n:Nat):((1000000000^n:Nat):Int)=(1000000000:Int)^n:=by rw[Int.natCast_pow];rfl
theorem aaj {A B:Nat}(hl:(dU A).length≤100000000000)(hB:2≤(dU B).length)(hAB:B≤A):
  ∃q r,Fl (dU A) (dU B)=some (q,r)∧DU q∧DU r∧VU q=((A / B:Nat):Int)∧VU r=((A % B:Nat):Int)∧q.length≤(dU A).length∧r.length≤(dU A).length:=by
 obtain⟨n,hn⟩:∃n,(dU B).length=n+1:=⟨(dU B).length - 1,by omega⟩
 have apa:0<B:=by
  by_cases h:B=0
  ·subst h;rw[show dU 0=[] from ee _] at hB;simp at hB
  ·omega
 have auL:=aie hAB;have hdA:=IC A;have hdB:=IC B
 -- GJ top digit of GJ akB
 have apc:(1000000000^n:Nat)≤B:=(fL (B:=1000000000) (by omega) n B).1 (show n<(dU B).length by omega);have ht1:1≤(dU B).getD n 0:=Wx hn (by rw[Int.one_mul, ←ofNat_pow];omega);have ht2:=hdB.getD (by omega) n;obtain⟨k,hk⟩:∃k,k=(1000000000:Int) / ((dU B).getD n 0+1):=⟨_,rfl⟩
 obtain⟨hk1,hk2,hk3,hk4⟩:=afu ht1 ht2.2 hk;obtain⟨K,rfl⟩:=Int.eq_ofNat_of_zero_le (show 0≤k by omega)
 -- GJ scaled numbers
 obtain⟨u1,u2,u3⟩:=X3 (dU A) K 0 hdA ⟨by omega,by omega⟩ ⟨by omega,by omega⟩;obtain⟨w1,w2,w3⟩:=X3 (dU B) K 0 hdB ⟨by omega,by omega⟩ ⟨by omega,by omega⟩;rw[JY,Int.add_zero] at u1 w1;have hv:nI (RY (dU B) K 0)=dU (B*K):=by rw[adG w2,w1, ←Int.natCast_mul,Int.toNat_natCast]
 -- its length
 have akC:=Gb (dU B) (show n<(dU B).length by omega);rw[List.take_of_length_le (by omega)] at akC;have afv:=Ao (B:=1000000000) (by omega) (hdB.take n);have asO:=ky (B:=1000000000) (by omega) (hdB.take n);rw[show ((dU B).take n).length=n by rw[List.length_take];omega] at afv;have hVB:=JY B;rw[VU] at hVB;have hPn:(0:Int)<1000000000^n:=Int.pow_pos (by omega);have hBK:B*K<1000000000^(n+1):=by have h1:(B:Int)*K≤(1000000000^n*((dU B).getD n 0+1) - 1)*K:=Int.mul_le_mul_of_nonneg_right (by rw[Int.mul_add,Int.mul_one];omega) (by omega);have h2:(1000000000:Int)^n*(K*((dU B).getD n 0+1))≤1000000000^n*1000000000:=Int.mul_le_mul_of_nonneg_left hk2 (by omega);rw[Int.sub_mul,Int.one_mul,Int.mul_assoc,Int.mul_comm ((dU B).getD n 0+1) (K:Int)] at h1;have h3:=ofNat_pow (n+1);rw[Int.pow_succ] at h3;have h4:((B*K:Nat):Int)=(B:Int)*K:=Int.natCast_mul _ _;omega
 have art:1000000000^n≤B*K:=Nat.le_trans apc (Nat.le_mul_of_pos_right _ (by omega));have hvl:(dU (B*K)).length=n+1:=by have h1:=(aO (B:=1000000000) (by omega) (n+1) (B*K)).2 hBK;have h2:=(fL (B:=1000000000) (by omega) n (B*K)).2 art;show (UQ 1000000000 (B*K)).length=n+1;omega
 have Xs:500000000≤(dU (B*K)).getD (n+1 - 1) 0:=by
  refine Wx (N:=B*K) hvl ?_;have h1:(K*(dU B).getD n 0)*1000000000^n≤(B:Int)*K:=by have h2:1000000000^n*(dU B).getD n 0*K≤(B:Int)*K:=Int.mul_le_mul_of_nonneg_right (by omega) (by omega);rw[Int.mul_comm (K*_),Int.mul_comm (K:Int), ←Int.mul_assoc];exact h2
  have h3:500000000*(1000000000:Int)^n≤(K*(dU B).getD n 0)*1000000000^n:=Int.mul_le_mul_of_nonneg_right hk3 (by omega);rw[Int.natCast_mul];omega
 have hvD:=IC (B*K);have hVv:VU (dU (B*K))=(B:Int)*K:=by rw[JY,Int.natCast_mul]
 -- GJ loop
 have hul:(RY (dU A) K 0).length=(dU A).length+1:=u3;obtain⟨J,hJ⟩:∃J,(dU A).length+1=J+(n+1):=⟨(dU A).length - n,by omega⟩
 have hstart:VU (((RY (dU A) K 0).drop J).take (n+1))<VU (dU (B*K)):=by
  rw[List.take_of_length_le (by rw[List.length_drop];omega),hVv];have h1:=fo 1000000000 ((RY (dU A) K 0).take J) ((RY (dU A) K 0).drop J);rw[List.take_append_drop,show ((RY (dU A) K 0).take J).length=J by rw[List.length_take];omega] at h1;have h2:=yo (u2.take J);have h3:=u1;rw[VU] at h3 h2
  -- a<U^la
  have h4:A<1000000000^(dU A).length:=(aO (B:=1000000000) (by omega) _ A).1 (Nat.le_refl _);rw[show (dU A).length=J+n by omega,Nat.pow_add] at h4;have h5:((1000000000^J*1000000000^n:Nat):Int)=(1000000000:Int)^J*1000000000^n:=by rw[Int.natCast_mul,ofNat_pow,ofNat_pow]
  have hPJ:(0:Int)<1000000000^J:=Int.pow_pos (by omega);have h6:(A:Int)*K<(1000000000^J*1000000000^n)*K:=Int.mul_lt_mul_of_pos_right (by omega) (by omega);have h7:(1000000000:Int)^n*K≤(B:Int)*K:=Int.mul_le_mul_of_nonneg_right (by rw[←ofNat_pow];omega) (by omega);have h8:(1000000000:Int)^J*val 1000000000 ((RY (dU A) K 0).drop J)<1000000000^J*(1000000000^n*K):=by rw[←Int.mul_assoc];omega
  have h9:=Int.lt_of_mul_lt_mul_left h8 (by omega);show val 1000000000 ((RY (dU A) K 0).drop J)<_;omega
 obtain⟨q',u',t1,t2,t3,t4,t5,t6,t7,t8⟩:=ab2 (k:=K) hvD hvl (by omega) Xs J (List.replicate J 0) (RY (dU A) K 0) (gU.replicate (by omega) _) u2 (by simp) (by omega) (by omega) (by simp;omega) hstart;rw[List.length_replicate] at t2;have htq:q'.take J=q':=List.take_of_length_le (by omega);rw[htq,hVv] at t7;have hU0:VU ((RY (dU A) K 0).take J)+1000000000^J*VU (((RY (dU A) K 0).drop J).take (n+1))=(A:Int)*K:=by rw[List.take_of_length_le (l:=(RY (dU A) K 0).drop J) (by rw[List.length_drop];omega), ←u1];have h1:=fo 1000000000 ((RY (dU A) K 0).take J) ((RY (dU A) K 0).drop J);rw[List.take_append_drop,show ((RY (dU A) K 0).take J).length=J by rw[List.length_take];omega] at h1;exact h1.symm
 rw[hU0] at t7
 -- GJ rest is apd
 have hsu:=t5.take (n+1);have hshort:=OQ (b:=(K:Int)) hsu ⟨by omega,by omega⟩ (by rw[List.length_take];omega);obtain⟨s1,s2,s3,s4,s5⟩:=OP (b:=(K:Int)) ⟨by omega,by omega⟩ _ hsu;have hQ0:=yo t3;have Ze:=yo s4;have asP:(0:Int)<K:=by omega
 -- A=B q+r
 have hAq:(A:Int)=B*VU q'+VU (Dh K (u'.take (n+1))).1:=by
  have h1:((A:Int) - B*VU q' - VU (Dh K (u'.take (n+1))).1)*K=(Dh K (u'.take (n+1))).2:=by
   rw[Int.sub_mul,Int.sub_mul];have:(B:Int)*VU q'*K=B*K*VU q':=by rw[Int.mul_assoc,Int.mul_comm (VU q'), ←Int.mul_assoc]
   rw[this];omega
  have h2:(A:Int) - B*VU q' - VU (Dh K (u'.take (n+1))).1=0:=by
   by_cases hp:(A:Int) - B*VU q' - VU (Dh K (u'.take (n+1))).1≥1
   ·exfalso;have:=Int.mul_le_mul_of_nonneg_right hp (show (0:Int)≤K by omega);rw[Int.one_mul] at this;omega
   ·by_cases hm:(A:Int) - B*VU q' - VU (Dh K (u'.take (n+1))).1≤ -1
    ·exfalso;have:=Int.mul_le_mul_of_nonneg_right hm (show (0:Int)≤K by omega);rw[Int.neg_mul,Int.one_mul] at this;omega
    ·omega
  omega
 have hrB:VU (Dh K (u'.take (n+1))).1<B:=by
  have h1:VU (Dh K (u'.take (n+1))).1*K<(B:Int)*K:=by rw[hVv] at t8;omega
  exact Int.lt_of_mul_lt_mul_right h1 (by omega)
 obtain⟨Q,hQ⟩:=Int.eq_ofNat_of_zero_le hQ0;obtain⟨r,hr⟩:=Int.eq_ofNat_of_zero_le Ze;rw[hQ,hr] at hAq;rw[hr] at hrB;have hAN:A=B*Q+r:=by
  have:((B*Q+r:Nat):Int)=(B:Int)*Q+r:=by rw[Int.natCast_add,Int.natCast_mul]
  omega
 have hq1:A / B=Q:=by rw[hAN,Nat.mul_add_div apa,Nat.div_eq_of_lt (by omega)];omega
 have NA:A % B=r:=by rw[hAN,Nat.mul_add_mod,Nat.mod_eq_of_lt (by omega)]
 refine⟨q',(Dh K (u'.take (n+1))).1, ?_,t3,s4,by rw[hQ,hq1],by rw[hr,NA],by omega,by rw[s5,List.length_take];omega⟩
 -- GJ walk
 rw[Q7,MH];have e1:(((dU B).length:Int) - 1).toNat=n:=by omega
 simp (disch:=omega) only[i64_in,fI,e1,u64_in,eS,kz,mc];rw[←hk];simp (disch:=omega) only[u64_in,u32_in];rw[L9 hdA ⟨by omega,by omega⟩ (by omega),bS,L9 hdB ⟨by omega,by omega⟩ (by omega),bS,Ea (by omega),bS,hv];simp (disch:=omega) only[i64_in,Ic,hul,hvl];have e2:((((dU A).length+1:Nat):Int) - ((n+1:Nat):Int)).toNat=J:=by omega
 have e3:(((dU A).length+1:Nat):Int) - ((n+1:Nat):Int) - 1=(J:Int) - 1:=by omega
 rw[e2,e3,t1,B4,yI];simp (disch:=omega) only[u9,F8,Int.toNat_natCast];rw[hshort,bS]
theorem X9 {A B:Nat}(hl:(dU A).length≤100000000000)(hl':(dU B).length≤100000000000)(hB:0<B):
  ∃q r,xR (dU A) (dU B)=some (q,r)∧DU q∧DU r∧VU q=((A / B:Nat):Int)∧VU r=((A % B:Nat):Int)∧q.length≤1000000000000∧r.length≤1000000000000:=by
 rw[Ol,Jk,JZ (by omega) (by omega),bS];by_cases h:A<B
 ·rw[mX (by omega),ax (by omega)];refine⟨[],dU A,rfl,gU.nil,IC A, ?_, ?_,by simp,by omega⟩
  ·rw[Nat.div_eq_of_lt h];rfl
  ·rw[Nat.mod_eq_of_lt h,JY]
 ·have hc:¬mK (A:Int) B<0:=by unfold mK;rw[if_neg (by omega)];split<;>omega
  rw[aq hc];by_cases h1:(dU B).length=1
  ·rw[gT (by omega)];have hd:=(IC B).getD (by omega) 0;have hBv:(dU B).getD 0 0=B:=by
    have h2:=JY B;cases hb:dU B with
    |nil=>rw[hb] at h1;simp at h1
    |cons x xs=>
     rw[hb] at h1 h2;have:xs=[]:=by simpa using h1
     subst this;simpa [VU,val] using h2
   rw[hBv] at hd;obtain⟨s1,s2,s3,s4,s5⟩:=OP (b:=(B:Int)) ⟨by omega,hd.2⟩ (dU A) (IC A);have ht:nI [(Dh (B:Int) (dU A)).2]=dU (Dh (B:Int) (dU A)).2.toNat:=by have:DU [(Dh (B:Int) (dU A)).2]:=gU.cons s2 (by omega) gU.nil;rw[adG this];simp[VU,val]
   simp (disch:=omega) only[fI,Int.toNat_zero,hBv];rw[OQ (IC A) ⟨by omega,hd.2⟩ (by omega),bS,Ea (by simp),bS,ht];obtain⟨r,hr⟩:=Int.eq_ofNat_of_zero_le s2;obtain⟨Q,hQ⟩:=Int.eq_ofNat_of_zero_le (yo s4);rw[JY,hQ,hr] at s1;rw[hr] at s3;have hAN:A=B*Q+r:=by
    have:((B*Q+r:Nat):Int)=(B:Int)*Q+r:=by rw[Int.natCast_add,Int.natCast_mul]
    rw[Int.mul_comm] at s1;omega
   have hq1:A / B=Q:=by rw[hAN,Nat.mul_add_div hB,Nat.div_eq_of_lt (by omega)];omega
   have NA:A % B=r:=by rw[hAN,Nat.mul_add_mod,Nat.mod_eq_of_lt (by omega)]
   refine⟨_,_,rfl,s4,IC _,by rw[hQ,hq1],by rw[JY,hr,NA];rfl,by omega, ?_⟩;rw[hr,Int.toNat_natCast];have:=(aO (B:=1000000000) (by omega) 1 r).2 (by omega);show (UQ 1000000000 r).length≤_;omega
  ·rw[eS (by omega)];have hne:(dU B).length≠0:=fun e=>by have:=(mC (B:=1000000000) (n:=B) (by omega)).1 (List.length_eq_zero_iff.1 e);omega
   obtain⟨q,r,e1,e2,e3,e4,e5,e6,e7⟩:=aaj (A:=A) (B:=B) hl (by omega) (by omega);rw[e1,bS];exact⟨q,r,rfl,e2,e3,e4,e5,by omega,by omega⟩
theorem ab3:∀(y x:Nat),lP x y=some ((Nat.gcd x y:Nat):Int):=by
 intro y;induction y using Nat.strongRecOn with
 |ind y ih=>
  intro x;rw[HH,B0];by_cases h:y=0
  ·subst h;rw[c5 (by omega),Nat.gcd_zero_right]
  ·have e:(x:Int).tmod y=((x % y:Nat):Int):=by rw[bA (by omega),Int.natCast_emod]
   rw[cX (by omega),kz (by omega),e,ih _ (Nat.mod_lt _ (by omega)),Nat.gcd_comm y, ←Nat.gcd_rec,Nat.gcd_comm]
theorem Wy {d:List Int}(hd:DU d)(hl:d.length≤2):Fk d=some (VU d):=by
 rw[Q5,MF]
 match d,hd,hl with
 | [],hd,hl=>simp (disch:=omega) only[List.length_nil,i64_in];rw[kn,jO,u9 (by omega)];rfl
 | [x],hd,hl=>have hx:=hd.head;simp only[List.length_singleton];rw[i64_in _ (by omega),kn,jO,xz (by omega),fI (by omega) (by simp)];have e:([x]:List Int).getD (((1:Nat):Int) - 1).toNat 0=x:=rfl;rw[e];simp (disch:=omega) only[i64_in];rw[kn,jO,u9 (by omega)];simp[VU,val]
 | [x,y],hd,hl=>have hx:=hd.head;have hy:=hd.tail.head;simp only[List.length_cons,List.length_nil];rw[i64_in _ (by omega),kn,jO,xz (by omega),fI (by omega) (by simp)];have e:([x,y]:List Int).getD (((0+1+1:Nat):Int) - 1).toNat 0=y:=rfl;rw[e];simp (disch:=omega) only[i64_in];rw[kn,jO,xz (by omega),fI (by omega) (by simp)];have e:([x,y]:List Int).getD (((0+1+1:Nat):Int) - 1 - 1).toNat 0=x:=rfl;rw[e];simp (disch:=omega) only[i64_in];rw[kn,jO,u9 (by omega)];simp[VU,val];omega
 |_::_::_::_,hd,hl=>simp at hl
theorem ain {t:Bool}{t2:List Int}:∀(B A:Nat),(dU A).length≤10000000000→(dU B).length≤10000000000→eA (dU A) (dU B) t t2=some (W ((Nat.gcd A B:Nat):Int)):=by
 intro B;induction B using Nat.strongRecOn with
 |ind B ih=>
  intro A hA hB;rw[Az,tH];by_cases h:B=0
  ·subst h;rw[show dU 0=[] from ee _,c5 (by simp),Nat.gcd_zero_right];simp[W]
  ·have hne:(dU B).length≠0:=fun e=>by have:=(mC (B:=1000000000) (n:=B) (by omega)).1 (List.length_eq_zero_iff.1 e);omega
   rw[cX (by omega)]
   -- GJ step by a anT
   have aah:(xR (dU A) (dU B)).bind (fun r6=>(ni r6.2).bind fun r7=>eA (dU B) r7 t t2)=some (W ((Nat.gcd A B:Nat):Int)):=by obtain⟨q,r,e1,e2,e3,e4,e5,e6,e7⟩:=X9 (A:=A) (B:=B) (by omega) (by omega) (by omega);have hmod:=Nat.mod_lt A (show B>0 by omega);have hm:=aie (show A % B≤B by omega);rw[e1,bS,Ea (show r.length≤_ by omega),bS,adG e3,e5,Int.toNat_natCast,ih _ hmod B hB (by omega)];rw[Nat.gcd_comm B, ←Nat.gcd_rec,Nat.gcd_comm]
   by_cases ha:(dU A).length≤2
   ·rw[OO (by omega)];by_cases hb:(dU B).length≤2
    ·rw[OO (by omega),Wy (IC A) ha,bS,Wy (IC B) hb,bS,JY,JY,Oj,Jj,ab3,bS];have h1:=(aO (B:=1000000000) (by omega) 2 B).1 hb;have h2:=Nat.gcd_le_right A (show 0<B by omega);rw[Ww (by omega) (by omega),bS,wM]
    ·rw[Ud (by omega)];exact aah
   ·rw[Ud (by omega)];exact aah
theorem Gc {x y:Int}(hx:Ln x≤10000000000)(hy:Ln y≤10000000000):pn (W x) (W y)=some (W ((Int.gcd x y:Nat):Int)):=by rw[Fv,Ad,W_2,W_2,ain _ _ hx hy];rfl
end Go.Proofs.YtofjebmoebhiiaaGreatDoor.Ev
namespace Go.Abs
theorem aS (s:ByteArray):(bytesOf s).length=s.size:=by rw[bytesOf,List.length_map,Array.length_toList];rfl
theorem mD (s:ByteArray):gU 256 (bytesOf s):=fun x hx=>by simp only[bytesOf,List.mem_map] at hx;obtain⟨b,_,rfl⟩:=hx;have:=b.toNat_lt;omega
theorem yU (s:ByteArray)(i:Int):zQ s i=idx (bytesOf s) i:=by
 cases i with
 |ofNat n=>show (s[n]?).map _=(bytesOf s)[n]?;simp only[bytesOf,List.getElem?_map,Array.getElem?_toList];rfl
 |negSucc n=>rfl
theorem lG (s:ByteArray)(l h:Nat):bytesOf (s.extract l h)=((bytesOf s).take h).drop l:=by simp only[bytesOf,ByteArray.data_extract,Array.toList_extract,List.extract_eq_take_drop];rw[←List.map_take, ←List.map_drop,List.drop_take]
theorem me {s t:ByteArray}(h:bytesOf s=bytesOf t):s=t:=by apply ByteArray.ext;apply Array.ext';refine(List.map_inj_right fun a b hab=> ?_).1 h;have h2:a.toNat=b.toNat:=Int.ofNat.inj hab;exact UInt8.toNat_inj.1 h2
theorem tg {xs:List Int}(h:gU 256 xs):bytesOf (strOf xs)=xs:=by
 simp only[bytesOf,strOf,List.map_map]
 conv=>rhs;rw[←List.map_id xs]
 apply List.map_congr_left;intro x hx;have:=h x hx;simp only[Function.comp,id,UInt8.toNat_ofNat'];omega
theorem Vm (s:ByteArray):strOf (bytesOf s)=s:=me (tg (mD s))
theorem aak (s:ByteArray):∀(n i:Nat) (r:List UInt8),s.size - i=n→ByteArray.toList.loop s i r=r.reverse++s.data.toList.drop i:=by
 intro n;induction n with
 |zero=>intro i r h;rw[ByteArray.toList.loop,if_neg (by omega)];rw[List.drop_eq_nil_of_le (by simp;exact(show s.data.size≤i by have:= @ByteArray.size_data s;omega))];simp
 |succ n ih=>
  intro i r h;have hi:i<s.size:=by omega
  have hi':i<s.data.toList.length:=by simp;exact(show i<s.data.size by have:= @ByteArray.size_data s;omega)
  rw[ByteArray.toList.loop,if_pos hi,ih (i+1) _ (by omega)];rw[List.drop_eq_getElem_cons hi'];simp;have:s.get! i=s.data[i]'(by simpa using hi'):=by simp only[ByteArray.get!];exact getElem!_pos _ _ _
  exact this
theorem toList_eq (s:ByteArray):s.toList=s.data.toList:=by rw[ByteArray.toList,aak s _ 0 [] rfl];simp
theorem Ya (s t:ByteArray):(s.toList==t.toList)=decide (bytesOf s=bytesOf t):=by
 rw[toList_eq,toList_eq];by_cases h:s=t
 ·subst h;simp
 ·have h1:¬bytesOf s=bytesOf t:=fun e=>h (me e);have h2:¬s.data.toList=t.data.toList:=fun e=>h (ByteArray.ext (Array.ext' e));rw[decide_eq_false h1];simpa using h2
theorem Uf (s t:ByteArray):(s.toList==t.toList)=decide (s=t):=by rw[Ya];exact decide_eq_decide.2 ⟨me,fun h=>by rw[h]⟩
theorem Vo:bytesOf ByteArray.empty=[]:=rfl
theorem J1 (s t:ByteArray):bytesOf (s++t)=bytesOf s++bytesOf t:=by
 simp only[bytesOf];rw[←List.map_append]
 congr 1
abbrev dX (n:Nat):List Int:=UQ 10 n
abbrev VX (d:List Int):Int:=val 10 d
abbrev DX (d:List Int):Prop:=gU 10 d
theorem Hk (n:Nat):DX (dX n):=XZ (B:=10) (by omega) n
theorem J2 (n:Nat):VX (dX n)=n:=X0 (B:=10) (by omega) n
theorem Ug {d:List Int}(h:DX d):nI d=dX (VX d).toNat:=F6 (B:=10) (by omega) d h
theorem KE {d:List Int}(h:DX d):0≤VX d:=ky (by omega) h
theorem Hl (n:Nat):((10^n:Nat):Int)=(10:Int)^n:=by rw[Int.natCast_pow];rfl
theorem OR {k n:Nat}(h:k≤n):(10:Int)^k≤10^n:=by have h1:=Nat.pow_le_pow_right (show 10>0 by omega) h;rw[←Hl, ←Hl];exact Int.ofNat_le.2 h1
def Gm (d:List Int):List Int:=d.map (· +48)
def kA (n:Nat):List Int:=if n=0 then [48] else (Gm (dX n)).reverse
def rf (z:Int):List Int:=(if z<0 then [45] else [])++kA z.natAbs
def fM (z:Int):ByteArray:=strOf (rf z)
theorem o7 (n:Nat):∀c∈kA n,48≤c∧c≤57:=by
 intro c hc;unfold kA at hc;split at hc
 ·simp at hc;omega
 ·rw[List.mem_reverse] at hc;obtain⟨y,hy,rfl⟩:=List.mem_map.1 hc;have:=Hk n y hy;omega
theorem ab4 (z:Int):gU 256 (rf z):=fun c hc=>by
 unfold rf at hc;rcases List.mem_append.1 hc with h |h
 ·split at h
  ·simp at h;omega
  ·cases h
 ·have:=o7 _ c h;omega
theorem dD (z:Int):bytesOf (fM z)=rf z:=tg (ab4 z)
theorem Yb (n:Nat):kA n≠ []:=by
 unfold kA;split
 ·simp
 ·rename_i h;intro e;have h1:Gm (dX n)=[]:=by simpa using e
  have h2:dX n=[]:=by simpa [Gm] using h1
  exact h ((mC (B:=10) (by omega)).1 h2)
theorem rh (n:Nat):(kA n).length=max 1 (dX n).length:=by
 unfold kA;split
 ·rename_i h;subst h;rw[dX,ee];rfl
 ·rename_i h;have:(dX n).length≠0:=fun e=>h ((mC (B:=10) (by omega)).1 (List.length_eq_zero_iff.1 e));simp[Gm];omega
theorem afw (n:Nat):(kA n).head?=some 48↔n=0:=by
 unfold kA;split
 ·rename_i h;simp[h]
 ·rename_i h;have hne:dX n≠ []:=fun e=>h ((mC (B:=10) (by omega)).1 e);constructor
  ·intro e;exfalso;rw[List.head?_reverse] at e;have h1:dX n=(dX n).dropLast++[(dX n).getLast hne]:=(List.dropLast_concat_getLast hne).symm;have h2:=Rk (B:=10) (by omega) h1;rw[Gm,List.getLast?_map,List.getLast?_eq_some_getLast hne] at e;simp at e;omega
  ·intro e;exact absurd e h
def js (l:List Int):Int:=l.foldl (fun x c=>10*x+(c - 48)) 0
theorem KF:∀(l:List Int) (x:Int),l.foldl (fun x c=>10*x+(c - 48)) x=x*10^l.length+js l
 | [],x=>by simp[js]
 |c::l,x=>by
  simp only[List.foldl_cons,js];rw[KF l (10*x+(c - 48)),KF l (10*0+(c - 48)),List.length_cons,Int.pow_succ,Int.add_mul];have e1:10*x*10^l.length=x*(10^l.length*10):=by rw[Int.mul_comm 10 x,Int.mul_assoc,Int.mul_comm 10]
  rw[e1];simp only[Int.mul_zero,Int.zero_add];omega
theorem Eb (l m:List Int):js (l++m)=js l*10^m.length+js m:=by rw[js,List.foldl_append,KF];rfl
theorem yp:∀(d:List Int),js (Gm d).reverse=VX d
 | []=>rfl
 |x::d=>by simp only[Gm,List.map_cons,List.reverse_cons];rw[Eb];have:=yp d;rw[Gm] at this;rw[this];simp[js,VX,val];omega
theorem Ge (n:Nat):js (kA n)=n:=by
 unfold kA;split
 ·rename_i h;subst h;rfl
 ·rw[yp,J2]
theorem zN:∀(l:List Int),(∀c∈l,48≤c∧c≤57)→0≤js l∧js l<10^l.length
 | [],_=>by simp[js]
 |c::l,h=>by
  have h1:=h c (by simp);have h2:=zN l (fun x hx=>h x (by simp[hx]));have h3:js (c::l)=(c - 48)*10^l.length+js l:=by have:=KF l (10*0+(c - 48));simpa [js] using this
  rw[h3,List.length_cons,Int.pow_succ];have hp:(0:Int)<10^l.length:=Int.pow_pos (by omega);have h4:0≤(c - 48)*10^l.length:=Int.mul_nonneg (by omega) (by omega);have h5:(c - 48)*10^l.length≤9*10^l.length:=Int.mul_le_mul_of_nonneg_right (by omega) (by omega);omega
def Sd (c:Int):Bool:=decide (48≤c)&&decide (c≤57)
theorem yV (c:Int):Sd c=true↔48≤c∧c≤57:=by simp[Sd]
theorem afx {l:List Int}(h:∀c∈l,48≤c∧c≤57)(hne:l≠ [])(h0:l.head?=some 48→l=[48]):l=kA (js l).toNat:=by
 by_cases hz:l.head?=some 48
 ·rw[h0 hz];rfl
 · -- GJ digits from GJ lowest one on
   have hD:DX (l.map (· - 48)).reverse:=fun x hx=>by rw[List.mem_reverse] at hx;obtain⟨c,hc,rfl⟩:=List.mem_map.1 hx;have:=h c hc;omega
   have ape:Gm (l.map (· - 48)).reverse=l.reverse:=by
    simp only[Gm, ←List.map_reverse,List.map_map]
    conv=>rhs;rw[←List.map_id l.reverse]
    apply List.map_congr_left;intro c _;simp only[Function.comp,id];omega
   have hv:VX (l.map (· - 48)).reverse=js l:=by rw[←yp,ape,List.reverse_reverse]
   have apf:nI (l.map (· - 48)).reverse=(l.map (· - 48)).reverse:=by
    cases l with
    |nil=>exact absurd rfl hne
    |cons c l=>simp only[List.map_cons,List.reverse_cons];exact C5 (fun e=>hz (by simp;omega)) _
   have hu:=abZ (B:=10) (by omega) hD apf;rw[show val ((10:Nat):Int) (l.map (· - 48)).reverse=js l from hv] at hu;have hnz:(js l).toNat≠0:=fun e=>by rw[e,ee] at hu;exact hne (by simpa using hu)
   unfold kA;rw[if_neg hnz,dX, ←hu,ape,List.reverse_reverse]
theorem aal {m n:Nat}(h:kA m=kA n):m=n:=by have h1:=Ge m;rw[h,Ge n] at h1;omega
theorem aio {x y:Int}(h:rf x=rf y):x=y:=by
 unfold rf at h;have key:∀(m n:Nat),([45]:List Int)++kA m≠ []++kA n:=fun m n e=>by
  have:(45:Int)∈kA n:=by rw[List.nil_append] at e;rw[←e];simp
  have:=o7 n _ this;omega
 split at h<;>split at h
 ·have:=aal (List.append_cancel_left h);omega
 ·exact absurd h (key _ _)
 ·exact absurd h.symm (key _ _)
 ·have:=aal (List.append_cancel_left h);omega
theorem akD {x y:Int}(h:fM x=fM y):x=y:=aio (by rw[←dD, ←dD,h])
theorem ab5 {x y:Int}:fM x=fM y↔x=y:=⟨akD,fun h=>by rw[h]⟩
def jd (l:List Int):Bool:=l.head?==some 45
def bt (l:List Int):List Int:=if l.head?=some 45 then l.tail else l
def fU (l:List Int):Bool:=
 (bt l).all Sd&& !((bt l).isEmpty)&&(!((bt l).head?==some 48)||((bt l).length==1&& !(jd l)))
def numOf (l:List Int):Int:=if jd l then -js (bt l) else js (bt l)
theorem Rl (z:Int):fU (rf z)=true∧numOf (rf z)=z:=by
 have hr:=o7 z.natAbs;have hne:=Yb z.natAbs;have hh:=afw z.natAbs;by_cases h:z<0
 ·have hb:bt (rf z)=kA z.natAbs:=by simp[bt,rf,h]
  have hm:jd (rf z)=true:=by simp[jd,rf,h]
  have hz:¬(kA z.natAbs).head?=some 48:=fun e=>by have:=hh.1 e;omega
  refine⟨?_, ?_⟩
  ·unfold fU;rw[hb,hm];have h1:(kA z.natAbs).all Sd=true:=List.all_eq_true.2 fun c hc=>(yV c).2 (hr c hc);have h2:(kA z.natAbs).isEmpty=false:=by simpa using hne
   have h3:((kA z.natAbs).head?==some 48)=false:=by simpa using hz
   rw[h1,h2,h3];rfl
  ·unfold numOf;rw[hb,hm,Ge];simp;omega
 ·have hb':(rf z).head?≠some 45:=by simp only[rf,h,if_false,List.nil_append];intro e;have:(45:Int)∈kA z.natAbs:=List.mem_of_mem_head? (by rw[e];rfl);have:=hr _ this;omega
  have hb:bt (rf z)=kA z.natAbs:=by unfold bt;rw[if_neg hb'];simp[rf,h]
  have hm:jd (rf z)=false:=by simpa [jd] using hb'
  refine⟨?_, ?_⟩
  ·unfold fU;rw[hb,hm];have h1:(kA z.natAbs).all Sd=true:=List.all_eq_true.2 fun c hc=>(yV c).2 (hr c hc);have h2:(kA z.natAbs).isEmpty=false:=by simpa using hne
   rw[h1,h2];by_cases h3:(kA z.natAbs).head?=some 48
   ·have:z.natAbs=0:=hh.1 h3;rw[this];rfl
   ·have h4:((kA z.natAbs).head?==some 48)=false:=by simpa using h3
    rw[h4];rfl
  ·unfold numOf;rw[hb,hm,Ge];simp;omega
theorem Uh {l:List Int}(h:fU l=true):l=rf (numOf l):=by
 unfold fU at h;simp only[Bool.and_eq_true,Bool.or_eq_true,Bool.not_eq_true',List.isEmpty_eq_false_iff] at h;obtain⟨⟨h1,h2⟩,h3⟩:=h;have hr:∀c∈bt l,48≤c∧c≤57:=fun c hc=>(yV c).1 (List.all_eq_true.1 h1 c hc);have h0:(bt l).head?=some 48→bt l=[48]∧jd l=false:=fun e=>by
  rcases h3 with h3 |h3
  ·rw[e] at h3;cases h3
  ·refine⟨?_,h3.2⟩;cases hb:bt l with
   |nil=>exact absurd hb h2
   |cons c r=>rw[hb] at e h3;simp at e h3;rw[e,h3.1]
 have hn:=afx hr h2 (fun e=>(h0 e).1);have hb:=zN _ hr;by_cases hm:l.head?=some 45
 ·have hm':jd l=true:=by simpa [jd] using hm
  have hnz:js (bt l)≠0:=fun e=>by
   rw[e] at hn;have:(bt l).head?=some 48:=by rw[hn];rfl
   have:=(h0 this).2;rw[hm'] at this;cases this
  have hl:l=45::bt l:=by
   cases l with
   |nil=>cases hm
   |cons c r=>simp at hm;subst hm;simp[bt]
  unfold numOf rf;rw[if_pos hm',if_pos (by omega)]
  conv=>lhs;rw[hl,hn]
  have:(-js (bt l)).natAbs=(js (bt l)).toNat:=by omega
  rw[this];rfl
 ·have hm':jd l=false:=by simpa [jd] using hm
  have hl:bt l=l:=by unfold bt;rw[if_neg hm]
  unfold numOf rf;rw[hm',hl];rw[hl] at hn hb;simp only[Bool.false_eq_true,if_false];rw[if_neg (by omega),List.nil_append];have:(js l).natAbs=(js l).toNat:=by omega
  rw[this];exact hn
def nd (z:Int):Nat:=(kA z.natAbs).length
theorem j6 (z:Int)(k:Nat)(hk:1≤k):nd z≤k↔z.natAbs<10^k:=by unfold nd;rw[rh];have:=aO (B:=10) (by omega) k z.natAbs;simp only[dX];rw[←this];omega
theorem Yc (z:Int):nd (-z)=nd z:=by unfold nd;rw[Int.natAbs_neg]
theorem aam (z:Int):(fM z).size=nd z+(if z<0 then 1 else 0):=by rw[←aS,dD];unfold rf nd;split<;>simp<;>omega
end Go.Abs
namespace Go.Proofs.YtofjebmoebhiiaaGreatDoor.Ev
open Go.Abs Go.IntWalk
theorem take_one {l:List Int}:l.take 1=[45]↔l.head?=some 45:=by cases l<;>simp
theorem Yd (s:ByteArray):iV s (bs [45])=some (strOf (bt (bytesOf s)),jd (bytesOf s)):=by
 have h45:bytesOf (bs [45])=[45]:=rfl;have hsz:(bs [45]).size=1:=rfl;have hlen:=aS s;rw[zi,sk,sX,nu,sY,nv,hsz];by_cases h0:1≤s.size
 ·rw[xz (by omega),F8 (by omega) (by omega) (by omega),bS,Ya,h45,lG];have e1:((0:Int)).toNat=0:=rfl;have e2:(((1:Nat):Int)).toNat=1:=rfl;rw[e1,e2,List.drop_zero];by_cases hm:(bytesOf s).head?=some 45
  ·have hd:decide ((bytesOf s).take 1=[45])=true:=decide_eq_true (take_one.2 hm);rw[hd];simp only[Bool.not_true,cF];rw[F8 (by omega) (by omega) (by omega),bS];have hb:bt (bytesOf s)=(bytesOf s).tail:=by unfold bt;rw[if_pos hm]
   have hm':jd (bytesOf s)=true:=by simpa [jd] using hm
   have hx:s.extract 1 ((s.size:Nat):Int).toNat=strOf (bt (bytesOf s)):=by apply me;rw[lG,hb,tg (fun x hx=>mD s x (List.mem_of_mem_tail hx)),Int.toNat_natCast, ←hlen,List.take_length];simp
   rw[hm',hx]
  ·have hd:decide ((bytesOf s).take 1=[45])=false:=decide_eq_false (fun e=>hm (take_one.1 e));rw[hd];simp only[Bool.not_false,cT];rw[bS];have hb:bt (bytesOf s)=bytesOf s:=by unfold bt;rw[if_neg hm]
   have hm':jd (bytesOf s)=false:=by simpa [jd] using hm
   rw[hb,hm',Vm]
 ·have he:bytesOf s=[]:=List.length_eq_zero_iff.1 (by omega);rw[u9 (by omega),bS];simp only[Bool.not_false,cT];rw[bS];have:s=strOf (bt (bytesOf s)):=by
   apply me;rw[he,tg]
   ·rfl
   ·rw[show bt ([]:List Int)=[] from rfl];exact gU.nil
  rw[←this,he];rfl
theorem ab6 {s:ByteArray}{neg:Bool}{e:Int}{t4:Bool}{t5:List Int}{c:List Int}(hc:gU 256 c)(hl:c.length≤9):∀(m k:Nat) (x:Int) (d:List Int),m+k=c.length→x=js (c.take k)→(∀b∈c.take k,48≤b∧b≤57)→d.length≤100000000000000 / 5→
  nM s neg e x c c.length k d t4 t5=bif c.all Sd then jK s neg (IntKind.wrap .i64 (e - 9)) (d++[js c]) t4 t5 else some ((false,[],()),false):=by
 intro m;induction m with
 |zero=>
  intro k x d hk hx hd YI;have hk':k=c.length:=by omega
  subst hk';rw[List.take_length] at hx hd;have ha:c.all Sd=true:=List.all_eq_true.2 fun b hb=>(yV b).2 (hd b hb);rw[BW,yB,aq (by omega),iT (by omega) (by omega),ha,cT,hx]
 |succ m ih=>
  intro k x d hk hx hd YI;have hkl:k<c.length:=by omega
  have hb:=hc.getD (by omega) k;have hxb:=zN (c.take k) hd;rw[show (c.take k).length=k by rw[List.length_take];omega] at hxb;have auY:(10:Int)^k≤10^8:=OR (by omega);rw[BW,yB,ax (by omega),fI (by omega) (by omega),Int.toNat_natCast];by_cases h1:c.getD k 0<48
  ·have ha:c.all Sd=false:=by rw[List.all_eq_false];refine⟨c.getD k 0, ?_,by rw[yV];omega⟩;simp only[List.getD,hkl,List.getElem?_eq_getElem,Option.getD_some];exact List.getElem_mem hkl
   rw[ax h1,ha,cF]
  ·by_cases h2:c.getD k 0>57
   ·have ha:c.all Sd=false:=by rw[List.all_eq_false];refine⟨c.getD k 0, ?_,by rw[yV];omega⟩;simp only[List.getD,hkl,List.getElem?_eq_getElem,Option.getD_some];exact List.getElem_mem hkl
    rw[aq h1,cX h2,ha,cF]
   ·rw[aq h1,c5 h2];simp (disch:=omega) only[u8_in,u32_in,i64_in];have vg:=fun x d=>ih (k+1) x d (by omega);simp only[Int.natCast_add,Int.natCast_one] at vg;rw[vg]
    ·rw[dF hkl,Eb, ←hx];simp[js];omega
    ·rw[dF hkl];intro b hb';rcases List.mem_append.1 hb' with h |h
     ·exact hd b h
     ·simp only[List.mem_singleton] at h;subst h;omega
    ·exact YI
theorem ab7 {s:ByteArray}{neg:Bool}{t4:Bool}{t5:List Int}(hs:s.size≤140737488355328):∀(m e:Nat) (d:List Int),e≤m→e≤s.size→DU d→d.length*9+e≤140737488355328+9→
  jK s neg e d t4 t5=bif ((bytesOf s).take e).all Sd then some (W (bif neg then -(VU d+1000000000^d.length*js ((bytesOf s).take e)) else (VU d+1000000000^d.length*js ((bytesOf s).take e))),true) else some ((false,[],()),false):=by
 intro m;induction m using Nat.strongRecOn with
 |ind m ih=>
  intro e d hm he hd YI;have hbl:=aS s;rw[BV,yA];by_cases h0:e=0
  ·subst h0;rw[c5 (by omega),yS hd (by omega),bS];simp only[List.take_zero,List.all_nil,cT,js,List.foldl_nil,Int.mul_zero,Int.add_zero]
   try rfl
  ·rw[cX (by omega)]
   -- GJ ap7 begin
   obtain⟨b,hb⟩:∃b:Nat,b=e - 9:=⟨_,rfl⟩
   have e0:(bif decide (IntKind.wrap .i64 ((e:Int) - 9)>0) then IntKind.wrap .i64 ((e:Int) - 9) else 0)=(b:Int):=by
    rw[i64_in _ (by omega)];by_cases h:(e:Int) - 9>0
    ·rw[cX h];omega
    ·rw[c5 h];omega
   rw[e0];have hx:bytesOf (s.extract b e)=((bytesOf s).take e).drop b:=lG s b e;have hxl:(bytesOf (s.extract b e)).length=e - b:=by rw[hx];simp;omega
   have hxs:(s.extract b e).size≤140737488355328:=by rw[←aS,hxl];omega
   simp only[Int.toNat_natCast];rw[F8 (by omega) (by omega) (by omega),arb hxs];have hI:=ab6 (s:=s) (neg:=neg) (e:=(e:Int)) (t4:=t4) (t5:=t5) (c:=bytesOf (s.extract b e)) (mD _) (by omega) (e - b) 0 0 d (by omega) (by simp[js]) (by simp) (by omega);simp only[Int.natCast_zero] at hI;rw[hI,hx,i64_in _ (by omega)];have Qn:(bytesOf s).take e=(bytesOf s).take b++((bytesOf s).take e).drop b:=by
    conv=>lhs;rw[Ue ((bytesOf s).take e) b]
    rw[List.take_take,Nat.min_eq_left (by omega)]
   cases hca:(((bytesOf s).take e).drop b).all Sd with
   |false=>
    have:((bytesOf s).take e).all Sd=false:=by rw[Qn,List.all_append,hca,Bool.and_false]
    rw[this,cF,cF]
   |true=>
    rw[cT];have hcd:∀x∈((bytesOf s).take e).drop b,48≤x∧x≤57:=fun x hx=>(yV x).1 (List.all_eq_true.1 hca x hx);have hcb:=zN _ hcd;have S1:(((bytesOf s).take e).drop b).length=e - b:=by rw[←hx,hxl]
    rw[S1] at hcb;have hpw:(10:Int)^(e - b)≤10^9:=OR (by omega);have YF:DU (d++[js (((bytesOf s).take e).drop b)]):=hd.append (gU.cons hcb.1 (by omega) gU.nil);have hVd:VU (d++[js (((bytesOf s).take e).drop b)])=VU d+1000000000^d.length*js (((bytesOf s).take e).drop b):=by rw[VU,fo];simp[val]
    by_cases h9:9≤e
    ·have e1:(e:Int) - 9=(b:Int):=by omega
     rw[e1,ih b (by omega) b _ (Nat.le_refl _) (by omega) YF (by simp;omega),hVd];have h4:((bytesOf s).take e).all Sd=((bytesOf s).take b).all Sd:=by
      conv=>lhs;rw[Qn]
      rw[List.all_append,hca,Bool.and_true]
     have h5:js ((bytesOf s).take e)=js ((bytesOf s).take b)*1000000000+js (((bytesOf s).take e).drop b):=by
      conv=>lhs;rw[Qn]
      rw[Eb,S1,show e - b=9 by omega];rfl
     have h6:VU d+1000000000^d.length*js (((bytesOf s).take e).drop b)+1000000000^(d++[js (((bytesOf s).take e).drop b)]).length*js ((bytesOf s).take b)
       =VU d+1000000000^d.length*js ((bytesOf s).take e):=by
      rw[h5,List.length_append,List.length_singleton,Int.pow_succ,Int.mul_add,Int.mul_assoc,Int.mul_comm (1000000000:Int) (js _)];omega
     rw[h4,h6]
    · -- GJ last chunk
      have hb0:b=0:=by omega
      subst hb0;rw[BV,yA,c5 (by omega),yS YF (by simp;omega),bS,hVd];rw[List.drop_zero] at hca ⊢;rw[hca,cT]
      try rfl
theorem va {s:ByteArray}(hs:s.size≤140737488355328):Fh s=bif fU (bytesOf s) then some (W (numOf (bytesOf s)),true) else some ((false,[],()),false):=by
 rw[Q2,MD,Yd,bS];have hbody:bytesOf (strOf (bt (bytesOf s)))=bt (bytesOf s):=tg (fun x hx=>mD s x (by
  unfold bt at hx;split at hx
  ·exact List.mem_of_mem_tail hx
  ·exact hx))
 have hbl:(bt (bytesOf s)).length≤s.size:=by
  rw[←aS];unfold bt;split
  ·simp
  ·exact Nat.le_refl _
 have hsz:(strOf (bt (bytesOf s))).size=(bt (bytesOf s)).length:=by rw[←aS,hbody]
 generalize hB:bt (bytesOf s)=B at*
 generalize hM:jd (bytesOf s)=M at*
 simp only;rw[Ya,hbody,Vo];cases B with
 |nil=>
  have:fU (bytesOf s)=false:=by unfold fU;rw[hB];simp
  rw[this];rfl
 |cons c r=>
  have h1:decide ((c::r:List Int)=[])=false:=by simp
  rw[h1,cF,yU,hbody];have h2:idx (c::r) (0:Int)=some c:=rfl;rw[h2,bS];have hout:=ab7 (s:=strOf (c::r)) (neg:=M) (t4:=false) (t5:=[]) (by rw[hsz];omega) (c::r).length (c::r).length [] (Nat.le_refl _) (by rw[hsz];exact Nat.le_refl _) gU.nil (by simp at hbl ⊢;omega);rw[hbody,List.take_length] at hout;have U7:jK (strOf (c::r)) M ((c::r).length:Int) [] false []=bif (c::r).all Sd then some (W (numOf (bytesOf s)),true) else some ((false,[],()),false):=by
   rw[hout];have:(bif M then -(VU []+1000000000^([]:List Int).length*js (c::r)) else (VU []+1000000000^([]:List Int).length*js (c::r)))=numOf (bytesOf s):=by unfold numOf;rw[hB,hM];cases M<;>simp[VU,val]
   rw[this]
  have hok:fU (bytesOf s)=((c::r).all Sd&&(!(c==48)||((c::r).length==1&& !M))):=by unfold fU;rw[hB,hM];simp
  by_cases hc:c=48
  ·subst hc;rw[gT rfl];rw[hok];by_cases hl:r=[]
   ·subst hl;rw[hsz,c5 (by simp)];cases M with
    |true=>rfl
    |false=>rw[cF,U7];rfl
   ·have hr:0<r.length:=List.length_pos_iff.2 hl;rw[hsz,cX (by simp;omega)];have h5:((48::r:List Int).length==1)=false:=by simp;exact hl
    rw[h5];simp
  ·rw[eS hc,hsz,U7,hok];have:(c==48)=false:=JX hc;rw[this];simp
end Go.Proofs.YtofjebmoebhiiaaGreatDoor.Ev
namespace Go.Abs
theorem akE {n:Nat}(h:0<n):(dX n).length=(dX (n / 10)).length+1:=by rw[dX,yQ (by omega) h,List.length_cons]
theorem Wz (n c:Nat):(10:Nat)^(9*n+c)=1000000000^n*10^c:=by rw[Nat.pow_add,Nat.pow_mul]
def g9:Nat→Int→List Int
 |0,_=>[]
 |k+1,x=>x % 10::g9 k (x / 10)
theorem KG:∀k x,(g9 k x).length=k
 |0,_=>rfl
 |k+1,x=>by simp[g9,KG k]
theorem apg:∀k x,DX (g9 k x)
 |0,_=>gU.nil
 |k+1,x=>gU.cons (by omega) (by omega) (apg k _)
theorem aip:∀k (x:Int),0≤x→x<10^k→VX (g9 k x)=x
 |0,x,h0,h1=>by simp at h1;simp[g9,VX,val];omega
 |k+1,x,h0,h1=>by rw[Int.pow_succ] at h1;have ih:=aip k (x / 10) (by omega) (by omega);simp only[g9,VX,val] at ih ⊢;rw[ih];omega
def Ma (d:List Int):List Int:=d.flatMap (g9 9)
theorem OS:∀d:List Int,(Ma d).length=9*d.length
 | []=>rfl
 |x::d=>by have:=OS d;simp only[Ma,List.flatMap_cons,List.length_append,KG,List.length_cons] at this ⊢;omega
theorem Ye:∀d:List Int,DX (Ma d)
 | []=>gU.nil
 |x::d=>by simp only[Ma,List.flatMap_cons];exact(apg 9 x).append (Ye d)
theorem WA:∀d:List Int,gU 1000000000 d→VX (Ma d)=val 1000000000 d
 | [],_=>rfl
 |x::d,h=>by have ih:=WA d h.tail;have hx:=h.head;simp only[Ma,List.flatMap_cons] at ih ⊢;rw[VX,fo,KG];have:=aip 9 x hx.1 (by simpa using hx.2);rw[VX] at this ih;rw[this,ih,val];rfl
theorem Hm (d e:List Int):Gm (d++e)=Gm d++Gm e:=by simp[Gm]
theorem ri (d:List Int):(Gm d).length=d.length:=by simp[Gm]
end Go.Abs
namespace Go.Proofs.YtofjebmoebhiiaaGreatDoor.Ev
open Go.Abs Go.IntWalk
theorem aan:∀(x n:Nat),x<1000000000→n+x≤1000000000000000→dC n x=some (((n+(dX x).length:Nat)):Int):=by
 intro x;induction x using Nat.strongRecOn with
 |ind x ih=>
  intro n hx hn;rw[vL,pA];by_cases h:x=0
  ·subst h;rw[c5 (by omega),show dX 0=[] from ee _];rfl
  ·have e:IntKind.wrap .u32 ((x:Int).tdiv 10)=((x / 10:Nat):Int):=by rw[u32_quo _ _ (by omega)];omega
   have e2:IntKind.wrap .i64 ((n:Int)+1)=((n+1:Nat):Int):=by rw[i64_in _ (by omega)];omega
   rw[cX (by omega),e,e2,ih (x / 10) (Nat.div_lt_self (by omega) (by omega)) (n+1) (by omega) (by omega),akE (n:=x) (by omega)]
   congr 2;omega
theorem Lw {z:Int}(hz:Ln z≤20000000000000):ie (W z)=some ((dX z.natAbs).length:Int):=by
 rw[AA,tK,aih];by_cases h:z=0
 ·subst h;have:Ln 0=0:=(zM 0).2 rfl;rw[this,gT (by omega),show dX (Int.natAbs 0)=[] from ee _];rfl
 ·have hpos:Ln z≠0:=fun e=>h ((zM z).1 e);obtain⟨n,hn⟩:∃n,Ln z=n+1:=⟨Ln z - 1,by omega⟩
  have hd:=IC z.natAbs;have hl:(dU z.natAbs).length=n+1:=hn;have akC:=hd.getD (by omega) n;rw[eS (by omega)];simp only[W_2,o6];have e1:((Ln z:Int) - 1).toNat=n:=by omega
  simp (disch:=omega) only[i64_in,fI,e1,o6];obtain⟨t,ht⟩:=Int.eq_ofNat_of_zero_le akC.1;rw[ht] at akC ⊢;have e2:(9:Int)*((Ln z:Int) - 1)=((9*n:Nat):Int):=by omega
  rw[e2,aan t (9*n) (by omega) (by omega)]
  congr 2
  -- GJ number auZ ap8 two arw
  have h1:=Gb (dU z.natAbs) (show n<(dU z.natAbs).length by omega);rw[List.take_of_length_le (by omega),ht] at h1;have h2:=Ao (B:=1000000000) (by omega) (hd.take n);have h3:=ky (B:=1000000000) (by omega) (hd.take n);rw[show ((dU z.natAbs).take n).length=n by rw[List.length_take];omega] at h2;have h4:=JY z.natAbs;rw[VU] at h4;have ht0:0<t:=by
   have hne:dU z.natAbs=(dU z.natAbs).take n++[(t:Int)]:=by
    conv=>lhs;rw[←List.take_of_length_le (l:=dU z.natAbs) (i:=n+1) (by omega)]
    rw[dF (by omega),ht]
   have:=Rk (B:=1000000000) (by omega) hne;omega
  have hc:(dX t).length≠0:=fun e=>by have:=(mC (B:=10) (n:=t) (by omega)).1 (List.length_eq_zero_iff.1 e);omega
  obtain⟨c,hcc⟩:∃c,(dX t).length=c+1:=⟨(dX t).length - 1,by omega⟩
  have h5:=(aO (B:=10) (by omega) (c+1) t).1 (by rw[←hcc];exact Nat.le_refl _);have h6:=(fL (B:=10) (by omega) c t).1 (by show c<(dX t).length;omega);have h7:z.natAbs<10^(9*n+(c+1)):=by
   rw[Wz];have:((1000000000:Nat)^n)*(t+1)≤1000000000^n*10^(c+1):=Nat.mul_le_mul_left _ h5;rw[Nat.mul_add,Nat.mul_one] at this;have e:=ofNat_pow n;have e':((1000000000^n*t:Nat):Int)=1000000000^n*(t:Int):=by rw[Int.natCast_mul,e]
   omega
  have h8:10^(9*n+c)≤z.natAbs:=by
   rw[Wz];have:((1000000000:Nat)^n)*10^c≤1000000000^n*t:=Nat.mul_le_mul_left _ h6;have e:=ofNat_pow n;have e':((1000000000^n*t:Nat):Int)=1000000000^n*(t:Int):=by rw[Int.natCast_mul,e]
   omega
  have h9:=(aO (B:=10) (by omega) (9*n+(c+1)) z.natAbs).2 h7;have h10:=(fL (B:=10) (by omega) (9*n+c) z.natAbs).2 h8;show 9*n+(dX t).length=(UQ 10 z.natAbs).length;omega
def WB (z:Int):Bool:=decide (1000<nd z)
theorem Ec {z:Int}(hz:Ln z≤20000000000000):np (W z)=some (WB z):=by
 rw[DM,yg];show (ie (W z)).bind _=_;rw[Lw hz,bS]
 congr 1
 unfold WB nd;rw[rh];exact decide_eq_decide.2 (by omega)
theorem ab8 {t:List Int}{t2 t3:Int}{a:Bool}{a2:List Int}:∀(m k:Nat) (x:Int) (out:List Int),m+k=9→0≤x→x<1000000000→out.length+m≤10000000000000→
  eM x t t2 t3 k out a a2=dI t t2 (IntKind.wrap .i64 (t3+1)) (out++Gm (g9 m x)) a a2:=by
 intro m;induction m with
 |zero=>intro k x out hk h0 h1 ho;rw[qM,mO,aq (by omega)];simp[g9,Gm]
 |succ m ih=>intro k x out hk h0 h1 ho;rw[qM,mO,ax (by omega)];simp (disch:=omega) only[bA,u32_in,u8_in,u32_quo,iT,i64_in];have vg:=fun x out=>ih (k+1) x out (by omega);simp only[Int.natCast_add,Int.natCast_one] at vg;rw[vg _ _ (by omega) (by omega) (by simp;omega)];simp only[g9,Gm,List.map_cons,List.append_assoc,List.singleton_append,Int.add_comm (48:Int)]
theorem ab9 {d:List Int}{a:Bool}{a2:List Int}(hd:DU d)(hl:d.length≤1000000000000):∀(m i:Nat) (out:List Int),m+i=d.length→out.length=9*i→
  dI d d.length i out a a2=dJ (out++Gm (Ma (d.drop i))) a a2:=by
 intro m;induction m with
 |zero=>intro i out hi ho;rw[qL,mN,aq (by omega),drop_nil (by omega)];simp[Ma,Gm]
 |succ m ih=>intro i out hi ho;have hx:=hd.getD (by omega) i;rw[qL,mN,ax (by omega),fI (by omega) (by omega),Int.toNat_natCast];have hI:=ab8 (t:=d) (t2:=d.length) (t3:=i) (a:=a) (a2:=a2) 9 0 (d.getD i 0) out rfl hx.1 hx.2 (by omega);simp only[Int.natCast_zero] at hI;have vg:=fun out=>ih (i+1) out (by omega);simp only[Int.natCast_add,Int.natCast_one] at vg;rw[hI,i64_in _ (by omega),vg _ (by rw[List.length_append,ri,KG];omega),drop_eq (show i<d.length by omega)];simp only[Ma,List.flatMap_cons,Hm,List.append_assoc]
theorem aiq:∀(m:Nat) (M A C:List Int),M.length=m→A.length=C.length→(A++M++C).length≤1000000000000000→
  dK A.length ((A.length:Int)+M.length - 1) (A++M++C)=some (strOf (A++M.reverse++C)):=by
 intro m;induction m using Nat.strongRecOn with
 |ind m ih=>
  intro M A C hm hac hl;rw[zh,sh];by_cases h:M.length≤1
  ·rw[aq (by omega)];have:M.reverse=M:=by
    match M,h with
    | [],_=>rfl
    | [x],_=>rfl
    |_::_::_,h=>simp at h
   rw[this]
  ·obtain⟨x,M1,rfl⟩:∃x M1,M=x::M1:=by
    cases M with
    |nil=>simp at h
    |cons x M1=>exact⟨x,M1,rfl⟩
   have hne:M1≠ []:=fun e=>by rw[e] at h;simp at h
   obtain⟨M2,y,rfl⟩:∃M2 y,M1=M2++[y]:=⟨M1.dropLast,M1.getLast hne,(List.dropLast_concat_getLast hne).symm⟩
   have hlen:(A++x::(M2++[y])++C).length=A.length+M2.length+2+C.length:=by simp;omega
   have hM:(x::(M2++[y])).length=M2.length+2:=by simp
   rw[hM];rw[hlen] at hl;have ej:((A.length:Int)+((M2.length+2:Nat):Int) - 1).toNat=A.length+M2.length+1:=by omega
   have hL:A++x::(M2++[y])++C=A++(x::(M2++(y::C))):=by simp
   rw[hL] at hlen ⊢;have gx:(A++(x::(M2++(y::C)))).getD A.length 0=x:=by simp[List.getD]
   have gy:(A++(x::(M2++(y::C)))).getD (A.length+M2.length+1) 0=y:=by
    rw[List.getD,List.getElem?_append_right (by omega)];have:A.length+M2.length+1 - A.length=M2.length+1:=by omega
    rw[this];simp
   have s1:(A++(x::(M2++(y::C)))).set A.length y=A++(y::(M2++(y::C))):=by rw[List.set_append_right _ _ (by omega)];simp
   have s2:(A++(y::(M2++(y::C)))).set (A.length+M2.length+1) x=(A++[y])++M2++(x::C):=by
    rw[List.set_append_right _ _ (by omega)];have:A.length+M2.length+1 - A.length=M2.length+1:=by omega
    rw[this,List.set_cons_succ,List.set_append_right _ _ (by omega)];simp
   have Z0:(A++(y::(M2++(y::C)))).length=A.length+M2.length+2+C.length:=by simp;omega
   rw[ax (by omega)];simp (disch:=omega) only[fI,qu,ej,Int.toNat_natCast,gx,gy,s1,s2,i64_in];have:=ih M2.length (by simp at hm;omega) M2 (A++[y]) (x::C) rfl (by simp;omega) (by simp;omega);have e1:((A++[y]).length:Int)=(A.length:Int)+1:=by simp
   rw[e1] at this;have e2:(A.length:Int)+1+M2.length - 1=(A.length:Int)+((M2.length+2:Nat):Int) - 1 - 1:=by omega
   rw[e2] at this;rw[this];simp
theorem WC (o:List Int)(hl:o.length≤1000000000000000):dK 0 ((o.length:Int) - 1) o=some (strOf o.reverse):=by have:=aiq o.length o [] [] rfl rfl (by simpa using hl);simpa using this
theorem aca {a:Bool}{a2:List Int}:∀(n:Nat) (ds:List Int),ds.length=n→n≤100000000000000→DX ds→VX ds≠0→
  dJ (Gm ds) a a2=some (strOf ((if a then [45] else [])++(Gm (nI ds)).reverse)):=by
 intro n;induction n with
 |zero=>intro ds hn _ _ hv;have:ds=[]:=List.length_eq_zero_iff.1 hn;subst this;exact absurd rfl hv
 |succ n ih=>
  intro ds hn hl hd hv;have hne:ds≠ []:=fun e=>by rw[e] at hn;cases hn
  obtain⟨d',y,rfl⟩:∃d' y,ds=d'++[y]:=⟨ds.dropLast,ds.getLast hne,(List.dropLast_concat_getLast hne).symm⟩
  have hn':d'.length=n:=by simpa using hn
  have hy:=hd.right.head;rw[Hm,zg,sg];have S1:(Gm d'++Gm [y]).length=d'.length+1:=by simp[ri]
  have e1:(((d'.length+1:Nat):Int) - 1).toNat=d'.length:=by omega
  have g1:(Gm d'++Gm [y]).getD d'.length 0=y+48:=by rw[List.getD,List.getElem?_append_right (by rw[ri];omega),ri];simp[Gm]
  simp (disch:=omega) only[S1,i64_in,fI,qu,e1,g1];by_cases h0:y=0
  ·subst h0;have hv':VX d'≠0:=fun e=>hv (by rw[VX,fo,show val 10 d'=0 from e];simp[val]);have ht:(Gm d'++Gm [0]).take d'.length=Gm d':=List.take_left' (ri _);rw[gT (by omega),F8 (by omega) (by omega) (by omega),ht,ih d' hn' (by omega) hd.left hv',zL]
  ·rw[eS (by omega),C5 h0, ←Hm];have arx:(Gm (d'++[y])).length=d'.length+1:=by simp[ri]
   cases a with
   |true=>rw[cT,iT (by omega) (by omega)];have e5:IntKind.wrap .i64 (((Gm (d'++[y])++[45]).length:Int) - 1)=((Gm (d'++[y])++[45]).length:Int) - 1:=i64_in _ (by simp[ri];omega);rw[e5,WC _ (by simp[ri];omega)];simp
   |false=>rw[cF];have:=WC (Gm (d'++[y])) (by omega);rw[arx] at this;rw[this];simp
theorem Ed {z:Int}(hz:Ln z≤10000000000):ng (W z)=some (fM z):=by
 rw[DK,ye,aih,W_1,W_2];by_cases h:z=0
 ·subst h;have:Ln 0=0:=(zM 0).2 rfl;rw[this,gT (by omega)];rfl
 ·have hpos:Ln z≠0:=fun e=>h ((zM z).1 e);rw[eS (by omega)];simp (disch:=omega) only[i64_in,Ic];have hd:=IC z.natAbs;have h1:=ab9 (a:=decide (z<0)) (a2:=dU z.natAbs) hd (by rw[o6];omega) (dU z.natAbs).length 0 [] (by omega) rfl;simp only[Int.natCast_zero,List.drop_zero,List.nil_append,o6] at h1;have hv:VX (Ma (dU z.natAbs))=z.natAbs:=by rw[WA _ hd];exact JY _
  rw[h1,aca _ _ rfl (by rw[OS,o6];omega) (Ye _) (by rw[hv];omega),Ug (Ye _),hv,Int.toNat_natCast];unfold fM rf kA;rw[if_neg (show ¬z.natAbs=0 by omega)]
  congr 3
  by_cases h2:z<0<;>simp[h2]
theorem air {z:Int}{k:Nat}(h:nd z≤k):Ln z≤k / 9+1:=by rw[F9];have h1:=(j6 z (k+1) (by omega)).1 (by omega);have h2:10^(k+1)≤10^(9*(k / 9+1)):=Nat.pow_le_pow_right (by omega) (by omega);rw[Nat.pow_mul] at h2;exact Nat.lt_of_lt_of_le h1 h2
def Sm (z:Int):Prop:=nd z≤1000
instance (z:Int):Decidable (Sm z):=inferInstanceAs (Decidable (nd z≤1000))
theorem Sm.Ln {z:Int}(h:Sm z):Ln z≤112:=air h
theorem acb (z:Int):Sm z↔z.natAbs<10^1000:=j6 z 1000 (by omega)
theorem Sm.mono {x y:Int}(h:Sm y)(hxy:x.natAbs≤y.natAbs):Sm x:=(acb x).2 (Nat.lt_of_le_of_lt hxy ((acb y).1 h))
theorem Sm.neg {x:Int}(h:Sm x):Sm (-x):=h.mono (by omega)
def wO (s:ByteArray):Prop:=s.size≤140737488355328
section
variable {a b:ByteArray}{x y:Int}(ha:wO a)(hb:wO b)(hx:Sm x)(hy:Sm y)
include hx hy
end
section
variable {x:Int}(hx:Sm x)
include hx
end
section
variable {a b:ByteArray}(ha:wO a)(hb:wO b)
include ha
include hb
end
theorem acd:∀(n:Nat) (d:List Int),d.length=n→n≤1000000000000000→dV d=some (nI d):=by
 intro n;induction n with
 |zero=>intro d hd hn;have:d=[]:=List.length_eq_zero_iff.1 hd;subst this;rw[pH,lZ];rfl
 |succ n ih=>
  intro d hd hn;obtain⟨d',y,rfl⟩:∃d' y,d=d'++[y]:=by
   have hne:d≠ []:=fun e=>by rw[e] at hd;cases hd
   exact⟨d.dropLast,d.getLast hne,(List.dropLast_concat_getLast hne).symm⟩
  have hl:d'.length=n:=by simpa using hd
  have hy:(d'++[y]).getD d'.length 0=y:=by simp[List.getD]
  have ht:(d'++[y]).take d'.length=d':=by simp
  rw[pH,lZ];simp only[List.length_append,List.length_cons,List.length_nil];simp (disch:=omega) only[i64_in,cX,F8,aoX];rw[rb (by omega) (by simp;omega)];have e:(((d'.length+(0+1):Nat):Int) - 1).toNat=d'.length:=by omega
  rw[e,hy,ht,bS];by_cases h0:y=0
  ·subst h0;rw[zL,ih d' hl (by omega),gT rfl]
  ·rw[eS h0,C5 h0]
theorem J3 {d:List Int}(h:d.length≤1000000000000000):bk d=some (nI d):=by rw[Cd,vT];exact acd _ d rfl h
theorem ace {d:List Int}(hd:DX d)(hl:d.length≤100000000000000):∀(k:Nat) (out:List Int),k≤d.length→out.length+k≤1000000000000000 / 10→
  dQ d ((k:Int) - 1) out=some (strOf (out++(Gm (d.take k)).reverse)):=by
 intro k;induction k with
 |zero=>intro out hk ho;rw[pF,lW,u9 (by omega)];simp[Gm]
 |succ k ih=>
  intro out hk ho;have hx:=hd.getD (by omega) k;have e:((k+1:Nat):Int) - 1=k:=by omega
  rw[pF,lW,e,xz (by omega),fI (by omega) (by omega),Int.toNat_natCast];simp (disch:=omega) only[i64_in,u8_in,iT];rw[ih _ (by omega) (by simp;omega),dF (show k<d.length by omega),Hm];simp[Gm,Int.add_comm]
theorem wP {minus:Bool}{d:List Int}(hd:DX d)(hl:d.length≤10000000000000):ar minus d=some (fM (if minus then -VX d else VX d)):=by
 obtain⟨v,hv⟩:=Int.eq_ofNat_of_zero_le (KE hd);rw[Ca,vQ,J3 (by omega),bS,Ug hd,hv,Int.toNat_natCast];have hlen:=Bp d;rw[Ug hd,hv,Int.toNat_natCast] at hlen;by_cases h0:v=0
 ·subst h0;rw[show dX 0=[] from ee _,gT (by rfl)];cases minus<;>rfl
 ·have hne:(dX v).length≠0:=fun e=>h0 ((mC (B:=10) (by omega)).1 (List.length_eq_zero_iff.1 e));rw[eS (by omega)];have hw:=ace (Hk v) (by omega) (dX v).length;have e5:IntKind.wrap .i64 (((dX v).length:Int) - 1)=((dX v).length:Int) - 1:=i64_in _ (by omega);cases minus with
  |true=>
   rw[cT,iT (by omega) (by omega),e5,hw _ (Nat.le_refl _) (by simp;omega),List.take_length];unfold fM rf kA;simp only[if_true];rw[if_pos (by omega),if_neg (by omega)];have:(-(v:Int)).natAbs=v:=by omega
   rw[this];simp
  |false=>rw[cF,e5,hw _ (Nat.le_refl _) (by simp;omega),List.take_length];unfold fM rf kA;simp only[Bool.false_eq_true,if_false];rw[if_neg (by omega),if_neg (by omega)];simp
def Nd (k:Nat)(z:Int):Prop:=z.natAbs<10^k
theorem Nd.mono {k l:Nat}{z:Int}(h:Nd k z)(hkl:k≤l):Nd l z:=Nat.lt_of_lt_of_le h (Nat.pow_le_pow_right (by omega) hkl)
theorem Nd.add {k l:Nat}{x y:Int}(hx:Nd k x)(hy:Nd l y):Nd (max k l+1) (x+y):=by
 have h1:=hx.mono (Nat.le_max_left k l);have h2:=hy.mono (Nat.le_max_right k l);unfold Nd at*
 rw[Nat.pow_succ];omega
theorem Nd.neg {k:Nat}{x:Int}(hx:Nd k x):Nd k (-x):=by unfold Nd at*;omega
theorem Nd.sub {k l:Nat}{x y:Int}(hx:Nd k x)(hy:Nd l y):Nd (max k l+1) (x - y):=hx.add hy.neg
theorem Nd.mul {k l:Nat}{x y:Int}(hx:Nd k x)(hy:Nd l y):Nd (k+l) (x*y):=by
 unfold Nd at*
 rw[Int.natAbs_mul,Nat.pow_add];exact Nat.mul_lt_mul'' hx hy
theorem Nd.Sm {k:Nat}{x:Int}(hx:Nd k x)(hk:k≤1000):Sm x:=(acb x).2 (hx.mono hk)
theorem Nd.le {k:Nat}{x y:Int}(hy:Nd k y)(h:x.natAbs≤y.natAbs):Nd k x:=Nat.lt_of_le_of_lt h hy
theorem KH (x y:Int):((fM x).toList==(fM y).toList)=decide (x=y):=by rw[Uf];exact decide_eq_decide.2 ab5
theorem WD {x y:Int}(h:x=y):((fM x).toList==(fM y).toList)=true:=by rw[KH];exact decide_eq_true h
theorem WE {x y:Int}(h:¬x=y):((fM x).toList==(fM y).toList)=false:=by rw[KH];exact decide_eq_false h
theorem ais {l:List Nat}{z:Int}(h:fU (bytesOf (bs l))=true)(hz:numOf (bytesOf (bs l))=z):bs l=fM z:=
 me (by rw[dD, ←hz];exact Uh h)
theorem api:bs [48]=fM 0:=ais rfl rfl
theorem ary:bs [49]=fM 1:=ais rfl rfl
section
variable {x y:Int}(hx:Sm x)(hy:Sm y)
include hx hy
end
end Go.Proofs.YtofjebmoebhiiaaGreatDoor.Ev
namespace Go.Abs
def Qo (l:List Int):List Int:=((l.filter (fun c=>c != 45)).reverse).map (· - 48)
theorem Rm (l m:List Int):Qo (l++m)=Qo m++Qo l:=by simp[Qo]
theorem apj {c:Int}(h:¬c=45):([c]:List Int).filter (fun c=>c != 45)=[c]:=by simp[List.filter_cons,h]
theorem apk {c:Int}(h:¬c=45):Qo [c]=[c - 48]:=by simp[Qo,List.filter_cons,h]
theorem Ee (n:Nat):(kA n).filter (fun c=>c != 45)=kA n:=by apply List.filter_eq_self.2;intro c hc;have:=o7 n c hc;simp;omega
theorem afy (n:Nat):nI (Qo (kA n))=dX n:=by
 unfold Qo;rw[Ee];unfold kA;split
 ·rename_i h;subst h;rw[dX,ee];rfl
 ·rw[List.reverse_reverse];have:(Gm (dX n)).map (· - 48)=dX n:=by
   simp only[Gm,List.map_map]
   conv=>rhs;rw[←List.map_id (dX n)]
   apply List.map_congr_left;intro c _;simp only[Function.comp,id];omega
  rw[this];exact ON (B:=10) (by omega) n
theorem afz (z:Int):nI (Qo (rf z))=dX z.natAbs:=by
 unfold rf;rw[Rm];have:Qo (if z<0 then [45] else [])=[]:=by split<;>rfl
 rw[this,List.append_nil,afy]
theorem Mb (z:Int):(dX z.natAbs).length≤nd z:=by unfold nd;rw[rh];omega
theorem WG {m n:Nat}(h:m≤n):(dX m).length≤(dX n).length:=by have l2:=(aO (B:=10) (by omega) (dX n).length n).1 (Nat.le_refl _);exact(aO (B:=10) (by omega) (dX n).length m).2 (by omega)
theorem OT {x y:Int}(h:x.natAbs≤y.natAbs):nd x≤nd y:=by unfold nd;rw[rh,rh];have:=WG h;omega
theorem acf (z:Int):1≤nd z:=by unfold nd;rw[rh];omega
theorem ait (z:Int):z.natAbs<10^nd z:=(j6 z _ (acf z)).1 (Nat.le_refl _)
theorem aiu (x y:Int):nd (x*y)≤nd x+nd y:=by rw[j6 _ _ (by have:=acf x;omega),Int.natAbs_mul,Nat.pow_add];exact Nat.mul_lt_mul'' (ait x) (ait y)
theorem OU {x:Int}(h:x.natAbs<10):nd x=1:=by have h1:=(j6 x 1 (by omega)).2 (by omega);have:=acf x;omega
def Bd (z:Int):Prop:=nd z≤100000
end Go.Abs
namespace Go.Proofs.YtofjebmoebhiiaaGreatDoor.Ev
open Go.Abs Go.IntWalk
theorem Yf {s:ByteArray}{minus:Bool}(hs:s.size≤100000000000):∀(k:Nat) (d:List Int),k≤s.size→d.length+k≤1000000000000→
  c8 s minus ((k:Int) - 1) d=some (minus,nI (d++Qo ((bytesOf s).take k))):=by
 intro k;induction k with
 |zero=>intro d hk hd;rw[nx,jw,u9 (by omega),J3 (by omega),bS];simp[Qo]
 |succ k ih=>
  intro d hk hd;have hb:=(mD s).getD (by omega) k;have hl:=aS s;have e:((k+1:Nat):Int) - 1=k:=by omega
  rw[nx,jw,e,xz (by omega),yU,rb (by omega) (by omega),bS,Int.toNat_natCast,dF (show k<(bytesOf s).length by omega),Rm];by_cases h:(bytesOf s).getD k 0=45
  ·rw[nP h,i64_in _ (by omega),ih d (by omega) (by omega)];have:Qo [(bytesOf s).getD k 0]=[]:=by rw[h];rfl
   rw[this,List.nil_append]
  ·rw[F7 h,bS];simp (disch:=omega) only[i64_in,iT];rw[ih _ (by omega) (by simp;omega)];rw[apk h,List.append_assoc]
theorem Ui (z:Int):(fM z).size>0∧(bytesOf (fM z)).getD 0 0=(if z<0 then 45 else (kA z.natAbs).getD 0 0):=by
 have hn:=Yb z.natAbs;constructor
 ·rw[←aS,dD];unfold rf;have:0<(kA z.natAbs).length:=List.length_pos_iff.2 hn;simp;omega
 ·rw[dD];unfold rf;split<;>rfl
theorem acg (n:Nat):(kA n).getD 0 0≠45:=by
 have hn:=Yb n;have h1:=o7 n;cases h:kA n with
 |nil=>exact absurd h hn
 |cons c r=>rw[h] at h1;have:=h1 c (by simp);simp;omega
theorem WH (z:Int):((bytesOf (fM z)).getD 0 0==45)=decide (z<0):=by
 rw[(Ui z).2];by_cases h:z<0
 ·rw[if_pos h,decide_eq_true h];rfl
 ·rw[if_neg h,decide_eq_false h];exact JX (acg _)
theorem Ef (z:Int):(fM z).size≤nd z+1:=by rw[aam];split<;>omega
theorem mE {z:Int}(hz:Bd z):au (fM z)=some (decide (z<0),dX z.natAbs):=by have h1:=(Ui z).1;have hsz:=Ef z;unfold Bd at hz;have hl:=aS (fM z);rw[zl,so,cX (by omega),yU,rb (by omega) (by omega),bS];have e0:(0:Int).toNat=0:=rfl;rw[e0,WH,i64_in _ (by omega),Yf (by omega) _ [] (Nat.le_refl _) (by simp;omega),List.nil_append, ←hl,List.take_length,dD,afz]
theorem Uj {s:ByteArray}(hs:wO s):eO s=some ((bt (bytesOf s)).length:Int):=by
 have hl:=aS s;unfold wO at hs;rw[zn,su];by_cases h:s.size>0
 ·rw[cX (by omega),yU,rb (by omega) (by omega),bS];have e0:(0:Int).toNat=0:=rfl;rw[e0];cases hb:bytesOf s with
  |nil=>rw[hb] at hl;simp at hl;omega
  |cons c r=>
   rw[hb] at hl;have:(c::r).getD 0 0=c:=rfl;rw[this];by_cases hc:c=45
   ·subst hc;rw[gT rfl,i64_in _ (by omega)];have:bt (45::r)=r:=by simp[bt]
    rw[this];simp at hl
    congr 1;omega
   ·rw[eS hc];have:bt (c::r)=c::r:=by unfold bt;rw[if_neg (by simp;exact hc)]
    rw[this,hl]
 ·have hb:bytesOf s=[]:=List.length_eq_zero_iff.1 (by omega);rw[c5 (by omega),hb];have:s.size=0:=by omega
  rw[this];rfl
theorem aiv {s:ByteArray}(hs:wO s):jm s=some (decide ((bt (bytesOf s)).length>1000)):=by
 rw[Cb,vR,Uj hs,bS]
 congr 1
 exact decide_eq_decide.2 (by omega)
theorem aiw (z:Int):bt (bytesOf (fM z))=kA z.natAbs:=by
 rw[dD];unfold bt rf;by_cases h:z<0
 ·simp[h]
 ·have:(kA z.natAbs).head?≠some 45:=by intro e;have:(45:Int)∈kA z.natAbs:=List.mem_of_mem_head? (by rw[e];rfl);have:=o7 _ _ this;omega
  simp[h,this]
theorem aao {s:ByteArray}(hs:s.size≤140737488355328):∀(m k:Nat),m+k=s.size→cP s k=some (((bytesOf s).drop k).all Sd):=by
 intro m;have hl:=aS s;induction m with
 |zero=>intro k hk;rw[ov,kN,aq (by omega),drop_nil (by omega)];rfl
 |succ m ih=>
  intro k hk;have hb:=(mD s).getD (by omega) k;have vg:=ih (k+1) (by omega);simp only[Int.natCast_add,Int.natCast_one] at vg;rw[ov,kN,ax (by omega),yU,rb (by omega) (by omega),bS,Int.toNat_natCast,drop_eq (show k<(bytesOf s).length by omega),List.all_cons,bS];by_cases h1:(bytesOf s).getD k 0<48
  ·have:Sd ((bytesOf s).getD k 0)=false:=by
    cases hd:Sd ((bytesOf s).getD k 0) with
    |false=>rfl
    |true=>have:=(yV _).1 hd;omega
   rw[ax h1,this];rfl
  ·rw[aq h1];by_cases h2:(bytesOf s).getD k 0>57
   ·have:Sd ((bytesOf s).getD k 0)=false:=by
     cases hd:Sd ((bytesOf s).getD k 0) with
     |false=>rfl
     |true=>have:=(yV _).1 hd;omega
    rw[cX h2,this];rfl
   ·rw[c5 h2,(yV _).2 (by omega),Bool.true_and,i64_in _ (by omega),vg]
theorem Qp {s:ByteArray}(hs:wO s):jZ s=some (fU (bytesOf s)):=by
 have hl:=aS s;unfold wO at hs;have alJ:∀t:ByteArray,t.size≤140737488355328→cP t 0=some ((bytesOf t).all Sd):=fun t ht=>by have:=aao ht t.size 0 (by omega);simpa using this
 rw[AD,tN];have e0:(0:Int).toNat=0:=rfl;by_cases h:s.size>0
 ·rw[cX (by omega),yU,rb (by omega) (by omega),bS,e0];cases hb:bytesOf s with
  |nil=>rw[hb] at hl;simp at hl;omega
  |cons c r=>
   rw[hb] at hl;have hgc:(c::r).getD 0 0=c:=rfl;rw[hgc];by_cases hc:c=45
   ·subst hc;have hbo:bt (45::r)=r:=by simp[bt]
    have hmo:jd (45::r)=true:=rfl;have e1:(1:Int).toNat=1:=rfl;have hx:bytesOf (s.extract 1 s.size)=r:=by rw[lG,hb, ←hl,List.take_length];rfl
    have hxs:(s.extract 1 s.size).size=r.length:=by rw[←aS,hx]
    have hrl:r.length+1=s.size:=by simpa using hl
    rw[gT rfl,F8 (by omega) (by omega) (by omega)];simp only[e1,Int.toNat_natCast];have hok:fU (45::r)=(r.all Sd&& !r.isEmpty&&(!(r.head?==some 48)||(r.length==1&&false))):=by unfold fU;rw[hbo,hmo];rfl
    rw[hxs,hok];cases r with
    |nil=>
     simp only[List.length_nil];rw[c5 (by omega),gT (by rfl)]
     try rfl
    |cons c2 r2=>
     rw[cX (by simp),yU,hx];have hi:idx (c2::r2) (0:Int)=some c2:=rfl;rw[hi,bS];by_cases h48:c2=48
     ·subst h48;rw[gT rfl];simp
     ·rw[eS h48,eS (by simp;omega),bS,eS h48,alJ _ (by rw[hxs];omega),hx];have:(some c2==some 48)=false:=by simpa using h48
      simp[this,h48]
   ·have hbo:bt (c::r)=c::r:=by unfold bt;rw[if_neg (by simp;exact hc)]
    have hmo:jd (c::r)=false:=by simpa [jd] using hc
    have hok:fU (c::r)=((c::r).all Sd&&(!(c==48)||(c::r).length==1)):=by unfold fU;rw[hbo,hmo];simp
    rw[eS hc,eS (by omega),bS,alJ _ hs,hb,hok];by_cases h48:c=48
    ·subst h48;rw[gT rfl];cases r with
     |nil=>rw[c5 (by rw[←hl];simp)];rfl
     |cons c2 r2=>rw[cX (by rw[←hl];simp;omega)];simp
    ·rw[eS h48];have:(c==48)=false:=JX h48;simp[this]
 ·have hb:bytesOf s=[]:=List.length_eq_zero_iff.1 (by omega);rw[c5 (by omega),gT (by omega),hb];rfl
theorem ach:∀(k u:Nat) (d:List Int),u<10^k→u≤9223372036854775807→d.length+k≤1000→db u d=(ar false (d++dX u)).bind fun r=>some r:=by
 intro k;induction k with
 |zero=>
  intro u d hu hu' hd;have:u=0:=by rw[Nat.pow_zero] at hu;omega
  subst this;rw[nz,jy,c5 (by omega),show dX 0=[] from ee _,List.append_nil]
 |succ k ih=>
  intro u d hu hu' hd;rw[nz,jy];by_cases h0:u=0
  ·subst h0;rw[c5 (by omega),show dX 0=[] from ee _,List.append_nil]
  ·rw[cX (by omega),iT (by omega) (by omega),i64_quo _ _ (by omega),bA (by omega)];have e1:((u:Int) / 10)=((u / 10:Nat):Int):=by omega
   have e2:((u:Int) % 10)=((u % 10:Nat):Int):=by omega
   rw[Nat.pow_succ] at hu;rw[e1,e2,ih (u / 10) _ (by omega) (by omega) (by simp;omega),show dX u=_ from yQ (B:=10) (by omega) (by omega)];simp
theorem aci:∀(k u:Nat) (d:List Int),u<10^k→u≤9223372036854775807→d.length+k≤1000→da u d=(ar true (d++dX u)).bind fun r=>some r:=by
 intro k;induction k with
 |zero=>
  intro u d hu hu' hd;have:u=0:=by rw[Nat.pow_zero] at hu;omega
  subst this;rw[ny,jx,c5 (by omega),show dX 0=[] from ee _,List.append_nil]
 |succ k ih=>
  intro u d hu hu' hd;rw[ny,jx];by_cases h0:u=0
  ·subst h0;rw[c5 (by omega),show dX 0=[] from ee _,List.append_nil]
  ·rw[cX (by omega),iT (by omega) (by omega),i64_quo _ _ (by omega),bA (by omega)];have e1:((u:Int) / 10)=((u / 10:Nat):Int):=by omega
   have e2:((u:Int) % 10)=((u % 10:Nat):Int):=by omega
   rw[Nat.pow_succ] at hu;rw[e1,e2,ih (u / 10) _ (by omega) (by omega) (by simp;omega),show dX u=_ from yQ (B:=10) (by omega) (by omega)];simp
theorem mF {n:Int}(h0: -9223372036854775808≤n)(h1:n≤9223372036854775807):bL n=some (fM n):=by
 rw[zm,sq];by_cases h:n<0
 ·obtain⟨u,hu⟩:∃u:Nat,(u:Int)= -n:=⟨n.natAbs,by omega⟩
  have hm:n.tmod 10= -((u % 10:Nat):Int):=by
   have:n= -(u:Int):=by omega
   rw[this,Int.neg_tmod,bA (by omega)];omega
  have hq:n.tdiv 10= -((u / 10:Nat):Int):=by
   have:n= -(u:Int):=by omega
   rw[this,Int.neg_tdiv,mc (by omega)];omega
  have e1:IntKind.wrap .i64 (0 - n.tmod 10)=((u % 10:Nat):Int):=by rw[hm,i64_in _ (by omega)];omega
  have e2:IntKind.wrap .i64 (n.tdiv 10)= -((u / 10:Nat):Int):=by rw[hq,i64_in _ (by omega)]
  have e3:IntKind.wrap .i64 (0 - -((u / 10:Nat):Int))=((u / 10:Nat):Int):=by rw[i64_in _ (by omega)];omega
  have hl:([((u % 10:Nat):Int)]:List Int).length=1:=rfl;rw[ax h];simp only[e1,e2,e3];rw[iT (by omega) (by first |omega | (rw[hl];omega)),List.nil_append,aci 19 (u / 10) _ (by omega) (by omega) (by simp)];have hd:DX ([((u % 10:Nat):Int)]++dX (u / 10)):=(gU.cons (by omega) (by omega) gU.nil).append (Hk _);have hv:VX ([((u % 10:Nat):Int)]++dX (u / 10))=u:=by have:=J2 (u / 10);simp only[VX,List.singleton_append,val] at this ⊢;rw[this];omega
  have hlen:(dX (u / 10)).length≤19:=(aO (B:=10) (by omega) 19 (u / 10)).2 (by omega);rw[wP hd (by simp;omega),bS,hv]
  congr 2
  rw[if_pos rfl];omega
 ·obtain⟨u,rfl⟩:=Int.eq_ofNat_of_zero_le (show 0≤n by omega);have hlen:(dX u).length≤19:=(aO (B:=10) (by omega) 19 u).2 (by omega);rw[aq h,ach 19 u [] (by omega) (by omega) (by simp),List.nil_append,wP (Hk u) (by omega),bS,J2];rfl
theorem aap {z:Int}(hz:nd z≤9):∀(m k:Nat) (n:Int),m+k=(fM z).size→n=js (((bytesOf (fM z)).take k).filter (fun c=>c != 45))→
  dz (fM z) n k=some (z,true):=by
 intro m;have hsz:=Ef z;have hl:=aS (fM z);have hh:=Ui z;induction m with
 |zero=>
  intro k n hk hn;have hk':k=(bytesOf (fM z)).length:=by omega
  rw[hk',List.take_length] at hn;have hf:(bytesOf (fM z)).filter (fun c=>c != 45)=kA z.natAbs:=by rw[dD];unfold rf;rw[List.filter_append,Ee];split<;>rfl
  rw[hf,Ge] at hn;have e0:(0:Int).toNat=0:=rfl;rw[ow,kO,aq (by omega),cX (by omega),yU,rb (by omega) (by omega),bS,e0,WH];have hzb:z.natAbs<10^9:=(j6 z 9 (by omega)).1 hz;by_cases h:z<0
  ·rw[decide_eq_true h,cT,i64_in _ (by omega)]
   congr 2;omega
  ·rw[decide_eq_false h,cF]
   congr 2;omega
 |succ m ih=>
  intro k n hk hn;have hkl:k<(bytesOf (fM z)).length:=by omega
  have hb:=(mD (fM z)).getD (by omega) k;have vg:=fun n=>ih (k+1) n (by omega);simp only[Int.natCast_add,Int.natCast_one] at vg;rw[ow,kO,ax (by omega),yU,rb (by omega) (by omega),bS,Int.toNat_natCast]
  -- all ap9 but GJ sign are digits
  have hmem:∀c∈(bytesOf (fM z)).filter (fun c=>c != 45),48≤c∧c≤57:=by
   rw[dD];unfold rf;rw[List.filter_append,Ee];intro c hc;rcases List.mem_append.1 hc with h |h
   ·exfalso;split at h
    ·simp at h
    ·cases h
   ·exact o7 _ c h
  have hlen:(((bytesOf (fM z)).take k).filter (fun c=>c != 45)).length≤9:=by
   have h1:(((bytesOf (fM z)).take k).filter (fun c=>c != 45)).length≤((bytesOf (fM z)).filter (fun c=>c != 45)).length:=
    ((List.take_sublist k (bytesOf (fM z))).filter _).length_le
   have h2:(bytesOf (fM z)).filter (fun c=>c != 45)=kA z.natAbs:=by rw[dD];unfold rf;rw[List.filter_append,Ee];split<;>rfl
   rw[h2] at h1;unfold nd at hz;omega
  have hnb:=zN (((bytesOf (fM z)).take k).filter (fun c=>c != 45)) (fun c hc=>hmem c (((List.take_sublist k _).filter _).subset hc));have hp:=OR hlen;rw[←hn] at hnb;have hts:(bytesOf (fM z)).take (k+1)=(bytesOf (fM z)).take k++[(bytesOf (fM z)).getD k 0]:=dF hkl;by_cases h:(bytesOf (fM z)).getD k 0=45
  ·rw[nP h,i64_in _ (by omega),vg n (by rw[hts,List.filter_append,h];simpa using hn)]
  ·rw[F7 h,bS];simp (disch:=omega) only[i64_in];rw[vg];rw[hts,List.filter_append,apj h,Eb, ←hn];simp only[js,List.foldl_cons,List.foldl_nil,List.length_singleton,Int.mul_zero,Int.zero_add,Int.pow_one];omega
theorem Bs {z:Int}(hz:Bd z):dp (fM z)=some (if nd z≤9 then (z,true) else (0,false)):=by
 unfold Bd at hz;have am1:wO (fM z):=by unfold wO;have:=Ef z;omega
 rw[AE,tO,Uj am1,bS,aiw];have e:(kA z.natAbs).length=nd z:=rfl;rw[e];by_cases h:nd z≤9
 ·rw[c5 (by omega),if_pos h];have:=aap h (fM z).size 0 0 (by omega) (by simp[js]);simpa using this
 ·rw[cX (by omega),if_neg h]
theorem acj {a b:List Int}(ha:DX a)(hb:DX b)(hl:a.length=b.length)(hl':a.length≤1000000000000):∀(k:Nat),k≤a.length→
  dT a b ((k:Int) - 1)=some (mK (VX (a.take k)) (VX (b.take k))):=by
 intro k;induction k with
 |zero=>intro hk;rw[pG,lY];simp (disch:=omega) only[u9];simp[mK]
 |succ k ih=>
  intro hk;have e:((k+1:Nat):Int) - 1=k:=by omega
  rw[pG,lY,e,dF (show k<a.length by omega),dF (show k<b.length by omega)];simp (disch:=omega) only[xz,fI,Int.toNat_natCast,i64_in];have hta:(a.take k).length=(b.take k).length:=by simp;omega
  by_cases h1:a.getD k 0<b.getD k 0
  ·rw[ax h1,mX (X1 (by omega) (ha.take k) (hb.take k) hta h1)]
  ·rw[aq h1];by_cases h2:a.getD k 0>b.getD k 0
   ·rw[cX h2,o5 (X1 (by omega) (hb.take k) (ha.take k) hta.symm h2)]
   ·have h:a.getD k 0=b.getD k 0:=by omega
    rw[c5 h2,ih (by omega)];simp only[VX,fo,hta,h];generalize (10:Int)^(b.take k).length*val 10 [b.getD k 0]=z;by_cases h1:val 10 (a.take k)<val 10 (b.take k)
    ·rw[mX h1,mX (by omega)]
    ·by_cases h2:val 10 (b.take k)<val 10 (a.take k)
     ·rw[o5 h2,o5 (by omega)]
     ·rw[wL (by omega),wL (by omega)]
theorem OV {m n:Nat}(hm:(dX m).length≤1000000000000)(hn:(dX n).length≤1000000000000):dm (dX m) (dX n)=some (mK m n):=by
 rw[Cc,vS];by_cases h:(dX m).length=(dX n).length
 ·have:=acj (Hk m) (Hk n) h hm (dX m).length (Nat.le_refl _);rw[nP (by omega)];simp (disch:=omega) only[i64_in];rw[this,List.take_length];rw[h,List.take_length,J2,J2]
 ·rw[F7 (by omega)];have l1:=(aO (B:=10) (by omega) (dX m).length m).1 (Nat.le_refl _);have l2:=(aO (B:=10) (by omega) (dX n).length n).1 (Nat.le_refl _);by_cases h1:(dX m).length<(dX n).length
  ·rw[ax (by omega)];have:=(fL (B:=10) (by omega) (dX m).length n).1 h1;rw[mX (by omega)]
  ·rw[aq (by omega)];have:=(fL (B:=10) (by omega) (dX n).length m).1 (show (dX n).length<(dX m).length by omega);rw[o5 (by omega)]
def rsL:List Int→List Int→Int→List Int
 | [],[],c=>if c>0 then [c % 10] else []
 |x::xs,[],c=>(c+x) % 10::rsL xs [] ((c+x) / 10)
 | [],y::ys,c=>(c+y) % 10::rsL [] ys ((c+y) / 10)
 |x::xs,y::ys,c=>(c+x+y) % 10::rsL xs ys ((c+x+y) / 10)
theorem afA {a b:List Int}(ha:DX a)(hb:DX b)(hl:a.length≤1000000000000)(hl':b.length≤1000000000000):∀(m k:Nat) (c:Int) (out:List Int),m+k=max a.length b.length→out.length=k→0≤c∧c≤1→
  eP a b c k out=some (out++rsL (a.drop k) (b.drop k) c):=by
 intro m;induction m with
 |zero=>
  intro k c out hk ho hc;have hka:a.length≤k:=by omega
  have hkb:b.length≤k:=by omega
  rw[drop_nil hka,drop_nil hkb,l7,jo];rw[aq (by omega),aq (by omega)];by_cases h:c>0
  ·have hc1:c=1:=by omega
   subst hc1;simp (disch:=omega) only[cX,aq,iT,bA,mc,i64_in];rw[l7,jo];simp (disch:=omega) only[aq,c5];simp[rsL]
  ·rw[c5 h];have:c=0:=by omega
   subst this;simp[rsL]
 |succ m ih=>
  intro k c out hk ho hc;have hx:=ha.getD (by omega) k;have hy:=hb.getD (by omega) k;have vg:=fun c out=>ih (k+1) c out (by omega);simp only[Int.natCast_add,Int.natCast_one] at vg;rw[l7,jo];by_cases hka:k<a.length
  ·by_cases hkb:k<b.length
   ·rw[drop_eq hka,drop_eq hkb];simp (disch:=omega) only[ax,fI,Int.toNat_natCast,i64_in,bA,mc,iT];rw[vg _ _ (by simp;omega) (by omega)];simp[rsL]
   ·have hd:b.drop (k+1)=[]:=drop_nil (by omega);rw[drop_eq hka,drop_nil (show b.length≤k by omega)];simp (disch:=omega) only[ax,aq,fI,Int.toNat_natCast,i64_in,bA,mc,iT];rw[vg _ _ (by simp;omega) (by omega),hd];simp[rsL]
  ·have hkb:k<b.length:=by omega
   have hd:a.drop (k+1)=[]:=drop_nil (by omega);rw[drop_eq hkb,drop_nil (show a.length≤k by omega)];simp (disch:=omega) only[ax,aq,fI,Int.toNat_natCast,i64_in,bA,mc,iT];rw[vg _ _ (by simp;omega) (by omega),hd];simp[rsL]
theorem Se:∀(a b:List Int) (c:Int),DX a→DX b→0≤c∧c≤1→VX (rsL a b c)=VX a+VX b+c∧DX (rsL a b c)∧(rsL a b c).length≤max a.length b.length+1
 | [],[],c,ha,hb,hc=>by
   simp only[rsL];split
   ·exact⟨by simp[VX,val];omega,gU.cons (by omega) (by omega) gU.nil,by simp⟩
   ·exact⟨by simp[VX,val];omega,gU.nil,by simp⟩
 |x::xs,[],c,ha,hb,hc=>by have hx:=ha.head;obtain⟨e1,e2,e3⟩:=Se xs [] ((c+x) / 10) ha.tail gU.nil (by omega);simp only[rsL];refine⟨?_,gU.cons (by omega) (by omega) e2,by simp at e3 ⊢;omega⟩;simp only[VX,val] at e1 ⊢;rw[e1];omega
 | [],y::ys,c,ha,hb,hc=>by have hy:=hb.head;obtain⟨e1,e2,e3⟩:=Se [] ys ((c+y) / 10) gU.nil hb.tail (by omega);simp only[rsL];refine⟨?_,gU.cons (by omega) (by omega) e2,by simp at e3 ⊢;omega⟩;simp only[VX,val] at e1 ⊢;rw[e1];omega
 |x::xs,y::ys,c,ha,hb,hc=>by have hx:=ha.head;have hy:=hb.head;obtain⟨e1,e2,e3⟩:=Se xs ys ((c+x+y) / 10) ha.tail hb.tail (by omega);simp only[rsL];refine⟨?_,gU.cons (by omega) (by omega) e2,by simp at e3 ⊢;omega⟩;simp only[VX,val] at e1 ⊢;rw[e1];omega
theorem akF {a b:List Int}(ha:DX a)(hb:DX b)(hl:a.length≤1000000000000)(hl':b.length≤1000000000000):
  ∃r,iN a b=some r∧VX r=VX a+VX b∧DX r∧r.length≤max a.length b.length+1:=by
 obtain⟨e1,e2,e3⟩:=Se a b 0 ha hb ⟨by omega,by omega⟩;have:=afA ha hb hl hl' (max a.length b.length) 0 0 [] (by omega) rfl ⟨by omega,by omega⟩;refine⟨rsL a b 0, ?_,by omega,e2,e3⟩;rw[DO,yk];simpa using this
def WI:List Int→List Int→Int→List Int
 | [],_,_=>[]
 |x::xs,[],c=>if x - c<0 then (x - c+10)::WI xs [] 1 else (x - c)::WI xs [] 0
 |x::xs,y::ys,c=>if x - c - y<0 then (x - c - y+10)::WI xs ys 1 else (x - c - y)::WI xs ys 0
theorem ack {a b:List Int}(ha:DX a)(hb:DX b)(hl:a.length≤1000000000000):∀(m k:Nat) (c:Int) (out:List Int),m+k=a.length→out.length=k→0≤c∧c≤1→
  bF a b c k out=(bk (out++WI (a.drop k) (b.drop k) c)).bind fun r=>some r:=by
 intro m;induction m with
 |zero=>intro k c out hk ho hc;rw[jz,fR,aq (by omega),drop_nil (show a.length≤k by omega)];simp[WI]
 |succ m ih=>
  intro k c out hk ho hc;have hx:=ha.getD (by omega) k;have hy:=hb.getD (by omega) k;have vg:=fun c out=>ih (k+1) c out (by omega);simp only[Int.natCast_add,Int.natCast_one] at vg;rw[jz,fR,ax (by omega),fI (by omega) (by omega),Int.toNat_natCast,drop_eq (show k<a.length by omega)];have hl1:∀z:Int,([z]:List Int).length=1:=fun z=>rfl;by_cases hkb:k<b.length
  ·rw[drop_eq hkb,ax (by omega),fI (by omega) (by omega),Int.toNat_natCast];simp (disch:=omega) only[i64_in,hl1];by_cases h:a.getD k 0 - c - b.getD k 0<0
   ·rw[ax h,iT (by omega) (by omega),vg _ _ (by simp;omega) ⟨by omega,by omega⟩];simp only[WI,if_pos h];simp
   ·rw[aq h,iT (by omega) (by omega),vg _ _ (by simp;omega) ⟨by omega,by omega⟩];simp only[WI,if_neg h];simp
  ·have hd:b.drop (k+1)=[]:=drop_nil (by omega);rw[drop_nil (show b.length≤k by omega),aq (by omega)];simp (disch:=omega) only[i64_in];by_cases h:a.getD k 0 - c<0
   ·rw[ax h,iT (by omega) (by omega),vg _ _ (by simp;omega) ⟨by omega,by omega⟩,hd];simp only[WI,if_pos h];simp
   ·rw[aq h,iT (by omega) (by omega),vg _ _ (by simp;omega) ⟨by omega,by omega⟩,hd];simp only[WI,if_neg h];simp
theorem Sf:∀(a b:List Int) (c:Int),b.length≤a.length→DX a→DX b→0≤c∧c≤1→
  ∃c',0≤c'∧VX (WI a b c)=VX a - VX b - c+c'*10^a.length∧DX (WI a b c)∧(WI a b c).length=a.length
 | [],[],c,hl,ha,hb,hc=>⟨c,hc.1,by simp[WI,VX,val];omega,gU.nil,rfl⟩
 | [],y::ys,c,hl,ha,hb,hc=>by simp at hl
 |x::xs,[],c,hl,ha,hb,hc=>by
  have hx:=ha.head;have key:∀d:Int,(0≤d∧d≤1)→∃c',0≤c'∧VX (WI xs [] d)=VX xs - d+c'*10^xs.length∧DX (WI xs [] d)∧(WI xs [] d).length=xs.length:=fun d hd=>by obtain⟨c',h2,h3,h4,h5⟩:=Sf xs [] d (by simp) ha.tail gU.nil hd;exact⟨c',h2,by simpa [VX,val] using h3,h4,h5⟩
  simp only[WI];split
  ·obtain⟨c',h2,h3,h4,h5⟩:=key 1 ⟨by omega,by omega⟩;refine⟨c',h2, ?_,gU.cons (by omega) (by omega) h4,by simp[h5]⟩;simp only[VX,val,List.length_cons,Int.pow_succ] at h3 ⊢;rw[←Int.mul_assoc,h3];omega
  ·obtain⟨c',h2,h3,h4,h5⟩:=key 0 ⟨by omega,by omega⟩;refine⟨c',h2, ?_,gU.cons (by omega) (by omega) h4,by simp[h5]⟩;simp only[VX,val,List.length_cons,Int.pow_succ] at h3 ⊢;rw[←Int.mul_assoc,h3];omega
 |x::xs,y::ys,c,hl,ha,hb,hc=>by
  have hx:=ha.head;have hy:=hb.head;simp only[WI];split
  ·obtain⟨c',h2,h3,h4,h5⟩:=Sf xs ys 1 (by simp at hl;omega) ha.tail hb.tail ⟨by omega,by omega⟩;refine⟨c',h2, ?_,gU.cons (by omega) (by omega) h4,by simp[h5]⟩;simp only[VX,val,List.length_cons,Int.pow_succ] at h3 ⊢;rw[←Int.mul_assoc,h3];omega
  ·obtain⟨c',h2,h3,h4,h5⟩:=Sf xs ys 0 (by simp at hl;omega) ha.tail hb.tail ⟨by omega,by omega⟩;refine⟨c',h2, ?_,gU.cons (by omega) (by omega) h4,by simp[h5]⟩;simp only[VX,val,List.length_cons,Int.pow_succ] at h3 ⊢;rw[←Int.mul_assoc,h3];omega
theorem aar {m n:Nat}(hl:(dX m).length≤1000000000000)(h:n≤m):aZ (dX m) (dX n)=some (dX (m - n)):=by
 have ha:=Hk m;have hb:=Hk n;obtain⟨c',h1,h2,h3,h4⟩:=Sf (dX m) (dX n) 0 (WG h) ha hb ⟨by omega,by omega⟩;have hv:VX (WI (dX m) (dX n) 0)=((m - n:Nat):Int):=by
  have h5:=Ao (B:=10) (by omega) h3;rw[h4] at h5;change VX _<_ at h5;rw[J2,J2] at h2;by_cases hc:c'=0
  ·subst hc;simp at h2;omega
  ·exfalso;have hp:(0:Int)≤10^(dX m).length:=Int.pow_nonneg (by omega);have h8:1*(10:Int)^(dX m).length≤c'*10^(dX m).length:=Int.mul_le_mul_of_nonneg_right (by omega) hp;rw[Int.one_mul] at h8;omega
 have:=ack ha hb hl (dX m).length 0 0 [] (by omega) rfl ⟨by omega,by omega⟩;simp only[Int.natCast_zero,List.drop_zero,List.nil_append] at this;rw[s0,nC,this,J3 (by omega),bS,Ug h3,hv,Int.toNat_natCast]
theorem afB {m n:Nat}{s:Bool}(hm:(dX m).length≤1000000000000)(hn:(dX n).length≤1000000000000):
  ((iN (dX m) (dX n)).bind fun r5=>(ar s r5).bind fun r6=>some r6)=some (fM (if s then -((m:Int)+n) else (m:Int)+n)):=by
 obtain⟨r,e1,e2,e3,e4⟩:=akF (Hk m) (Hk n) hm hn;rw[e1,bS,wP e3 (by omega),bS,e2,J2,J2]
theorem Uk {m n:Nat}{s:Bool}(hm:(dX m).length≤1000000000000)(h:n≤m):
  ((aZ (dX m) (dX n)).bind fun r5=>(ar s r5).bind fun r6=>some r6)=some (fM (if s then -((m:Int) - n) else (m:Int) - n)):=by
 have:=WG (show m - n≤m by omega);rw[aar hm h,bS,wP (Hk _) (by omega),bS,J2];have:((m - n:Nat):Int)=(m:Int) - n:=by omega
 rw[this]
theorem aas {x y:Int}(hx:Bd x)(hy:Bd y):gw (fM x) (fM y)=some (fM (x+y)):=by
 have hlx:=Mb x;have hly:=Mb y;rw[Cf,vX,Bs hx,bS,Bs hy,bS];unfold Bd at hx hy
 -- GJ Qq way
 have Qq:((au (fM x)).bind fun r3=>(au (fM y)).bind fun r4=>
   bif (r3.1==r4.1) then
    (iN r3.2 r4.2).bind fun r5=>(ar r3.1 r5).bind fun r6=>some r6
   else
    (dm r3.2 r4.2).bind fun r7=>
    bif (decide (r7<(0:Int))) then
     (aZ r4.2 r3.2).bind fun r8=>(ar r4.1 r8).bind fun r9=>some r9
    else
     (aZ r3.2 r4.2).bind fun NC=>(ar r3.1 NC).bind fun r11=>some r11)=some (fM (x+y)):=by
  rw[mE hx,bS,mE hy,bS];simp only;by_cases hs:(x<0↔y<0)
  ·have:(decide (x<0)==decide (y<0))=true:=beq_iff_eq.2 (decide_eq_decide.2 hs);rw[this,cT,afB (by omega) (by omega)]
   congr 2
   by_cases h:x<0
   ·rw[decide_eq_true h,if_pos rfl];omega
   ·rw[decide_eq_false h,if_neg (by simp)];omega
  ·have:(decide (x<0)==decide (y<0))=false:=by simpa using hs
   rw[this,cF,OV (by omega) (by omega),bS];by_cases hc:x.natAbs<y.natAbs
   ·rw[ax (Ng.2 (by omega)),Uk (by omega) (by omega)]
    congr 2
    by_cases h:y<0
    ·rw[decide_eq_true h,if_pos rfl];omega
    ·rw[decide_eq_false h,if_neg (by simp)];omega
   ·rw[aq (fun e=>by have:=Ng.1 e;omega),Uk (by omega) (by omega)]
    congr 2
    by_cases h:x<0
    ·rw[decide_eq_true h,if_pos rfl];omega
    ·rw[decide_eq_false h,if_neg (by simp)];omega
 by_cases h1:nd x≤9
 ·rw[if_pos h1];simp only[cT];by_cases h2:nd y≤9
  ·rw[if_pos h2];simp only[cT];have b1:=(j6 x 9 (by omega)).1 h1;have b2:=(j6 y 9 (by omega)).1 h2;rw[i64_in _ (by omega),mF (by omega) (by omega),bS]
  ·rw[if_neg h2];simp only[cF];exact Qq
 ·rw[if_neg h1];simp only[cF];exact Qq
theorem Yg {x:Int}(hx:Bd x):dv (fM x)=some (fM (-x)):=by
 have hlx:=Mb x;rw[vP,pC,mE hx,bS];unfold Bd at hx;rw[wP (Hk _) (by omega),bS,J2]
 congr 2
 by_cases h:x<0
 ·rw[decide_eq_true h,if_neg (by simp)];omega
 ·rw[decide_eq_false h,if_pos (by rfl)];omega
theorem afC {x y:Int}(hx:Bd x)(hy:Bd y):j0 (fM x) (fM y)=some (fM (x - y)):=by rw[AF,tQ,Yg hy,bS,aas hx (by unfold Bd at*;rw[Yc];exact hy),bS];rfl
theorem OW {x:Int}(hx:Bd x):gm (fM x)=some (fM x.natAbs):=by have hlx:=Mb x;rw[vW,pJ,mE hx,bS];unfold Bd at hx;rw[wP (Hk _) (by omega),bS,J2];rfl
theorem J4 {x y:Int}(hx:Bd x)(hy:Bd y):bP (fM x) (fM y)=some (mK x y):=by
 have hlx:=Mb x;have hly:=Mb y;rw[xd,qO,mE hx,bS,mE hy,bS];unfold Bd at hx hy;simp only;rw[OV (by omega) (by omega),OV (by omega) (by omega),bS,bS];rcases (show x<y∨x=y∨y<x by omega) with h |h |h
 all_goals
  by_cases h1:x<0<;>by_cases h2:y<0
  all_goals simp only[h1,h2,decide_true,decide_false,beq_self_eq_true,Bool.not_true,Bool.not_false,cT,cF,show (true==false)=false from rfl,show (false==true)=false from rfl,Option.some.injEq]
  all_goals unfold mK
  all_goals (repeat' split)<;>omega
def pmL:List Int→Int→List Int→List Int
 | [],x,os=>os
 |y::ys,x,o::os=>(o+x*y)::pmL ys x os
 |_::_,_,[]=>[]
def ptL:List Int→List Int→List Int→List Int
 | [],b,o=>o
 |x::xs,b,o=>match pmL b x o with
  | []=>[]
  |h::t=>h::ptL xs b t
def Rn:List Int→List Int
 | []=>[]
 | [o]=>[o]
 |o::p::r=>o % 10::Rn ((p+o / 10)::r)
termination_by l=>l.length
theorem Ni:∀(b:List Int) (x:Int) (o:List Int),b.length≤o.length→(pmL b x o).length=o.length
 | [],x,o,h=>by simp[pmL]
 |y::ys,x,[],h=>by simp at h
 |y::ys,x,o::os,h=>by simp only[pmL,List.length_cons];rw[Ni ys x os (by simpa using h)]
theorem adL:∀(b:List Int) (x:Int) (o:List Int),b.length≤o.length→VX (pmL b x o)=VX o+x*VX b
 | [],x,o,h=>by simp[pmL,VX,val]
 |y::ys,x,[],h=>by simp at h
 |y::ys,x,o::os,h=>by
  have ih:=adL ys x os (by simpa using h);simp only[pmL,VX,val] at ih ⊢;have e:x*(y+10*val 10 ys)=x*y+10*(x*val 10 ys):=by rw[Int.mul_add,Int.mul_left_comm]
  rw[ih,e];omega
def Di (M:Int)(l:List Int):Prop:=∀x∈l,0≤x∧x≤M
theorem Di.mono {M M':Int}{l:List Int}(h:Di M l)(hM:M≤M'):Di M' l:=fun x hx=>by have:=h x hx;omega
theorem Di.getD {M:Int}{l:List Int}(h:Di M l)(hM:0≤M)(k:Nat):0≤l.getD k 0∧l.getD k 0≤M:=by
 by_cases hk:k<l.length
 ·have:l.getD k 0=l[k]:=by simp[List.getD,hk]
  rw[this];exact h _ (List.getElem_mem hk)
 ·rw[getD_none (by omega)];omega
theorem Di.take {M:Int}{l:List Int}(h:Di M l)(k:Nat):Di M (l.take k):=fun x hx=>h x (List.mem_of_mem_take hx)
theorem Di.drop {M:Int}{l:List Int}(h:Di M l)(k:Nat):Di M (l.drop k):=fun x hx=>h x (List.mem_of_mem_drop hx)
theorem Di.append {M:Int}{l m:List Int}(h:Di M l)(h':Di M m):Di M (l++m):=fun x hx=>by
 rcases List.mem_append.1 hx with hx |hx
 ·exact h x hx
 ·exact h' x hx
theorem aat {M x:Int}(hx:0≤x∧x≤9):∀(b o:List Int),DX b→Di M o→Di (M+81) (pmL b x o)
 | [],o,hb,ho=>ho.mono (by omega)
 |y::ys,[],hb,ho=>fun z hz=>by cases hz
 |y::ys,o::os,hb,ho=>by
  have hy:=hb.head;have h1:=Int.mul_nonneg hx.1 hy.1;have h2:x*y≤9*y:=Int.mul_le_mul_of_nonneg_right hx.2 hy.1;have h3:=ho o (by simp);have ih:=aat hx ys os hb.tail (fun z hz=>ho z (by simp[hz]));intro z hz;simp only[pmL,List.mem_cons] at hz;rcases hz with rfl |hz
  ·omega
  ·exact ih z hz
theorem Yh {p q:Bool}{x y:List Int}{i:Nat}(hy:DX y)(hx:0≤x.getD i 0∧x.getD i 0≤9)(hi:i<x.length)(hlx:x.length≤10000000)(hly:y.length≤10000000):
  ∀(m k:Nat) (M:Int) (out:List Int),m+k=y.length→out.length=x.length+y.length+1→Di M out→0≤M→M+81*m≤1000000000000000→
  dw p x q y i k out=bC p x q y (i+1) (out.take (i+k)++pmL (y.drop k) (x.getD i 0) (out.drop (i+k))):=by
 intro m;induction m with
 |zero=>intro k M out hk ho hu h0 hM;rw[oo,kK,aq (by omega),drop_nil (show y.length≤k by omega),i64_in _ (by omega)];simp[pmL]
 |succ m ih=>
  intro k M out hk ho hu h0 hM;have hyk:=hy.getD (by omega) k;have hok:=hu.getD h0 (i+k);have h1:=Int.mul_nonneg hx.1 hyk.1;have h2:x.getD i 0*y.getD k 0≤9*y.getD k 0:=Int.mul_le_mul_of_nonneg_right hx.2 hyk.1;have e1:((i:Int)+k).toNat=i+k:=by omega
  have vg:=fun M out=>ih (k+1) M out (by omega);simp only[Int.natCast_add,Int.natCast_one] at vg;rw[oo,kK];simp (disch:=omega) only[ax,i64_in,fI,qu,e1,Int.toNat_natCast];have ik:Di (M+81) (out.set (i+k) (out.getD (i+k) 0+x.getD i 0*y.getD k 0)):=fun z hz=>by
   rcases List.mem_or_eq_of_mem_set hz with hz |rfl
   ·have:=hu z hz;omega
   ·omega
  rw[vg (M+81) _ (by simp[ho]) ik (by omega) (by omega),drop_eq (show k<y.length by omega),drop_eq (show i+k<out.length by omega)];simp only[pmL];rw[show i+(k+1)=i+k+1 by omega,C6 (by omega),set_drop];simp
theorem adM:∀(a b o:List Int),o.length=a.length+b.length+1→DX a→VX (ptL a b o)=VX o+VX a*VX b∧(ptL a b o).length=o.length
 | [],b,o,hl,ha=>by simp[ptL,VX,val]
 |x::xs,b,o,hl,ha=>by
  have hlen:=Ni b x o (by simp at hl;omega);have hval:=adL b x o (by simp at hl;omega);simp only[ptL];split
  ·rename_i e;rw[e] at hlen;simp at hlen hl;omega
  ·rename_i h t e;rw[e] at hlen hval;obtain⟨f1,f2⟩:=adM xs b t (by simp at hl hlen;omega) ha.tail;refine⟨?_,by simp[f2] at hlen ⊢;omega⟩;simp only[VX,val] at hval f1 ⊢;rw[f1,Int.add_mul,Int.mul_assoc];omega
theorem Yi {p q:Bool}{x y:List Int}(hxd:DX x)(hy:DX y)(hlx:x.length≤10000000)(hly:y.length≤10000000):
  ∀(m i:Nat) (out:List Int),m+i=x.length→out.length=x.length+y.length+1→Di (81*i) out→
  ∃o',bC p x q y i out=cO p q 0 o'∧o'=out.take i++ptL (x.drop i) y (out.drop i)∧Di 1000000000000 o':=by
 intro m;induction m with
 |zero=>
  intro i out hi ho hu;refine⟨out, ?_, ?_,hu.mono (by omega)⟩
  ·rw[oi,kJ,aq (by omega)]
  ·rw[drop_nil (show x.length≤i by omega)];simp[ptL]
 |succ m ih=>
  intro i out hi ho hu;have hx:=hxd.getD (by omega) i;have hI:=Yh (p:=p) (q:=q) (i:=i) hy ⟨hx.1,by omega⟩ (by omega) hlx hly y.length 0 (81*i) out (by omega) ho hu (by omega) (by omega);simp only[Int.natCast_zero,Nat.add_zero,List.drop_zero] at hI;rw[oi,kJ,ax (by omega),hI];have vg:=fun out=>ih (i+1) out (by omega);simp only[Int.natCast_add,Int.natCast_one] at vg;have aix:=Ni y (x.getD i 0) (out.drop i) (by rw[List.length_drop];omega);have hup:Di (81*((i:Int)+1)) (out.take i++pmL y (x.getD i 0) (out.drop i)):=((hu.take i).mono (by omega)).append ((aat ⟨hx.1,by omega⟩ y (out.drop i) hy (hu.drop i)).mono (by omega));obtain⟨o',e1,e2,e3⟩:=vg (out.take i++pmL y (x.getD i 0) (out.drop i)) (by rw[List.length_append,aix,List.length_take,List.length_drop];omega) hup;refine⟨o',e1, ?_,e3⟩;rw[e2,drop_eq (show i<x.length by omega)];simp only[ptL];cases hp:pmL y (x.getD i 0) (out.drop i) with
  |nil=>rw[hp] at aix;simp at aix;omega
  |cons h t=>
   have htl:(out.take i).length=i:=by simp;omega
   have h7:(out.take i++h::t).drop (i+1)=t:=by rw[List.drop_append,htl];have:(out.take i).drop (i+1)=[]:=drop_nil (by omega);rw[this];simp
   have h8:(out.take i++h::t).take (i+1)=out.take i++[h]:=by rw[List.take_append,htl];have:(out.take i).take (i+1)=out.take i:=List.take_of_length_le (by omega);rw[this];simp
   rw[h7,h8];simp
theorem adN (o:Int):Rn [o]=[o]:=by rw[Rn]
theorem adO (o p:Int)(r:List Int):Rn (o::p::r)=o % 10::Rn ((p+o / 10)::r):=by rw[Rn]
theorem adP:∀(n:Nat) (l:List Int),l.length=n→(∀x∈l,0≤x)→VX (Rn l)=VX l∧(Rn l).length=l.length∧(∀x∈Rn l,0≤x)∧DX (Rn l).dropLast
 |0,l,hl,h=>by have:l=[]:=List.length_eq_zero_iff.1 hl;subst this;rw[Rn];exact⟨rfl,rfl,h,gU.nil⟩
 |1,l,hl,h=>by
  obtain⟨o,rfl⟩:∃o,l=[o]:=by
   cases l with
   |nil=>cases hl
   |cons o r=>exact⟨o,by have:r=[]:=List.length_eq_zero_iff.1 (by simpa using hl);rw[this]⟩
  rw[adN];exact⟨rfl,rfl,h,gU.nil⟩
 |n+2,l,hl,h=>by
  match l,hl,h with
  |o::q::r,hl,h=>
   have h1:=h o (by simp);have h2:=h q (by simp);obtain⟨e1,e2,e3,e4⟩:=adP (n+1) ((q+o / 10)::r) (by simpa using hl) (fun x hx=>by
    rcases List.mem_cons.1 hx with rfl |hx
    ·omega
    ·exact h x (by simp[hx]))
   rw[adO];refine⟨?_,by simp[e2], ?_, ?_⟩
   ·simp only[VX,val] at e1 ⊢;rw[e1];omega
   ·intro x hx;rcases List.mem_cons.1 hx with rfl |hx
    ·omega
    ·exact e3 x hx
   ·have hne:Rn ((q+o / 10)::r)≠ []:=fun e=>by rw[e] at e2;simp at e2
    rw[List.dropLast_cons_of_ne_nil hne];exact gU.cons (by omega) (by omega) e4
theorem Yj {p q:Bool}:∀(n:Nat) (A l:List Int),l.length=n+1→(A++l).length≤100000000→(∀x∈l,0≤x)→(∀x∈l.tail,x≤1000000000000)→l.getD 0 0≤2000000000000→
  cO p q A.length (A++l)=(ar (!(p==q)) (A++Rn l)).bind fun r=>some r:=by
 intro n;induction n with
 |zero=>
  intro A l hl hlen h0 h1 h2;obtain⟨o,rfl⟩:∃o,l=[o]:=by
   cases l with
   |nil=>cases hl
   |cons o r=>exact⟨o,by have:r=[]:=List.length_eq_zero_iff.1 (by simpa using hl);rw[this]⟩
  have Y8:(A++[o]).length=A.length+1:=by simp
  rw[oq,kM,i64_in _ (by omega),aq (by omega),adN]
 |succ n ih=>
  intro A l hl hlen h0 h1 h2
  match l,hl,hlen,h0,h1,h2 with
  |o::t::r,hl,hlen,h0,h1,h2=>
   have ho:=h0 o (by simp);have ht:=h0 t (by simp);have ht1:=h1 t (by simp);have ho1:o≤2000000000000:=h2;have Y8:(A++o::t::r).length=A.length+r.length+2:=by simp;omega
   have e1:((A.length:Int)+1).toNat=A.length+1:=by omega
   have g0:(A++o::t::r).getD A.length 0=o:=by simp[List.getD]
   have g1:(A++o::t::r).getD (A.length+1) 0=t:=by rw[List.getD,List.getElem?_append_right (by omega),show A.length+1 - A.length=1 by omega];rfl
   have s1:∀z,(A++o::t::r).set (A.length+1) z=A++o::z::r:=fun z=>by rw[List.set_append_right _ _ (by omega),show A.length+1 - A.length=1 by omega];rfl
   have s2:∀z w,(A++o::z::r).set A.length w=A++w::z::r:=fun z w=>by rw[List.set_append_right _ _ (by omega),show A.length - A.length=0 by omega];rfl
   have Z0:∀z,(A++o::z::r).length=A.length+r.length+2:=fun z=>by simp;omega
   have g2:∀z,(A++o::z::r).getD A.length 0=o:=fun z=>by simp[List.getD]
   rw[oq,kM];simp (disch:=omega) only[i64_in,ax,fI,qu,e1,g0,g1,s1,Int.toNat_natCast,mc,bA];have hl2:=Z0 (t+o / 10);simp (disch:=omega) only[fI,qu,g2,s2,Int.toNat_natCast,bA];have:=ih (A++[o % 10]) ((t+o / 10)::r) (by simpa using hl) (by simp at hlen ⊢;omega) (fun x hx=>by
    rcases List.mem_cons.1 hx with rfl |hx
    ·omega
    ·exact h0 x (by simp[hx])) (fun x hx=>h1 x (by simp at hx ⊢;exact .inr hx)) (by show t+o / 10≤_;omega)
   have e3:((A++[o % 10]).length:Int)=(A.length:Int)+1:=by simp
   rw[e3] at this;simp only[List.append_assoc,List.singleton_append] at this;rw[adO];exact this
theorem aau {m n:Nat}{s t:Bool}(hm:(dX m).length≤10000000)(hn:(dX n).length≤10000000):
  bC s (dX m) t (dX n) 0 (List.replicate ((dX m).length+(dX n).length+1) 0)=some (fM (if s=t then (m:Int)*n else -((m:Int)*n))):=by
 have UX:=Hk m;have hdn:=Hk n;obtain⟨o',e1,e2,e3⟩:=Yi (p:=s) (q:=t) UX hdn hm hn (dX m).length 0 (List.replicate ((dX m).length+(dX n).length+1) 0) (by omega) (by simp) (fun x hx=>by
  obtain⟨_,rfl⟩:=List.mem_replicate.1 hx;omega)
 simp only[Int.natCast_zero,List.take_zero,List.nil_append,List.drop_zero] at e1 e2;obtain⟨v1,v2⟩:=adM (dX m) (dX n) (List.replicate ((dX m).length+(dX n).length+1) 0) (by simp) UX;rw[←e2,List.length_replicate] at v2;rw[←e2,J2,J2] at v1;simp only[VX,L8,Int.zero_add] at v1;have hnn:∀x∈o',0≤x:=fun x hx=>(e3 x hx).1;obtain⟨c1,c2,c3,c4⟩:=adP _ o' rfl hnn;have hc:=Yj (p:=s) (q:=t) ((dX m).length+(dX n).length) [] o' (by omega) (by simp;omega) hnn (fun x hx=>(e3 x (List.mem_of_mem_tail hx)).2) (by have:=(e3.getD (by omega) 0).2;omega);simp only[List.nil_append,List.length_nil,Int.natCast_zero] at hc;rw[e1,hc]
 -- GJ last entry is a digit,too
 have hne:Rn o'≠ []:=fun e=>by rw[e] at c2;simp at c2;omega
 have Qn:Rn o'=(Rn o').dropLast++[(Rn o').getLast hne]:=(List.dropLast_concat_getLast hne).symm;have hvs:VX (Rn o')=VX (Rn o').dropLast+10^(Rn o').dropLast.length*(Rn o').getLast hne:=by
  conv=>lhs;rw[Qn]
  rw[VX,fo];simp[val]
 have YI:(Rn o').dropLast.length=(dX m).length+(dX n).length:=by rw[List.length_dropLast,c2,v2];omega
 have afv:=KE c4;have apl:=c3 _ (List.getLast_mem hne);have am3:(Rn o').getLast hne<10:=by
  by_cases hcc:(Rn o').getLast hne<10
  ·exact hcc
  ·exfalso;have h1:=(aO (B:=10) (by omega) (dX m).length m).1 (Nat.le_refl _);have h2:=(aO (B:=10) (by omega) (dX n).length n).1 (Nat.le_refl _);have h3:m*n<10^(dX m).length*10^(dX n).length:=Nat.mul_lt_mul'' h1 h2;rw[←Nat.pow_add] at h3;have h4:((m*n:Nat):Int)<((10^((dX m).length+(dX n).length):Nat):Int):=Int.ofNat_lt.2 h3;rw[Hl,Int.natCast_mul] at h4;have h5:(10:Int)^((dX m).length+(dX n).length)*1≤10^((dX m).length+(dX n).length)*(Rn o').getLast hne:=Int.mul_le_mul_of_nonneg_left (by omega) (Int.pow_nonneg (by omega));rw[YI] at hvs;rw[c1] at hvs;change VX o'=_ at v1;omega
 have hD:DX (Rn o'):=by rw[Qn];exact c4.append (gU.cons apl am3 gU.nil)
 rw[wP hD (by rw[c2,v2];omega),bS,c1];change VX o'=_ at v1;rw[v1]
 congr 2
 cases s<;>cases t<;>simp
theorem WJ {x y:Int}(hx:Bd x)(hy:Bd y):fA (fM x) (fM y)=some (fM (x*y)):=by
 have hlx:=Mb x;have hly:=Mb y;rw[AB,tM,Bs hx,bS,Bs hy,bS];unfold Bd at hx hy;have Qq:((au (fM x)).bind fun r3=>(au (fM y)).bind fun r4=>
   bif (je 8 (IntKind.wrap .i64 ((IntKind.wrap .i64 ((r3.2.length:Int)+(r4.2.length:Int)))+(1:Int))) (IntKind.wrap .i64 ((IntKind.wrap .i64 ((r3.2.length:Int)+(r4.2.length:Int)))+(1:Int)))) then
   bC r3.1 r3.2 r4.1 r4.2 (0:Int) (List.replicate (IntKind.wrap .i64 ((IntKind.wrap .i64 ((r3.2.length:Int)+(r4.2.length:Int)))+(1:Int))).toNat (0:Int))
   else none)=some (fM (x*y)):=by
  rw[mE hx,bS,mE hy,bS];simp only;simp (disch:=omega) only[i64_in,Ic];have e1:(((dX x.natAbs).length:Int)+(dX y.natAbs).length+1).toNat=(dX x.natAbs).length+(dX y.natAbs).length+1:=by omega
  rw[e1,aau (by omega) (by omega)]
  congr 2
  by_cases h1:x<0<;>by_cases h2:y<0
  ·have a1:(x.natAbs:Int)= -x:=by omega
   have a2:(y.natAbs:Int)= -y:=by omega
   rw[decide_eq_true h1,decide_eq_true h2,if_pos rfl,a1,a2];simp[Int.neg_mul,Int.mul_neg]
  ·have a1:(x.natAbs:Int)= -x:=by omega
   have a2:(y.natAbs:Int)=y:=by omega
   rw[decide_eq_true h1,decide_eq_false h2,if_neg (by simp),a1,a2];simp[Int.neg_mul,Int.mul_neg]
  ·have a1:(x.natAbs:Int)=x:=by omega
   have a2:(y.natAbs:Int)= -y:=by omega
   rw[decide_eq_false h1,decide_eq_true h2,if_neg (by simp),a1,a2];simp[Int.neg_mul,Int.mul_neg]
  ·have a1:(x.natAbs:Int)=x:=by omega
   have a2:(y.natAbs:Int)=y:=by omega
   rw[decide_eq_false h1,decide_eq_false h2,if_pos rfl,a1,a2]
 by_cases h1:nd x≤9
 ·rw[if_pos h1];simp only[cT];by_cases h2:nd y≤9
  ·rw[if_pos h2];simp only[cT];have b1:=(j6 x 9 (by omega)).1 h1;have b2:=(j6 y 9 (by omega)).1 h2;have b3:(x*y).natAbs<10^9*10^9:=by rw[Int.natAbs_mul];exact Nat.mul_lt_mul'' b1 b2
   rw[i64_in _ (by omega),mF (by omega) (by omega),bS]
  ·rw[if_neg h2];simp only[cF];exact Qq
 ·rw[if_neg h1];simp only[cF];exact Qq
end Go.Proofs.YtofjebmoebhiiaaGreatDoor.Ev
namespace Go.Abs
theorem aiy {x y:Int}(hy:y≠0){Q R:Int}(hQ:Q=((x.natAbs / y.natAbs:Nat):Int))(hR:R=((x.natAbs % y.natAbs:Nat):Int)):
  (x.fdiv y=if (x<0↔y<0) then Q else if R=0 then -Q else -Q - 1)∧
  (x.fmod y=if (x<0↔y<0) then (if x<0 then -R else R) else if R=0 then 0 else (if x<0 then -R else R)+y):=by
 have UX:=Nat.div_add_mod x.natAbs y.natAbs;have hlt:=Nat.mod_lt x.natAbs (show y.natAbs>0 by omega);obtain⟨A,hA⟩:∃A,A=x.natAbs:=⟨_,rfl⟩
 obtain⟨B,hB⟩:∃B,B=y.natAbs:=⟨_,rfl⟩
 rw[←hA, ←hB] at UX hlt hQ hR;have au2:(B:Int)*Q+R=A:=by rw[hQ,hR, ←Int.natCast_mul, ←Int.natCast_add,UX]
 have hR0:0≤R:=by rw[hR];exact Int.natCast_nonneg _
 have hRB:R<B:=by rw[hR];exact Int.ofNat_lt.2 hlt
 by_cases h1:x<0<;>by_cases h2:y<0
 ·have hx':x= -(A:Int):=by omega
  have hy':y= -(B:Int):=by omega
  have hu:=(Int.fdiv_fmod_unique' (a:=x) (b:=y) (r:= -R) (q:=Q) h2).2 ⟨by rw[hx',hy',Int.neg_mul];omega,by omega,by omega⟩;rw[hu.1,hu.2];simp[h1,h2]
 ·have hx':x= -(A:Int):=by omega
  have hy':y=(B:Int):=by omega
  by_cases hz:R=0
  ·have hu:=(Int.fdiv_fmod_unique (a:=x) (b:=y) (r:= -R) (q:= -Q) (by omega)).2 ⟨by rw[hx',hy',Int.mul_neg];omega,by omega,by omega⟩;rw[hu.1,hu.2];simp[h1,h2,hz]
  ·have hu:=(Int.fdiv_fmod_unique (a:=x) (b:=y) (r:= -R+y) (q:= -Q - 1) (by omega)).2 ⟨by rw[hx',hy',Int.mul_sub,Int.mul_neg];omega,by omega,by omega⟩;rw[hu.1,hu.2];simp[h1,h2,hz]
 ·have hx':x=(A:Int):=by omega
  have hy':y= -(B:Int):=by omega
  by_cases hz:R=0
  ·have hu:=(Int.fdiv_fmod_unique' (a:=x) (b:=y) (r:=R) (q:= -Q) (by omega)).2 ⟨by rw[hx',hy',Int.neg_mul_neg];omega,by omega,by omega⟩;rw[hu.1,hu.2];simp[h1,h2,hz]
  ·have hu:=(Int.fdiv_fmod_unique' (a:=x) (b:=y) (r:=R+y) (q:= -Q - 1) (by omega)).2 ⟨by rw[hx',hy',Int.mul_sub,Int.neg_mul_neg];omega,by omega,by omega⟩;rw[hu.1,hu.2];simp[h1,h2,hz]
 ·have hx':x=(A:Int):=by omega
  have hy':y=(B:Int):=by omega
  have hu:=(Int.fdiv_fmod_unique (a:=x) (b:=y) (r:=R) (q:=Q) (by omega)).2 ⟨by rw[hx',hy'];omega,by omega,by omega⟩;rw[hu.1,hu.2];simp[h1,h2]
end Go.Abs
namespace Go.Proofs.YtofjebmoebhiiaaGreatDoor.Ev
open Go.Abs Go.IntWalk
section
variable {b:ByteArray}{p s:Bool}
theorem apm {x:List Int}{B:Nat}(hB:0<B)(hBl:(dX B).length≤10000000){i:Int}{q:List Int}(hq:q.length≤10000000):∀(S k:Nat),(dX S).length≤10000001→k+S / B≤1000→
  cz b p x s (dX B) (dX S) i k q=bo b p x s (dX B) (dX (S % B)) (IntKind.wrap .i64 (i - 1)) (q++[((k+S / B:Nat):Int)]):=by
 intro S;induction S using Nat.strongRecOn with
 |ind S ih=>
  intro k hS hk;rw[rR,mB,OV (by omega) (by omega),bS];by_cases h:B≤S
  ·have hc:mK (S:Int) B≥0:=by
    by_cases hh:mK (S:Int) B≥0
    ·exact hh
    ·have:=Ng.1 (show mK (S:Int) B<0 by omega);omega
   have e1:=Nat.mod_eq_sub_mod h;have e2:S / B=(S - B) / B+1:=Nat.div_eq_sub_div hB h;obtain⟨D,hD⟩:∃D,(S - B) / B=D:=⟨_,rfl⟩
   rw[e2,hD] at hk;rw[xz hc,aar (by omega) h,bS,i64_in _ (by omega)];have:=ih (S - B) (by omega) (k+1) (by have:=WG (show S - B≤S by omega);omega) (by rw[hD];omega);simp only[Int.natCast_add,Int.natCast_one] at this;rw[this, ←e1,e2]
   congr 3
   omega
  ·have hc:¬mK (S:Int) B≥0:=by rw[mX (by omega)];omega
   rw[u9 hc,iT (by omega) (by omega),Nat.mod_eq_of_lt (by omega),Nat.div_eq_of_lt (by omega),Nat.add_zero]
theorem apn {x:List Int}(hx:DX x){B:Nat}(hB:0<B)(hBl:(dX B).length≤10000000)(hxl:x.length≤10000000):∀(k:Nat) (R:Nat) (q:List Int),k≤x.length→R<B→q.length+k≤10000000→DX q→
  VX (x.drop k)=B*VX q.reverse+R→
  ∃q' R',bo b p x s (dX B) (dX R) ((k:Int) - 1) q=aI b p s (dX R') 0 q'∧R'<B∧DX q'∧VX x=B*VX q'.reverse+R'∧q'.length≤10000000:=by
 intro k;induction k with
 |zero=>intro R q hk hR hql hq hv;refine⟨q,R, ?_,hR,hq,by simpa using hv,by omega⟩;rw[ly,iz,u9 (by omega)]
 |succ k ih=>
  intro R q hk hR hql hq hv;have hxk:=hx.getD (by omega) k;have hRl:=WG (show R≤B by omega);have e:((k+1:Nat):Int) - 1=k:=by omega
  obtain⟨c,hc⟩:=Int.eq_ofNat_of_zero_le hxk.1;rw[hc] at hxk;have hDc:DX ([(c:Int)]++dX R):=(gU.cons hxk.1 hxk.2 gU.nil).append (Hk R);have hVc:VX ([(c:Int)]++dX R)=((c+10*R:Nat):Int):=by have:=J2 R;simp only[VX,List.singleton_append,val] at this ⊢;rw[this];omega
  have hlen:(dX (c+10*R)).length≤10000001:=by have h1:=Bp ([(c:Int)]++dX R);rw[Ug hDc,hVc,Int.toNat_natCast] at h1;simp at h1;show (dX (c+10*R)).length≤_;omega
  have hdiv:(c+10*R) / B<10:=by rw[Nat.div_lt_iff_lt_mul hB];omega
  have hmod:=Nat.mod_lt (c+10*R) hB;have UX:=Nat.div_add_mod (c+10*R) B;rw[ly,iz,e,xz (by omega),fI (by omega) (by omega),Int.toNat_natCast,hc,iT (by omega) (by omega),J3 (by simp;omega),bS,Ug hDc,hVc,Int.toNat_natCast];have h1:=apm (b:=b) (p:=p) (s:=s) (x:=x) hB hBl (i:=k) (q:=q) (by omega) (c+10*R) 0 hlen (by omega);simp only[Int.natCast_zero,Nat.zero_add] at h1;rw[h1,i64_in _ (by omega)];refine ih _ _ (by omega) hmod (by simp;omega) (hq.append (gU.cons (Int.natCast_nonneg _) (Int.ofNat_lt.2 hdiv) gU.nil)) ?_;rw[drop_eq (show k<x.length by omega),hc,List.reverse_append,List.reverse_singleton,List.singleton_append];simp only[VX,val] at hv ⊢;rw[hv];have h2:((B*((c+10*R) / B)+(c+10*R) % B:Nat):Int)=((c+10*R:Nat):Int):=by rw[UX]
  rw[Int.natCast_add,Int.natCast_mul] at h2;have h3:(B:Int)*(((c+10*R) / B:Nat)+10*val 10 q.reverse)=B*((c+10*R) / B:Nat)+10*(B*val 10 q.reverse):=by rw[Int.mul_add,Int.mul_left_comm]
  rw[h3];omega
theorem am4 {r:List Int}:∀(m:Nat) (M A C:List Int),M.length=m→A.length=C.length→(A++M++C).length≤1000000000→
  aI b p s r A.length (A++M++C)=aI b p s r (((A++M++C).length:Int) / 2) (A++M.reverse++C):=by
 intro m;induction m using Nat.strongRecOn with
 |ind m ih=>
  intro M A C hm hac hl;by_cases h:M.length≤1
  ·have hrev:M.reverse=M:=by
    match M,h with
    | [],_=>rfl
    | [x],_=>rfl
    |_::_::_,h=>simp at h
   have:((A++M++C).length:Int) / 2=A.length:=by simp;omega
   rw[hrev,this]
  ·obtain⟨x,M1,rfl⟩:∃x M1,M=x::M1:=by
    cases M with
    |nil=>simp at h
    |cons x M1=>exact⟨x,M1,rfl⟩
   have hne:M1≠ []:=fun e=>by rw[e] at h;simp at h
   obtain⟨M2,y,rfl⟩:∃M2 y,M1=M2++[y]:=⟨M1.dropLast,M1.getLast hne,(List.dropLast_concat_getLast hne).symm⟩
   have hlen:(A++x::(M2++[y])++C).length=A.length+M2.length+2+C.length:=by simp;omega
   rw[hlen] at hl;have hL:A++x::(M2++[y])++C=A++(x::(M2++(y::C))):=by simp
   have hR:A++(x::(M2++[y])).reverse++C=(A++[y])++M2.reverse++(x::C):=by simp
   have apo:((A++[y])++M2++(x::C)).length=A.length+M2.length+2+C.length:=by simp;omega
   have XF:=ih M2.length (by simp at hm;omega) M2 (A++[y]) (x::C) rfl (by simp;omega) (by omega);have e1:((A++[y]).length:Int)=(A.length:Int)+1:=by simp
   rw[e1,apo] at XF;rw[hlen,hR, ←XF,hL];rw[hL] at hlen;have gx:(A++(x::(M2++(y::C)))).getD A.length 0=x:=by simp[List.getD]
   have gy:(A++(x::(M2++(y::C)))).getD (A.length+M2.length+1) 0=y:=by
    rw[List.getD,List.getElem?_append_right (by omega)];have:A.length+M2.length+1 - A.length=M2.length+1:=by omega
    rw[this];simp
   have s1:(A++(x::(M2++(y::C)))).set A.length y=A++(y::(M2++(y::C))):=by rw[List.set_append_right _ _ (by omega)];simp
   have s2:(A++(y::(M2++(y::C)))).set (A.length+M2.length+1) x=(A++[y])++M2++(x::C):=by
    rw[List.set_append_right _ _ (by omega)];have:A.length+M2.length+1 - A.length=M2.length+1:=by omega
    rw[this,List.set_cons_succ,List.set_append_right _ _ (by omega)];simp
   have Z0:(A++(y::(M2++(y::C)))).length=A.length+M2.length+2+C.length:=by simp;omega
   have ej:(((A.length+M2.length+2+C.length:Nat):Int) - 1 - A.length).toNat=A.length+M2.length+1:=by omega
   rw[lz,iB];simp only[hlen];rw[mc (by omega)];simp (disch:=omega) only[ax,i64_in,fI,qu,ej,Int.toNat_natCast,gx,gy,s1,s2]
theorem akG {r q:List Int}(hl:q.length≤1000000000):aI b p s r 0 q=aI b p s r ((q.length:Int) / 2) q.reverse:=by have:=am4 (b:=b) (p:=p) (s:=s) (r:=r) q.length q [] [] rfl rfl (by simpa using hl);simpa using this
end
theorem Yk {x y:Int}(hx:Bd x)(hy:Bd y)(hy0:y≠0):dB (fM x) (fM y)=some (fM (x.fdiv y),fM (x.fmod y)):=by
 have hlx:=Mb x;have hly:=Mb y;obtain⟨fq,fr⟩:=aiy (x:=x) (y:=y) hy0 rfl rfl;have UX:=Nat.div_add_mod x.natAbs y.natAbs;have hlt:=Nat.mod_lt x.natAbs (show y.natAbs>0 by omega);have hbx:=hx;have hby:=hy;rw[vV,pI,Bs hx,bS,Bs hy,bS];unfold Bd at hx hy
 -- GJ Qq way
 have Qq:((au (fM x)).bind fun r9=>(au (fM y)).bind fun NC=>
   let U8:Int:=(IntKind.wrap .i64 ((NC.2.length:Int) - (1:Int)))
   let e12:Int:=(bif decide (U8>(0:Int)) then U8 else (0:Int))
   let XN:Int:=(bif decide ((IntKind.wrap .i64 ((r9.2.length:Int) - e12))>(0:Int)) then (IntKind.wrap .i64 ((r9.2.length:Int) - e12)) else (0:Int))
   bif (di r9.2.length XN (r9.2.length:Int)) then
   bif (aG 8 1 0 (cut r9.2 XN (r9.2.length:Int)).length) then
   let e14:List Int:=(([]:List Int)++(cut r9.2 XN (r9.2.length:Int)))
   (bk e14).bind fun r15=>
   bo (fM y) r9.1 r9.2 NC.1 NC.2 r15 (IntKind.wrap .i64 (XN - (1:Int))) ([]:List Int)
   else none
   else none)=some (fM (x.fdiv y),fM (x.fmod y)):=by
  rw[mE hbx,bS,mE hby,bS];simp only;obtain⟨LX,hLX⟩:∃LX,LX=(dX x.natAbs).length:=⟨_,rfl⟩
  obtain⟨LY,hLY⟩:∃LY,LY=(dX y.natAbs).length:=⟨_,rfl⟩
  have au4:0<LY:=by
   have:(dX y.natAbs).length≠0:=fun e=>by have:=(mC (B:=10) (n:=y.natAbs) (by omega)).1 (List.length_eq_zero_iff.1 e);omega
   omega
  obtain⟨st,hst⟩:∃st:Nat,st=LX - (LY - 1):=⟨_,rfl⟩
  rw[←hLX, ←hLY];have U8:IntKind.wrap .i64 ((LY:Int) - 1)=((LY - 1:Nat):Int):=by rw[i64_in _ (by omega)];omega
  have e12:(bif decide (((LY - 1:Nat):Int)>0) then ((LY - 1:Nat):Int) else 0)=((LY - 1:Nat):Int):=by
   by_cases h:((LY - 1:Nat):Int)>0
   ·rw[cX h]
   ·rw[c5 h];omega
  have XN:(bif decide (IntKind.wrap .i64 ((LX:Int) - ((LY - 1:Nat):Int))>0) then IntKind.wrap .i64 ((LX:Int) - ((LY - 1:Nat):Int)) else 0)=(st:Int):=by
   rw[i64_in _ (by omega)];by_cases h:(LX:Int) - ((LY - 1:Nat):Int)>0
   ·rw[cX h];omega
   ·rw[c5 h];omega
  have aiz:cut (dX x.natAbs) (st:Int) (LX:Int)=(dX x.natAbs).drop st:=by unfold cut;rw[Int.toNat_natCast,Int.toNat_natCast,hLX,List.take_length]
  simp only[U8,e12,XN,aiz];have YI:((dX x.natAbs).drop st).length=LX - st:=by rw[List.length_drop,hLX]
  have hDd:=(Hk x.natAbs).drop st;obtain⟨R0,hR0⟩:=Int.eq_ofNat_of_zero_le (KE hDd);rw[F8 (by omega) (by omega) (by omega),iT (by omega) (by omega),List.nil_append,J3 (by omega),bS,Ug hDd,hR0,Int.toNat_natCast,i64_in _ (by omega)]
  -- GJ first digits are less aro GJ akB
  have arC:R0<y.natAbs:=by have h1:VX ((dX x.natAbs).drop st)<10^((dX x.natAbs).drop st).length:=Ao (B:=10) (by omega) hDd;have h2:=OR (show ((dX x.natAbs).drop st).length≤LY - 1 by omega);have h3:=(fL (B:=10) (by omega) (LY - 1) y.natAbs).1 (by show LY - 1<(dX y.natAbs).length;omega);have h4:((10^(LY - 1):Nat):Int)≤(y.natAbs:Int):=Int.ofNat_le.2 h3;rw[Hl] at h4;omega
  obtain⟨q',R',w1,w2,w3,w4,w5⟩:=apn (b:=fM y) (p:=decide (x<0)) (s:=decide (y<0)) (Hk x.natAbs) (B:=y.natAbs) (by omega) (by omega) (by omega) st R0 [] (by omega) arC (by simp;omega) gU.nil (by rw[hR0];simp[VX,val]);have hq0:=KE (show DX q'.reverse from fun z hz=>w3 z (List.mem_reverse.1 hz));obtain⟨Q,hQ⟩:=Int.eq_ofNat_of_zero_le hq0;rw[J2,hQ] at w4;have hAN:x.natAbs=y.natAbs*Q+R':=by
   have:((y.natAbs*Q+R':Nat):Int)=(y.natAbs:Int)*Q+R':=by rw[Int.natCast_add,Int.natCast_mul]
   omega
  have hq1:x.natAbs / y.natAbs=Q:=by rw[hAN,Nat.mul_add_div (by omega),Nat.div_eq_of_lt w2];omega
  have NA:x.natAbs % y.natAbs=R':=by rw[hAN,Nat.mul_add_mod,Nat.mod_eq_of_lt w2]
  rw[hq1,NA] at fq;rw[NA] at fr;have au5:=WG (show R'≤y.natAbs by omega);rw[w1,akG (by omega),lz,iB];have hql:(q'.reverse).length=q'.length:=by simp
  rw[hql,mc (by omega)];simp (disch:=omega) only[i64_in,aq];have hD':DX q'.reverse:=fun z hz=>w3 z (List.mem_reverse.1 hz);rw[wP hD' (by rw[hql];omega),bS,wP (Hk R') (by omega),bS,hQ,J2,api];have arD:nd (Q:Int)≤100000:=by
   have:Q≤x.natAbs:=by rw[←hq1];exact Nat.div_le_self _ _
   have:=OT (x:=(Q:Int)) (y:=x) (by omega);omega
  have apq:nd (R':Int)≤100000:=by have:=OT (x:=(R':Int)) (y:=y) (by omega);omega
  have b1:Bd 1:=by unfold Bd;rw[OU (by decide)];omega
  by_cases hs:(x<0↔y<0)
  ·have hd:(decide (x<0)==decide (y<0))=true:=beq_iff_eq.2 (decide_eq_decide.2 hs);rw[if_pos hs] at fq fr;rw[hd,Bool.not_true,fq,fr];simp only[Bool.false_eq_true,if_false,cF,decide_eq_true_eq];cases ((fM (if x<0 then -(R':Int) else (R':Int))).toList==(fM 0).toList)<;>rfl
  ·have hd:(decide (x<0)==decide (y<0))=false:=by
    cases hh:(decide (x<0)==decide (y<0)) with
    |false=>rfl
    |true=>exact absurd (decide_eq_decide.1 (beq_iff_eq.1 hh)) hs
   rw[if_neg hs] at fq fr;rw[hd,Bool.not_false,fq,fr];simp only[if_true,cT,decide_eq_true_eq];by_cases hz:R'=0
   ·subst hz;have:(if x<0 then -((0:Nat):Int) else ((0:Nat):Int))=0:=by split<;>rfl
    rw[this,WD rfl,Bool.not_true,cF,if_pos (by rfl),if_pos (by rfl)]
   ·have h1:¬(if x<0 then -(R':Int) else (R':Int))=0:=by split<;>omega
    rw[WE h1,Bool.not_false,cT,if_neg (show ¬((R':Nat):Int)=0 by omega),if_neg (show ¬((R':Nat):Int)=0 by omega),ary,afC (by unfold Bd;rw[Yc];exact arD) b1,bS,aas (by
     unfold Bd;split
     ·rw[Yc];exact apq
     ·exact apq) hby,bS]
 by_cases h1:nd x≤9
 ·rw[if_pos h1];simp only[cT];by_cases h2:nd y≤9
  ·rw[if_pos h2];simp only[cT];have c1:=(j6 x 9 (by omega)).1 h1;have c2:=(j6 y 9 (by omega)).1 h2;have arE:=Nat.div_le_self x.natAbs y.natAbs
   -- truncated apr by GJ absolute values
   have eq1:x.tdiv y=if (x<0↔y<0) then ((x.natAbs / y.natAbs:Nat):Int) else -((x.natAbs / y.natAbs:Nat):Int):=by
    by_cases a:x<0<;>by_cases b:y<0
    ·have hx':x= -(x.natAbs:Int):=by omega
     have hy':y= -(y.natAbs:Int):=by omega
     rw[if_pos (by simp[a,b])]
     conv=>lhs;rw[hx',hy']
     rw[Int.neg_tdiv,Int.tdiv_neg,Int.neg_neg,mc (by omega),Int.natCast_ediv]
    ·have hx':x= -(x.natAbs:Int):=by omega
     have hy':y=(y.natAbs:Int):=by omega
     rw[if_neg (by simp[a,b])]
     conv=>lhs;rw[hx',hy']
     rw[Int.neg_tdiv,mc (by omega),Int.natCast_ediv]
    ·have hx':x=(x.natAbs:Int):=by omega
     have hy':y= -(y.natAbs:Int):=by omega
     rw[if_neg (by simp[a,b])]
     conv=>lhs;rw[hx',hy']
     rw[Int.tdiv_neg,mc (by omega),Int.natCast_ediv]
    ·have hx':x=(x.natAbs:Int):=by omega
     have hy':y=(y.natAbs:Int):=by omega
     rw[if_pos (by simp[a,b])]
     conv=>lhs;rw[hx',hy']
     rw[mc (by omega),Int.natCast_ediv]
   have eq2:x.tmod y=if x<0 then -((x.natAbs % y.natAbs:Nat):Int) else ((x.natAbs % y.natAbs:Nat):Int):=by
    have key:x.tmod y=x.tmod (y.natAbs:Int):=by
     by_cases b:y<0
     ·have hy':y= -(y.natAbs:Int):=by omega
      conv=>lhs;rw[hy']
      rw[Int.tmod_neg]
     ·have hy':y=(y.natAbs:Int):=by omega
      conv=>lhs;rw[hy']
    rw[key];by_cases a:x<0
    ·have hx':x= -(x.natAbs:Int):=by omega
     rw[if_pos a]
     conv=>lhs;rw[hx']
     rw[Int.neg_tmod,bA (by omega),Int.natCast_emod]
    ·have hx':x=(x.natAbs:Int):=by omega
     rw[if_neg a]
     conv=>lhs;rw[hx']
     rw[bA (by omega),Int.natCast_emod]
   obtain⟨Q,hQ⟩:∃Q,Q=x.natAbs / y.natAbs:=⟨_,rfl⟩
   obtain⟨R,hR⟩:∃R,R=x.natAbs % y.natAbs:=⟨_,rfl⟩
   rw[kz hy0,kz hy0,eq1,eq2,fq,fr];rw[←hQ, ←hR] at UX;rw[←hR] at hlt;rw[←hQ] at arE;rw[←hQ, ←hR];clear hQ hR fq fr eq1 eq2;by_cases hz:R=0
   ·subst hz;have e0:(if x<0 then -((0:Nat):Int) else ((0:Nat):Int))=0:=by split<;>rfl
    rw[e0,nP rfl];by_cases hs:(x<0↔y<0)
    ·rw[if_pos hs,if_pos hs,if_pos hs,i64_in _ (by omega),mF (by omega) (by omega),bS,mF (by omega) (by omega),bS]
    ·rw[if_neg hs,if_neg hs,if_neg hs,if_pos (by rfl),if_pos (by rfl),i64_in _ (by omega),mF (by omega) (by omega),bS,mF (by omega) (by omega),bS]
   ·have Ze:¬(if x<0 then -(R:Int) else (R:Int))=0:=by split<;>omega
    rw[F7 Ze];have hsg:(decide ((if x<0 then -(R:Int) else (R:Int))<0))=decide (x<0):=decide_eq_decide.2 (by split<;>omega);rw[hsg];by_cases hs:(x<0↔y<0)
    ·have hd:(decide (x<0)==decide (y<0))=true:=beq_iff_eq.2 (decide_eq_decide.2 hs);rw[hd,Bool.not_true,cF,if_pos hs,if_pos hs,if_pos hs,i64_in _ (by omega),mF (by omega) (by omega),bS,mF (by split<;>omega) (by split<;>omega),bS]
    ·have hd:(decide (x<0)==decide (y<0))=false:=by
      cases hh:(decide (x<0)==decide (y<0)) with
      |false=>rfl
      |true=>exact absurd (decide_eq_decide.1 (beq_iff_eq.1 hh)) hs
     rw[hd,Bool.not_false,cT,if_neg hs,if_neg hs,if_neg hs,if_neg (show ¬((R:Nat):Int)=0 by omega),if_neg (show ¬((R:Nat):Int)=0 by omega)];have w1:IntKind.wrap .i64 (-(Q:Int))= -(Q:Int):=i64_in _ (by omega);have w2:IntKind.wrap .i64 (-(Q:Int) - 1)= -(Q:Int) - 1:=i64_in _ (by omega);have w3:IntKind.wrap .i64 ((if x<0 then -(R:Int) else (R:Int))+y)=(if x<0 then -(R:Int) else (R:Int))+y:=i64_in _ (by split<;>omega);simp only[w1,w2,w3];rw[mF (by omega) (by omega),bS,mF (by split<;>omega) (by split<;>omega),bS]
  ·rw[if_neg h2];simp only[cF];exact Qq
 ·rw[if_neg h1];simp only[cF];exact Qq
theorem Sm.Bd {z:Int}(h:Sm z):Bd z:=by unfold Sm at h;unfold Go.Abs.Bd;omega
theorem C7 {z:Int}{k:Nat}(h:nd z≤k)(hk:k≤100000):Bd z:=by unfold Bd;omega
theorem aiA {z:Int}(h:z.natAbs<10):Bd z:=C7 (Nat.le_of_eq (OU h)) (by omega)
theorem Vp:∀(y x:Nat),Bd x→Bd y→cI (fM x) (fM y)=some (fM ((Nat.gcd x y:Nat):Int)):=by
 intro y;induction y using Nat.strongRecOn with
 |ind y ih=>
  intro x hx hy;rw[sZ,nA,api];by_cases h:y=0
  ·subst h;rw[WD (by rfl),Bool.not_true,cF,Nat.gcd_zero_right]
  ·have e:(x:Int).fmod y=((x % y:Nat):Int):=by rw[Int.fmod_eq_emod_of_nonneg _ (by omega),Int.natCast_emod]
   have hlt:=Nat.mod_lt x (show y>0 by omega);rw[WE (by omega),Bool.not_false,cT,Yk hx hy (by omega),bS,e,ih _ hlt y hy (C7 (OT (x:=((x % y:Nat):Int)) (y:=(y:Int)) (by simp;omega)) hy),Nat.gcd_comm y, ←Nat.gcd_rec,Nat.gcd_comm]
theorem aav {x y:Int}(hx:Bd x)(hy:Bd y):dS (fM x) (fM y)=some (fM ((Int.gcd x y:Nat):Int)):=by rw[xf,qP,OW hx,bS,OW hy,bS,Vp y.natAbs x.natAbs (C7 (OT (y:=x) (by simp)) hx) (C7 (OT (y:=y) (by simp)) hy)];rfl
section
variable {x y:Int}(hx:Sm x)(hy:Sm y)
include hx hy
end
section
variable {x:Int}(hx:Sm x)
include hx
end
def fs:List Int→Option Nat
 | []=>none
 |x::r=>if x=47 then some 0 else (fs r).map (· +1)
theorem alM:∀{l:List Int} {k:Nat},fs l=some k→k<l.length
 |x::r,k,h=>by
  simp only[fs] at h;split at h
  ·cases h;simp
  ·cases hr:fs r with
   |none=>rw[hr] at h;cases h
   |some j=>rw[hr] at h;cases h;have:=alM hr;simp;omega
theorem adQ:∀(l:List UInt8) (i:Nat),Va 47 i l=match fs (l.map fun b=>(b.toNat:Int)) with
  |none=> -1
  |some k=>((i+k:Nat):Int)
 | [],i=>rfl
 |x::r,i=>by
  simp only[Va,List.map_cons,fs];by_cases h:(x.toNat:Int)=47
  ·rw[adC h,cT,if_pos h];rfl
  ·rw[JX h,cF,if_neg h,adQ r (i+1)];cases fs (r.map fun b=>(b.toNat:Int)) with
   |none=>rfl
   |some k=>show ((i+1+k:Nat):Int)=((i+(k+1):Nat):Int);congr 1;omega
theorem Yl (s:ByteArray):eU s 47=some (match fs (bytesOf s) with
  |none=> -1
  |some k=>((k:Nat):Int)):=by
 have h:eU s 47=(bif decide ((0:Int)≤47)&&decide ((47:Int)<256) then some (Va 47 0 s.data.toList) else none):=DB T B (Go.Abs.look fns) 165 (s,47);rw[h];have e:(decide ((0:Int)≤47)&&decide ((47:Int)<256))=true:=rfl;rw[e,cT,adQ];unfold bytesOf;cases fs (s.data.toList.map fun b=>(b.toNat:Int)) with
 |none=>rfl
 |some k=>simp
theorem aps:bytesOf (bs [47])=[47]:=rfl
theorem aiB {s:ByteArray}(hs:s.size≤100000):uy s (bs [47])=some (match fs (bytesOf s) with
  |none=>(s,ByteArray.empty,false)
  |some k=>(s.extract 0 k,s.extract (k+1) s.size,true)):=by
 have hi:iY s (bs [47])=some (match fs (bytesOf s) with
  |none=> -1
  |some k=>((k:Nat):Int)):=by
  rw[zj,sn];have e1:((bs [47]).size:Int)=1:=rfl;rw[e1,eS (by omega),Uf, ];by_cases hq:bs [47]=s
  ·subst hq;rw[decide_eq_true rfl,cT,aps];rfl
  ·rw[decide_eq_false hq,cF,gT rfl];have e2:zQ (bs [47]) 0=some 47:=rfl;rw[e2,bS,Yl,bS]
 rw[Jo,EH,B8,vM,hi,bS];cases hf:fs (bytesOf s) with
 |none=>simp only;rw[u9 (by omega),bS]
 |some k=>
  have hk:=alM hf;rw[aS] at hk;simp only;have e1:((bs [47]).size:Int)=1:=rfl;rw[e1,xz (by omega),F8 (by omega) (by omega) (by omega),i64_in _ (by omega),F8 (by omega) (by omega) (by omega),bS];have e2:((k:Int)+1).toNat=k+1:=by omega
  have e3:((k:Int)).toNat=k:=by omega
  have e4:((s.size:Int)).toNat=s.size:=by omega
  rw[e2,e3,e4];rfl
theorem acm {s:ByteArray}(hs:s.size≤100000):∀(m i:Nat),m+i=s.size→du s i=some (match fs ((bytesOf s).drop i) with
  |none=>(s,bs [49],false)
  |some k=>(s.extract 0 (i+k),s.extract (i+k+1) s.size,true)):=by
 intro m;induction m with
 |zero=>intro i hi;have hl:=aS s;rw[oz,kR,aq (by omega),List.drop_eq_nil_of_le (by omega)];rfl
 |succ m ih=>
  intro i hi;have hl:=aS s;have hd:(bytesOf s).drop i=(bytesOf s).getD i 0::(bytesOf s).drop (i+1):=drop_eq (by omega);rw[oz,kR,ax (by omega),yU,fI (by omega) (by omega),hd];have e0:((i:Int)).toNat=i:=by omega
  simp only[e0,fs];by_cases hc:(bytesOf s).getD i 0=47
  ·rw[gT hc,F8 (by omega) (by omega) (by omega),i64_in _ (by omega),F8 (by omega) (by omega) (by omega),if_pos hc];have e2:((i:Int)+1).toNat=i+1:=by omega
   have e4:((s.size:Int)).toNat=s.size:=by omega
   rw[e2,e4];rfl
  ·have e1:(i:Int)+1=((i+1:Nat):Int):=by omega
   rw[eS hc,i64_in _ (by omega),e1,ih (i+1) (by omega),if_neg hc];cases fs ((bytesOf s).drop (i+1)) with
   |none=>rfl
   |some k=>
    show some (s.extract 0 (i+1+k),s.extract (i+1+k+1) s.size,true)=some (s.extract 0 (i+(k+1)),s.extract (i+(k+1)+1) s.size,true);have e:i+1+k=i+(k+1):=by omega
    rw[e]
theorem Ul {s:ByteArray}(hs:s.size≤100000):cV s=some (match fs (bytesOf s) with
  |none=>(s,bs [49],false)
  |some k=>(s.extract 0 k,s.extract (k+1) s.size,true)):=by
 rw[AH,tS];have:=acm hs s.size 0 (by omega);simp only[List.drop_zero,Nat.zero_add] at this;exact this
theorem vb {s:ByteArray}(h:fU (bytesOf s)=true):s=fM (numOf (bytesOf s)):=me (by rw[dD];exact Uh h)
theorem Um (z:Int):fU (bytesOf (fM z))=true:=by rw[dD];exact(Rl z).1
theorem KI (z:Int):numOf (bytesOf (fM z))=z:=by rw[dD];exact(Rl z).2
theorem Eg (z:Int):nd z≤(fM z).size:=by rw[aam];omega
theorem Eh (z:Int):Ln z≤nd z:=by
 rw[F9];have h1:1≤nd z:=by have:=rh z.natAbs;unfold nd;omega
 have h:=(j6 z (nd z) h1).1 (Nat.le_refl _);exact Nat.lt_of_lt_of_le h (Nat.pow_le_pow_left (by omega) _)
inductive Rt:ByteArray→Int→Int→Prop
 |whole (n:Int):Rt (fM n) n 1
 |aaw {s:ByteArray} {k:Nat} {n d:Int} (hk:fs (bytesOf s)=some k) (h1:s.extract 0 k=fM n) (h2:s.extract (k+1) s.size=fM d) (hn:n≠0) (hd:2≤d) (hg:Int.gcd n d=1):Rt s n d
def wQ (s:ByteArray):Bool:=match fs (bytesOf s) with
 |none=>fU (bytesOf s)
 |some k=>fU (bytesOf (s.extract 0 k))&&fU (bytesOf (s.extract (k+1) s.size))&& !(numOf (bytesOf (s.extract 0 k))==0)&&decide (2≤numOf (bytesOf (s.extract (k+1) s.size)))&&(Int.gcd (numOf (bytesOf (s.extract 0 k))) (numOf (bytesOf (s.extract (k+1) s.size)))==1)
theorem afD {l:List Int}(h:∀x∈l,x≠47):fs l=none:=by
 induction l with
 |nil=>rfl
 |cons x r ih=>simp only[fs];rw[if_neg (h x (by simp)),ih fun y hy=>h y (by simp[hy])];rfl
theorem Ym (z:Int):fs (bytesOf (fM z))=none:=by
 rw[dD];refine afD fun x hx=> ?_;unfold rf at hx;rcases List.mem_append.1 hx with hx |hx
 ·split at hx
  ·simp at hx;omega
  ·cases hx
 ·have:=o7 _ x hx;omega
theorem rM {s:ByteArray}:wQ s=true↔∃n d,Rt s n d:=by
 constructor
 ·intro h;unfold wQ at h;cases hf:fs (bytesOf s) with
  |none=>rw[hf] at h;exact⟨numOf (bytesOf s),1,by have:=Rt.whole (numOf (bytesOf s));rw[←vb h] at this;exact this⟩
  |some k=>rw[hf] at h;simp only[Bool.and_eq_true,decide_eq_true_eq,Bool.not_eq_true',beq_eq_false_iff_ne,beq_iff_eq] at h;obtain⟨⟨⟨⟨h1,h2⟩,h3⟩,h4⟩,h5⟩:=h;exact⟨_,_,Rt.aaw hf (vb h1) (vb h2) h3 h4 h5⟩
 ·rintro ⟨n,d,h⟩;unfold wQ;cases h with
  |whole=>rw[Ym];exact Um _
  |aaw hk h1 h2 hn hd hg=>rw[hk];simp only[h1,h2,Um,KI,hg,Bool.and_eq_true,decide_eq_true_eq,Bool.not_eq_true',beq_eq_false_iff_ne,beq_iff_eq];exact⟨⟨⟨⟨trivial,trivial⟩,hn⟩,hd⟩,trivial⟩
theorem extract_size (s:ByteArray)(a b:Nat):(s.extract a b).size≤s.size:=by rw[ByteArray.size_extract];omega
theorem Rt.bounds {s:ByteArray}{n d:Int}(h:Rt s n d)(hs:s.size≤1000):nd n≤1000∧nd d≤1000∧0<d:=by
 cases h with
 |whole=>exact⟨by have:=Eg n;omega,by have:=OU (x:=1) (by decide);omega,by omega⟩
 |aaw hk h1 h2 hn hd hg=>
  refine⟨?_, ?_,by omega⟩
  ·have e1:=Eg n;rw[←h1] at e1;exact Nat.le_trans e1 (Nat.le_trans (extract_size s _ _) hs)
  ·have e1:=Eg d;rw[←h2] at e1;exact Nat.le_trans e1 (Nat.le_trans (extract_size s _ _) hs)
def lb (s:ByteArray):Int×Int:=match fs (bytesOf s) with
 |none=>(numOf (bytesOf s),1)
 |some k=>(numOf (bytesOf (s.extract 0 k)),numOf (bytesOf (s.extract (k+1) s.size)))
theorem Rt.val {s:ByteArray}{n d:Int}(h:Rt s n d):lb s=(n,d):=by
 unfold lb;cases h with
 |whole=>rw[Ym,KI]
 |aaw hk h1 h2 hn hd hg=>rw[hk];simp only[h1,h2,KI]
abbrev WR (n d:Int):(Bool×List Int×Unit)×(Bool×List Int×Unit)×Unit:=(W n,(W d,()))
theorem afE:xQ 1=some (W 1):=Ww (by omega) (by omega)
theorem afF:Ln 1≤100000000000:=by have:=Eh 1;have:=OU (x:=1) (by decide);omega
theorem Qr {s:ByteArray}{n d:Int}(hs:s.size≤1000)(h:Rt s n d):gr s=some (WR n d,true):=by
 obtain⟨b1,b2,b3⟩:=h.bounds hs;have l1:=Eh n;have l2:=Eh d;rw[BU,yz,aiB (by omega),bS];cases h with
 |whole=>rw[Ym];simp only;rw[va (by omega),Um,cT,bS,KI];simp only;rw[Bool.not_true,cF,Bool.not_false,cT,afE,bS]
 |aaw hk h1 h2 hn hd hg=>
  rw[hk];simp only;rw[h1,va (by have:=Eg n;rw[←h1] at this ⊢;exact Nat.le_trans (extract_size s _ _) (by omega)),Um,cT,bS,KI];simp only;rw[Bool.not_true,cF,cF,h2,va (by rw[←h2];exact Nat.le_trans (extract_size s _ _) (by omega)),Um,cT,bS,KI];simp only;rw[Bool.not_true,cF,wM,wN,bS];have hs0:¬ab0 n=0:=by unfold ab0;split<;>(try split)<;>omega
  rw[eS hs0,afE,bS];simp only[wM];rw[j5 (by omega) afF,bS,o5 (by omega),Ud (by omega),Gc (by omega) (by omega),bS,hg,bS];simp only[wM];have e1:((1:Nat):Int)=1:=rfl;rw[e1,j5 afF afF,bS,wL rfl,nP rfl]
theorem WK {s:ByteArray}(hs:s.size≤1000)(h:wQ s=false):∃j,gr s=some (j,false):=by
 rw[BU,yz,aiB (by omega),bS];unfold wQ at h;cases hf:fs (bytesOf s) with
 |none=>rw[hf] at h;simp only at h ⊢;rw[va (by omega),h,cF,bS];simp only;rw[Bool.not_false,cT,afE,bS];exact⟨_,rfl⟩
 |some k=>
  rw[hf] at h;simp only at h ⊢;have q1:=extract_size s 0 k;have q2:=extract_size s (k+1) s.size;rw[va (by omega)];by_cases o1:fU (bytesOf (s.extract 0 k))=true
  ·rw[o1,cT,bS];simp only;rw[Bool.not_true,cF,cF,va (by omega)];by_cases o2:fU (bytesOf (s.extract (k+1) s.size))=true
   ·rw[o2,cT,bS];simp only;have s1:=vb o1;have s2:=vb o2;rw[o1,o2] at h;generalize numOf (bytesOf (s.extract 0 k))=n at h s1 ⊢;generalize numOf (bytesOf (s.extract (k+1) s.size))=d at h s2 ⊢;have b1:=Eg n;have b2:=Eg d;rw[←s1] at b1;rw[←s2] at b2;have l1:=Eh n;have l2:=Eh d;rw[Bool.not_true,cF,wM,wN,bS];by_cases hn:n=0
    ·rw[gT (by subst hn;rfl)];exact⟨_,rfl⟩
    ·have hs0:¬ab0 n=0:=by unfold ab0;split<;>(try split)<;>omega
     rw[eS hs0,afE,bS];simp only[wM];rw[j5 (by omega) afF,bS];by_cases hd:2≤d
     ·rw[o5 (by omega),Ud (by omega),Gc (by omega) (by omega),bS,bS];simp only[wM];have hg:¬Int.gcd n d=1:=fun e=>by rw[JX hn,e,decide_eq_true hd] at h;cases h
      have lg:Ln ((Int.gcd n d:Nat):Int)≤Ln n:=aky (by
       have h1:Int.gcd n d ∣ n.natAbs:=Nat.gcd_dvd_left _ _;simp only[Int.natAbs_natCast];exact Nat.le_of_dvd (by omega) h1)
      rw[j5 (by omega) afF,bS,F7 (by unfold mK;split<;>(try split)<;>omega)];exact⟨_,rfl⟩
     ·rw[OO (by unfold mK;split<;>(try split)<;>omega)];exact⟨_,rfl⟩
   ·have o2':fU (bytesOf (s.extract (k+1) s.size))=false:=by simpa using o2
    rw[o2',cF,bS];simp only;rw[Bool.not_false,cT];exact⟨_,rfl⟩
  ·have o1':fU (bytesOf (s.extract 0 k))=false:=by simpa using o1
   rw[o1',cF,bS];simp only;rw[Bool.not_false,cT,afE,bS];exact⟨_,rfl⟩
theorem akH {n d:Int}(h1:nd n≤1000)(h2:nd d≤1000):nj (WR n d)=some false:=by
 have l1:=Eh n;have l2:=Eh d;have e1:WB n=false:=by unfold WB;exact decide_eq_false (by omega)
 have e2:WB d=false:=by unfold WB;exact decide_eq_false (by omega)
 rw[DL,yf];simp only[wM];rw[Ec (by omega),bS,e1,cF,Ec (by omega),bS,e2]
theorem Un {s:ByteArray}(hs:s.size≤1000):uw s=some (wQ s):=by
 rw[Jn,EG,LS,G5];cases h:wQ s with
 |true=>obtain⟨n,d,hr⟩:=rM.1 h;obtain⟨b1,b2,b3⟩:=hr.bounds hs;rw[Qr hs hr,bS];simp only;rw[cT];simp only[wM];rw[akH b1 b2,bS,bS];rfl
 |false=>obtain⟨j,hj⟩:=WK hs h;rw[hj,bS];simp only;rw[cF,bS]
theorem acn {n d:Int}(hd:0<d):jL (WR n d)=some (W d):=by rw[Fx,Af];simp only[wM];rw[wN,bS,eS (by unfold ab0;split<;>(try split)<;>omega)]
theorem am6 {n d m k:Int}(h1:nd n≤1000)(h2:nd d≤1000)(h3:nd m≤1000)(h4:nd k≤1000)(hd:0<d)(hk:0<k):pk (WR n d) (WR m k)=some (mK (n*k) (m*d)):=by have l1:=Eh n;have l2:=Eh d;have l3:=Eh m;have l4:=Eh k;have l5:=aif n k;have l6:=aif m d;rw[Ft,Ab];simp only[wM];rw[acn hk,bS];simp only[wM];rw[Ga (by omega) (by omega),bS,acn hd,bS];simp only[wM];rw[Ga (by omega) (by omega),bS,j5 (by omega) (by omega),bS]
theorem Qs {s:ByteArray}{z:Int}(h:fU (bytesOf s)=true)(e:numOf (bytesOf s)=z):s=fM z:=by rw[←e];exact vb h
theorem aiC:bs [49]=fM 1:=Qs rfl rfl
theorem apt:bs [50]=fM 2:=Qs rfl rfl
theorem am7:bs [48]=fM 0:=Qs rfl rfl
theorem akI {s:ByteArray}(hs:s.size≤1000):pq s=some (wQ s):=by
 rw[FF,Ak,Ul (by omega),bS];unfold wQ;cases hf:fs (bytesOf s) with
 |none=>
  simp only;rw[Qp (show wO s by unfold wO;omega),bS];cases fU (bytesOf s) with
  |true=>rw[Bool.not_true,cF,Bool.not_false,cT]
  |false=>rw[Bool.not_false,cT]
 |some k=>
  have q1:=extract_size s 0 k;have q2:=extract_size s (k+1) s.size;simp only;rw[Qp (show wO (s.extract 0 k) by unfold wO;omega),bS];cases o1:fU (bytesOf (s.extract 0 k)) with
  |false=>rw[Bool.not_false,cT];rfl
  |true=>
   rw[Bool.not_true,cF,cF,Qp (show wO (s.extract (k+1) s.size) by unfold wO;omega),bS];cases o2:fU (bytesOf (s.extract (k+1) s.size)) with
   |false=>rw[cF];rfl
   |true=>
    have s1:=vb o1;have s2:=vb o2;have b1:=Eg (numOf (bytesOf (s.extract 0 k)));have b2:=Eg (numOf (bytesOf (s.extract (k+1) s.size)));rw[←s1] at b1;rw[←s2] at b2;rw[cT];generalize numOf (bytesOf (s.extract 0 k))=n at s1 b1 ⊢;generalize numOf (bytesOf (s.extract (k+1) s.size))=d at s2 b2 ⊢;rw[s1,s2,am7,aiC,apt,KH];by_cases hn:n=0
    ·rw[decide_eq_true hn,Bool.not_true,cF,adC hn];simp
    ·rw[decide_eq_false hn,Bool.not_false,cT,JX hn,J4 (C7 (k:=1000) (by omega) (by omega)) (aiA (by decide)),bS];by_cases hd:2≤d
     ·rw[xz (by unfold mK;split<;>(try split)<;>omega),aav (C7 (k:=1000) (by omega) (by omega)) (C7 (k:=1000) (by omega) (by omega)),bS,KH,decide_eq_true hd]
      congr 1
      simp only[Bool.not_false,Bool.and_true,Bool.true_and];rw[Bool.eq_iff_iff,decide_eq_true_eq,beq_iff_eq];omega
     ·rw[u9 (by rw[mX (by omega)];omega),decide_eq_false hd];simp
theorem afG (l:List Int):(bt l).length≤l.length:=by
 unfold bt;split
 ·rw[List.length_tail];omega
 ·exact Nat.le_refl _
theorem Sg {s:ByteArray}(hs:s.size≤1000):jm s=some false:=by
 rw[aiv (show wO s by unfold wO;omega)];have:=afG (bytesOf s);rw[aS] at this
 congr 1
 exact decide_eq_false (by omega)
theorem aco {s:ByteArray}(hs:s.size≤1000):lE s=some false:=by
 rw[Cg,vY,Ul (by omega),bS];cases hf:fs (bytesOf s) with
 |none=>simp only;have e:(bs [49]).size=1:=rfl;rw[Sg hs,bS,cF,Sg (by rw[e];omega),bS]
 |some k=>have q1:=extract_size s 0 k;have q2:=extract_size s (k+1) s.size;simp only;rw[Sg (by omega),bS,cF,Sg (by omega),bS]
theorem Uo {s:ByteArray}(hs:s.size≤1000):fy s=some (wQ s):=by rw[AG,tR,aco hs,bS,Bool.not_false,cT,akI hs,bS]
theorem Rt.split {s:ByteArray}{n d:Int}(h:Rt s n d)(hs:s.size≤1000):∃b,cV s=some (fM n,fM d,b):=by
 rw[Ul (by omega)];cases h with
 |whole=>rw[Ym];exact⟨false,by simp only;rw[aiC]⟩
 |aaw hk h1 h2 hn hd hg=>rw[hk];exact⟨true,by simp only[h1,h2]⟩
theorem Rt.aiD {s:ByteArray}{n d:Int}(h:Rt s n d):(s.toList==(bs [105,110,102]).toList)=false:=by rw[Uf];refine decide_eq_false fun e=> ?_;have h2:=rM.2 ⟨n,d,h⟩;rw[e] at h2;exact absurd h2 (by decide)
theorem Yn {a b:ByteArray}{n d m k:Int}(h:Rt a n d)(g:Rt b m k)(ha:a.size≤1000)(hb:b.size≤1000):bO a b=some (mK (n*k) (m*d)):=by
 obtain⟨a1,a2,a3⟩:=h.bounds ha;obtain⟨b1,b2,b3⟩:=g.bounds hb;obtain⟨x,hx⟩:=h.split ha;obtain⟨y,hy⟩:=g.split hb;have p1:=aiu n k;have p2:=aiu m d;rw[xg,qS,h.aiD,cF,cF,g.aiD,cF,hx,bS,hy,bS];simp only;rw[aiC,KH,KH];have Qq:((fA (fM n) (fM k)).bind fun r12=>(fA (fM m) (fM d)).bind fun r13=>(bP r12 r13).bind fun r14=>some r14)=some (mK (n*k) (m*d)):=by rw[WJ (C7 (k:=1000) (by omega) (by omega)) (C7 (k:=1000) (by omega) (by omega)),bS,WJ (C7 (k:=1000) (by omega) (by omega)) (C7 (k:=1000) (by omega) (by omega)),bS,J4 (C7 (k:=3000) (by omega) (by omega)) (C7 (k:=3000) (by omega) (by omega)),bS]
 by_cases h1:d=1
 ·rw[decide_eq_true h1,cT];by_cases h2:k=1
  ·rw[decide_eq_true h2,cT,J4 (C7 (k:=1000) (by omega) (by omega)) (C7 (k:=1000) (by omega) (by omega)),bS,h1,h2,Int.mul_one,Int.mul_one]
  ·rw[decide_eq_false h2,cF];exact Qq
 ·rw[decide_eq_false h1,cF];exact Qq
end Go.Proofs.YtofjebmoebhiiaaGreatDoor.Ev
namespace Go.Abs
abbrev Tm:=Int×Int×Unit
abbrev Tr2:=Int×(Int×Int×Unit)×Unit
theorem aax {α:Type}{a:α}{r:List α}:idx (a::r) 0=some a:=rfl
theorem afH {α:Type}{a:α}{r:List α}{n:Int}(h:n=((a::r).length:Int)):cut (a::r) 1 n=r:=by subst h;simp[cut]
theorem ef {α:Type}(d:α){l:List α}{k:Nat}(h:k<l.length):l.drop k=l.getD k d::l.drop (k+1):=by rw[List.drop_eq_getElem_cons h];simp[List.getD,h]
theorem aiE {α β:Type}(d:α){xs:List α}{i:Int}{f:α→Option β}(h0:0≤i)(h:i<xs.length):(idx xs i).bind f=f (xs.getD i.toNat d):=by rw[adD d h0 h];exact bS _ _
theorem fh {α β:Type}(d:α){xs:List α}{k:Nat}{f:α→Option β}(h:k<xs.length):(idx xs (k:Int)).bind f=f (xs.getD k d):=by rw[adD d (by omega) (by omega),Int.toNat_natCast];exact bS _ _
def cf:List Tm→Int→Int
 | [],_=>0
 |t::r,i=>if t.1=i then t.2.1 else cf r i
theorem Hn (i:Int):cf [] i=0:=rfl
theorem rN (t:Tm)(r:List Tm)(i:Int):cf (t::r) i=if t.1=i then t.2.1 else cf r i:=rfl
def Sr:Int→List Tm→Prop
 |_,[]=>True
 |lo,t::r=>lo<t.1∧Sr t.1 r
theorem Sr.mono {lo lo':Int}{l:List Tm}(h:Sr lo l)(g:lo'≤lo):Sr lo' l:=by
 cases l with
 |nil=>trivial
 |cons t r=>exact⟨by have:=h.1;omega,h.2⟩
theorem Sr.cf0:∀{l:List Tm} {lo i:Int},Sr lo l→i≤lo→cf l i=0
 | [],lo,i,h,hi=>rfl
 |t::r,lo,i,h,hi=>by have h1:=h.1;rw[cf,if_neg (by omega)];exact Sr.cf0 h.2 (by omega)
theorem Sr.mem:∀{l:List Tm} {lo:Int},Sr lo l→∀t∈l,lo<t.1
 |u::r,lo,h,t,ht=>by
  rcases List.mem_cons.1 ht with rfl |ht
  ·exact h.1
  ·have:=Sr.mem h.2 t ht;have:=h.1;omega
structure Vc (p n:Int) (l:List Tm):Prop where
 s:Sr (-1) l
 r:∀t∈l,t.1<n∧1≤t.2.1∧t.2.1<p
def Cp (p:Int)(l:List Tm):Prop:=∀t∈l,1≤t.2.1∧t.2.1<p
theorem Vc.c {p n:Int}{l:List Tm}(h:Vc p n l):Cp p l:=fun t ht=>(h.r t ht).2
theorem Vc.nil {p n:Int}:Vc p n []:=⟨trivial,fun t ht=>by cases ht⟩
theorem Vc.mono {p n m:Int}{l:List Tm}(h:Vc p n l)(g:n≤m):Vc p m l:=⟨h.s,fun t ht=>by have:=h.r t ht;omega⟩
theorem J5 {p:Int}(hp:0<p):∀{l:List Tm},Cp p l→∀i,0≤cf l i∧cf l i<p
 | [],h,i=>⟨by simp[cf],by simpa [cf] using hp⟩
 |t::r,h,i=>by
  have h1:=h t (by simp);have h2:=J5 hp (l:=r) (fun u hu=>h u (by simp[hu])) i;rw[cf];split
  ·omega
  ·exact h2
theorem EZ:∀{l:List Tm} {lo:Int},Sr lo l→∀t∈l,cf l t.1=t.2.1
 |u::r,lo,h,t,ht=>by
  rcases List.mem_cons.1 ht with rfl |ht
  ·rw[cf,if_pos rfl]
  ·have:=Sr.mem h.2 t ht;rw[cf,if_neg (by omega)];exact EZ h.2 t ht
theorem Ro:∀{l:List Tm} {i:Int},cf l i≠0→∃t∈l,t.1=i
 | [],i,h=>by simp[cf] at h
 |t::r,i,h=>by
  rw[cf] at h;split at h
  ·rename_i e;exact⟨t,by simp,e⟩
  ·obtain⟨u,hu,e⟩:=Ro h;exact⟨u,by simp[hu],e⟩
theorem Sr.ext:∀{a b:List Tm} {lo p:Int},Sr lo a→Sr lo b→Cp p a→Cp p b→(∀i,cf a i=cf b i)→a=b
 | [],[],_,_,_,_,_,_,_=>rfl
 | [],t::r,lo,p,ha,hb,ca,cb,h=>by have:=h t.1;rw[Hn,rN,if_pos rfl] at this;have h1:=cb t (by simp);omega
 |t::r,[],lo,p,ha,hb,ca,cb,h=>by have:=h t.1;rw[Hn,rN,if_pos rfl] at this;have h1:=ca t (by simp);omega
 |t::r,u::s,lo,p,ha,hb,ca,cb,h=>by
  have h1:=ca t (by simp);have h2:=cb u (by simp);have e:t.1=u.1:=by
   rcases Int.lt_trichotomy t.1 u.1 with hl |hl |hl
   ·have:=h t.1;rw[cf,if_pos rfl,cf,if_neg (by omega),Sr.cf0 hb.2 (by omega)] at this;omega
   ·exact hl
   ·have:=h u.1;rw[cf,if_neg (by omega),Sr.cf0 ha.2 (by omega),cf,if_pos rfl] at this;omega
  have e2:t.2.1=u.2.1:=by have:=h t.1;rw[cf,if_pos rfl,cf,if_pos e.symm] at this;exact this
  have e3:r=s:=by
   refine Sr.ext (lo:=t.1) ha.2 (by rw[e];exact hb.2) (fun x hx=>ca x (by simp[hx])) (fun x hx=>cb x (by simp[hx])) fun i=> ?_;have:=h i;rw[cf,cf] at this;by_cases hi:t.1=i
   ·rw[Sr.cf0 ha.2 (by omega),Sr.cf0 hb.2 (by omega)]
   ·rw[if_neg hi,if_neg (by omega)] at this;exact this
  obtain⟨t1,t2,t3⟩:=t;obtain⟨u1,u2,u3⟩:=u;simp only at e e2;subst e e2 e3;rfl
def mg:List Tm→List Tm→List Tr2
 | [],[]=>[]
 |a::r,[]=>(a.1,((a.2.1,((0:Int),())),()))::mg r []
 | [],b::s=>(b.1,(((0:Int),(b.2.1,())),()))::mg [] s
 |a::r,b::s=>if a.1<b.1 then (a.1,((a.2.1,((0:Int),())),()))::mg r (b::s)
  else if b.1<a.1 then (b.1,(((0:Int),(b.2.1,())),()))::mg (a::r) s
  else (a.1,((a.2.1,(b.2.1,())),()))::mg r s
termination_by a b=>a.length+b.length
def fl (p k:Int):List Tr2→List Tm
 | []=>[]
 |x::r=>if (x.2.1.1+k*x.2.1.2.1) % p≠0 then (x.1,((x.2.1.1+k*x.2.1.2.1) % p,()))::fl p k r else fl p k r
def rT (p:Int)(a:List Tm)(k:Int)(b:List Tm):List Tm:=fl p k (mg a b)
theorem OX {p k:Int}{x:Tr2}{r:List Tr2}{lo:Int}(hlo:lo<x.1)(hr:Sr x.1 (fl p k r)):
  Sr lo (fl p k (x::r))∧∀i,cf (fl p k (x::r)) i=if x.1=i then (x.2.1.1+k*x.2.1.2.1) % p else cf (fl p k r) i:=by
 rw[fl];split
 ·exact⟨⟨hlo,hr⟩,fun i=>by rw[cf]⟩
 ·rename_i h;refine⟨hr.mono (by omega),fun i=> ?_⟩;split
  ·rename_i e;rw[Sr.cf0 hr (by omega)];omega
  ·rfl
theorem akJ {p k:Int}(hp:0<p):∀(a b:List Tm) (lo:Int),Sr lo a→Sr lo b→Cp p a→
  Sr lo (rT p a k b)∧∀i,cf (rT p a k b) i=(cf a i+k*cf b i) % p:=by
 intro a b;induction a,b using mg.induct with
 |case1=>intro lo ha hb ca;exact⟨by unfold rT;rw[mg];trivial,fun i=>by simp[rT,mg,fl,cf]⟩
 |case2 a r ih=>intro lo ha hb ca;obtain⟨h1,h2⟩:=ih a.1 ha.2 trivial fun t ht=>ca t (by simp[ht]);unfold rT at h1 h2 ⊢;rw[mg];obtain⟨g1,g2⟩:=OX (p:=p) (k:=k) (x:=(a.1,((a.2.1,((0:Int),())),()))) (lo:=lo) ha.1 h1;refine⟨g1,fun i=> ?_⟩;rw[g2,h2,cf];simp only[cf,Int.mul_zero,Int.add_zero];split<;>rfl
 |case3 b s ih=>intro lo ha hb ca;obtain⟨h1,h2⟩:=ih b.1 trivial hb.2 fun t ht=>ca t ht;unfold rT at h1 h2 ⊢;rw[mg];obtain⟨g1,g2⟩:=OX (p:=p) (k:=k) (x:=(b.1,(((0:Int),(b.2.1,())),()))) (lo:=lo) hb.1 h1;refine⟨g1,fun i=> ?_⟩;rw[g2,h2];simp only[cf,Int.zero_add];split<;>rfl
 |case4 a r b s hlt ih=>
  intro lo ha hb ca;obtain⟨h1,h2⟩:=ih a.1 ha.2 ⟨hlt,hb.2⟩ fun t ht=>ca t (by simp[ht]);unfold rT at h1 h2 ⊢;rw[mg,if_pos hlt];obtain⟨g1,g2⟩:=OX (p:=p) (k:=k) (x:=(a.1,((a.2.1,((0:Int),())),()))) (lo:=lo) ha.1 h1;refine⟨g1,fun i=> ?_⟩;rw[g2,h2,rN a r i];simp only[Int.mul_zero,Int.add_zero];split
  ·rename_i e;rw[Sr.cf0 (lo:=a.1) (l:=b::s) ⟨hlt,hb.2⟩ (by omega),Int.mul_zero,Int.add_zero]
  ·rfl
 |case5 a r b s hlt hgt ih=>
  intro lo ha hb ca;obtain⟨h1,h2⟩:=ih b.1 ⟨hgt,ha.2⟩ hb.2 ca;unfold rT at h1 h2 ⊢;rw[mg,if_neg hlt,if_pos hgt];obtain⟨g1,g2⟩:=OX (p:=p) (k:=k) (x:=(b.1,(((0:Int),(b.2.1,())),()))) (lo:=lo) hb.1 h1;refine⟨g1,fun i=> ?_⟩;rw[g2,h2,rN b s i];simp only[Int.zero_add];split
  ·rename_i e;rw[Sr.cf0 (lo:=b.1) (l:=a::r) ⟨hgt,ha.2⟩ (by omega),Int.zero_add]
  ·rfl
 |case6 a r b s hlt hgt ih=>
  intro lo ha hb ca;have e:a.1=b.1:=by omega
  obtain⟨h1,h2⟩:=ih a.1 ha.2 (by rw[e];exact hb.2) fun t ht=>ca t (by simp[ht]);unfold rT at h1 h2 ⊢;rw[mg,if_neg hlt,if_neg hgt];obtain⟨g1,g2⟩:=OX (p:=p) (k:=k) (x:=(a.1,((a.2.1,(b.2.1,())),()))) (lo:=lo) ha.1 h1;refine⟨g1,fun i=> ?_⟩;rw[g2,h2,cf,cf, ←e];split<;>rfl
theorem acp {p k:Int}(hp:0<p):∀{l:List Tr2} {t:Tm},t∈fl p k l→(1≤t.2.1∧t.2.1<p)∧∃x∈l,x.1=t.1
 |x::r,t,h=>by
  rw[fl] at h;split at h
  ·rename_i hne;rcases List.mem_cons.1 h with rfl |h
   ·have h1:=Int.emod_nonneg (x.2.1.1+k*x.2.1.2.1) (show p≠0 by omega);have h2:=Int.emod_lt_of_pos (x.2.1.1+k*x.2.1.2.1) hp;exact⟨⟨by simp only;omega,h2⟩,x,by simp,rfl⟩
   ·obtain⟨h1,y,hy,e⟩:=acp hp h;exact⟨h1,y,by simp[hy],e⟩
  ·obtain⟨h1,y,hy,e⟩:=acp hp h;exact⟨h1,y,by simp[hy],e⟩
theorem am8:∀(a b:List Tm) (x:Tr2),x∈mg a b→(∃t∈a,t.1=x.1)∨∃t∈b,t.1=x.1:=by
 intro a b;induction a,b using mg.induct with
 |case1=>intro x h;rw[mg] at h;cases h
 |case2 a r ih=>
  intro x h;rw[mg] at h;rcases List.mem_cons.1 h with rfl |h
  ·exact .inl ⟨a,by simp,rfl⟩
  ·rcases ih x h with ⟨t,ht,e⟩ | ⟨t,ht,e⟩
   ·exact .inl ⟨t,by simp[ht],e⟩
   ·exact .inr ⟨t,ht,e⟩
 |case3 b s ih=>
  intro x h;rw[mg] at h;rcases List.mem_cons.1 h with rfl |h
  ·exact .inr ⟨b,by simp,rfl⟩
  ·rcases ih x h with ⟨t,ht,e⟩ | ⟨t,ht,e⟩
   ·exact .inl ⟨t,ht,e⟩
   ·exact .inr ⟨t,by simp[ht],e⟩
 |case4 a r b s hlt ih=>
  intro x h;rw[mg,if_pos hlt] at h;rcases List.mem_cons.1 h with rfl |h
  ·exact .inl ⟨a,by simp,rfl⟩
  ·rcases ih x h with ⟨t,ht,e⟩ | ⟨t,ht,e⟩
   ·exact .inl ⟨t,by simp[ht],e⟩
   ·exact .inr ⟨t,ht,e⟩
 |case5 a r b s hlt hgt ih=>
  intro x h;rw[mg,if_neg hlt,if_pos hgt] at h;rcases List.mem_cons.1 h with rfl |h
  ·exact .inr ⟨b,by simp,rfl⟩
  ·rcases ih x h with ⟨t,ht,e⟩ | ⟨t,ht,e⟩
   ·exact .inl ⟨t,ht,e⟩
   ·exact .inr ⟨t,by simp[ht],e⟩
 |case6 a r b s hlt hgt ih=>
  intro x h;rw[mg,if_neg hlt,if_neg hgt] at h;rcases List.mem_cons.1 h with rfl |h
  ·exact .inl ⟨a,by simp,rfl⟩
  ·rcases ih x h with ⟨t,ht,e⟩ | ⟨t,ht,e⟩
   ·exact .inl ⟨t,by simp[ht],e⟩
   ·exact .inr ⟨t,by simp[ht],e⟩
theorem Ei {p k n:Int}(hp:0<p){a b:List Tm}(ha:Vc p n a)(hb:Vc p n b):Vc p n (rT p a k b)∧∀i,cf (rT p a k b) i=(cf a i+k*cf b i) % p:=by
 obtain⟨h1,h2⟩:=akJ (k:=k) hp a b (-1) ha.s hb.s ha.c;refine⟨⟨h1,fun t ht=> ?_⟩,h2⟩;obtain⟨g1,x,hx,e⟩:=acp hp ht;refine⟨?_,g1⟩;rcases am8 a b x hx with ⟨u,hu,e'⟩ | ⟨u,hu,e'⟩
 ·have:=(ha.r u hu).1;omega
 ·have:=(hb.r u hu).1;omega
end Go.Abs
namespace Go.Proofs.YtofjebmoebhiiaaGreatDoor.Ev
open Go.Abs Go.IntWalk
theorem Gf {α:Type}(a:α)(r:List α):(((a::r).length:Nat):Int)=(r.length:Int)+1:=by simp
theorem aay:∀(t t2:List Tm) (trace:List Tr2),dW t t2 trace=some (trace++mg t t2):=by
 intro t t2;induction t,t2 using mg.induct with
 |case1=>intro trace;rw[dE,dd,List.length_nil,c5 (by omega),c5 (by omega),mg,List.append_nil]
 |case2 a r ih=>intro trace;rw[dE,dd,List.length_nil,Gf];rw[cX (by omega),gT (by omega),aax,bS,bS,F8 (by omega) (by omega) (Int.le_of_eq (Gf _ _).symm),afH (Gf _ _).symm,ih,mg,List.append_assoc];rfl
 |case3 b s ih=>intro trace;rw[dE,dd,List.length_nil,Gf];rw[c5 (by omega),cX (by omega),eS (by omega),c5 (by omega),gT (by omega),aax,bS,bS,F8 (by omega) (by omega) (Int.le_of_eq (Gf _ _).symm),afH (Gf _ _).symm,ih,mg,List.append_assoc];rfl
 |case4 a r b s hlt ih=>intro trace;rw[dE,dd,Gf,Gf];rw[cX (by omega),eS (by omega),cX (by omega),aax,bS,aax,bS,ax hlt,bS,bS,F8 (by omega) (by omega) (Int.le_of_eq (Gf _ _).symm),afH (Gf _ _).symm,ih,mg,if_pos hlt,List.append_assoc];rfl
 |case5 a r b s hlt hgt ih=>intro trace;rw[dE,dd,Gf,Gf];rw[cX (by omega),eS (by omega),cX (by omega),aax,bS,aax,bS,aq hlt,eS (by omega),bS,bS,ax hgt,bS,bS,F8 (by omega) (by omega) (Int.le_of_eq (Gf _ _).symm),afH (Gf _ _).symm,ih,mg,if_neg hlt,if_pos hgt,List.append_assoc];rfl
 |case6 a r b s hlt hgt ih=>intro trace;rw[dE,dd,Gf,Gf];rw[cX (by omega),eS (by omega),cX (by omega),aax,bS,aax,bS,aq hlt,eS (by omega),bS,bS,aq hgt,bS,bS,bS,F8 (by omega) (by omega) (Int.le_of_eq (Gf _ _).symm),F8 (by omega) (by omega) (Int.le_of_eq (Gf _ _).symm),afH (Gf _ _).symm,afH (Gf _ _).symm,ih,mg,if_neg hlt,if_neg hgt,List.append_assoc];rfl
theorem Qt {p k:Int}(hp:0<p∧p≤251)(hk:0≤k∧k<p):∀(rest:List Tr2) (row:List Tm),(∀x∈rest,(0≤x.2.1.1∧x.2.1.1<p)∧0≤x.2.1.2.1∧x.2.1.2.1<p)→row.length+rest.length≤1000000000→
  iM row p k rest=some (row++fl p k rest)
 | [],row,h,hl=>by rw[vF,rI,fl,List.append_nil]
 |x::r,row,h,hl=>by
  obtain⟨⟨h1,h2⟩,h3,h4⟩:=h x (by simp);have hm:0≤k*x.2.1.2.1∧k*x.2.1.2.1≤251*251:=⟨Int.mul_nonneg (by omega) (by omega),Int.mul_le_mul (by omega) (by omega) (by omega) (by omega)⟩
  rw[vF,rI];simp only;rw[i64_in (k*x.2.1.2.1) (by omega),i64_in _ (by omega),kz (by omega),bA (by omega),fl];by_cases hz:(x.2.1.1+k*x.2.1.2.1) % p=0
  ·rw[nP hz,if_neg (by omega)];exact Qt hp hk r row (fun y hy=>h y (by simp[hy])) (by simp at hl;omega)
  ·rw[F7 hz,if_pos hz,iT (by omega) (by simp at hl;omega),Qt hp hk r _ (fun y hy=>h y (by simp[hy])) (by simp at hl ⊢;omega),List.append_assoc];rfl
theorem aiF {p:Int}(hp:0<p):∀(a b:List Tm),Cp p a→Cp p b→∀x∈mg a b,(0≤x.2.1.1∧x.2.1.1<p)∧0≤x.2.1.2.1∧x.2.1.2.1<p:=by
 intro a b;induction a,b using mg.induct with
 |case1=>intro ha hb x h;rw[mg] at h;cases h
 |case2 a r ih=>
  intro ha hb x h;rw[mg] at h;rcases List.mem_cons.1 h with rfl |h
  ·have:=ha a (by simp);simp only;omega
  ·exact ih (fun t ht=>ha t (by simp[ht])) hb x h
 |case3 b s ih=>
  intro ha hb x h;rw[mg] at h;rcases List.mem_cons.1 h with rfl |h
  ·have:=hb b (by simp);simp only;omega
  ·exact ih ha (fun t ht=>hb t (by simp[ht])) x h
 |case4 a r b s hlt ih=>
  intro ha hb x h;rw[mg,if_pos hlt] at h;rcases List.mem_cons.1 h with rfl |h
  ·have:=ha a (by simp);simp only;omega
  ·exact ih (fun t ht=>ha t (by simp[ht])) hb x h
 |case5 a r b s hlt hgt ih=>
  intro ha hb x h;rw[mg,if_neg hlt,if_pos hgt] at h;rcases List.mem_cons.1 h with rfl |h
  ·have:=hb b (by simp);simp only;omega
  ·exact ih ha (fun t ht=>hb t (by simp[ht])) x h
 |case6 a r b s hlt hgt ih=>
  intro ha hb x h;rw[mg,if_neg hlt,if_neg hgt] at h;rcases List.mem_cons.1 h with rfl |h
  ·have h1:=ha a (by simp);have h2:=hb b (by simp);simp only;omega
  ·exact ih (fun t ht=>ha t (by simp[ht])) (fun t ht=>hb t (by simp[ht])) x h
theorem afI:∀(a b:List Tm),(mg a b).length≤a.length+b.length:=by
 intro a b;induction a,b using mg.induct with
 |case1=>rw[mg];simp
 |case2 a r ih=>rw[mg];simp only[List.length_cons] at ih ⊢;omega
 |case3 b s ih=>rw[mg];simp only[List.length_cons] at ih ⊢;omega
 |case4 a r b s hlt ih=>rw[mg,if_pos hlt];simp only[List.length_cons] at ih ⊢;omega
 |case5 a r b s hlt hgt ih=>rw[mg,if_neg hlt,if_pos hgt];simp only[List.length_cons] at ih ⊢;omega
 |case6 a r b s hlt hgt ih=>rw[mg,if_neg hlt,if_neg hgt];simp only[List.length_cons] at ih ⊢;omega
theorem Uq {p k:Int}(hp:0<p∧p≤251)(hk:0≤k∧k<p){a b:List Tm}(ha:Cp p a)(hb:Cp p b)(hl:a.length+b.length≤1000000000):uA p a k b=some (rT p a k b):=by rw[Jh,EA,Fq,z8,bS,BS,vG,aay,bS];have:=afI a b;rw[List.nil_append,Qt hp hk _ _ (aiF hp.1 a b ha hb) (by simp;omega)];rfl
def ob:Option Int→Int→Bool
 |none,_=>false
 |some q,x=>decide (x≤q)
def Rp (p:Int):Option Int→List Tm→Int
 |_,[]=>0
 |q,t::r=>if t.1<0∨t.1≥1024∨t.2.1<1∨t.2.1≥p then 1 else if ob q t.1=true then 6 else Rp p (some t.1) r
abbrev th:Tm:=(0,(0,()))
def prev (c:List Tm):Nat→Option Int
 |0=>none
 |i+1=>some (c.getD i th).1
theorem aaz {p:Int}{c:List Tm}(hl:c.length≤1000000000):∀(m i:Nat),m+i=c.length→gu p c c (c.length:Int) i=some (Rp p (prev c i) (c.drop i)):=by
 intro m;induction m with
 |zero=>intro i hi;rw[tF,qn,aq (by omega),List.drop_eq_nil_of_le (by omega)];rfl
 |succ m ih=>
  intro i hi;rw[tF,qn,ax (by omega),fh th (by omega),ef th (by omega),Rp];have e1:IntKind.wrap .i64 ((i:Int)+1)=((i+1:Nat):Int):=by rw[i64_in _ (by omega)];omega
  have vg:=ih (i+1) (by omega);have ep:prev c (i+1)=some (c.getD i th).1:=rfl;rw[ep] at vg;generalize c.getD i th=t at vg ⊢;by_cases h1:t.1<0
  ·rw[ax h1,if_pos (.inl h1)]
  ·rw[aq h1];by_cases h2:t.1≥1024
   ·rw[xz h2,if_pos (.inr (.inl h2))]
   ·rw[u9 h2];by_cases h3:t.2.1<1
    ·rw[ax h3,if_pos (.inr (.inr (.inl h3)))]
    ·rw[aq h3];by_cases h4:t.2.1≥p
     ·rw[xz h4,if_pos (.inr (.inr (.inr h4)))]
     ·rw[u9 h4,if_neg (by omega),e1,vg];cases i with
      |zero=>rw[c5 (by omega),if_neg (by intro h;cases h)]
      |succ j=>
       have e2:IntKind.wrap .i64 (((j+1:Nat):Int) - 1)=(j:Int):=by rw[i64_in _ (by omega)];omega
       rw[cX (by omega),e2,fh th (by omega)];by_cases h5:t.1≤(c.getD j th).1
       ·rw[OO h5,if_pos (show ob (prev c (j+1)) t.1=true from decide_eq_true h5)]
       ·rw[Ud h5,if_neg (by intro h;exact h5 (of_decide_eq_true h))]
def aaA (p:Int)(c:List Tm):Int:=Rp p none c
theorem aaB {p:Int}:∀{c:List Tm} {q:Option Int},Rp p q c=0→(∀t∈c,0≤t.1∧t.1<1024∧1≤t.2.1∧t.2.1<p)∧Sr (q.getD (-1)) c
 | [],q,h=>⟨fun t ht=>(by cases ht),trivial⟩
 |t::r,q,h=>by
  rw[Rp] at h;split at h
  ·cases h
  ·rename_i h1;split at h
   ·cases h
   ·rename_i h2;obtain⟨g1,g2⟩:=aaB h;refine⟨fun u hu=> ?_, ?_,g2⟩
    ·rcases List.mem_cons.1 hu with rfl |hu
     ·omega
     ·exact g1 u hu
    ·cases q with
     |none=>simp only[Option.getD_none];omega
     |some q=>simp only[Option.getD_some];have:¬t.1≤q:=fun g=>h2 (decide_eq_true g);omega
theorem aaC {p:Int}:∀{c:List Tm} {q:Option Int},(∀t∈c,0≤t.1∧t.1<1024∧1≤t.2.1∧t.2.1<p)→Sr (q.getD (-1)) c→Rp p q c=0
 | [],q,h,g=>rfl
 |t::r,q,h,g=>by
  have h1:=h t (by simp);have h2:=g.1;rw[Rp,if_neg (by omega),if_neg (by
   cases q with
   |none=>intro h;cases h
   |some q=>simp only[Option.getD_some] at h2;intro h;have:=of_decide_eq_true h;omega)]
  exact aaC (q:=some t.1) (fun u hu=>h u (by simp[hu])) g.2
theorem J6 {p:Int}{c:List Tm}:aaA p c=0↔Vc p 1024 c:=by
 constructor
 ·intro h;obtain⟨g1,g2⟩:=aaB h;exact⟨g2,fun t ht=>by have:=g1 t ht;omega⟩
 ·intro h;refine aaC (fun t ht=> ?_) h.s;have h1:=h.r t ht;have h2:=Sr.mem h.s t ht;omega
def prB (p:Nat):Bool:=Nat.ble 2 p&&Nat.ble p 251&&(List.range 14).all fun d=> !(p % (d+2)==0)||p==d+2
def Pr (p:Int):Prop:=2≤p∧p≤251∧prB p.toNat=true
instance (p:Int):Decidable (Pr p):=by unfold Pr;infer_instance
theorem adR {α:Type}{f g:Nat→α}{n:Nat}(h:(List.range n).map f=(List.range n).map g){i:Nat}(hi:i<n):f i=g i:=by have:=congrArg (fun l=>l[i]?) h;simpa [hi] using this
theorem aaD:(List.range 250).map (fun i=>wB 400 ((i+2:Nat):Int))=(List.range 250).map fun i=>some (prB (i+2)):=by kernel_rfl
theorem Yo:(List.range 250).map (fun i=>uj 400 ((i+2:Nat):Int))=(List.range 250).map fun i=>some (prB (i+2)):=by kernel_rfl
theorem aiG {i:Nat}(hi:i<250):decide (Pr ((i+2:Nat):Int))=prB (i+2):=by rw[Bool.eq_iff_iff,decide_eq_true_eq];unfold Pr;rw[Int.toNat_natCast];exact⟨fun h=>h.2.2,fun h=>⟨by omega,by omega,h⟩⟩
theorem acq {p:Int}(hp:p≤1∨251<p):∀(m t:Nat),m+t=16→jJ p t=some false:=by
 intro m;induction m with
 |zero=>
  intro t ht;rw[xX,tn,aq (by omega)];rcases hp with h |h
  ·rw[c5 (by omega)]
  ·rw[cX (by omega),ah9 (by omega)]
 |succ m ih=>
  intro t ht;have e1:IntKind.wrap .i64 ((t:Int)+1)=((t+1:Nat):Int):=by rw[i64_in _ (by omega)];omega
  rw[xX,tn,ax (by omega),e1,ih (t+1) (by omega)];by_cases h:(t:Int)>1
  ·rw[cX h,kz (by omega)];cases (p.tmod t==0)<;>cases (p != (t:Int))<;>rfl
  ·rw[c5 h]
theorem yW (p:Int):mo p=some (decide (Pr p)):=by
 by_cases h:2≤p∧p≤251
 ·obtain⟨i,hi⟩:=Int.eq_ofNat_of_zero_le (show 0≤p - 2 by omega);have e:p=((i+2:Nat):Int):=by omega
  subst e;have:=adR aaD (show i<250 by omega);rw[yN] at this;rw[this,aiG (by omega)]
 ·have hf:decide (Pr p)=false:=decide_eq_false fun g=>h ⟨g.1,g.2.1⟩;rw[LP,G0,hf];exact acq (by omega) 16 0 rfl
theorem afJ (p:Int):ia p=some (decide (Pr p)):=by
 by_cases h:2≤p∧p≤251
 ·obtain⟨i,hi⟩:=Int.eq_ofNat_of_zero_le (show 0≤p - 2 by omega);have e:p=((i+2:Nat):Int):=by omega
  subst e;have:=adR Yo (show i<250 by omega);rw[A0] at this;rw[this,aiG (by omega)]
 ·have hf:decide (Pr p)=false:=decide_eq_false fun g=>h ⟨g.1,g.2.1⟩;rw[AX,ui,hf,wx,p8];by_cases h1:2<p
  ·rw[ax h1,Ud (by omega),xz (by omega),ah9 (by omega)]
  ·rw[aq h1,u9 (by omega)]
theorem Yp {p a:Int}(hp:2≤p∧p≤251):eg p a=some (a % p):=by
 have h1:=Int.tmod_lt_of_pos a (show 0<p by omega);have h2:=Int.lt_tmod_of_pos a (show 0<p by omega);rw[BT,vH,kz (by omega),kz (by omega),i64_in _ (by omega),bA (by omega),Int.add_emod_right]
 congr 1
 rw[Int.tmod_def,Int.sub_mul_emod_self_left]
theorem J7 {p:Int}(hp:Pr p)(a:Int):sR p a=some (a % p):=by rw[Q1,MA,MB,KB,yW,bS,decide_eq_true hp,Bool.not_true,cF,bS,nP rfl,Yp ⟨hp.1,hp.2.1⟩,bS]
def iv (p a:Int):Int:=((a.toNat^(p.toNat - 2) % p.toNat:Nat):Int)
theorem acr {f:Nat}(hf:2≤f∧f≤251):∀(n o b:Nat),o<f→b<f→n≤1000→dA f n o b=some ((o*b^n % f:Nat):Int):=by
 intro n;induction n using Nat.strongRecOn with
 |ind n ih=>
  intro o b ho hb hn;rw[vI,pz];by_cases h0:n=0
  ·subst h0;rw[c5 (by omega),Nat.pow_zero,Nat.mul_one,Nat.mod_eq_of_lt ho]
  ·have e1:((n:Int).tmod 2)=((n % 2:Nat):Int):=by rw[bA (by omega),Int.natCast_emod];rfl
   have e2:IntKind.wrap .i64 ((n:Int).tdiv 2)=((n / 2:Nat):Int):=by rw[mc (by omega),i64_in _ (by omega)];omega
   have bb:b*b≤251*251:=Nat.mul_le_mul (by omega) (by omega);have ob:o*b≤251*251:=Nat.mul_le_mul (by omega) (by omega);have c1:((b:Int)*(b:Int))=((b*b:Nat):Int):=by rw[Int.natCast_mul]
   have c2:((o:Int)*(b:Int))=((o*b:Nat):Int):=by rw[Int.natCast_mul]
   have e3:(IntKind.wrap .i64 ((b:Int)*(b:Int))).tmod (f:Int)=((b*b % f:Nat):Int):=by rw[c1,i64_in _ (by omega),bA (by omega),Int.natCast_emod]
   have e4:(IntKind.wrap .i64 ((o:Int)*(b:Int))).tmod (f:Int)=((o*b % f:Nat):Int):=by rw[c2,i64_in _ (by omega),bA (by omega),Int.natCast_emod]
   have hpw:(b*b)^(n / 2)=b^(2*(n / 2)):=by rw[Nat.pow_mul,Nat.pow_two]
   rw[cX (by omega),e1,e2,e3,e4];by_cases h1:n % 2=1
   ·rw[h1,gT (by rfl),kz (by omega),kz (by omega),ih (n / 2) (by omega) _ _ (Nat.mod_lt _ (by omega)) (Nat.mod_lt _ (by omega)) (by omega)]
    congr 2
    rw[Nat.mul_mod,Nat.mod_mod, ←Nat.pow_mod, ←Nat.mul_mod,hpw,Nat.mul_assoc, ←Nat.pow_succ'];have:(2*(n / 2)).succ=n:=by omega
    rw[this]
   ·have h2:n % 2=0:=by omega
    rw[h2,eS (by omega),kz (by omega),ih (n / 2) (by omega) _ _ ho (Nat.mod_lt _ (by omega)) (by omega)]
    congr 2
    rw[Nat.mul_mod, ←Nat.pow_mod, ←Nat.mul_mod,hpw];have:2*(n / 2)=n:=by omega
    rw[this]
theorem aiH:((List.range 252).all fun p=> !(prB p)||(List.range p).all fun a=>a==0||a*(a^(p - 2) % p) % p==1)=true:=by kernel_rfl
theorem Qu {p a:Int}(hp:Pr p)(ha:1≤a∧a<p):a*iv p a % p=1:=by
 obtain⟨h1,h2,h3⟩:=hp;have h:=List.all_eq_true.1 aiH p.toNat (List.mem_range.2 (by omega))
 rw[h3,Bool.not_true,Bool.false_or] at h;have h:=List.all_eq_true.1 h a.toNat (List.mem_range.2 (by omega))
 rw[Bool.or_eq_true] at h;rcases h with h |h
 ·have:=beq_iff_eq.1 h;omega
 ·have h:=beq_iff_eq.1 h;unfold iv;have e1:(a.toNat:Int)=a:=by omega
  have e2:(p.toNat:Int)=p:=by omega
  have h':((a.toNat*(a.toNat^(p.toNat - 2) % p.toNat) % p.toNat:Nat):Int)=1:=by rw[h];rfl
  rw[Int.natCast_emod,Int.natCast_mul,e1,e2] at h';exact h'
theorem OY {p a:Int}(hp:Pr p)(ha:1≤a∧a<p):1≤iv p a∧iv p a<p:=by
 have h:=Qu hp ha;obtain⟨h1,h2,h3⟩:=hp;have h4:iv p a<p:=by unfold iv;have:=Nat.mod_lt (a.toNat^(p.toNat - 2)) (show 0<p.toNat by omega);omega
 have h5:0≤iv p a:=by unfold iv;omega
 refine⟨?_,h4⟩;by_cases h0:iv p a=0
 ·rw[h0,Int.mul_zero,Int.zero_emod] at h;omega
 ·omega
theorem Rq {p a:Int}(hp:Pr p)(ha:1≤a∧a<p):zd p a=some (iv p a,0):=by
 obtain⟨h1,h2,h3⟩:=hp;have hm:a % p=a:=Int.emod_eq_of_lt (by omega) ha.2;rw[Q0,Mz,MB,KB,yW,bS,decide_eq_true ⟨h1,h2,h3⟩,Bool.not_true,cF,bS,nP rfl,Yp ⟨h1,h2⟩,bS,hm,eS (by omega),w9,qJ,Ay,tG,Yp ⟨h1,h2⟩,bS,hm];obtain⟨q,hq⟩:=Int.eq_ofNat_of_zero_le (show 0≤p by omega);obtain⟨b,hb⟩:=Int.eq_ofNat_of_zero_le (show 0≤a by omega);subst hq hb;have e:IntKind.wrap .i64 ((q:Int) - 2)=((q - 2:Nat):Int):=by rw[i64_in _ (by omega)];omega
 have:=acr (f:=q) (by omega) (q - 2) 1 b (by omega) (by omega) (by omega);rw[Nat.one_mul] at this;have e1:((1:Nat):Int)=1:=rfl;rw[e1] at this;rw[e,this,bS,bS];unfold iv;rw[Int.toNat_natCast,Int.toNat_natCast]
theorem Yq {p a:Int}(hp:2≤p∧p≤251)(ha:1≤a∧a<p){w:Int}(hw:1≤w∧w<p)(hm:a*w % p=1)(hu:∀b,1≤b→b<p→a*b % p=1→b=w):∀(m:Nat) (b:Int),1≤b→b≤w→w - b=m→eT p a b=some w:=by
 intro m;induction m with
 |zero=>
  intro b h1 h2 h3;have:b=w:=by omega
  subst this;have hb:0≤a*b∧a*b≤251*251:=⟨Int.mul_nonneg (by omega) (by omega),Int.mul_le_mul (by omega) (by omega) (by omega) (by omega)⟩
  rw[ta,nF,ax (by omega),kz (by omega),i64_in _ (by omega),bA (by omega),gT hm]
 |succ m ih=>
  intro b h1 h2 h3;have hb:0≤a*b∧a*b≤251*251:=⟨Int.mul_nonneg (by omega) (by omega),Int.mul_le_mul (by omega) (by omega) (by omega) (by omega)⟩
  rw[ta,nF,ax (by omega),kz (by omega),i64_in (a*b) (by omega),bA (by omega),eS (fun e=>by have:=hu b h1 (by omega) e;omega),i64_in _ (by omega)];exact ih (b+1) (by omega) (by omega) (by omega)
theorem afK {p a b w:Int}(hp:2≤p)(hb:0≤b∧b<p)(hw:0≤w∧w<p)(h1:a*b % p=1)(h2:a*w % p=1):b=w:=by
 have e1:b*(a*w) % p=b:=by rw[Int.mul_emod,h2,Int.mul_one,Int.emod_emod_of_dvd _ (Int.dvd_refl p),Int.emod_eq_of_lt hb.1 hb.2]
 have e2:w*(a*b) % p=w:=by rw[Int.mul_emod,h1,Int.mul_one,Int.emod_emod_of_dvd _ (Int.dvd_refl p),Int.emod_eq_of_lt hw.1 hw.2]
 have e3:b*(a*w)=w*(a*b):=by rw[←Int.mul_assoc,Int.mul_comm b a,Int.mul_assoc,Int.mul_comm b w, ←Int.mul_assoc,Int.mul_comm a w,Int.mul_assoc]
 rw[←e1,e3,e2]
theorem acs {p a:Int}(hp:Pr p)(ha:1≤a∧a<p):nT p a=some (iv p a):=by have hr:=OY hp ha;rw[Ir,zt];refine Yq ⟨hp.1,hp.2.1⟩ ha hr (Qu hp ha) (fun b h1 h2 h3=>afK hp.1 (by omega) (by omega) h3 (Qu hp ha)) (iv p a - 1).toNat 1 (by omega) (by omega) (by omega)
theorem Ap {p:Int}(hp:Pr p){c:List Tm}(hl:c.length≤1000000000):lL p c=some (aaA p c):=by rw[HF,BQ,yW,bS,decide_eq_true hp,Bool.not_true,cF];exact aaz hl c.length 0 (by omega)
theorem E0 {p k:Int}(hp:Pr p){a b:List Tm}(ha:Vc p 1024 a)(hb:Vc p 1024 b)(hla:a.length≤100000000)(hlb:b.length≤100000000):ji p a k b=some (rT p a (k % p) b,0):=by have h0:∀{x y:List Tm},([x,y]:List (List Tm)).length=2:=rfl;rw[LO,GZ,BR,vE,h0,kH,iQ,ax (by omega)];have i0:idx ([a,b]:List (List Tm)) 0=some a:=rfl;have i1:idx ([a,b]:List (List Tm)) 1=some b:=rfl;have w1:IntKind.wrap .i64 ((0:Int)+1)=1:=rfl;have w2:IntKind.wrap .i64 ((1:Int)+1)=2:=rfl;rw[i0,bS,Ap hp (by omega),bS,J6.2 ha,nP rfl,w1,kH,iQ,ax (by omega),i1,bS,Ap hp (by omega),bS,J6.2 hb,nP rfl,w2,kH,iQ,aq (by omega),bS,nP rfl,J7 hp,bS];have h1:=Int.emod_nonneg k (show p≠0 by have:=hp.1;omega);have h2:=Int.emod_lt_of_pos k (show 0<p by have:=hp.1;omega);rw[Uq ⟨by have:=hp.1;omega,hp.2.1⟩ ⟨h1,h2⟩ ha.c hb.c (by omega),bS]
theorem Yr {c:List Tm}(hl:c.length≤1000000000):jh c=some (match c.getLast? with |some t=>(t.1,true) |none=>(0,false)):=by
 rw[LN,GY];by_cases h:c=[]
 ·subst h;rw[List.length_nil,gT (by rfl)];rfl
 ·have hn:c.length≠0:=fun e=>h (List.length_eq_zero_iff.1 e);have e:IntKind.wrap .i64 ((c.length:Int) - 1)=((c.length - 1:Nat):Int):=by rw[i64_in _ (by omega)];omega
  rw[eS (by omega)];simp only[e];rw[fh th (by omega),List.getLast?_eq_getElem?];have:c[c.length - 1]? =some (c.getD (c.length - 1) th):=by simp[List.getD,show c.length - 1<c.length by omega]
  rw[this]
end Go.Proofs.YtofjebmoebhiiaaGreatDoor.Ev
namespace Go.Abs
abbrev Cl:=Int×ByteArray×List Tm×Unit
abbrev gq:Cl:=(0,(ByteArray.empty,([],())))
theorem cE {l:List Int}{k j:Nat}{v:Int}:(l.set k v).getD j 0=if k=j∧k<l.length then v else l.getD j 0:=by
 simp only[List.getD,List.getElem?_set];by_cases h:k=j
 ·subst h;by_cases hk:k<l.length
  ·simp[hk]
  ·simp[hk]
 ·simp[h]
theorem OZ (n j:Nat):(List.replicate n (0:Int)).getD j 0=0:=by simp only[List.getD,List.getElem?_replicate];split<;>rfl
structure Vr (n:Nat) (l:List Tm) (v:List Int):Prop where
 len:v.length=n
 at_:∀j:Nat,j<n→v.getD j 0=cf l j
def mI (out:List Int):List Tm→List Int
 | []=>out
 |t::r=>mI (out.set t.1.toNat t.2.1) r
theorem Nj:∀(l:List Tm) (out:List Int),(mI out l).length=out.length
 | [],out=>rfl
 |t::r,out=>by rw[mI,Nj r];simp
theorem Ur {p:Int}:∀{l:List Tm} {lo:Int} {out:List Int} {j:Nat},Sr lo l→ -1≤lo→Cp p l→(∀t∈l,t.1<out.length)→(mI out l).getD j 0=if cf l j=0 then out.getD j 0 else cf l j
 | [],lo,out,j,h,h0,hc,hn=>by rw[mI,Hn,if_pos rfl]
 |t::r,lo,out,j,h,h0,hc,hn=>by
  have h1:=h.1;have h2:=hn t (by simp);have h3:=hc t (by simp);rw[mI,Ur (lo:=t.1) (p:=p) h.2 (by omega) (fun u hu=>hc u (by simp[hu])) (fun u hu=>by rw[List.length_set];exact hn u (by simp[hu])),cE,rN];by_cases e:t.1=j
  ·rw[if_pos e,Sr.cf0 h.2 (by omega),if_pos rfl,if_pos (by omega),if_neg (by omega)]
  ·rw[if_neg e,if_neg (show ¬(t.1.toNat=j∧t.1.toNat<out.length) by omega)]
def Nk (i:Nat):List Int→List Tm
 | []=>[]
 |x::r=>if x≠0 then ((i:Int),(x,()))::Nk (i+1) r else Nk (i+1) r
theorem acu:∀(v:List Int) (i:Nat) (lo:Int),lo<i→Sr lo (Nk i v)
 | [],i,lo,h=>trivial
 |x::r,i,lo,h=>by
  rw[Nk];split
  ·exact⟨h,acu r (i+1) i (by omega)⟩
  ·exact acu r (i+1) lo (by omega)
theorem Ys:∀(v:List Int) (i j:Nat),cf (Nk i v) j=if i≤j then v.getD (j - i) 0 else 0
 | [],i,j=>by simp[Nk,Hn]
 |x::r,i,j=>by
  have ih:=Ys r (i+1) j;rw[Nk];by_cases hx:x≠0
  ·rw[if_pos hx,rN,ih];by_cases e:i=j
   ·subst e;simp
   ·rw[if_neg (by simp only;omega)];by_cases h:i≤j
    ·rw[if_pos h,if_pos (by omega)];obtain⟨k,hk⟩:∃k,j - i=k+1:=⟨j - i - 1,by omega⟩
     have:j - (i+1)=k:=by omega
     rw[hk,this];simp
    ·rw[if_neg h,if_neg (by omega)]
  ·rw[if_neg hx,ih];have hx:x=0:=by omega
   by_cases e:i=j
   ·subst e;rw[if_neg (by omega),if_pos (Nat.le_refl _)];simpa using hx.symm
   ·by_cases h:i≤j
    ·rw[if_pos h,if_pos (by omega)];obtain⟨k,hk⟩:∃k,j - i=k+1:=⟨j - i - 1,by omega⟩
     have:j - (i+1)=k:=by omega
     rw[hk,this];simp
    ·rw[if_neg h,if_neg (by omega)]
theorem Yt:∀{v:List Int} {i:Nat} {t:Tm},t∈Nk i v→(i:Int)≤t.1∧t.1<i+v.length∧t.2.1∈v∧t.2.1≠0
 |x::r,i,t,h=>by
  rw[Nk] at h;split at h
  ·rename_i hx;rcases List.mem_cons.1 h with rfl |h
   ·exact⟨by simp,by simp;omega,by simp,hx⟩
   ·have:=Yt h;exact⟨by omega,by simp only[List.length_cons];omega,by simp[this.2.2.1],this.2.2.2⟩
  ·have:=Yt h;exact⟨by omega,by simp only[List.length_cons];omega,by simp[this.2.2.1],this.2.2.2⟩
theorem Us:∀(v:List Int) (i:Nat),(Nk i v).length≤v.length
 | [],i=>by simp[Nk]
 |x::r,i=>by rw[Nk];have:=Us r (i+1);split<;>simp<;>omega
def Rs (p:Int)(out:List Int):Prop:=∀j:Nat,0≤out.getD j 0∧out.getD j 0<p
theorem Rs.set {p v:Int}{out:List Int}(h:Rs p out)(hv:0≤v∧v<p)(k:Nat):Rs p (out.set k v):=fun j=>by
 rw[cE];split
 ·exact hv
 ·exact h j
def cp (aa:List Cl)(r:Int):List Tm:=(aa.getD r.toNat gq).2.2.1
def ID (p:Int)(aa:List Cl)(out:List Tm):List Tm→List Tm
 | []=>out
 |t::r=>ID p aa (rT p out (t.2.1 % p) (cp aa t.1)) r
theorem Mc:∀{l:List Tm} {lo:Int} {n:Int},Sr lo l→(∀t∈l,t.1<n)→lo<n→(l.length:Int)≤n - lo - 1
 | [],lo,n,h,hn,hl=>by simp;omega
 |t::r,lo,n,h,hn,hl=>by have:=Mc h.2 (fun u hu=>hn u (by simp[hu])) (hn t (by simp));have:=h.1;simp only[List.length_cons];omega
theorem Vc.length {p n:Int}{l:List Tm}(h:Vc p n l)(hn:0≤n):(l.length:Int)≤n:=by have:=Mc h.s (fun t ht=>(h.r t ht).1) (by omega);omega
end Go.Abs
namespace Go.Proofs.YtofjebmoebhiiaaGreatDoor.Ev
open Go.Abs Go.IntWalk
theorem bM {i:Nat}(h:i≤1000000000):IntKind.wrap .i64 ((i:Int)+1)=((i+1:Nat):Int):=by rw[i64_in _ (by omega)];omega
theorem acv {x:List Tm}{n:Nat}(hl:x.length≤1000000000)(hx:∀t∈x,0≤t.1∧t.1<n):∀(m i:Nat) (out:List Int),m+i=x.length→out.length=n→fZ x i out=some (mI out (x.drop i)):=by
 intro m;induction m with
 |zero=>intro i out hi ho;rw[wy,qa,aq (by omega),List.drop_eq_nil_of_le (by omega)];rfl
 |succ m ih=>
  intro i out hi ho;have hb:∀{β:Type} {f:Tm→Option β},(idx x (i:Int)).bind f=f (x.getD i th):=fh th (by omega);have hm:x.getD i th∈x:=by
   have:x.getD i th=x[i]'(by omega):=by simp[List.getD,show i<x.length by omega]
   rw[this];exact List.getElem_mem _
  have hr:=hx _ hm;rw[wy,qa,ax (by omega),hb,hb,fI (by omega) (by omega),qu (by omega),bM (by omega),ih (i+1) _ (by omega) (by simpa using ho),ef th (show i<x.length by omega),mI]
theorem aaE {p:Int}{x:List Tm}{n:Nat}(hn:n≤1000000)(hx:Vc p n x):∃v,rq x n=some v∧Vr n x v∧(0<p→Rs p v):=by
 have hl:=hx.length (by omega);have hx':∀t∈x,0≤t.1∧t.1<n:=fun t ht=>⟨by have:=Sr.mem hx.s t ht;omega,(hx.r t ht).1⟩
 have hg:∀j:Nat,(mI (List.replicate n 0) x).getD j 0=cf x j:=fun j=>by rw[Ur hx.s (by omega) hx.c (fun t ht=>by rw[List.length_replicate];exact(hx' t ht).2),OZ];split<;>omega
 refine⟨mI (List.replicate n 0) x, ?_,⟨by rw[Nj,List.length_replicate],fun j _=>hg j⟩,fun hp j=>by rw[hg];exact J5 hp hx.c j⟩;rw[Ld,CE,Ic (by omega) (by omega) (by omega),Int.toNat_natCast];exact acv (by omega) hx' x.length 0 _ (by omega) (by simp)
theorem aaF {p:Int}(hp:Pr p){x:List Tm}{c2:List Cl}(hxl:x.length≤1000000)(hx:∀t∈x,(0≤t.1∧t.1<c2.length)∧Vc p 1024 (cp c2 t.1)):
  ∀(m i:Nat) (S:List Tm),m+i=x.length→Vc p 1024 S→fj S x (x.length:Int) i p c2=some (ID p c2 S (x.drop i)):=by
 intro m;induction m with
 |zero=>intro i S hi hS;rw[nV,lT,aq (by omega),List.drop_eq_nil_of_le (by omega),ID]
 |succ m ih=>
  intro i S hi hS;have hm:x.getD i th∈x:=by
   have:x.getD i th=x[i]'(by omega):=by simp[List.getD,show i<x.length by omega]
   rw[this];exact List.getElem_mem _
  obtain⟨h1,h3⟩:=hx _ hm;have hl:=h3.length (by omega);have hl2:=hS.length (by omega);rw[nV,lT,ax (by omega),fh th (by omega),aiE gq (by omega) (by omega)];have e:(c2.getD (x.getD i th).1.toNat gq).2.2.1=cp c2 (x.getD i th).1:=rfl;rw[e,E0 hp hS h3 (by omega) (by omega),bS,bM (by omega)];simp only;rw[ih (i+1) _ (by omega) (Ei (by have:=hp.1;omega) hS h3).1,ef th (show i<x.length by omega),ID]
theorem afL {p:Int}(hp:Pr p){x:List Tm}{c2:List Cl}(hxl:x.length≤1000000)(hx:∀t∈x,(0≤t.1∧t.1<c2.length)∧Vc p 1024 (cp c2 t.1)):ux (p,(c2,())) x=some (ID p c2 [] x):=by
 have h:=aaF hp hxl hx x.length 0 [] (by omega) Vc.nil;rw[Je,Ey];simp only;have e:nf x (x.length:Int) 0 [] p c2=fj [] x (x.length:Int) 0 p c2:=by rw[DD,xT,nV,lT]
 rw[e];simpa using h
def mG (aa:List Cl)(j:Nat):ByteArray:=(aa.getD j gq).2.1
def Nl (aa:List Cl)(j:Nat):Bool:=decide (0<j)&&decide (mK ((lb (mG aa j)).1*(lb (mG aa (j - 1))).2) ((lb (mG aa (j - 1))).1*(lb (mG aa j)).2)<0)
def wR (p:Int)(aa:List Cl)(j:Nat):Int:=
 if (aa.getD j gq).1<0∨4<(aa.getD j gq).1∨wQ (mG aa j)=false then 1
 else if aaA p (aa.getD j gq).2.2.1≠0 then aaA p (aa.getD j gq).2.2.1
 else if ((aa.getD j gq).2.2.1.any fun t=>decide (t.1≥(j:Int)))=true then 7
 else if ((aa.getD j gq).2.2.1.any fun t=>(aa.getD t.1.toNat gq).1 != (aa.getD j gq).1 - 1)=true then 10
 else if (ID p aa [] (aa.getD j gq).2.2.1)≠ [] then 11
 else if Nl aa j=true then 6 else 0
def Rr (p:Int)(aa:List Cl)(j:Nat):Nat→Int
 |0=>0
 |m+1=>if wR p aa j≠0 then wR p aa j else Rr p aa (j+1) m
def fi (p:Int)(aa:List Cl):Int:=if Pr p then (if 1024<aa.length then 3 else Rr p aa 0 aa.length) else 8
structure Good (p:Int) (aa:List Cl) (j:Nat):Prop where
 PT:0≤(aa.getD j gq).1∧(aa.getD j gq).1≤4
 at_:wQ (mG aa j)=true
 bd:Vc p j (cp aa j)
 low:j≤1024→Vc p 1024 (cp aa j)
 akK:∀t∈cp aa j,(aa.getD t.1.toNat gq).1=(aa.getD j gq).1 - 1
 cyc:ID p aa [] (cp aa j)=[]
 ord:Nl aa j=false
theorem fV (aa:List Cl)(j:Nat):cp aa j=(aa.getD j gq).2.2.1:=by unfold cp;rw[Int.toNat_natCast]
theorem Yu {p:Int}{aa:List Cl}{j:Nat}(h:wR p aa j=0):Good p aa j:=by
 unfold wR at h;split at h
 ·cases h
 ·rename_i h1;split at h
  ·rename_i h2;exact absurd h h2
  ·rename_i h2;split at h
   ·cases h
   ·rename_i h3;split at h
    ·cases h
    ·rename_i h4;split at h
     ·cases h
     ·rename_i h5;split at h
      ·cases h
      ·rename_i h6;have hv:=J6.1 (show aaA p (aa.getD j gq).2.2.1=0 by omega);refine⟨by omega, ?_, ?_,fun _=>by rw[fV];exact hv, ?_, ?_,by simpa using h6⟩
       ·cases hh:wQ (mG aa j) with
        |true=>rfl
        |false=>exact absurd (.inr (.inr hh)) h1
       ·rw[fV];refine⟨hv.s,fun t ht=>⟨?_,(hv.r t ht).2⟩⟩;have:¬t.1≥(j:Int):=fun g=>h3 (List.any_eq_true.2 ⟨t,ht,decide_eq_true g⟩);omega
       ·intro t ht;rw[fV] at ht;have:¬((aa.getD t.1.toNat gq).1 != (aa.getD j gq).1 - 1)=true:=fun g=>h4 (List.any_eq_true.2 ⟨t,ht,g⟩);simpa using this
       ·rw[fV];exact Decidable.not_not.1 h5
structure Sz (aa:List Cl):Prop where
 at_:∀j,(mG aa j).size≤1000
 bd:∀j,((aa.getD j gq).2.2.1).length≤1000
theorem acw {s:List Tm}{j:Int}(hl:s.length≤1000000):∀(m i:Nat),m+i=s.length→∃r:Int,bY s j (s.length:Int) i=some r∧decide (r≥0)=(s.drop i).any fun t=>decide (t.1≥j):=by
 intro m;induction m with
 |zero=>intro i hi;rw[ko,gK,aq (by omega),List.drop_eq_nil_of_le (by omega)];exact⟨-1,rfl,rfl⟩
 |succ m ih=>
  intro i hi;rw[ko,gK,ax (by omega),fh th (by omega),Fm,zX,bS,ef th (show i<s.length by omega),List.any_cons];by_cases h:(s.getD i th).1≥j
  ·rw[xz h,decide_eq_true h];exact⟨i,rfl,by rw[Bool.true_or];exact decide_eq_true (by omega)⟩
  ·rw[u9 h,decide_eq_false h,Bool.false_or,bM (by omega)];exact ih (i+1) (by omega)
theorem apv {s:List Tm}{j:Int}(hl:s.length≤1000000):eC s j=some (s.any fun t=>decide (t.1≥j)):=by obtain⟨r,h1,h2⟩:=acw (j:=j) hl s.length 0 (by omega);have e0:((0:Nat):Int)=0:=rfl;rw[e0] at h1;rw[rP,mw,uE,oe,h1,bS,h2,List.drop_zero]
theorem acx {s:List Tm}{p d:Int}{aa:List Cl}{a:ByteArray}{b:List Tm}(hd:0≤d∧d≤4)(hl:s.length≤1000000)(hs:∀t∈s,0≤t.1∧t.1<aa.length):∀(m i:Nat),m+i=s.length→
  ∃r:Int,bZ s p aa d a b (s.length:Int) i=some r∧decide (r≥0)=(s.drop i).any fun t=>(aa.getD t.1.toNat gq).1 != d - 1:=by
 intro m;induction m with
 |zero=>intro i hi;rw[kp,gL,aq (by omega),List.drop_eq_nil_of_le (by omega)];exact⟨-1,rfl,rfl⟩
 |succ m ih=>
  intro i hi;have hm:s.getD i th∈s:=by
   have:s.getD i th=s[i]'(by omega):=by simp[List.getD,show i<s.length by omega]
   rw[this];exact List.getElem_mem _
  have h1:=hs _ hm;rw[kp,gL,ax (by omega),fh th (by omega),Fo,zY];simp only;rw[aiE gq h1.1 h1.2,bS,i64_in (d - 1) (by omega),ef th (show i<s.length by omega),List.any_cons];cases hc:((aa.getD (s.getD i th).1.toNat gq).1 != d - 1) with
  |true=>rw[cT];exact⟨i,rfl,by rw[Bool.true_or];exact decide_eq_true (by omega)⟩
  |false=>rw[cF,Bool.false_or,bM (by omega)];exact ih (i+1) (by omega)
theorem apw {s:List Tm}{p d:Int}{aa:List Cl}{a:ByteArray}{b:List Tm}(hd:0≤d∧d≤4)(hl:s.length≤1000000)(hs:∀t∈s,0≤t.1∧t.1<aa.length):
  eD s ((p,(aa,())),(d,(a,(b,()))))=some (s.any fun t=>(aa.getD t.1.toNat gq).1 != d - 1):=by
 obtain⟨r,h1,h2⟩:=acx (p:=p) (a:=a) (b:=b) hd hl hs s.length 0 (by omega);have e0:((0:Nat):Int)=0:=rfl;rw[e0] at h1;rw[rQ,my,uF,og];simp only;rw[h1,bS,h2,List.drop_zero]
theorem Ru {s:ByteArray}(h:wQ s=true)(hs:s.size≤1000):Rt s (lb s).1 (lb s).2∧nd (lb s).1≤1000∧nd (lb s).2≤1000∧0<(lb s).2:=by obtain⟨n,d,hr⟩:=rM.1 h;rw[hr.val];exact⟨hr,hr.bounds hs⟩
theorem am9 {p:Int}{aa:List Cl}{j:Nat}{b:List Tm}(hj:j<aa.length)(hl:aa.length≤1024)(hI:∀i,i<j→wR p aa i=0)(hb:Vc p 1024 b)(hr:∀t∈b,t.1<j):
  ∀t∈b,(0≤t.1∧t.1<aa.length)∧Vc p aa.length (cp aa t.1):=fun t ht=>by
 have h1:=hr t ht;have h2:=Sr.mem hb.s t ht;have e:t.1=((t.1.toNat:Nat):Int):=by omega
 have h3:=(Yu (hI t.1.toNat (by omega))).bd;refine⟨by omega, ?_⟩;rw[e];exact h3.mono (by omega)
theorem aaG {p:Int}(hp:Pr p){aa:List Cl}(hs:Sz aa)(hl:aa.length≤1024){j:Nat}{l:(Bool×List Int×Unit)×(Bool×List Int×Unit)×Unit}(hj:j<aa.length)(hI:∀i,i<j→wR p aa i=0)(hL:0<j→l=WR (lb (mG aa (j - 1))).1 (lb (mG aa (j - 1))).2)(E:Int)(hE:wR p aa j=E):
  dO aa (aa.length:Int) j p aa l.1.1 l.1.2.1 l.2.1.1 l.2.1.2.1=if E=0 then dO aa (aa.length:Int) ((j+1:Nat):Int) p aa (W (lb (mG aa j)).1).1 (W (lb (mG aa j)).1).2.1 (W (lb (mG aa j)).2).1 (W (lb (mG aa j)).2).2.1 else some E:=by
 have ea:(aa.getD j gq).2.1=mG aa j:=rfl;have ha:=hs.at_ j;have hb:=hs.bd j;generalize hK:dO aa (aa.length:Int) ((j+1:Nat):Int) p aa (W (lb (mG aa j)).1).1 (W (lb (mG aa j)).1).2.1 (W (lb (mG aa j)).2).1 (W (lb (mG aa j)).2).2.1=K;rw[vv,rE,ax (by omega),fh gq (by omega),ea];unfold wR at hE;generalize hx:aa.getD j gq=x at hE hb ⊢;cases aiI:wQ (mG aa j) with
 |false=>obtain⟨jk,hjk⟩:=WK ha aiI;rw[if_pos (.inr (.inr aiI))] at hE;subst hE;rw[hjk,bS];simp only;rw[Bool.not_false,cT,if_neg (by omega)];cases decide (x.1<0)<;>cases decide (x.1>4)<;>rfl
 |true=>
  obtain⟨hrt,n1,n2,n3⟩:=Ru aiI ha;rw[Qr ha hrt,bS];simp only;by_cases h1:x.1<0
  ·rw[if_pos (.inl h1)] at hE;subst hE;rw[ax h1,if_neg (by omega)]
  rw[aq h1];by_cases h2:x.1>4
  ·rw[if_pos (.inr (.inl h2))] at hE;subst hE;rw[cX h2,if_neg (by omega)]
  have hc1:¬(x.1<0∨4<x.1∨wQ (mG aa j)=false):=by
   rintro (h |h |h)
   ·exact h1 h
   ·exact h2 h
   ·rw[aiI] at h;cases h
  rw[if_neg hc1] at hE;rw[c5 h2,Bool.not_true,cF,Un ha,bS,aiI,Bool.not_true,cF,Ap hp (by omega),bS];by_cases h3:aaA p x.2.2.1=0
  ·rw[if_neg (show ¬aaA p x.2.2.1≠0 by omega)] at hE;rw[nP h3,apv (by omega),bS];have hv:=J6.1 h3;cases h4:(x.2.2.1.any fun t=>decide (t.1≥(j:Int))) with
   |true=>rw[h4,if_pos rfl] at hE;subst hE;rw[cT,if_neg (by omega)]
   |false=>
    rw[h4,if_neg (by decide)] at hE;rw[cF];have hr:∀t∈x.2.2.1,t.1<j:=fun t ht=>by have:=List.any_eq_false.1 h4 t ht;have:¬t.1≥(j:Int):=fun g=>this (decide_eq_true g);omega
    have hin:=am9 hj hl hI hv hr;rw[apw (by omega) (by omega) (fun t ht=>(hin t ht).1),bS];cases h5:(x.2.2.1.any fun t=>(aa.getD t.1.toNat gq).1 != x.1 - 1) with
    |true=>rw[h5,if_pos rfl] at hE;subst hE;rw[cT,if_neg (by omega)]
    |false=>
     rw[h5,if_neg (by decide)] at hE;rw[cF,afL hp (by omega) (fun t ht=>⟨(hin t ht).1,(hin t ht).2.mono (by omega)⟩),bS];by_cases h6:ID p aa [] x.2.2.1=[]
     ·rw[h6,if_neg (by simp)] at hE;rw[h6,List.length_nil,c5 (by omega),bM (by omega),hK];simp only[wM];unfold Nl at hE;by_cases h7:0<j
      ·have hg:=Yu (hI (j - 1) (by omega));obtain⟨ava,m1,m2,m3⟩:=Ru hg.at_ (hs.at_ (j - 1));have hl':=hL h7;subst hl';rw[cX (by omega),am6 n1 n2 m1 m2 n3 m3,bS];rw[decide_eq_true h7,Bool.true_and] at hE;by_cases h8:mK ((lb (mG aa j)).1*(lb (mG aa (j - 1))).2) ((lb (mG aa (j - 1))).1*(lb (mG aa j)).2)<0
       ·rw[decide_eq_true h8,if_pos rfl] at hE;subst hE;rw[ax h8,if_neg (by omega)]
       ·rw[decide_eq_false h8,if_neg (by decide)] at hE;subst hE;rw[aq h8,if_pos rfl]
      ·rw[decide_eq_false h7,Bool.false_and,if_neg (by decide)] at hE;subst hE;rw[c5 (by omega),if_pos rfl]
     ·rw[if_pos h6] at hE;subst hE;have hlen:0<(ID p aa [] x.2.2.1).length:=by
       cases hq:ID p aa [] x.2.2.1 with
       |nil=>exact absurd hq h6
       |cons a b=>simp
      rw[cX (by omega),if_neg (by omega)]
  ·rw[if_pos h3] at hE;subst hE;rw[F7 h3,if_neg h3]
theorem afM {p:Int}(hp:Pr p){aa:List Cl}(hs:Sz aa)(hl:aa.length≤1024):∀(m j:Nat) (l:(Bool×List Int×Unit)×(Bool×List Int×Unit)×Unit),m+j=aa.length→(∀i,i<j→wR p aa i=0)→(0<j→l=WR (lb (mG aa (j - 1))).1 (lb (mG aa (j - 1))).2)→
  dO aa (aa.length:Int) j p aa l.1.1 l.1.2.1 l.2.1.1 l.2.1.2.1=some (Rr p aa j m):=by
 intro m;induction m with
 |zero=>intro j l hj hI hL;rw[vv,rE,aq (by omega)];rfl
 |succ m ih=>
  intro j l hj hI hL;rw[aaG hp hs hl (by omega) hI hL _ rfl,Rr];by_cases h:wR p aa j=0
  ·rw[if_pos h,if_neg (show ¬wR p aa j≠0 by omega)];exact ih (j+1) (WR (lb (mG aa j)).1 (lb (mG aa j)).2) (by omega) (fun i hi=>by
    by_cases e:i=j
    ·rw[e];exact h
    ·exact hI i (by omega)) (fun _=>by rw[Nat.add_sub_cancel])
  ·rw[if_neg h,if_pos h]
theorem C8 {p:Int}{aa:List Cl}(hs:Sz aa):jI (p,(aa,()))=some (fi p aa):=by
 rw[Jd,Ew];simp only;unfold fi;rw[yW,bS];by_cases hp:Pr p
 ·rw[decide_eq_true hp,Bool.not_true,cF,if_pos hp];by_cases hl:1024<aa.length
  ·rw[cX (by omega),if_pos hl]
  ·rw[c5 (by omega),if_neg hl];have:=afM hp hs (by omega) aa.length 0 ((false,([],())),((false,([],())),())) (by omega) (fun i hi=>by omega) (fun h=>by omega);exact this
 ·rw[decide_eq_false hp,Bool.not_false,cT,if_neg hp]
theorem mf {p:Int}{aa:List Cl}(h:fi p aa=0):Pr p∧aa.length≤1024∧∀j,j<aa.length→Good p aa j:=by
 unfold fi at h;split at h
 ·rename_i hp;split at h
  ·cases h
  ·rename_i hl;have key:∀(m j:Nat),m+j=aa.length→Rr p aa j m=0→∀i,j≤i→i<aa.length→wR p aa i=0:=by
    intro m;induction m with
    |zero=>intro j hj h i h1 h2;omega
    |succ m ih=>
     intro j hj h i h1 h2;rw[Rr] at h;split at h
     ·rename_i hne;exact absurd h hne
     ·rename_i hne;by_cases e:i=j
      ·subst e;omega
      ·exact ih (j+1) (by omega) h i (by omega) h2
   exact⟨hp,by omega,fun j hj=>Yu (key aa.length 0 (by omega) h j (by omega) hj)⟩
 ·cases h
end Go.Proofs.YtofjebmoebhiiaaGreatDoor.Ev
namespace Go.Abs
theorem Nn {l:List Tm}{t:Tm}(h:l.getLast?=some t):∃r,l=r++[t]:=by
 cases hl:l with
 |nil=>subst hl;cases h
 |cons a r=>
  have hne:l≠ []:=by rw[hl];simp
  rw[List.getLast?_eq_some_getLast hne] at h;have h:=Option.some.inj h;exact⟨l.dropLast,by rw[←hl, ←h,List.dropLast_concat_getLast hne]⟩
theorem bQ {l:List Tm}{t:Tm}(h:l.getLast?=some t):t∈l:=by obtain⟨r,rfl⟩:=Nn h;simp
theorem aaH:∀{l:List Tm} {lo:Int} {t:Tm},Sr lo l→l.getLast?=some t→∀u∈l,u.1≤t.1
 |a::r,lo,t,h,hl,u,hu=>by
  cases r with
  |nil=>simp at hl hu;subst hl hu;exact Int.le_refl _
  |cons b s=>
   have hl':(b::s).getLast?=some t:=by simpa [List.getLast?_cons_cons] using hl
   have ih:=aaH h.2 hl';rcases List.mem_cons.1 hu with rfl |hu
   ·have:=ih b (by simp);have:=h.2.1;omega
   ·exact ih u hu
theorem Si {l:List Tm}{lo:Int}{t:Tm}(h:Sr lo l)(hl:l.getLast?=some t){i:Int}(hi:t.1<i):cf l i=0:=by
 by_cases h0:cf l i=0
 ·exact h0
 ·obtain⟨u,hu,e⟩:=Ro h0;have:=aaH h hl u hu;omega
def O0 (x:List Tm):Int×Bool:=match x.getLast? with
 |some t=>(t.1,true)
 |none=>(0,false)
structure Sto (p:Int) (n:Nat) (st:List (Option (List Tm))):Prop where
 len:st.length=n
 ok:∀i y,st.getD i none=some y→Vc p n y∧∃u,y.getLast?=some u∧u.1=i
theorem arF {α:Type}{l:List (Option α)}{i:Nat}(h:i<l.length):l[i]? =some (l.getD i none):=by simp[List.getD,h]
def jQ (p:Int)(st:List (Option (List Tm))):Nat→List Tm→Int→List Tm×Int
 |0,x,a=>(x,a)
 |f+1,x,a=>match x.getLast? with
  |none=>(x,a)
  |some t=>match st.getD t.1.toNat none with
   |none=>(x,a)
   |some y=>jQ p st f (rT p x ((-t.2.1*Go.Proofs.YtofjebmoebhiiaaGreatDoor.Ev.iv p ((y.getLast?.getD (0,(0,()))).2.1)) % p) y) (a+1)
end Go.Abs
namespace Go.Proofs.YtofjebmoebhiiaaGreatDoor.Ev
open Go.Abs Go.IntWalk
theorem kill {p c d:Int}(hp:Pr p)(hc:1≤c∧c<p)(hd:1≤d∧d<p):(c+(-c*iv p d) % p*d) % p=0:=by
 have h:=Qu hp hd;have h0:p≠0:=by have:=hp.1;omega
 rw[Int.add_emod,Int.mul_emod,Int.emod_emod_of_dvd _ (Int.dvd_refl p), ←Int.mul_emod, ←Int.add_emod];have e:c+ -c*iv p d*d=c*(1 - d*iv p d):=by rw[Int.mul_sub,Int.mul_one,Int.neg_mul,Int.neg_mul,Int.mul_assoc,Int.mul_comm (iv p d) d];omega
 rw[e,Int.mul_emod,Int.sub_emod,h];have h1:(1:Int) % p=1:=Int.emod_eq_of_lt (by omega) (by have:=hp.1;omega);rw[h1];simp
theorem Ut {p:Int}(hp:Pr p){n:Nat}{x y:List Tm}{t u:Tm}(hx:Vc p n x)(hy:Vc p n y)(ht:x.getLast?=some t)(hu:y.getLast?=some u)(e:t.1=u.1):
  ∀s∈rT p x ((-t.2.1*iv p u.2.1) % p) y,s.1<t.1:=fun s hs=>by
 have hpp:0<p:=by have:=hp.1;omega
 obtain⟨h1,h2⟩:=Ei (k:=(-t.2.1*iv p u.2.1) % p) hpp hx hy;have h3:=EZ h1.s s hs;have h4:=h1.r s hs;rw[h2] at h3;have ct:=EZ hx.s t (bQ ht);have cu:=EZ hy.s u (bQ hu);rcases Int.lt_trichotomy s.1 t.1 with h |h |h
 ·exact h
 ·exfalso;rw[h,ct,e,cu,kill hp (hx.r t (bQ ht)).2 (hy.r u (bQ hu)).2] at h3;omega
 ·exfalso;rw[Si hx.s ht h,Si hy.s hu (by omega)] at h3;simp at h3;omega
theorem aaI {x:List Tm}(h:x≠ []):vh [] (.px (.st (.pair (.int .i64) (.pair (.int .i64) (.unit))))) [⟨.slice (.st (.pair (.int .i64) (.pair (.int .i64) (.unit)))),x⟩]=some (some x):=by
 cases x with
 |nil=>exact absurd rfl h
 |cons a r=>rfl
theorem Yv {α β:Type}{xs:List (Option α)}{k:Nat}{f:Option α→Option β}(h:k<xs.length):(xs[k]?).bind f=f (xs.getD k none):=by rw[arF h];exact bS _ _
theorem O4 {α β:Type}{xs:List (Option α)}{i:Int}{f:Option α→Option β}(h0:0≤i)(h:i<xs.length):(idx xs i).bind f=f (xs.getD i.toNat none):=aiE none h0 h
abbrev Uu:=List (Option (List Tm))
noncomputable def WL (j:Nat)(x:List Tm)(out:Nat)(st:List (Option (List Tm)))(dt:List Int)(e:Bool)(p:Int)(aa:List Cl)(a w2:Int)(bh:Uu)(rest:List (Int×Unit)):Option ((Nat×Int×Int×Unit)×Uu):=
 match x.getLast? with
 |some t=>ao out out (st.set t.1.toNat (some x)) (dt.set t.1.toNat j) e p aa a w2 bh rest
 |none=>if dt.getD j 0= -2 then ao out out st (dt.set j (-1)) e p aa a w2 bh rest else ao out out st dt e p aa a w2 bh rest
theorem afN {p:Int}(hp:Pr p){n:Nat}(hn:n≤1024){st:List (Option (List Tm))}(hst:Sto p n st){dt:List Int}(hdt:dt.length=n){j:Nat}(hj:j<n){e:Bool}{aa:List Cl}{w2:Int}{out:Nat}{bh:Uu}{rest:List (Int×Unit)}:
  ∀(f:Nat) (x:List Tm) (a:Int),Vc p n x→(∀t∈x,t.1<f)→0≤a→a+f≤1000000000→
   bD j x (O0 x).1 (O0 x).2 out st dt e p aa a w2 bh rest=WL j (jQ p st f x a).1 out st dt e p aa (jQ p st f x a).2 w2 bh rest:=by
 intro f;have stop:∀(x:List Tm) (a:Int),Vc p n x→(∀t,x.getLast?=some t→st.getD t.1.toNat none=none)→bD j x (O0 x).1 (O0 x).2 out st dt e p aa a w2 bh rest=WL j x out st dt e p aa a w2 bh rest:=by
  intro x a hx hno;rw[lq,iy];unfold WL O0;cases hl:x.getLast? with
  |none=>
   simp only;rw[cF,cF,fI (by omega) (by omega),qu (by omega),Int.toNat_natCast];by_cases h2:dt.getD j 0= -2
   ·rw[gT h2,fI (by omega) (by omega),qu (by omega),if_pos h2]
   ·rw[eS h2,if_neg h2]
  |some t=>
   have ht:=hx.r t (bQ hl);have ht0:=Sr.mem hx.s t (bQ hl);have hne:x≠ []:=fun e=>by rw[e] at hl;cases hl
   have hlen:=hst.len;simp only;rw[cT,O4 (by omega) (by omega),Yv (by omega),hno t hl];have e1:(!(Option.isNone (none:Option (List Tm))))=false:=rfl;rw[e1,cF,cT,O4 (by omega) (by omega),Yv (by omega),aaI hne,bS,fI (by omega) (by omega),qu (by omega)]
 induction f with
 |zero=>
  intro x a hx hf ha hb;have:x=[]:=by
   cases x with
   |nil=>rfl
   |cons t r=>have h1:=hf t (by simp);have h2:=Sr.mem hx.s t (by simp);omega
  subst this;rw[jQ];exact stop [] a hx (fun t ht=>by cases ht)
 |succ f ih=>
  intro x a hx hf ha hb;rw[jQ];cases hl:x.getLast? with
  |none=>exact stop x a hx (fun t ht=>by rw[hl] at ht;cases ht)
  |some t=>
   simp only;cases hy:st.getD t.1.toNat none with
   |none=>exact stop x a hx (fun u hu=>by rw[hl] at hu;cases hu;exact hy)
   |some y=>
    simp only;have ht:=hx.r t (bQ hl);have ht0:=Sr.mem hx.s t (bQ hl);have hne:x≠ []:=fun e=>by rw[e] at hl;cases hl
    have hlen:=hst.len;have hf':=hf t (bQ hl);obtain⟨hvy,u,hu,hu1⟩:=hst.ok _ y hy;have hur:=hvy.r u (bQ hu);have hxl:=hx.length (by omega);have hyl:=hvy.length (by omega);have arG:y.length≠0:=fun e=>by rw[List.length_eq_zero_iff.1 e] at hu;cases hu
    have arH:x.length≠0:=fun e=>hne (List.length_eq_zero_iff.1 e);have gl:∀{z:List Tm} {v:Tm},z.getLast?=some v→z.getD (z.length - 1) th=v:=fun {z v} h=>by obtain⟨r,rfl⟩:=Nn h;simp[List.getD]
    have ey:IntKind.wrap .i64 (((lst (some y)).length:Int) - 1)=((y.length - 1:Nat):Int):=by show IntKind.wrap .i64 ((y.length:Int) - 1)=_;rw[i64_in _ (by omega)];omega
    have ex:IntKind.wrap .i64 ((x.length:Int) - 1)=((x.length - 1:Nat):Int):=by rw[i64_in _ (by omega)];omega
    have hiv:=OY hp hur.2;have hm1:0≤t.2.1*iv p u.2.1:=Int.mul_nonneg (by omega) (by omega);have hm2:t.2.1*iv p u.2.1≤251*251:=Int.mul_le_mul (by have:=hp.2.1;omega) (by have:=hp.2.1;omega) (by omega) (by omega);have e7:IntKind.wrap .i64 (IntKind.wrap .i64 (0 - t.2.1)*iv p u.2.1)= -t.2.1*iv p u.2.1:=by
     have:=hp.2.1;rw[i64_in (0 - t.2.1) (by omega)];have:(0 - t.2.1)*iv p u.2.1= -(t.2.1*iv p u.2.1):=by rw[Int.zero_sub,Int.neg_mul]
     rw[this,i64_in _ (by omega),Int.neg_mul]
    have hpp:0<p:=by have:=hp.1;omega
    have hk:(-t.2.1*iv p u.2.1) % p % p=(-t.2.1*iv p u.2.1) % p:=Int.emod_emod_of_dvd _ (Int.dvd_refl p);have hpl:=Ut hp hx hvy hl hu (by omega);have hv':=(Ei (k:=(-t.2.1*iv p u.2.1) % p) hpp hx hvy).1;have Y8:=hv'.length (by omega);have hd:(y.getLast?.getD (0,(0,())))=u:=by rw[hu];rfl
    have vg:=ih (rT p x ((-t.2.1*iv p u.2.1) % p) y) (a+1) hv' (fun s hs=>by have:=hpl s hs;omega) (by omega) (by omega);rw[hd, ←vg,lq,iy];have el:O0 x=(t.1,true):=by unfold O0;rw[hl]
    rw[el];simp only;rw[cT,O4 (by omega) (by omega),Yv (by omega),hy];have e1:(!(Option.isNone (some y)))=true:=rfl;rw[e1,cT,O4 (by omega) (by omega),Yv (by omega),hy,ey];have e2:lst (some y)=y:=rfl;rw[e2,fh th (by omega),gl hu,Rq hp hur.2,bS,ex,fh th (by omega),gl hl,e7,J7 hp,bS,E0 hp (hx.mono (by omega)) (hvy.mono (by omega)) (by omega) (by omega),bS,hk];simp only;rw[Yr (by omega),bS,i64_in (a+1) (by omega)];rfl
theorem _root_.Go.Abs.Vr.out {n:Nat}{x:List Tm}{v:List Int}(h:Vr n x v){j:Nat}(hj:n≤j):v.getD j 0=0:=by have:=h.len;simp only[List.getD];rw[List.getElem?_eq_none (by omega)];rfl
abbrev arI:=(Int×List Cl×Unit)×Nat×Nat×Nat×Int×Int×Unit
def h5 (p:Int)(aa:List Cl)(a k:Int):List (Option (List arI)):=[some [((p,(aa,())),((1:Nat),((1:Nat),((1:Nat),(a,(k,()))))))]]
structure Sv (p:Int) (n:Nat) (st:List (Option (List Tm))) (sd:List (Option (List Int))):Prop where
 len:sd.length=n
 none_:∀i,st.getD i none=none→sd.getD i none=none
 some_:∀i y,st.getD i none=some y→∃w,sd.getD i none=some w∧Vr n y w∧Rs p w
theorem aaJ {s:List Tm}(h:s.length≤1000000):lM s=some s:=by have e:lM s=(bif aG 16 2 0 s.length then some s else none):=DB T B (Go.Abs.look fns) 84 s;rw[e,iT (by omega) (by omega)]
structure Rel (p:Int) (n:Nat) (st:List (Option (List Tm))) (dt:List Int) (sd:List (Option (List Int))) (by_:List Int) (em:List Bool):Prop where
 Lx:Sto p n st
 sv:Sv p n st sd
 YJ:dt.length=n
 lby:by_.length=n
 lem:em.length=n
 d:∀i,i<n→dt.getD i 0=match st.getD i none with |some _=>by_.getD i 0 |none=>bif em.getD i false then -1 else -2
 b:∀i,i<n→0≤by_.getD i 0
theorem No {α:Type}{l:List (Option α)}{k j:Nat}{v:Option α}:(l.set k v).getD j none=if k=j∧k<l.length then v else l.getD j none:=by
 simp only[List.getD,List.getElem?_set];by_cases h:k=j
 ·subst h;by_cases hk:k<l.length
  ·simp[hk]
  ·simp[hk]
 ·simp[h]
theorem apy {l:List Bool}{k j:Nat}{v:Bool}:(l.set k v).getD j false=if k=j∧k<l.length then v else l.getD j false:=by
 simp only[List.getD,List.getElem?_set];by_cases h:k=j
 ·subst h;by_cases hk:k<l.length
  ·simp[hk]
  ·simp[hk]
 ·simp[h]
theorem Rel.put {p:Int}{n:Nat}{st:List (Option (List Tm))}{dt:List Int}{sd:List (Option (List Int))}{by_:List Int}{em:List Bool}(h:Rel p n st dt sd by_ em){x:List Tm}{v:List Int}{t:Tm}(hx:Vc p n x)(hv:Vr n x v)(hr:Rs p v)(ht:x.getLast?=some t){j:Nat}:
  Rel p n (st.set t.1.toNat (some x)) (dt.set t.1.toNat j) (sd.set t.1.toNat (some v)) (by_.set t.1.toNat j) em:=by
 have htr:=hx.r t (bQ ht);have ht0:=Sr.mem hx.s t (bQ ht);have l1:=h.Lx.len;have l2:=h.sv.len;have l3:=h.YJ;have l4:=h.lby;refine⟨⟨by simpa using l1,fun i y hy=> ?_⟩,⟨by simpa using l2,fun i hi=> ?_,fun i y hy=> ?_⟩,by simpa using l3,by simpa using l4,h.lem,fun i hi=> ?_,fun i hi=> ?_⟩
 ·rw[No] at hy;split at hy
  ·rename_i e;cases hy;exact⟨hx,t,ht,by omega⟩
  ·exact h.Lx.ok i y hy
 ·rw[No] at hi ⊢;split at hi
  ·cases hi
  ·rename_i e;rw[if_neg (by omega)];exact h.sv.none_ i hi
 ·rw[No] at hy ⊢;split at hy
  ·rename_i e;cases hy;rw[if_pos (by omega)];exact⟨v,rfl,hv,hr⟩
  ·rename_i e;rw[if_neg (by omega)];exact h.sv.some_ i y hy
 ·rw[cE,No,cE];by_cases e:t.1.toNat=i
  ·rw[if_pos (by omega),if_pos (by omega)];simp only;rw[if_pos (by omega)]
  ·rw[if_neg (by omega),if_neg (by omega)];rw[h.d i hi];cases st.getD i none with
   |none=>rfl
   |some y=>simp only;rw[if_neg (by omega)]
 ·rw[cE];split
  ·omega
  ·exact h.b i hi
theorem Rel.empty {p:Int}{n:Nat}{st:List (Option (List Tm))}{dt:List Int}{sd:List (Option (List Int))}{by_:List Int}{em:List Bool}(h:Rel p n st dt sd by_ em){j:Nat}(hj:j<n):
  Rel p n st (if dt.getD j 0= -2 then dt.set j (-1) else dt) sd by_ (em.set j true):=by
 have l3:=h.YJ;have l5:=h.lem;refine⟨h.Lx,h.sv,by split<;>simpa using l3,h.lby,by simpa using l5,fun i hi=> ?_,h.b⟩;have hd:=h.d i hi;by_cases e:j=i
 ·subst e;have e5:(em.set j true).getD j false=true:=by rw[apy,if_pos ⟨rfl,by omega⟩]
  rw[e5];cases hs:st.getD j none with
  |some y=>rw[hs] at hd;have hb:=h.b j hi;simp only at hd ⊢;rw[if_neg (by omega)];exact hd
  |none=>
   rw[hs] at hd;simp only at hd ⊢;rw[cT];cases he:em.getD j false with
   |true=>rw[he,cT] at hd;rw[if_neg (by omega)];exact hd
   |false=>rw[he,cF] at hd;rw[if_pos hd,cE,if_pos (by omega)]
 ·have e5:(em.set j true).getD i false=em.getD i false:=by rw[apy,if_neg (by omega)]
  rw[e5, ←hd];split
  ·rw[cE,if_neg (by omega)]
  ·rfl
def yX (dt:List Int):Nat→Nat→List Tm
 |_,0=>[]
 |i,m+1=>if dt.getD i 0> -2 then ((i:Int),(dt.getD i 0,()))::yX dt (i+1) m else yX dt (i+1) m
theorem Np (dt:List Int):∀(m i:Nat),(yX dt i m).length≤m
 |0,i=>by simp[yX]
 |m+1,i=>by rw[yX];have:=Np dt m (i+1);split<;>simp<;>omega
theorem afP {dt:List Int}(hn:dt.length≤1024){w w2:Int}:∀(m i out:Nat) (bh:Uu) (l:List Tm),m+i=dt.length→ai bh out=some l→l.length≤i→
  ∃out' hp',bp out (dt.length:Int) i dt w w2 bh=some ((out',(w,(w2,()))),hp')∧ai hp' out'=some (l++yX dt i m):=by
 intro m;induction m with
 |zero=>intro i out bh l hi hg hl;rw[ln,ix,aq (by omega)];exact⟨out,bh,rfl,by rw[yX,List.append_nil];exact hg⟩
 |succ m ih=>
  intro i out bh l hi hg hl;rw[ln,ix,ax (by omega),fI (by omega) (by omega),qu (by omega),Int.toNat_natCast,yX,bM (by omega)];by_cases h:dt.getD i 0> -2
  ·rw[cX h,hg,bS,iT (by omega) (by omega),if_pos h];simp only;have hg':ai (dh bh out++[some (l++[((i:Int),(dt.getD i 0,()))])]) ((dh bh out).length+1)=some (l++[((i:Int),(dt.getD i 0,()))]):=by simp[ai]
   obtain⟨o',h',g1,g2⟩:=ih (i+1) _ _ _ (by omega) hg' (by simp;omega);refine⟨o',h',g1, ?_⟩;rw[g2,List.append_assoc];rfl
  ·rw[c5 h,if_neg h];exact ih (i+1) out bh l (by omega) hg (by omega)
end Go.Proofs.YtofjebmoebhiiaaGreatDoor.Ev
namespace Go.Abs
abbrev tP:Ty:= .st (.pair (.int .i64) (.pair (.int .i64) (.unit)))
theorem J8 {α:Type}{f:α→Option α}(h:∀y,f y=some y):∀ys:List α,lH f ys=some ys
 | []=>rfl
 |a::r=>by rw[lH,h a,J8 h r]
theorem Ho {ae:List aV}{hp:List (Option (List Tm))}(h3:ae[3]? =some ⟨58,tP,0,true,hp⟩){n:Nat}{l:List Tm}(hg:ai hp n=some l):typed ae (.slice tP) (.rv (.cv ⟨.ref 3,n⟩))=some l:=by
 unfold typed;simp only;unfold vh snap Gr;simp only;rw[h3];simp only;cases n with
 |zero=>
  have:l=[]:=by simpa [ai] using hg.symm
  subst this;rfl
 |succ k=>have hb:Nat.beq (k+1) 0=false:=rfl;rw[hb,hg];simp only[cond_false,Option.bind_some];rw[J8 (fun y=>by obtain⟨a,b,u⟩:=y;rfl)];rfl
end Go.Abs
namespace Go.Proofs.YtofjebmoebhiiaaGreatDoor.Ev
open Go.Abs Go.IntWalk
def rg:Nat→Nat→List (Int×Unit)
 |_,0=>[]
 |j,m+1=>((j:Int),())::rg (j+1) m
theorem aiJ {n:Nat}(hn:n≤1000000):∀(m j:Nat) (tr:List (Int×Unit)),m+j=n→dc n j tr=some (tr++rg j m):=by
 intro m;induction m with
 |zero=>intro j tr h;rw[ns,ju,aq (by omega),rg,List.append_nil]
 |succ m ih=>intro j tr h;rw[ns,ju,ax (by omega),bM (by omega),ih (j+1) _ (by omega),rg,List.append_assoc];rfl
theorem ana {p:Int}(hp:Pr p){n:Nat}(hn:n≤1024){aa:List Cl}(hc:aa.length=n){st:List (Option (List Tm))}(hst:Sto p n st){dt:List Int}(hdt:dt.length=n){j:Nat}(hj:j<n)(hx:Vc p n (cp aa j)){a w2:Int}(ha:0≤a)(hb:a+n≤1000000000){out:Nat}{bh:Uu}{rest:List (Int×Unit)}:
  ao out out st dt false p aa a w2 bh (((j:Int),())::rest)=WL j (jQ p st n (cp aa j) a).1 out st dt false p aa (jQ p st n (cp aa j) a).2 w2 bh rest:=by
 have hl:=hx.length (by omega);rw[ll,ir];simp only;rw[cF,fh gq (by omega)];have eb:(aa.getD j gq).2.2.1=cp aa j:=by rw[fV]
 rw[eb,aaJ (by omega),bS,Yr (by omega),bS];exact afN hp hn hst hdt hj n (cp aa j) a hx (fun t ht=>(hx.r t ht).1) ha hb
theorem anb {n:Nat}(hn:n≤1024){st:List (Option (List Tm))}{p:Int}{aa:List Cl}(hc:aa.length=n){bh:Uu}:∀(m i:Nat),m+i=n→
  cA 0 (n:Int) i st (List.replicate i (-2)++List.replicate m 0) false p aa 0 0 bh=ao 0 0 st (List.replicate n (-2)) false p aa 0 0 bh (rg 0 n):=by
 intro m;induction m with
 |zero=>
  intro i hi;have e0:((0:Nat):Int)=0:=rfl;have hw:=aiJ (n:=n) (by omega) n 0 [] (by omega);rw[e0,List.nil_append] at hw;have hi':i=n:=by omega
  subst hi';rw[lk,iq,aq (by omega),BO,vC,bS,zf,rZ];simp only;rw[hc,hw,bS,List.replicate_zero,List.append_nil]
 |succ m ih=>
  intro i hi;have hl:(List.replicate i (-2:Int)++List.replicate (m+1) 0).length=n:=by simp;omega
  rw[lk,iq,ax (by omega),fI (by omega) (by omega),Int.toNat_natCast,qu (by omega),bM (by omega)];have e:(List.replicate i (-2:Int)++List.replicate (m+1) 0).set i (-2)=List.replicate (i+1) (-2)++List.replicate m 0:=by rw[List.set_append_right _ _ (by simp)];simp only[List.length_replicate,Nat.sub_self,List.replicate_succ,List.set_cons_zero];rw[←List.replicate_succ,List.replicate_succ',List.append_assoc];rfl
  rw[e];exact ih (i+1) (by omega)
abbrev Gn:=List (List Int)
theorem pe {β:Type}{xs:Gn}{k:Nat}{f:List Int→Option β}(h:k<xs.length):(idx xs (k:Int)).bind f=f (xs.getD k []):=fh [] h
theorem ay {α:Type}{d:α}{l:List α}{k:Nat}(h:k<l.length):l.getD k d∈l:=by
 have:l.getD k d=l[k]:=by simp[List.getD,h]
 rw[this];exact List.getElem_mem _
def Sx (n:Nat)(l:Gn):Prop:=l.length≤n∧∀s∈l,s.length≤4
theorem Sx.getD {n:Nat}{l:Gn}(h:Sx n l){k:Nat}(hk:k<l.length):(l.getD k []).length≤4:=h.2 _ (ay hk)
theorem WM {n:Nat}(h:n≤4):shl .i64 1 (n:Int)=((2^n:Nat):Int)∧2^n≤16:=by
 have:n=0∨n=1∨n=2∨n=3∨n=4:=by omega
 rcases this with rfl |rfl |rfl |rfl |rfl<;>exact⟨rfl,by decide⟩
end Go.Proofs.YtofjebmoebhiiaaGreatDoor.Ev
namespace Go.Abs
abbrev Ce:=List Int×ByteArray×Unit
abbrev fW:Ce:=([],(ByteArray.empty,()))
abbrev Pj:=Nat×ByteArray×Unit
abbrev afQ:Pj:=(0,(ByteArray.empty,()))
abbrev tCe:Ty:= .st (.pair (.slice (.int .i64)) (.pair (.str) (.unit)))
abbrev anc:Ty:= .st (.pair (.ref 4) (.pair (.str) (.unit)))
theorem Ej {α:Type}{xs ys:List (Option (List α))}{n:Nat}{l:List α}(h:ai xs n=some l):ai (xs++ys) n=some l:=by
 cases n with
 |zero=>exact h
 |succ m=>
  simp only[ai] at h ⊢;cases hx:xs[m]? with
  |none=>rw[hx] at h;cases h
  |some o=>rw[hx] at h;rw[List.getElem?_append_left (List.getElem?_eq_some_iff.1 hx).1,hx];exact h
theorem mh {α:Type}{xs:List (Option (List α))}{l:List α}:ai (xs++[some l]) (xs.length+1)=some l:=by simp[ai]
theorem acy {α:Type}{xs:List (Option (List α))}{y:Option (List α)}:dh (xs++[y]) (xs.length+1)=xs++[none]:=by simp[dh]
theorem akM {α:Type}{xs:List (Option (List α))}{n:Nat}{l:List α}(h:ai xs n=some l)(hn:n≠0):∃m,n=m+1∧m<xs.length:=by
 cases n with
 |zero=>exact absurd rfl hn
 |succ m=>
  simp only[ai] at h;cases hx:xs[m]? with
  |none=>rw[hx] at h;cases h
  |some o=>exact⟨m,rfl,(List.getElem?_eq_some_iff.1 hx).1⟩
theorem j7 {α:Type}{xs:List (Option (List α))}{n:Nat}{l l':List α}(h:ai xs n=some l)(hn:n≠0):ai (ik xs n l') n=some l':=by obtain⟨m,rfl,hm⟩:=akM h hn;simp[ai,ik,hm]
theorem Yw {α:Type}{xs:List (Option (List α))}{n:Nat}{l:List α}(h:ai xs n=some l)(hl:l≠ []):n≠0:=fun e=>by subst e;simp only[ai,Option.some.injEq] at h;exact hl h.symm
theorem zO {α β:Type}{f:α→Option β}{g:α→β}:∀ys:List α,(∀y∈ys,f y=some (g y))→lH f ys=some (ys.map g)
 | [],_=>rfl
 |a::r,h=>by rw[lH,h a (by simp),zO r fun y hy=>h y (by simp[hy])];rfl
theorem WN {ae:List aV}{hp:List (Option (List Int))}(h4:ae[4]? =some ⟨3, .int .i64,0,true,hp⟩){n:Nat}{l:List Int}(hg:ai hp n=some l)(r:List CV):snap ae (.slice (.int .i64)) (⟨.ref 4,n⟩::r)=some (l,r):=by
 unfold snap Gr;simp only;rw[h4];simp only;cases n with
 |zero=>
  have:l=[]:=by simpa [ai] using hg.symm
  subst this;rfl
 |succ k=>have hb:Nat.beq (k+1) 0=false:=rfl;rw[hb,hg];simp only[cond_false,Option.bind_some];rw[J8 (fun y=>by rfl)];rfl
theorem Uv {ae:List aV}{hp:List (Option (List Int))}(h4:ae[4]? =some ⟨3, .int .i64,0,true,hp⟩){n:Nat}{l:List Int}(hg:ai hp n=some l):typed ae (.slice (.int .i64)) (.rv (.cv ⟨.ref 4,n⟩))=some l:=by unfold typed;simp only;unfold vh;rw[WN h4 hg]
theorem acz {ae:List aV}{aF:List (Option (List Int))}{kD:List (Option (List Pj))}(h4:ae[4]? =some ⟨3, .int .i64,0,true,aF⟩)(h8:ae[8]? =some ⟨101,anc,0,true,kD⟩){n:Nat}{rows:List Pj}(hg:ai kD n=some rows)
  (hr:∀x∈rows,∃s,ai aF x.1=some s):typed ae (.slice tCe) (.rv (.cv ⟨.ref 8,n⟩))=some (rows.map fun x=>((ai aF x.1).getD [],(x.2.1,()))):=by
 unfold typed;simp only;unfold vh snap Gr;simp only;rw[h8];simp only;cases n with
 |zero=>
  have:rows=[]:=by simpa [ai] using hg.symm
  subst this;rfl
 |succ k=>
  have hb:Nat.beq (k+1) 0=false:=rfl;rw[hb,hg];simp only[cond_false,Option.bind_some];rw[zO (g:=fun x:Pj=>((ai aF x.1).getD [],(x.2.1,()))) rows (fun y hy=>by
   obtain⟨s,hs⟩:=hr y hy;obtain⟨a,b,u⟩:=y;have e:snap ae tCe (flat anc ((a,(b,u)):Pj))=some ((s,(b,())),[]):=by have e0:flat anc ((a,(b,u)):Pj)=[⟨.ref 4,a⟩,⟨.str,b⟩]:=rfl;rw[e0,snap,snap,WN h4 hs];rfl
   rw[e,hs];rfl)]
  rfl
end Go.Abs
namespace Go.Proofs.YtofjebmoebhiiaaGreatDoor.Ev
open Go.Abs Go.IntWalk
theorem aaK:((List.range 24).all fun i=>match xx 400 ((i:Int) - 8) 4 with
  |some s=>wQ s&&Nat.ble s.size 20
  |none=>false)=true:=by kernel_rfl
def At (s:ByteArray):Prop:=wQ s=true∧s.size≤20
theorem aaL (n:Int):∃s,rA n=some s∧At s:=by
 have h1:=Int.tmod_lt_of_pos n (show (0:Int)<24 by omega);have h2:=Int.lt_tmod_of_pos n (show (0:Int)<24 by omega);rw[K4,Cu];rw[i64_in (n.tmod 24+24) (by omega),bA (by omega)];have h3:=Int.emod_nonneg (n.tmod 24+24) (show (24:Int)≠0 by omega);have h4:=Int.emod_lt_of_pos (n.tmod 24+24) (show (0:Int)<24 by omega);rw[i64_in _ (by omega)];obtain⟨i,hi⟩:=Int.eq_ofNat_of_zero_le h3;rw[hi];have ht:=List.all_eq_true.1 aaK i (List.mem_range.2 (by omega));rw[Hi] at ht;cases hf:gg ((i:Int) - 8) 4 with
 |none=>rw[hf] at ht;cases ht
 |some s=>rw[hf] at ht;simp only[Bool.and_eq_true] at ht;exact⟨s,by rw[bS],ht.1,Nat.le_of_ble_eq_true ht.2⟩
def Cs (l:List Ce):Prop:=l.length≤800∧∀x∈l,x.1.length≤4∧At x.2.1
def Cr (aF:List (Option (List Int)))(rows:List Pj):Prop:=∀x∈rows,(∃s,ai aF x.1=some s∧s.length≤4)∧At x.2.1
theorem Cr.append {aF ys:List (Option (List Int))}{rows:List Pj}(h:Cr aF rows):Cr (aF++ys) rows:=fun x hx=>by obtain⟨⟨s,h1,h2⟩,h3⟩:=h x hx;exact⟨⟨s,Ej h1,h2⟩,h3⟩
theorem Cr.set {aF:List (Option (List Int))}{rows:List Pj}(h:Cr aF rows){x:Pj}(hx:(∃s,ai aF x.1=some s∧s.length≤4)∧At x.2.1)(k:Nat):Cr aF (rows.set k x):=fun y hy=>by
 rcases List.mem_or_eq_of_mem_set hy with hy |rfl
 ·exact h y hy
 ·exact hx
def Ats (n:Nat)(l:List ByteArray):Prop:=l.length=n∧∀s∈l,At s
theorem adT {β:Type}{xs:List ByteArray}{k:Nat}{f:ByteArray→Option β}(h:k<xs.length):(idx xs (k:Int)).bind f=f (xs.getD k ByteArray.empty):=fh _ h
theorem Cs.nil:Cs []:=⟨by simp,fun x hx=>by cases hx⟩
theorem J9 {β:Type}{xs:List Ce}{k:Nat}{f:Ce→Option β}(h:k<xs.length):(idx xs (k:Int)).bind f=f (xs.getD k fW):=fh fW h
end Go.Proofs.YtofjebmoebhiiaaGreatDoor.Ev
namespace Go.Abs
abbrev tTm:Ty:= .st (.pair (.int .i64) (.pair (.int .i64) .unit))
abbrev tCl:Ty:= .st (.pair (.int .i64) (.pair (.str) (.pair (.slice tTm) (.unit))))
abbrev tCh:Ty:= .st (.pair (.int .i64) (.pair (.slice tCl) (.unit)))
theorem akO (ae:List aV)(y:Cl):snap ae tCl (flat tCl y)=some (y,[]):=by obtain⟨a,b,c,u⟩:=y;rfl
theorem Nq {ae:List aV}{hp:List (Option (List Cl))}(h0:ae[0]? =some ⟨42,tCl,0,true,hp⟩){p:Int}{n:Nat}{l:List Cl}(hg:ai hp n=some l):
  typed ae tCh (.rv (.agg [⟨.int .i64,p⟩,⟨.ref 0,n⟩]))=some (p,(l,())):=by
 unfold typed;simp only;have e:snap ae (.slice tCl) [⟨.ref 0,n⟩]=some (l,[]):=by
  unfold snap Gr;simp only;rw[h0];simp only;cases n with
  |zero=>
   have:l=[]:=by simpa [ai] using hg.symm
   subst this;rfl
  |succ k=>have hb:Nat.beq (k+1) 0=false:=rfl;rw[hb,hg];simp only[cond_false,Option.bind_some];rw[zO (g:=fun x:Cl=>x) l (fun y _=>by rw[akO])];simp
 unfold vh;rw[show snap ae (.pair (.int .i64) (.pair (.slice tCl) (.unit))) [⟨.int .i64,p⟩,⟨.ref 0,n⟩]=some ((p,(l,())),[]) from by
  unfold snap;rw[show snap ae (.int .i64) [⟨.int .i64,p⟩,⟨.ref 0,n⟩]=some (p,[⟨.ref 0,n⟩]) from rfl];simp only;unfold snap;rw[e];rfl]
theorem Uw {p:Int}{n:Nat}{v:List Int}(hv:v.length≤n)(hr:Rs p v):Vc p n (Nk 0 v):=⟨acu v 0 (-1) (by omega),fun t ht=>by
 obtain⟨h1,h2,h3,h4⟩:=Yt ht;obtain⟨k,hk,he⟩:=List.getElem_of_mem h3;have:=hr k;simp only[List.getD,List.getElem?_eq_getElem hk,Option.getD_some] at this;omega⟩
theorem Rs.rep {p:Int}(hp:0<p)(n:Nat):Rs p (List.replicate n 0):=fun j=>by rw[OZ];omega
end Go.Abs
namespace Go.Proofs.YtofjebmoebhiiaaGreatDoor.Ev
open Go.Abs Go.IntWalk
def Gd (p:Int)(aa:List Cl)(n:Nat):Prop:=∀x∈aa,At x.2.1∧Vc p n x.2.2.1
theorem Gd.set {p:Int}{aa:List Cl}{n:Nat}(h:Gd p aa n){x:Cl}(hx:At x.2.1∧Vc p n x.2.2.1)(k:Nat):Gd p (aa.set k x) n:=fun y hy=>by
 rcases List.mem_or_eq_of_mem_set hy with hy |rfl
 ·exact h y hy
 ·exact hx
def Go1 (p:Int)(aa:List Cl):Prop:=aa.length≤30∧(aa=[]∨Pr p)∧Gd p aa aa.length
theorem Vq {v:Nat}{aF:List (Option (List Int))}{l:List Int}(hg:ai aF v=some l)(hl:l.length≤1000000):∀(m i:Nat) (out:List Tm),m+i=l.length→out.length≤i→bX v i out aF=some (out++Nk i (l.drop i)):=by
 intro m;induction m with
 |zero=>intro i out hi ho;rw[kv,gN,hg,bS,aq (by omega),List.drop_eq_nil_of_le (by omega),Nk,List.append_nil]
 |succ m ih=>
  intro i out hi ho;have g:l[(i:Int).toNat]? =some (l.getD i 0):=by rw[Int.toNat_natCast];simp[List.getD,show i<l.length by omega]
  have hb:∀{β:Type} {f:Int→Option β},(idx l (i:Int)).bind f=f (l.getD i 0):=fh 0 (by omega);rw[kv,gN,hg,bS,ax (by omega),bS,hb,bS,g,bS,drop_eq (by omega),Nk,bM (by omega)];by_cases h:l.getD i 0=0
  ·rw[nP h,ih (i+1) out (by omega) (by omega),if_neg (by omega)]
  ·rw[F7 h,bS,hb,bS,g,bS,iT (by omega) (by omega),if_pos h];simp only;rw[ih (i+1) _ (by omega) (by simp;omega),List.append_assoc];rfl
theorem Ka {v:Nat}{aF:List (Option (List Int))}{l:List Int}(hg:ai aF v=some l)(hl:l.length≤1000000):aU v aF=some (Nk 0 l):=by rw[uS,oV];have:=Vq hg hl l.length 0 [] (by omega) (by simp);simpa using this
theorem aiK (n:Int):∃p,rm n=some p∧Pr p:=by
 have h1:=Int.tmod_lt_of_pos n (show (0:Int)<6 by omega);have h2:=Int.lt_tmod_of_pos n (show (0:Int)<6 by omega);rw[Lb,CC];rw[i64_in (n.tmod 6+6) (by omega),bA (by omega)];have h3:=Int.emod_nonneg (n.tmod 6+6) (show (6:Int)≠0 by omega);have h4:=Int.emod_lt_of_pos (n.tmod 6+6) (show (0:Int)<6 by omega);obtain⟨i,hi⟩:=Int.eq_ofNat_of_zero_le h3;rw[hi] at h4 ⊢;have h5:i<6:=by omega
 match i,h5 with
 |0,_=>exact⟨2,rfl,by decide⟩
 |1,_=>exact⟨3,rfl,by decide⟩
 |2,_=>exact⟨5,rfl,by decide⟩
 |3,_=>exact⟨2,rfl,by decide⟩
 |4,_=>exact⟨251,rfl,by decide+kernel⟩
 |5,_=>exact⟨7,rfl,by decide⟩
theorem apA {k p:Int}(hk:0≤k)(hp:2≤p∧p≤251):IntKind.wrap .i64 (k.tmod 2*IntKind.wrap .i64 (p - 2))=(k % 2)*(p - 2)∧0≤(k % 2)*(p - 2)∧(k % 2)*(p - 2)≤251:=by
 have h1:=Int.emod_nonneg k (show (2:Int)≠0 by omega);have h2:=Int.emod_lt_of_pos k (show (0:Int)<2 by omega);have e:k.tmod 2=k % 2:=bA (by omega);rw[e,i64_in (p - 2) (by omega)];rcases (show k % 2=0∨k % 2=1 by omega) with h |h
 ·rw[h,Int.zero_mul];exact⟨by rw[i64_in _ (by omega)],by omega,by omega⟩
 ·rw[h,Int.one_mul];exact⟨by rw[i64_in _ (by omega)],by omega,by omega⟩
theorem Rv {β:Type}{xs:List Cl}{k:Nat}{f:Cl→Option β}(h:k<xs.length):(idx xs (k:Int)).bind f=f (xs.getD k gq):=fh gq h
theorem alO {xs:List Cl}{k:Nat}(h:k<xs.length):xs[(k:Int).toNat]? =some (xs.getD k gq):=by rw[Int.toNat_natCast];simp[List.getD,h]
theorem Kb {β:Type}{xs:List Int}{k:Nat}{f:Int→Option β}(h:k<xs.length):(idx xs (k:Int)).bind f=f (xs.getD k 0):=fh 0 h
theorem WO {xs:List Int}{k:Nat}(h:k<xs.length):xs[(k:Int).toNat]? =some (xs.getD k 0):=by rw[Int.toNat_natCast];simp[List.getD,h]
theorem Vs {p:Int}{aa:List Cl}(hl:aa.length≤30)(hb:∀x∈aa,x.2.2.1.length≤1000){t:Int}{t2:Nat}:∀(q i ak:Nat) (lC:List (Option (List Cl))) (r:List Cl),q+i=aa.length→ai lC ak=some r→r=aa.take i→
  ∃Rw aaM,fw i p aa t t2 p ak lC=some ((p,(Rw,())),aaM)∧ai aaM Rw=some aa:=by
 intro q;induction q with
 |zero=>intro i ak lC r hi hg hr;rw[uP,oS,aq (by omega)];refine⟨ak,lC,rfl, ?_⟩;rw[hg,hr,List.take_of_length_le (by omega)]
 |succ q ih=>
  intro i ak lC r hi hg hr;have hm:=hb _ (ay (d:=gq) (show i<aa.length by omega));rw[uP,oS,ax (by omega),Rv (by omega),iT (by omega) (by omega)];simp only;rw[hg,bS,iT (by omega) (by rw[hr];simp;omega),bM (by omega)];refine ih (i+1) _ _ _ (by omega) mh ?_;rw[hr,List.take_add_one]
  congr 1
  simp[List.getD,show i<aa.length by omega]
theorem aaN {p:Int}{aa:List Cl}(hl:aa.length≤30)(hb:∀x∈aa,x.2.2.1.length≤1000):∃Rw aaM,ql (p,(aa,())) []=some ((p,(Rw,())),aaM)∧ai aaM Rw=some aa:=by rw[Jx,AW];exact Vs hl hb aa.length 0 0 [] [] (by omega) rfl (by simp)
theorem aaO {x:List Tm}{n:Nat}(hl:x.length≤1000000000)(hx:∀t∈x,0≤t.1∧t.1<n){out:Nat}(ho0:out≠0):∀(m i:Nat) (aF:List (Option (List Int))) (l:List Int),m+i=x.length→ai aF out=some l→l.length=n→
  ∃Bq,dq x out i aF=some (out,Bq)∧ai Bq out=some (mI l (x.drop i)):=by
 intro m;induction m with
 |zero=>intro i aF l hi hg ho;rw[qp,kt,aq (by omega),List.drop_eq_nil_of_le (by omega)];exact⟨aF,rfl,hg⟩
 |succ m ih=>intro i aF l hi hg ho;have hb:∀{β:Type} {f:Tm→Option β},(idx x (i:Int)).bind f=f (x.getD i th):=fh th (by omega);have hr:=hx _ (ay (d:=th) (show i<x.length by omega));rw[qp,kt,ax (by omega),hb,hb,hg,bS,fI (by omega) (by omega),bS,qu (by omega),bM (by omega),ef th (show i<x.length by omega),mI];exact ih (i+1) _ _ (by omega) (j7 hg ho0) (by rw[List.length_set];exact ho)
theorem afR {a b:Int}{A B:Int}(ha:0≤a∧a≤A)(hb:0≤b∧b≤B):0≤a*b∧a*b≤A*B:=⟨Int.mul_nonneg ha.1 hb.1,Int.mul_le_mul ha.2 hb.2 hb.1 (by omega)⟩
theorem vt1 {x c:Int}(hc:1≤c∧c≤1000):0≤(IntKind.wrap .i64 (x.tmod c+c)).tmod c∧(IntKind.wrap .i64 (x.tmod c+c)).tmod c<c:=by have h1:=Int.tmod_lt_of_pos x (show 0<c by omega);have h2:=Int.lt_tmod_of_pos x (show 0<c by omega);rw[i64_in _ (by omega),bA (by omega)];exact⟨Int.emod_nonneg _ (by omega),Int.emod_lt_of_pos _ (by omega)⟩
theorem Go1.sz {p:Int}{aa:List Cl}(h:Go1 p aa):Sz aa:=⟨fun j=>by
 by_cases hj:j<aa.length
 ·have:=(h.2.2 _ (ay (d:=gq) hj)).1.2;unfold mG;omega
 ·have:aa.getD j gq=gq:=by simp[List.getD,List.getElem?_eq_none (show aa.length≤j by omega)]
  unfold mG;rw[this];decide,fun j=>by
 by_cases hj:j<aa.length
 ·have h1:=(h.2.2 _ (ay (d:=gq) hj)).2.length (by omega);have:=h.1;omega
 ·have:aa.getD j gq=gq:=by simp[List.getD,List.getElem?_eq_none (show aa.length≤j by omega)]
  rw[this];simp⟩
theorem aiL:jS=some true:=(Lv 300).symm.trans (by kernel_rfl)
end Go.Proofs.YtofjebmoebhiiaaGreatDoor.Ev
namespace Go.Abs
abbrev acA:Ty:= .st (.pair (.slice (.slice (.int .i64))) (.pair (.slice (.int .i64)) (.pair (.int .i64) (.pair (.slice (.int .i64)) .unit))))
end Go.Abs
namespace Go.Proofs.YtofjebmoebhiiaaGreatDoor.Ev
open Go.Abs
theorem afS {l:List (List Int)}{v t:List Int}{f:Int}(h:Bnd acA (l,(v,(f,(t,()))))):l.length≤1000000000000000000∧(∀s∈l,s.length≤1000000000000000000)∧v.length≤1000000000000000000∧t.length≤1000000000000000000:=by obtain⟨⟨h1,h2⟩,⟨h3,_⟩,_,⟨h4,_⟩,_⟩:=h;refine⟨Nat.le_trans h1 (by decide),fun s hs=>Nat.le_trans (h2 s hs).1 (by decide),Nat.le_trans h3 (by decide),Nat.le_trans h4 (by decide)⟩
open Go.Abs Go.IntWalk
def RT (n d:Int):ByteArray:=if d=1 then fM n else (fM n++bs [47])++fM d
def aiM (s:ByteArray):ByteArray:=RT (-(lb s).1) (lb s).2
theorem aiN {z:Int}(h:nd z≤1000):(fM z).size≤1001:=Nat.le_trans (Ef z) (by omega)
theorem adU:(bs [47]).size=1:=rfl
theorem cbl {a b:Nat}{α:Type}{x y:α}(h:a≤b):(bif Nat.ble a b then x else y)=x:=by rw[Nat.ble_eq_true_of_le h];rfl
theorem anf {n d:Int}(hn:nd n≤1000):pj (WR n d)=some (WR (-n) d):=by have l1:=Eh n;rw[Fs,Aa];simp only[wM];rw[Ql (by omega),bS]
theorem akP {n d:Int}(hn:nd n≤1000)(hd:nd d≤1000)(h0:0<d):nc (WR n d)=some (RT n d):=by
 have l1:=Eh n;have l2:=Eh d;have l3:=afF;have s1:=aiN hn;have s2:=aiN hd;rw[DG,xZ];simp only[wM];rw[acn h0,bS,afE,bS];simp only[wM];rw[j5 (by omega) (by omega),bS,Ed (by omega),RT];by_cases e:d=1
 ·subst e;rw[if_pos rfl,nP (wL rfl),bS]
 ·have hc:mK d 1≠0:=by unfold mK;split<;>(try split)<;>omega
  rw[if_neg e,F7 hc,bS,cbl (by rw[adU];omega),Ed (by omega),bS,cbl (by rw[ByteArray.size_append,adU];omega)]
theorem adV {s:ByteArray}{n d:Int}(h:Rt s n d):aiM s=RT (-n) d:=by unfold aiM;rw[h.val]
theorem aiO:∀{a b:List Int},(∀x∈a,x≠47)→fs (a++47::b)=some a.length
 | [],b,_=>by rw[List.nil_append,fs,if_pos rfl];rfl
 |x::r,b,h=>by rw[List.cons_append,fs,if_neg (h x List.mem_cons_self),aiO fun y hy=>h y (List.mem_cons_of_mem _ hy)];rfl
theorem aiP:∀A B:List Int,(A++47::B).drop (A.length+1)=B
 | [],B=>rfl
 |x::A,B=>aiP A B
theorem ang {z:Int}:∀x∈bytesOf (fM z),x≠47:=fun x hx=>by
 rw[dD] at hx;unfold rf at hx;rcases List.mem_append.1 hx with hx |hx
 ·split at hx
  ·simp at hx;omega
  ·cases hx
 ·have:=o7 _ x hx;omega
theorem apB {n d:Int}(hn:n≠0)(hd:2≤d)(hg:Int.gcd n d=1):Rt (RT n d) n d:=by
 have e:bytesOf (RT n d)=bytesOf (fM n)++47::bytesOf (fM d):=by unfold RT;rw[if_neg (by omega),J1,J1,aps,List.append_assoc];rfl
 have hl:(bytesOf (fM n)).length=(bytesOf (fM n)).length:=rfl;refine Rt.aaw (k:=(bytesOf (fM n)).length) (by rw[e];exact aiO ang) ?_ ?_ hn hd hg
 ·apply me;rw[lG,List.drop_zero,e,List.take_left]
 ·apply me;rw[lG, ←aS,List.take_length,e];exact aiP _ _
theorem Rt.opp {s:ByteArray}{n d:Int}(h:Rt s n d):Rt (aiM s) (-n) d:=by
 rw[adV h];cases h with
 |whole=>unfold RT;rw[if_pos rfl];exact Rt.whole _
 |aaw hk h1 h2 hn hd hg=>exact apB (by omega) hd (by rw[Int.neg_gcd];exact hg)
end Go.Proofs.YtofjebmoebhiiaaGreatDoor.Ev
