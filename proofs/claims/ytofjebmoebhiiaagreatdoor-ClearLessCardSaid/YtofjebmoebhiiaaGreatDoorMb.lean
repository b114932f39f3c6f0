/- YtofjebmoebhiiaaGreatDoorMb: a part of the proof (AbsO6, AbsO7, AbsO8 ..). No condition. -/
import Derived.Test.YtofjebmoebhiiaaGreatDoorMa
import Derived.OrdersIn
set_option linter.unusedVariables false
set_option linter.unusedSimpArgs false
set_option maxRecDepth 100000
set_option exponentiation.threshold 2000
namespace Go.Abs
open Go.RowKit Go.Lib
section
variable {P:Program}{T:cG}{E:Env}{σ ag:AS}{a:Act}{w w':World}{ν aK:Nm→Value}{O:Nat→Prop}{Φ:bN T}{V:View}{Y:Value}
theorem made_eq (z:Array Value)(n:Nat):madeCells z (n*z.size)=((List.replicate n z.toList).flatten).toArray:=by
 apply Array.ext
 ·simp[madeCells]
 ·intro i h1 h2;have h3:i<n*z.size:=by simpa [madeCells] using h1
  have hz:0<z.size:=by
   rcases Nat.eq_zero_or_pos z.size with h |h
   ·rw[h] at h3;omega
   ·exact h
  have hm:i % z.size<z.size:=Nat.mod_lt _ hz;have key:∀(n i:Nat),i<n*z.size→(List.replicate n z.toList).flatten[i]? =some (z[i % z.size]'(Nat.mod_lt _ hz)):=by
   intro n;induction n with
   |zero=>intro i hi;omega
   |succ n ih=>
    intro i hi;rw[List.replicate_succ,List.flatten_cons];by_cases hlt:i<z.size
    ·rw[List.getElem?_append_left (by simpa using hlt)];simp[hlt,Nat.mod_eq_of_lt hlt]
    ·rw[List.getElem?_append_right (by simpa using Nat.not_lt.1 hlt)];rw[Nat.succ_mul] at hi;have:=ih (i - z.size) (by omega);simp only[Array.length_toList];rw[this]
     congr 2
     conv=>rhs;rw[←Nat.sub_add_cancel (Nat.not_lt.1 hlt)]
     simp
  have:=key n i h3;have h4:madeCells z (n*z.size)=(Array.range (n*z.size)).map (z[· % z.size]!):=rfl;simp only[h4,Array.getElem_map,Array.getElem_range,List.getElem_toArray];have h5:i<(List.replicate n z.toList).flatten.length:=by simpa using h2
  rw[List.getElem?_eq_getElem h5] at this;rw[Option.some.inj this];simp[hm]
theorem VO {V:View}{t:Ty}{av:Operand→AV}(qk:∀x,aj V σ ν Y (av x) (a.eval x)):∀(parts:List (Nat×Operand)) (xs xs':List t.den) (br:List (List Value)),
  elems av t parts xs=some xs'→aC (Rel V t) xs br→
  ∃S0,Instr.fill (fun i=>some (i*t.size,t.size)) br.flatten.toArray (parts.map fun(i,x)=>(i,a.eval x))=some S0.flatten.toArray∧aC (Rel V t) xs' S0
 | [],xs,xs',br,h,hr=>by simp only[elems,Option.some.injEq] at h;subst h;exact⟨br,rfl,hr⟩
 | (i,x)::parts,xs,xs',br,h,hr=>by
   simp only[elems] at h;split at h
   ·rename_i v hv;cases hb:Nat.blt i xs.length with
    |false=>simp[hb] at h
    |true=>
     simp only[hb,cond_true] at h;have hlt:i+1≤xs.length:=Nat.le_of_ble_eq_true hb;have hvr:=(GB hv (qk x)).cells;have hvl:=Rel.length hvr;obtain⟨ys,hy1,hy2,hy3⟩:=BC hr i (xs[i]'(by omega)) (List.getElem?_eq_getElem (by omega));have hyl:=Rel.length hy2;have hsp:=BG (br:=br) i ys (a.eval x).cells.toList 0 (GD hr) hy1 (by rw[hvl];omega);rw[hvl] at hsp;simp only[Nat.zero_add,List.take_zero,List.nil_append,Nat.add_zero] at hsp;have hd:ys.drop t.size=[]:=List.drop_eq_nil_of_le (by omega);rw[hd,List.append_nil] at hsp;obtain⟨S0,h1,h2⟩:=VO qk parts (xs.set i v) xs' (br.set i (a.eval x).cells.toList) h (hr.set hvr);refine⟨S0, ?_,h2⟩;have hsz:(a.eval x).cells.size=t.size:=by simpa using hvl
     have Ph:=fN hr;have hmul:i*t.size+t.size≤xs.length*t.size:=by rw[←Nat.succ_mul];exact Nat.mul_le_mul_right _ hlt
     simp only[List.map_cons,Instr.fill];rw[if_neg (by simp[hsz,Ph];omega)];have hfo:=IY (a.eval x).cells.toList 0 (i*t.size) br.flatten.toArray (by simp[Ph,hsz];omega);have e:((a.eval x).cells.zipIdx.foldl (fun cs (p:Value×Nat)=>cs.setIfInBounds (i*t.size+p.2) p.1) br.flatten.toArray)=(br.set i (a.eval x).cells.toList).flatten.toArray:=by apply Array.ext';rw[←Array.foldl_toList,Array.toList_zipIdx];rw[hsp];simpa [hsz] using hfo
     rw[←h1]
     congr 1
   ·cases h
theorem NV {t:Ty}{av:Operand→AV}:∀(parts:List (Nat×Operand)) (xs xs':List t.den),elems av t parts xs=some xs'→xs'.length=xs.length
 | [],xs,xs',h=>by simp only[elems,Option.some.injEq] at h;rw[h]
 | (i,x)::parts,xs,xs',h=>by
   simp only[elems] at h;split at h
   ·cases hb:Nat.blt i xs.length with
    |false=>simp[hb] at h
    |true=>simp only[hb,cond_true] at h;rw[NV parts _ xs' h];simp
   ·cases h
theorem PC {V:View}{t:Ty}{zs:List Value}(h:Rel V t t.zero zs)(n:Nat):aC (Rel V t) (List.replicate n t.zero) (List.replicate n zs):=aC.replicate h n
theorem QF {w:World}{B:Nat}{e:TypeId}{size n cap:Nat}{cs:Array Value}{xs:List Value}(hB:B≤w.heap.size)(hn:n≤cap)(hm:cap≤maxLen)(hs:cs.size=cap*size)(hx:cs.toList.take (n*size)=xs)(hl:xs.length=n*size):
  (w.alloc (.cells cs e)).ownsRow B e size (.slice (some ⟨w.heap.size,0,none⟩) n cap) n xs:=
 ⟨hl, .inr ⟨w.heap.size,cap,cs,rfl,hB,heap_alloc_new w _,hn,hm,hs,hx⟩⟩
theorem Below.S3 {w:World}{o:Go.Obj}:Below w.heap.size w (w.alloc o):=⟨rfl,rfl,rfl,by simp,fun k hk=>heap_alloc_old w _ k hk⟩
theorem NW (hE:aE E)(h:St E σ a w ν O){i n1:Nat}{hr:aV}{l':List hr.t.den}{v0:Value}{C:Nat→Prop}(hh:σ.ae[i]? =some hr)(hn1:n1≤hr.xs.length)(hC:∀k,C k→Own σ ν (.hp i n1) k)(hg:Grow C w w')
  (hblk:∀k,cR v0=some k→Own σ ν (.hp i n1) k∨(w.heap.size≤k∧k<w'.heap.size)) (hv0:∃g n c,v0= .slice (some ⟨g,0,none⟩) n c) (cr:∀V',(∀key v,view E σ ν O w key v→V' key v)→jf V' w' v0 ⟨hr.e,hr.t,l'⟩)
  {r:cn} (he:(xB (T:=T) i hr (dh hr.xs n1) l').val Φ σ=some r):
  ∃us n,r=(.rv (.cv ⟨.ref i,n⟩), .mI us)∧∃aK,St E (σ.app us) a w' aK O∧bJ (view E (σ.app us) aK O w') ⟨.ref i,n⟩ v0:=by
 unfold xB at he;rw[aB,gD] at he;obtain⟨hc,rfl⟩:=he;simp only[Bool.and_eq_true,beq_iff] at hc;obtain⟨hw,hk⟩:=hc;have Xi:agy v0:=by obtain⟨g,n,c,e⟩:=hv0;exact⟨_,_,_,e⟩
 obtain⟨h1,h2⟩:=h.ali hE (n1:=n1) (l':=l') hh hw hn1 hC hg hblk (.inl ⟨hk,hv0⟩) (fun V' hV=>by rw[hk];exact⟨Xi,cr V' hV⟩);rw[nS];exact⟨_,_,rfl,_,h1,ajQ (by omega) Xi h2⟩
theorem Xt (hE:aE E)(h:St E σ a w ν O){d:Option Tmp}{row:Row}{v':Value}(hg:Below w.heap.size w w')(E6:∀k,cR v'=some k→w.heap.size≤k∧k<w'.heap.size)
  (cr:∀V',(∀key v,view E σ ν O w key v→V' key v)→jf V' w' v' row) {r:cn} (he:(newRow (T:=T) d row).val Φ σ=some r):
  ∃q us,r=(.rv (.own q), .mI us)∧∃aK,St E (σ.app us) a w' aK O∧rO (view E (σ.app us) aK O w') (σ.app us) aK (.own q) v':=by
 unfold newRow at he;split at he
 ·rename_i d;rw[xE,gD] at he;obtain⟨hd,rfl⟩:=he;refine⟨_,_,rfl,_,h.newRow hE (row':=row) hd hg E6 (fun hV=>cr _ hV), ?_, ?_⟩
  ·rw[mY]
  ·show (look (put _ _ _) _).isSome=true;rw[aD,if_pos rfl];rfl
 ·cases he
theorem Zd {o:Oper}{t:TypeId}{l cc:Operand}(ho:o.op= .makeSlice t l cc){e:TypeId}{i:TypeInfo}{z:Value}{size bytes:Nat}(hu:P.underlying t=some (.slice e))(i1:P.info? e=some i)(i4:i.zero=some z)(i2:i.size=size)
  (hzs:z.cells.size=size) (i3:i.bytes=bytes) (hb:0<bytes) {k k':IntKind} {n m:Int} (el:a.eval l= .int k n) (ec:a.eval cc= .int k' m) (hok:je bytes n m=true):
  (execOp a.eval o).run P w= .ok (.value (.slice (some ⟨w.heap.size,0,none⟩) n.toNat m.toNat)) (w.alloc (.cells (List.replicate m.toNat z.cells.toList).flatten.toArray e))∧
  (w.alloc (.cells (List.replicate m.toNat z.cells.toList).flatten.toArray e)).ownsRow 0 e size (.slice (some ⟨w.heap.size,0,none⟩) n.toNat m.toNat) n.toNat (List.replicate n.toNat z.cells.toList).flatten:=by
 simp only[je,Bool.and_eq_true,decide_eq_true_eq] at hok;obtain⟨⟨h0,h1⟩,h2⟩:=hok;have hm0:0≤m:=Int.le_trans h0 h1;have hmb:m≤(bytes:Int)*m:=by have:1*m≤(bytes:Int)*m:=Int.mul_le_mul_of_nonneg_right (by omega) hm0;rwa [Int.one_mul] at this
 have hb2:(i.bytes:Int)*m≤281474976710656:=by rw[i3];omega
 have hrun:=run_make (P:=P) w t e i z hu i1 i4 k k' n m h0 h1 hb2 (by omega);have his:i.size=z.cells.size:=by rw[i2,hzs]
 rw[his,made_eq] at hrun;have hnm:n.toNat≤m.toNat:=by omega
 have hsz:((List.replicate m.toNat z.cells.toList).flatten.toArray).size=m.toNat*size:=by simp[hzs]
 have Ph:(List.replicate n.toNat z.cells.toList).flatten.length=n.toNat*size:=by simp[hzs]
 refine⟨by simp[execOp,ho,el,ec,hrun],QF (Nat.zero_le _) hnm ?_ hsz ?_ Ph⟩
 ·simp only[maxLen];omega
 ·have e1:m.toNat=n.toNat+(m.toNat - n.toNat):=by omega
  rw[e1, ←List.replicate_append_replicate,List.flatten_append];show List.take _ (_++_)=_;rw[←Ph,List.take_left]
theorem E9 {w:World}{n c:Nat}{o:Go.Obj}(k:Nat)(hk:cR (.slice (some ⟨w.heap.size,0,none⟩) n c)=some k):w.heap.size≤k∧k<(w.alloc o).heap.size:=by simp only[cR,Option.some.injEq] at hk;subst hk;exact⟨Nat.le_refl _,by simp⟩
theorem Xu (hE:aE E)(hG:Mo E)(hT:iG P T.rows)(hH:Dt P T)(hl:σ.ae.length=T.ae.length)(h:St E σ a w ν O){o:Oper}{r:cn}{t:TypeId}{l cc:Operand}(ho:o.op= .makeSlice t l cc)
  (he:(Dk T σ.av σ.sites o).val Φ σ=some r):lj P o a w (To E (aW σ o.dst r)):=by
 have hd:∀c,o.op≠ .defer c:=by rw[ho];intro c e;cases e
 unfold Dk at he;simp only[ho] at he;split at he
 ·rename_i u e bytes k n k' m hel hl1 hc1;obtain⟨re,hu,RC,UO,qj,hby,hpos⟩:=vo hT hel;have el:=h.av hG l;rw[hl1] at el;have ec:=h.av hG cc;rw[hc1] at ec;have el:=xG el rfl;have ec:=xG ec rfl;rw[aB] at he;obtain⟨hok,he⟩:=he;split at he
  ·rename_i hp hhp;rw[ft] at he;obtain⟨hr,hh,he⟩:=he;rw[aB] at he;obtain⟨hc,he⟩:=he;simp only[Bool.and_eq_true,beq_iff] at hc;obtain⟨e1,hc⟩:=hc;obtain⟨j,z,j1,j2,j3,j4⟩:=PB hH hc (by rw[←hl];exact(List.getElem?_eq_some_iff.1 hh).1);obtain⟨i,z',i1,i2,i3,i4,_⟩:=SZ (V:=view E σ ν O w) RC;rw[UO,e1,j1] at i1;obtain rfl:j=i:=by simpa using i1
   have hzs:z.cells.size=hr.t.size:=by simpa using Rel.length (j4 (fun _ _=>False))
   obtain⟨hrun,hown⟩:=Zd (P:=P) (w:=w) ho hu (by rw[e1];exact j1) j3 j2 hzs (by rw[i3,hby]) hpos el ec hok;rw[e1] at hrun hown;obtain⟨us,n',rfl,aK,hs,hv⟩:=NW hE h (n1:=0) (C:=fun _=>False) (v0:= .slice (some ⟨w.heap.size,0,none⟩) n.toNat m.toNat) hh (Nat.zero_le _) (fun _ hk=>hk.elim) (Grow.BB Below.S3) (fun k hk=> .inr (E9 k hk)) ⟨_,_,_,rfl⟩
    (fun V' hV=>⟨_,by simpa using hown,PC (j4 V') _⟩) he
   exact ck hd hrun ⟨aK,O,hs.slot hv⟩
  ·obtain⟨i,z,i1,i2,i3,i4,i5⟩:=Y7 RC (o.dst.bind (look σ.sites));rw[UO] at i1;rw[qj] at i2 i5;have hzs:z.cells.size=u.size:=by have:=Rel.length (i5 (fun _ _=>False));rw[Mq] at this;simpa using this
   obtain⟨hrun,hown⟩:=Zd (P:=P) (w:=w) ho hu i1 i4 i2 hzs (by rw[i3,hby]) hpos el ec hok;obtain⟨q,us,rfl,aK,hs,hv⟩:=Xt hE h (v':= .slice (some ⟨w.heap.size,0,none⟩) n.toNat m.toNat) Below.S3 (fun k hk=>E9 k hk)
    (fun V' hV=>⟨_,by rw[Mq];simpa using hown,PC (i5 V') _⟩) he
   exact ck hd hrun ⟨aK,O,hs.slot (x:= .rv (.own q)) hv⟩
 ·cases he
theorem PD {o:Oper}{t:TypeId}{len:Nat}{parts:Array (Nat×Operand)}(ho:o.op= .buildSlice t len parts){e:TypeId}{i:TypeInfo}{z:Value}{u:Ty}(hu:P.underlying t=some (.slice e))(i1:P.info? e=some i)(i4:i.zero=some z)(i2:i.size=u.size)
  (i5:Rel V u u.zero z.cells.toList) {av:Operand→AV} (qk:∀x,aj V σ ν Y (av x) (a.eval x)) {xs:List u.den} (hxs:elems av u parts.toList (List.replicate len u.zero)=some xs) (hle:len*u.size≤16777216) (hlen:len≤16777216):
  ∃br,(execOp a.eval o).run P w= .ok (.value (.slice (some ⟨w.heap.size,0,none⟩) len len)) (w.alloc (.cells br.flatten.toArray e))∧aC (Rel V u) xs br∧xs.length=len∧
   (w.alloc (.cells br.flatten.toArray e)).ownsRow 0 e u.size (.slice (some ⟨w.heap.size,0,none⟩) len len) len br.flatten:=by
 have hzs:z.cells.size=u.size:=by simpa using Rel.length i5
 obtain⟨br,f1,f2⟩:=VO qk parts.toList _ xs (List.replicate len z.cells.toList) hxs (PC i5 len);have aod:(Array.range (len*u.size)).map (z.cells[· % z.cells.size]!)=(List.replicate len z.cells.toList).flatten.toArray:=by rw[←made_eq,hzs];unfold madeCells;rw[hzs]
 have hxl:xs.length=len:=by rw[NV _ _ _ hxs];simp
 have hsz:i.size=u.size:=i2;have Ph:=fN f2;have hrun:(execOp a.eval o).run P w= .ok (.value (.slice (some ⟨w.heap.size,0,none⟩) len len)) (w.alloc (.cells br.flatten.toArray e)):=by
  have hn:¬len*u.size>16777216:=by omega
  have f1':Instr.fill (fun i=>some (i*u.size,u.size)) (List.replicate len z.cells.toList).flatten.toArray (List.map (fun x=>(x.fst,a.eval x.snd)) parts.toList)=some br.flatten.toArray:=f1;have Ze:Array.map (fun x=>(default:Value)) (Array.range 0)= #[]:=by simp
  by_cases hz:len*u.size=0
  ·have he:(List.replicate len z.cells.toList).flatten=[]:=by apply List.eq_nil_of_length_eq_zero;simp[hzs,hz]
   rw[he] at f1';simp[execOp,ho,Instr.buildSlice,run_underlying hu,sizeOf,typeInfo,i1,hsz,hn,hz,Ze,f1',Go.newRow]
  ·simp[execOp,ho,Instr.buildSlice,run_underlying hu,sizeOf,typeInfo,zeroValue,i1,i4,hsz,hn,hz,aod,f1',Go.newRow]
 have hlm:len≤maxLen:=by simp only[maxLen];omega
 refine⟨br,hrun,f2,hxl,QF (Nat.zero_le _) (Nat.le_refl _) hlm (by simp[Ph,hxl]) (by show List.take (len*u.size) br.flatten=_;rw[←hxl, ←Ph,List.take_length]) (by rw[Ph,hxl])⟩
theorem U2 (hE:aE E)(hG:Mo E)(hT:iG P T.rows)(hH:Dt P T)(hl:σ.ae.length=T.ae.length)(h:St E σ a w ν O){o:Oper}{r:cn}{t:TypeId}{len:Nat}{parts:Array (Nat×Operand)}(ho:o.op= .buildSlice t len parts)
  (he:(Dk T σ.av σ.sites o).val Φ σ=some r):lj P o a w (To E (aW σ o.dst r)):=by
 have hd:∀c,o.op≠ .defer c:=by rw[ho];intro c e;cases e
 unfold Dk at he;simp only[ho] at he;generalize o.dst.bind (look σ.sites)=st at he;split at he
 ·rename_i u e bytes hel;obtain⟨re,hu,RC,UO,qj,hby,hpos⟩:=vo hT hel;split at he
  ·rename_i hp hhp;rw[ft] at he;obtain⟨hr,hh,he⟩:=he;rw[aB,b6] at he;obtain⟨hc,ys,hys,he⟩:=he;simp only[Bool.and_eq_true,beq_iff] at hc;obtain⟨⟨⟨e1,hc⟩,hb1⟩,hb2⟩:=hc;obtain⟨j,z,j1,j2,j3,j4⟩:=PB hH hc (by rw[←hl];exact(List.getElem?_eq_some_iff.1 hh).1);obtain⟨br,hrun,f2,f3,hown⟩:=PD (P:=P) (w:=w) ho hu (by rw[e1];exact j1) j3 j2 (j4 _) (h.av hG) hys (Nat.le_of_ble_eq_true hb1) (Nat.le_of_ble_eq_true hb2);rw[e1] at hrun hown;obtain⟨us,n',rfl,aK,hs,hv⟩:=NW hE h (n1:=0) (C:=fun _=>False) (v0:= .slice (some ⟨w.heap.size,0,none⟩) len len) hh (Nat.zero_le _) (fun _ hk=>hk.elim) (Grow.BB Below.S3) (fun k hk=> .inr (E9 k hk)) ⟨_,_,_,rfl⟩
    (fun V' hV=>⟨br,by rw[f3];exact hown,f2.mono (Rel.mono hV _)⟩) he
   exact ck hd hrun ⟨aK,O,hs.slot hv⟩
  ·rw[aB] at he;obtain⟨hc,he⟩:=he;simp only[Bool.and_eq_true] at hc;obtain⟨hb1,hb2⟩:=hc;obtain⟨i,z,i1,i2,i3,i4,i5⟩:=Y7 RC st;rw[UO] at i1;rw[qj] at i2 i5;have i2':i.size=(LA st u).size:=by rw[Mq];exact i2
   cases hb:(List.map (fun x=>x.2) parts.toList).any fun x=>wV (σ.av x) with
   |true=>
    rw[hb,cond_true,mL,b6] at he;obtain⟨ys,hys,he⟩:=he;have s1:=h.ve hE (parts.toList.map (·.2));split at he
    ·rename_i d Pz;split at he
     ·rename_i hfree;rw[gD] at he;subst he;obtain⟨br,hrun,f2,f3,hown⟩:=PD (P:=P) (w:=w) ho hu i1 i4 i2' (i5 _) (s1.av hG) hys (Nat.le_of_ble_eq_true hb1) (Nat.le_of_ble_eq_true hb2);refine ck hd hrun ⟨tA ν d (.slice (some ⟨w.heap.size,0,none⟩) len len),O, ?_⟩;simp only[aW,Pz];have s2:=s1.newRow hE (w':=w.alloc (.cells br.flatten.toArray e)) (row':=⟨e,LA st u,ys⟩) (v':= .slice (some ⟨w.heap.size,0,none⟩) len len) hfree Below.S3 (fun k hk=>E9 k hk) (fun hV=>⟨br,by rw[f3];exact hown,f2.mono (Rel.mono hV _)⟩);refine s2.slot (x:= .rv (.own d)) ⟨?_, ?_⟩
      ·rw[mY]
      ·show (look (put _ _ _) _).isSome=true;rw[aD,if_pos rfl];rfl
     ·cases he
    ·cases he
   |false=>rw[hb,cond_false,b6] at he;obtain⟨ys,hys,he⟩:=he;obtain⟨br,hrun,f2,f3,hown⟩:=PD (P:=P) (w:=w) ho hu i1 i4 i2' (i5 _) (h.av hG) hys (Nat.le_of_ble_eq_true hb1) (Nat.le_of_ble_eq_true hb2);obtain⟨q,us,rfl,aK,hs,hv⟩:=Xt hE h (v':= .slice (some ⟨w.heap.size,0,none⟩) len len) Below.S3 (fun k hk=>E9 k hk) (fun V' hV=>⟨br,by rw[f3];exact hown,f2.mono (Rel.mono hV _)⟩) he;exact ck hd hrun ⟨aK,O,hs.slot (x:= .rv (.own q)) hv⟩
 ·cases he
end
section
variable {P:Program}{T:cG}{E:Env}{σ ag:AS}{a:Act}{w w':World}{ν aK:Nm→Value}{O:Nat→Prop}{Φ:bN T}{V:View}{Y:Value}
theorem GF (base:Nat)(t ty e:TypeId)(i:TypeInfo)(z:Value)(size bytes:Nat)(ht:P.underlying t=some (.slice e))(hi:P.info? e=some i)(hz:i.zero=some z)
  (hsize:i.size=size) (hby:i.bytes=bytes) (hzs:z.cells.size=size) (hsz:0<size) (hb0:0<bytes)
  (v:Value) (n:Nat) (xs:List Value) (hown:w.ownsRow base e size v n xs)
  (A:Option Addr) (m c:Nat) (news:List Value) (hl:news.length=m*size) (hmc:m≤c) (hA:A=none→c=0) (hnews:∀j u,news[j]? =some u→∃ad,A=some ad∧w.cell? (ad.add j)=some u) (h1:∀u∈news,u.oneCell'=true)
  (hbytes:(n+m)*bytes≤140737488355328) (hbase:base≤w.heap.size):
  ∃v' w',(Builtin.append_ #[t,t] ty #[v, .slice A m c]).run P w= .ok v' w'∧w'.ownsRow base e size v' (n+m) (xs++news)∧w.grownBy w' v.ownBlock∧
   (∀k,v'.ownBlock=some k→v.ownBlock=some k∨w.heap.size≤k):=by
 cases A with
 |none=>
  have hc:=hA rfl;subst hc;obtain rfl:m=0:=by omega
  have:news=[]:=List.eq_nil_of_length_eq_zero (by simpa using hl);subst this;have hrun:=run_append_owned_none (P:=P) (w:=w) base t ty e i size ht hi v n xs hown;exact⟨v,w,hrun,by simpa using hown,⟨rfl,rfl,rfl,Nat.le_refl _,fun _ _ _=>rfl⟩,fun k hk=> .inl hk⟩
 |some ad=>
  have hn':∀j u,news[j]? =some u→w.cell? (ad.add j)=some u:=fun j u hj=>by
   obtain⟨Pw,e',h⟩:=hnews j u hj;obtain rfl:ad=Pw:=by simpa using e'
   exact h
  have hle:n+m≤(n+m)*bytes:=Nat.le_mul_of_pos_right _ hb0;have h63:n+m≤maxLen:=by simp only[maxLen];omega
  obtain⟨v',w',hr,h2,h3,h4⟩:=run_append_own (P:=P) w base t ty e i z size bytes ht hi hz hsize hby hzs hsz v n xs hown ad m c news hl hn' h1 h63 hbytes hbase;refine⟨v',w',hr,h2,h3,fun k hk=> ?_⟩;subst hsize hby;rcases hown.2 with ⟨rfl,rfl⟩ | ⟨g,cap,cur,rfl,hbg,hg,hnc,hcm,hcs,HC⟩
  ·by_cases hm:m=0
   ·have:=h4.2 ⟨rfl,hm⟩;rw[this] at hk;cases hk
   ·have HA:=run_append_nil (P:=P) w t ty e i z ht hi hz ad m c news hl hn' (by omega) (by omega) (by simp only[Nat.zero_add] at hbytes;omega);rw[HA] at hr;injection hr with NA hr3
    rw[←NA] at hk;simp[Value.ownBlock] at hk;exact .inr (by omega)
  ·by_cases hroom:n+m≤cap
   ·have hfit:n*i.size+news.length≤cur.size:=by rw[hl,hcs, ←Nat.add_mul];exact Nat.mul_le_mul_right _ hroom
    have HA:=run_append_room (P:=P) w t ty e i ht hi g n cap cur hg ad m c news hl hn' h1 hroom hfit;rw[HA] at hr;injection hr with NA hr3
    rw[←NA] at hk;exact .inl hk
   ·have holds:∀j u,xs[j]? =some u→w.cell? ((⟨g,0,none⟩:Addr).add j)=some u:=hown.cells (g:=g) rfl;have HA:=run_append_grow (P:=P) w t ty e i z ht hi hz ⟨g,0,none⟩ n cap xs hown.1 holds ad m c news hl hn' (by omega) (by omega) (growslice_fits (by omega) hbytes);rw[HA] at hr;injection hr with NA hr3
    rw[←NA] at hk;simp[Value.ownBlock] at hk;exact .inr (by omega)
theorem NX {V:View}{t:Ty}{xs:List t.den}{br:List (List Value)}(h:aC (Rel V t) xs br):∀u∈br.flatten,u.oneCell'=true:=by intro u hu;obtain⟨l,hl,hul⟩:=List.mem_flatten.1 hu;obtain⟨i,hi⟩:=List.getElem?_of_mem hl;obtain⟨x,_,hr⟩:=h.get' i l hi;obtain⟨j,hj⟩:=List.getElem?_of_mem hul;obtain⟨c,_,hc⟩:=(iC hr).get' j u hj;exact Ss hc
theorem Grow.of_grownBy {g:Option Nat}(h:w.grownBy w' g):Grow (fun k=>g=some k) w w':=⟨h.os,h.tape,h.output,h.size,fun k hk hn=>h.block k hk fun e=>hn e.symm⟩
theorem QG (base:Nat)(t ty e:TypeId)(i:TypeInfo)(size:Nat)(ht:P.underlying t=some (.slice e))(hi:P.info? e=some i)
  (v:Value) (n:Nat) (xs:List Value) (hown:w.ownsRow base e size v n xs) (A:Option Addr) (c:Nat) (hA:A=none→c=0):
  (Builtin.append_ #[t,t] ty #[v, .slice A 0 c]).run P w= .ok v w:=by
 cases A with
 |none=>rw[hA rfl];exact run_append_owned_none (P:=P) (w:=w) base t ty e i size ht hi v n xs hown
 |some ad=>
  rcases hown.2 with ⟨rfl,rfl⟩ | ⟨g,cap,cur,rfl,_,_,hnc,_⟩
  ·simp[Builtin.append_,run_underlying ht,sizeOf,typeInfo,hi,Builtin.lenOf,Builtin.firstCells,loadCells,loadCellsFrom]
  ·simp[Builtin.append_,run_underlying ht,sizeOf,typeInfo,hi,Builtin.lenOf,Builtin.firstCells,hnc,storeCells,loadCells,loadCellsFrom]
theorem Du {v:Value}{A:Option Addr}{n c:Nat}(h:v= .slice A n c):cR v=v.ownBlock:=by subst h;cases A<;>rfl
theorem ph {e:TypeId}{B size n:Nat}{v:Value}{xs:List Value}(h:w.ownsRow B e size v n xs):∃A c,v= .slice A n c:=by
 rcases h.2 with ⟨rfl,rfl⟩ | ⟨g,cap,cur,rfl,_⟩
 ·exact⟨_,_,rfl⟩
 ·exact⟨_,_,rfl⟩
theorem GG {e:TypeId}{B size n:Nat}{v:Value}{xs:List Value}(h:w.ownsRow B e size v n xs){k:Nat}(hk:v.ownBlock=some k):k<w.heap.size:=by
 rcases h.2 with ⟨rfl,rfl⟩ | ⟨g,cap,cur,rfl,_,hg,_⟩
 ·cases hk
 ·simp[Value.ownBlock] at hk;subst hk;exact(Array.getElem?_eq_some_iff.1 hg).1
theorem St.Kq (h:St E σ a w ν O){i n:Nat}{hr:aV}{l:List hr.t.den}{v:Value}(hh:σ.ae[i]? =some hr)(hl:ai hr.xs n=some l)(hv:bJ (view E σ ν O w) ⟨.ref i,n⟩ v):
  jf (view E σ ν O w) w v ⟨hr.e,hr.t,l⟩∧(∀k,cR v=some k→Own σ ν (.hp i n) k)∧((n=0∧v= .slice none 0 0∧l=[])∨(1≤n∧hr.k=0∧v=ν (.hp i n))):=by
 rcases IV hv with ⟨rfl,rfl⟩ | ⟨h1,hs,_,h2,h3⟩
 ·simp only[ai,Option.some.injEq] at hl;subst hl;exact⟨⟨[],GC,trivial⟩,(fun k hk=>by cases hk), .inl ⟨rfl,rfl,rfl⟩⟩
 ·have cr:=h.hp hh h1 hl;have hk:hr.k=0:=by
   rcases h.nn i hr n hh h1 (Km hl) with ⟨e,_⟩ | ⟨_,g,e⟩
   ·exact e
   ·obtain⟨A,m,c,e2⟩:=hs;rw[h3,e] at e2;cases e2
  rw[hk] at cr;rw[←h3] at cr;exact⟨cr.2,fun k hk=>⟨bf (abl hh h1 hl),by rw[←h3];exact hk⟩, .inr ⟨h1,hk,h3⟩⟩
theorem R7 {v:Value}{row:Row}(h:jf V w v row):∃(A:Option Addr) (c:Nat) (br:List (List Value)),v= .slice A row.xs.length c∧row.xs.length≤c∧aC (Rel V row.t) row.xs br∧(A=none→c=0)∧
  ∀j u,br.flatten[j]? =some u→∃ad,A=some ad∧w.cell? (ad.add j)=some u:=by
 obtain⟨br,⟨e1,e2⟩,hall⟩:=h;rcases e2 with ⟨e2,e3⟩ | ⟨g,cap,cur,e2,_,hg,hn,hm,hcs,HC⟩
 ·have:row.xs=[]:=List.eq_nil_of_length_eq_zero e3;have hy:=fN hall;rw[e3,Nat.zero_mul] at hy;refine⟨none,0,br,by rw[e2,e3],by omega,hall,fun _=>rfl,fun j u hj=> ?_⟩;rw[List.eq_nil_of_length_eq_zero hy] at hj;simp at hj
 ·refine⟨some ⟨g,0,none⟩,cap,br,e2,hn,hall,(fun e=>by cases e),fun j u hj=>⟨_,rfl, ?_⟩⟩;rw[HB,cell_of_row w g j cur row.e (0,0) hg];rw[←HC] at hj;simpa using IT hj
theorem Bk (hE:aE E)(h:St E σ a w ν O){t:Ty}{x:AV}{u:Value}(hx:aj (view E σ ν O w) σ ν E.Y x u){k:List t.den→Q T cn}{r:cn}(he:(appended t x k).val Φ σ=some r):
  ∃ys:List t.den,(k ys).val Φ σ=some r∧∃(A:Option Addr) (c:Nat) (br:List (List Value)),u= .slice A ys.length c∧ys.length≤c∧aC (Rel (view E σ ν O w) t) ys br∧(A=none→c=0)∧
   ∀j u,br.flatten[j]? =some u→∃ad,A=some ad∧w.cell? (ad.add j)=some u:=by
 have hc:=SM hx;have cast:∀{e0:TypeId} {t':Ty} {l:List t'.den} {ys:List t.den},(cQ (.slice t) [⟨.slice t',l⟩]).map (·.1)=some ys→jf (view E σ ν O w) w u ⟨e0,t',l⟩→∃(A:Option Addr) (c:Nat) (br:List (List Value)),u= .slice A ys.length c∧ys.length≤c∧aC (Rel (view E σ ν O w) t) ys br∧(A=none→c=0)∧
   ∀j u,br.flatten[j]? =some u→∃ad,A=some ad∧w.cell? (ad.add j)=some u:=fun {e0 t' l ys} h1 h2=>by
  have:=Dq h1;injection this with e1 e2
  injection e1 with e1
  subst e1;simp only[heq_eq_eq] at e2;subst e2;exact R7 h2
 unfold appended at he;split at he
 ·rename_i i n hxx;rw[hxx] at hc;rw[ft] at he;obtain⟨hr,hh,he⟩:=he;rw[b6] at he;obtain⟨l,hl,he⟩:=he;rw[b6] at he;obtain⟨ys,hys,he⟩:=he;refine⟨ys,he, ?_⟩;obtain⟨h1,_⟩:=h.Kq hh hl hc;exact cast hys h1
 ·rename_i c hxx;rw[hxx] at hc;rw[b6] at he;obtain⟨ys,hys,he⟩:=he;refine⟨ys,he, ?_⟩;have:=Dq hys;subst this;obtain⟨A,cc,br,e1,e2,e3,e4,e5⟩:=qz hc;exact⟨A,cc,br,e1,e2,e3,e4,fun j u hj=>by
   obtain⟨ad,e,hv⟩:=e5 j u hj;exact⟨ad,e,xD hE h.keep hv⟩⟩
 ·rename_i q hxx;rw[hxx] at hc;rw[qi] at he;obtain⟨row,hrow,he⟩:=he;rw[b6] at he;obtain⟨ys,hys,he⟩:=he;refine⟨ys,he, ?_⟩;have h1:=h.row hrow;rw[←hc.1] at h1;exact cast hys h1
 ·rename_i hxx;rw[hxx] at hc;exact⟨[],he,none,0,[],hc,Nat.le_refl _,trivial,fun _=>rfl,fun j u hj=>by simp at hj⟩
 ·cases he
theorem aew {t tx ty e e2:TypeId}{i:TypeInfo}(ht:P.underlying t=some (.slice e))(hi:P.info? e=some i)(hx:P.underlying tx=some (.slice e2))(v x:Value):(Builtin.append_ #[t,tx] ty #[v,x]).run P w=(Builtin.append_ #[t,t] ty #[v,x]).run P w:=by cases v<;>simp[Builtin.append_,run_underlying ht,run_underlying hx,sizeOf,typeInfo,hi]
theorem aex (hE:aE E)(hG:Mo E)(hT:iG P T.rows)(h:St E σ a w ν O){o:Oper}{r:cn}{args:Array Operand}{ats:Array TypeId}(ho:o.op= .call {callee:= .builtin .append,args:=args,argTypes:=ats})
  (he:(Dk T σ.av σ.sites o).val Φ σ=some r):lj P o a w (To E (aW σ o.dst r)):=by
 have hd:∀c,o.op≠ .defer c:=by rw[ho];intro c e;cases e
 unfold Dk at he;simp only[ho] at he;generalize o.dst.bind (look σ.sites)=st at he;split at he
 ·rename_i s x t tx hargs aoe;have hx':args= #[s,x]:=by cases args;simp at hargs;subst hargs;rfl
  have ht':ats= #[t,tx]:=by cases ats;simp at aoe;subst aoe;rfl
  subst hx' ht';rw[aB] at he;obtain⟨htt,he⟩:=he;split at he
  ·rename_i u e bytes hel;obtain⟨re,hu,RC,UO,qj,hby,hpos⟩:=vo hT hel;obtain⟨i,z,i1,i2,i3,i4,i5⟩:=SZ (V:=view E σ ν O w) RC;rw[UO] at i1;rw[qj] at i5 i2;rw[hby] at i3;have hzs:z.cells.size=u.size:=by simpa using Rel.length i5
   have htx:∀(v x:Value),(Builtin.append_ #[t,tx] o.type #[v,x]).run P w=(Builtin.append_ #[t,t] o.type #[v,x]).run P w:=by
    rw[Bool.or_eq_true] at htt;rcases htt with htt |htt
    ·have:=(beq_iff _ _).1 htt;subst this;exact fun _ _=>rfl
    ·obtain⟨⟨u2,e2,b2⟩,aqu⟩:=Option.isSome_iff_exists.1 htt;obtain⟨re2,hu2,_⟩:=vo hT aqu;exact fun v x=>aew hu i1 hu2 v x
   have VP:∀(v':Value) (w':World),(Builtin.append_ #[t,t] o.type #[a.eval s,a.eval x]).run P w= .ok v' w'→(execOp a.eval o).run P w= .ok (.value v') w':=fun v' w' hv=>by rw[←htx] at hv;simp[execOp,ho,resolve,invoke,builtin,hv]
   have hs:=h.av hG s;have hx:=h.av hG x;split at he
   ·rename_i q hq;rw[hq] at hs;rw[qi] at he;obtain⟨row,hrow,he⟩:=he;rw[aB] at he;obtain⟨_,he⟩:=he;obtain⟨ys,he,A,cc,br,ex,f1,f2,f3,f4⟩:=Bk hE h hx he;rw[aB] at he;obtain⟨hc,he⟩:=he;simp only[Bool.and_eq_true,aG,beq_iff] at hc;obtain⟨⟨c1,c2⟩,c3,c4⟩:=hc;have c3':0<u.size:=Nat.le_of_ble_eq_true c3;have c4':=Nat.le_of_ble_eq_true c4;split at he
    ·rename_i d Pz;rw[mL] at he;split at he
     ·rename_i hfree;rw[gD] at he;subst he;obtain⟨zss,hown,hall⟩:=h.row hrow;rw[c1,c2] at hown;obtain⟨v',w',hrun,g1,g2,g3⟩:=GF (P:=P) 0 t o.type e i z u.size bytes hu i1 i4 i2 i3 hzs c3' hpos (ν (.row q)) row.xs.length zss.flatten hown A ys.length cc br.flatten (by rw[fN f2,c2]) f1 f3 f4 (NX f2) c4' (Nat.zero_le _);refine ck hd (VP v' w' (by rw[hs.1,ex];exact hrun)) ?_;simp only[aW,Pz];obtain⟨A1,k1,Xs⟩:=ph hown;obtain⟨A2,k2,U3⟩:=ph g1;refine⟨tA ν d v',O,(h.ac5 hE (d:=d) (row':=⟨e,row.t,row.xs++ys⟩) hfree ((Grow.of_grownBy g2).mono fun k _ hk=>Xo hrow (by rw[Du Xs];exact hk)) (fun k hk=> ?_) (fun hV=> ?_)).slot (x:= .rv (.own d)) ⟨?_, ?_⟩⟩
      ·rw[Du U3] at hk;rcases g3 k hk with h1 |h1
       ·exact .inl (Xo hrow (by rw[Du Xs];exact h1))
       ·exact .inr ⟨h1,GG g1 hk⟩
      ·refine⟨zss++br, ?_,(hall.mono (Rel.mono hV _)).append (f2.mono (Rel.mono hV _))⟩;rw[List.flatten_append,c2,List.length_append];exact g1
      ·rw[mY]
      ·show (look (put _ _ _) _).isSome=true;rw[aD,if_pos rfl];rfl
     ·cases he
    ·cases he
   ·rename_i hp n hq;rw[hq] at hs;rw[ft] at he;obtain⟨hr,hh,he⟩:=he;rw[b6] at he;obtain⟨l,hl,he⟩:=he;rw[aB] at he;obtain⟨hc,he⟩:=he;simp only[Bool.and_eq_true,beq_iff] at hc;obtain⟨c1,c2⟩:=hc;obtain⟨ys,he,A,cc,br,ex,f1,f2,f3,f4⟩:=Bk hE h hx he;rw[aB] at he;obtain⟨hc,he⟩:=he;simp only[Bool.and_eq_true,aG] at hc;obtain⟨c3,c4⟩:=hc;have c3':0<hr.t.size:=Nat.le_of_ble_eq_true c3;have c4':=Nat.le_of_ble_eq_true c4;obtain⟨hrow,hblk,Fa⟩:=h.Kq hh hl hs;obtain⟨zss,hown,hall⟩:=hrow;rw[←c1] at hown;dsimp only at hown hall;rw[NM] at he;rcases he with ⟨hem,he⟩ | ⟨hne,he⟩
    ·have hys:ys=[]:=by cases ys with
      |nil=>rfl
      |cons _ _=>cases hem
     subst hys;rw[gB] at he;subst he;have hrun:=QG (P:=P) 0 t o.type e i hr.t.size hu i1 (a.eval s) l.length zss.flatten hown A cc f3;exact cm hE hd h rfl (VP _ _ (by rw[ex];exact hrun)) hs
    ·obtain⟨v',w',hrun,g1,g2,g3⟩:=GF (P:=P) 0 t o.type e i z hr.t.size bytes hu i1 i4 (by rw[i2,c2]) i3 (by rw[hzs,c2]) c3' hpos (a.eval s) l.length zss.flatten hown A ys.length cc br.flatten (fN f2) f1 f3 f4 (NX f2) c4' (Nat.zero_le _);obtain⟨A1,k1,Xs⟩:=ph hown;obtain⟨A2,k2,U3⟩:=ph g1;have aog:0<ys.length:=by cases ys with
      |nil=>cases hne
      |cons _ _=>simp
     obtain⟨us,n',rfl,aK,s1,hv⟩:=NW hE h (n1:=n) (C:=fun k=>cR (a.eval s)=some k) (v0:=v') (w':=w') (l':=l++ys) hh (Km hl) hblk ((Grow.of_grownBy g2).mono fun k _ hk=>by rw[Du Xs];exact hk) (fun k hk=>by
       rw[Du U3] at hk;rcases g3 k hk with h1 |h1
       ·exact .inl (hblk k (by rw[Du Xs];exact h1))
       ·exact .inr ⟨h1,GG g1 hk⟩) (by
       rcases g1.2 with ⟨_,e0⟩ | ⟨g,cap,cur,e0,_⟩
       ·omega
       ·exact⟨_,_,_,e0⟩)
      (fun V' hV=>⟨zss++br,by rw[List.flatten_append, ←c1,List.length_append];exact g1,(hall.mono (Rel.mono hV _)).append (f2.mono (Rel.mono hV _))⟩) he
     exact ck hd (VP v' w' (by rw[ex];exact hrun)) ⟨aK,O,s1.slot hv⟩
   ·rename_i hq;rw[hq] at hs;have es:a.eval s= .slice none 0 0:=hs;split at he
    ·rename_i hp hhp;rw[ft] at he;obtain⟨hr,hh,he⟩:=he;rw[aB] at he;obtain⟨hc,he⟩:=he;simp only[Bool.and_eq_true,beq_iff] at hc;obtain⟨c1,c2⟩:=hc;obtain⟨ys,he,A,cc,br,ex,f1,f2,f3,f4⟩:=Bk hE h hx he;rw[aB] at he;obtain⟨hc,he⟩:=he;simp only[Bool.and_eq_true,aG] at hc;obtain⟨c3,c4⟩:=hc;have c3':0<hr.t.size:=Nat.le_of_ble_eq_true c3;have c4':=Nat.le_of_ble_eq_true c4;rw[NM] at he;rcases he with ⟨hem,he⟩ | ⟨hne,he⟩
     ·have hys:ys=[]:=by cases ys with
       |nil=>rfl
       |cons _ _=>cases hem
      subst hys;rw[gB] at he;subst he;have hrun:=QG (P:=P) 0 t o.type e i hr.t.size hu i1 (.slice none 0 0) 0 [] (World.ownsRow_nil w 0 e hr.t.size) A cc f3;exact cm hE hd h rfl (VP _ _ (by rw[es,ex];exact hrun)) rfl
     ·obtain⟨v',w',hrun,g1,g2,g3⟩:=GF (P:=P) 0 t o.type e i z hr.t.size bytes hu i1 i4 (by rw[i2,c2]) i3 (by rw[hzs,c2]) c3' hpos (.slice none 0 0) 0 [] (World.ownsRow_nil w 0 e hr.t.size) A ys.length cc br.flatten (fN f2) f1 f3 f4 (NX f2) c4' (Nat.zero_le _);obtain⟨A2,k2,U3⟩:=ph g1;have aog:0<ys.length:=by cases ys with
       |nil=>cases hne
       |cons _ _=>simp
      obtain⟨us,n',rfl,aK,s1,hv⟩:=NW hE h (n1:=0) (C:=fun _=>False) (v0:=v') (w':=w') (l':=ys) hh (Nat.zero_le _) (fun _ hk=>hk.elim) ((Grow.of_grownBy g2).mono fun k _ hk=>by cases hk) (fun k hk=>by
        rw[Du U3] at hk;rcases g3 k hk with h1 |h1
        ·cases h1
        ·exact .inr ⟨h1,GG g1 hk⟩) (by
        rcases g1.2 with ⟨_,e0⟩ | ⟨g,cap,cur,e0,_⟩
        ·omega
        ·exact⟨_,_,_,e0⟩)
       (fun V' hV=>⟨br,by rw[←c1];simpa using g1,f2.mono (Rel.mono hV _)⟩) he
      exact ck hd (VP v' w' (by rw[es,ex];exact hrun)) ⟨aK,O,s1.slot hv⟩
    ·obtain⟨ys,he,A,cc,br,ex,f1,f2,f3,f4⟩:=Bk hE h hx he;rw[aB] at he;obtain⟨hc,he⟩:=he;simp only[Bool.and_eq_true,aG] at hc;obtain⟨c3,c4⟩:=hc;have c3':0<u.size:=Nat.le_of_ble_eq_true c3;have c4':=Nat.le_of_ble_eq_true c4;obtain⟨v',w',hrun,g1,g2,g3⟩:=GF (P:=P) 0 t o.type e i z u.size bytes hu i1 i4 i2 i3 hzs c3' hpos (.slice none 0 0) 0 [] (World.ownsRow_nil w 0 e u.size) A ys.length cc br.flatten (fN f2) f1 f3 f4 (NX f2) c4' (Nat.zero_le _);obtain⟨A2,k2,U3⟩:=ph g1;have aqw:Below w.heap.size w w':=(((Grow.of_grownBy g2).mono fun k _ hk=>by cases hk):Grow (fun _=>False) w w').below;obtain⟨q,us,rfl,aK,s1,hv⟩:=Xt hE h (v':=v') (w':=w') aqw (fun k hk=>by
       rw[Du U3] at hk;rcases g3 k hk with h1 |h1
       ·cases h1
       ·exact⟨h1,GG g1 hk⟩) (fun V' hV=>⟨br,by simpa using g1,f2.mono (Rel.mono hV _)⟩) he
     exact ck hd (VP v' w' (by rw[es,ex];exact hrun)) ⟨aK,O,s1.slot (x:= .rv (.own q)) hv⟩
   ·cases he
  ·cases he
 ·cases he
end
section
variable {P:Program}{T:cG}{E:Env}{σ ag:AS}{a:Act}{w w':World}{ν aK:Nm→Value}{O:Nat→Prop}{Φ:bN T}{V:View}{Y:Value}
theorem S4 (hT:iG P T.rows){o:Oper}{t:TypeId}{x hi:Operand}(ho:o.op= .slice t x none (some hi) none){u:Ty}{e:TypeId}{bytes:Nat}(hel:gC T.rows t=some (u,e,bytes)){A:Option Addr}{len cap:Nat}{k:IntKind}{n:Int}
  (ex:a.eval x= .slice A len cap) (en:a.eval hi= .int k n) (h0:0≤n) (h1:n≤len) (hlen:len≤cap) (hn:A=none→cap=0):(execOp a.eval o).run P w= .ok (.value (.slice A n.toNat cap)) w:=by
 obtain⟨re,hu,RC,UO,qj,hby,hpos⟩:=vo hT hel;have hsz:(sizeOf e).run P w= .ok u.size w:=by rw[←UO, ←qj];exact BD RC w
 have hb:=fun code=>ur (P:=P) (w:=w) (y:=cap) (code:=code) en h0 (by omega);have hA:(if cap=0 then A else A.map (·.add (0*u.size)))=A:=by
  split
  ·rfl
  ·cases A with
   |none=>rfl
   |some ad=>simp[Addr.add]
 have hb':(Instr.sliceBounds true len cap none (some (a.eval hi)) none).run P w= .ok (0,n.toNat,cap) w:=by simp[Instr.sliceBounds,hb]
 have hs:(Instr.slice t (.slice A len cap) none (some (a.eval hi)) none).run P w= .ok (.slice A n.toNat cap) w:=by simp only[Instr.slice,Sem.run_bind,run_underlying hu,Result.andThen_ok,hb',hsz,Sem.run_pure,hA,Nat.sub_zero]
 simp only[execOp,ho,Instr.sliceAt,Sem.run_bind,run_underlying hu,Result.andThen_ok,ex,Option.map_none,Option.map_some,hs,Sem.run_pure]
theorem Zf {A:Option Addr}{cap:Nat}{row:Row}(h:jf V w (.slice A row.xs.length cap) row){n:Nat}(hn:n≤row.xs.length):jf V w (.slice A n cap) ⟨row.e,row.t,row.xs.take n⟩:=by
 obtain⟨br,⟨e1,e2⟩,hall⟩:=h;have hft:=Gx n hall;have Ph:=fN hall;have hmul:n*row.t.size≤row.xs.length*row.t.size:=Nat.mul_le_mul_right _ hn;have hln:(row.xs.take n).length=n:=by rw[List.length_take];omega
 refine⟨br.take n, ?_,hall.take _⟩;show w.ownsRow 0 row.e row.t.size _ (row.xs.take n).length _;rw[hln,hft];refine⟨by rw[List.length_take,Ph];omega, ?_⟩;rcases e2 with ⟨e2,e3⟩ | ⟨g,cap',cur,e2,f1,f2,f3,f4,f5,f6⟩
 ·injection e2 with e4 e5 e6
  left;have:n=0:=by omega
  rw[this,e4,e6];exact⟨rfl,rfl⟩
 ·injection e2 with e4 e5 e6
  subst e4 e6;exact .inr ⟨g,cap,cur,rfl,f1,f2,by omega,f4,f5,by rw[←f6,List.take_take,Nat.min_eq_left hmul]⟩
theorem U4 {q:Nat}{row:Row}(hq:look σ.rows q=some row)(d:Int)(x:Option Operand):iE (σ.freeze q).av d x=iE σ.av d x:=by
 cases x with
 |none=>rfl
 |some x=>
  simp only[iE];rw[Kp hq];cases σ.av x with
  |rv x=>cases x with
   |own k=>simp only[AV.tw,RV.tw];cases Nat.beq k q<;>rfl
   |_=>rfl
  |ND k sz i off=>simp only[AV.tw];cases Nat.beq k q<;>rfl
  |_=>rfl
theorem Xv {rows:List fJ}{av PE:Operand→AV}(h:∀d x,iE av d x=iE PE d x)(t:TypeId)(x:AV)(lo hi mx:Option Operand):vi (T:=T) rows av t x lo hi mx=vi rows PE t x lo hi mx:=by unfold vi;simp only[h]
theorem aha (hE:aE E)(hG:Mo E)(hT:iG P T.rows)(h:St E σ a w ν O){o:Oper}{r:cn}{t:TypeId}{x:Operand}{lo hi mx:Option Operand}(ho:o.op= .slice t x lo hi mx)
  (he:(Dk T σ.av σ.sites o).val Φ σ=some r):lj P o a w (To E (aW σ o.dst r)):=by
 have hd:∀c,o.op≠ .defer c:=by rw[ho];intro c e;cases e
 have hx:=h.av hG x;unfold Dk at he;simp only[ho] at he;split at he
 ·rename_i q hq;rw[hq] at hx;split at he
  ·rename_i hi';split at he
   ·rename_i u e bytes k n hel hn;rw[qi] at he;obtain⟨row,hrow,he⟩:=he;rw[aB] at he;obtain⟨hc,he⟩:=he;rw[Bool.and_eq_true] at hc;obtain⟨c1,c2,c3⟩:=xJ.1 hc.2;split at he
    ·rename_i d Pz;rw[mL] at he;split at he
     ·rename_i hfree;rw[gD] at he;subst he;have en:=h.av hG hi';rw[hn] at en;have cr:=h.row hrow;obtain⟨A,cap,er,hlen,hnone,_⟩:=Dp cr;have hrun:=S4 (P:=P) (w:=w) hT ho hel (by rw[hx.1,er]) (xG en rfl) c2 c3 hlen hnone;refine ck hd hrun ?_;simp only[aW,Pz];refine⟨tA ν d (.slice A n.toNat cap),O,(h.ac5 hE (w':=w) (d:=d) (row':=⟨row.e,row.t,row.xs.take n.toNat⟩) hfree (Grow.refl _ _) (fun k hk=> .inl (Xo hrow ?_)) (fun hV=> ?_)).slot (x:= .rv (.own d)) ⟨?_, ?_⟩⟩
      ·rw[er];cases A<;>exact hk
      ·rw[er] at cr;exact jf.mono hV (fun _ _=>rfl) (Zf cr (by omega))
      ·rw[mY]
      ·show (look (put _ _ _) _).isSome=true;rw[aD,if_pos rfl];rfl
     ·cases he
    ·cases he
   ·cases he
  ·rw[qi] at he;obtain⟨row,hrow,he⟩:=he;rw[mL,R2] at he;obtain⟨y,he,rfl⟩:=he;have s1:=h.freeze hE q;have hx1:=s1.av hG x;rw[Kp hrow,hq] at hx1;simp only[AV.tw,RV.tw,beq_refl,cond_true] at hx1;rw[Xv (PE:=(σ.freeze q).av) (fun d x=>(U4 hrow d x).symm)] at he;obtain⟨e1,v,h2,h3⟩:=SR (P:=P) (w:=w) hT (s1.av hG) hx1 he;exact ck hd (v:=v) (by simp[execOp,ho,h2]) ⟨ν,O,s1.slot h3⟩
 ·rename_i i n hq;rw[hq] at hx;split at he
  ·rename_i y;split at he
   ·rename_i ue k m hel hm;obtain⟨u,e,bytes⟩:=ue;rw[ft] at he;obtain⟨hr,hh,he⟩:=he;rw[b6] at he;obtain⟨l,hl,he⟩:=he;rw[aB,NM] at he;obtain⟨hc,he⟩:=he;obtain⟨_,c2,c3⟩:=xJ.1 hc;have en:=h.av hG y;rw[hm] at en;obtain⟨cr,hblk,Fa⟩:=h.Kq hh hl hx;obtain⟨A,cap,er,hlen,hnone,_⟩:=Dp cr;dsimp only at er hlen;have hrun:=S4 (P:=P) (w:=w) hT ho hel er (xG en rfl) c2 c3 hlen hnone;rcases he with ⟨h0,he⟩ | ⟨h0,he⟩
    ·have:=(beq_iff _ _).1 h0;subst this;rw[gB] at he;subst he;rcases Fa with ⟨_,hv,hl0⟩ | ⟨h1,_⟩
     ·rw[er] at hv;injection hv with v1 v2 v3
      subst v1 v3;subst hl0;have:m.toNat=0:=by simp at c3;omega
      rw[this] at hrun;exact cm hE hd h rfl hrun rfl
     ·omega
    ·have hn0:=rW.1 h0;rcases Fa with ⟨h1,_⟩ | ⟨h1,hk,hv⟩
     ·exact absurd h1 hn0
     ·have hhv:=h.nn i hr n hh h1 (Km hl);rw[hk, ←hv,er] at hhv;rcases hhv with ⟨_,g,n',c',e9⟩ | ⟨e9,_⟩
      ·injection e9 with v1 v2 v3
       subst v1;have hb:cR (.slice (some ⟨g,0,none⟩) m.toNat cap)=cR (a.eval x):=by rw[er];rfl
       rw[er] at cr;obtain⟨us,n2,rfl,aK,s1,U3⟩:=NW hE h (n1:=n) (C:=fun _=>False) (v0:= .slice (some ⟨g,0,none⟩) m.toNat cap) (w':=w) (l':=l.take m.toNat) hh (Km hl) (fun _ hk=>hk.elim) (Grow.refl _ _) (fun k hk=> .inl (hblk k (by rw[←hb];exact hk))) ⟨_,_,_,rfl⟩
        (fun V' hV=>jf.mono hV (fun _ _=>rfl) (Zf cr (by dsimp only;omega))) he
       exact ck hd hrun ⟨aK,O,s1.slot U3⟩
      ·cases e9
   ·cases he
  ·cases he
 ·obtain⟨e1,v,h2,h3⟩:=SR (P:=P) (w:=w) hT (h.av hG) hx he;exact cm hE hd h e1 (v:=v) (by simp[execOp,ho,h2]) h3
end
theorem Rel.tr {hs:List Nat}{V V':View}(hc:∀(a:Addr) v,V (.cell a) v→V' (.cell a) v)(hr:∀h,hs.any (Nat.beq h)=true→∀n v,V (.ref h n) v→V' (.ref h n) v):
  ∀(t:Ty) (x:t.den) (cs:List Value),eo hs t=true→Rel V t x cs→Rel V' t x cs
 | .int k,x,cs,_,h=>h
 | .bool,x,cs,_,h=>h
 | .str,x,cs,_,h=>h
 | .slice t,xs,cs,hi,⟨A,c,br,h1,h2,h3,h5,h4⟩=>⟨A,c,br,h1,h2,h3.mono (fun x y=>Rel.tr hc hr t x y hi),h5,fun j u hj=>let ⟨ad,e,hv⟩:=h4 j u hj;⟨ad,e,hc _ _ hv⟩⟩
 | .unit,_,cs,_,h=>h
 | .pair a b,x,cs,hi,⟨c1,c2,e,h1,h2⟩=>by simp only[eo,Bool.and_eq_true] at hi;exact⟨c1,c2,e,Rel.tr hc hr a _ _ hi.1 h1,Rel.tr hc hr b _ _ hi.2 h2⟩
 | .st t,x,cs,hi,h=>Rel.tr hc hr t x cs hi h
 | .ref _,0,_,_,h=>h
 | .ref k,_+1,_,hi,⟨v,e,hs,hv⟩=>⟨v,e,hs,hr k hi _ _ hv⟩
 | .ptr _,0,_,_,h=>h
 | .ptr k,_+1,_,hi,⟨v,e,hs,hv⟩=>⟨v,e,hs,hr k hi _ _ hv⟩
 | .mp _,0,_,_,h=>h
 | .mp k,_+1,_,hi,⟨v,e,hs,hv⟩=>⟨v,e,hs,hr k hi _ _ hv⟩
 | .fn,_,_,_,h=>h
 | .px t,none,cs,_,h=>h
 | .px t,some xs,cs,hi,⟨ad,c,br,h1,h2,h3,h4⟩=>⟨ad,c,br,h1,h2,h3.mono (fun x y=>Rel.tr hc hr t x y hi),fun j u hj=>hc _ _ (h4 j u hj)⟩
theorem Rel.trN {V V':View}(hr:∀h n v,V (.ref h n) v→V' (.ref h n) v):
  ∀(t:Ty) (x:t.den) (cs:List Value),Ep t=true→Rel V t x cs→Rel V' t x cs
 | .int k,x,cs,_,h=>h
 | .bool,x,cs,_,h=>h
 | .str,x,cs,_,h=>h
 | .slice t,xs,cs,hi,_=>by cases hi
 | .unit,_,cs,_,h=>h
 | .pair a b,x,cs,hi,⟨c1,c2,e,h1,h2⟩=>by simp only[Ep,Bool.and_eq_true] at hi;exact⟨c1,c2,e,Rel.trN hr a _ _ hi.1 h1,Rel.trN hr b _ _ hi.2 h2⟩
 | .st t,x,cs,hi,h=>Rel.trN hr t x cs hi h
 | .ref _,0,_,_,h=>h
 | .ref k,_+1,_,hi,⟨v,e,hs,hv⟩=>⟨v,e,hs,hr _ _ _ hv⟩
 | .ptr _,0,_,_,h=>h
 | .ptr k,_+1,_,hi,⟨v,e,hs,hv⟩=>⟨v,e,hs,hr _ _ _ hv⟩
 | .mp _,0,_,_,h=>h
 | .mp k,_+1,_,hi,⟨v,e,hs,hv⟩=>⟨v,e,hs,hr _ _ _ hv⟩
 | .fn,_,_,_,h=>h
 | .px t,_,cs,hi,_=>by cases hi
theorem wT.PF {V:View}{t:Ty}{x:t.den}{v:Value}(h:∀u,t≠ .st u)(hr:Rel V t x [v]):wT V t x v:=by
 cases t with
 |st u=>exact absurd rfl (h u)
 |_=>exact hr
theorem wT.tr {hs:List Nat}{V V':View}(hc:∀(a:Addr) v,V (.cell a) v→V' (.cell a) v)(hr:∀h,hs.any (Nat.beq h)=true→∀n v,V (.ref h n) v→V' (.ref h n) v){t:Ty}{x:t.den}{v:Value}(hi:eo hs t=true)(h:wT V t x v):wT V' t x v:=by
 cases t with
 |st t=>obtain⟨cs,h1,h2⟩:=h;exact⟨cs,h1,Rel.tr hc hr _ _ _ hi h2⟩
 |_=>exact Rel.tr hc hr _ _ _ hi h
def Dw (V:View):(ts:List Ty)→rU ts→List Value→Prop
 | [],_,vs=>vs=[]
 | [t],x,vs=>∃v,vs=[v]∧qy V (flat t x) v
 |t::u::ts,x,vs=>∃v r,vs=v::r∧qy V (flat t x.1) v∧Dw V (u::ts) x.2 r
def ArgRel (V:View):(p:nK)→p.den→Value→Prop
 | .v t,x,v=>wT V t x v
 | .fn f ts,x,v=>∃vs:List Value,v= .func (.func f) #[] vs.toArray∧Dw V ts x vs
 | .c cs,_,v=>∃vs:List Value,v= .agg vs.toArray∧aC (bJ V) cs vs
 | .rp t,x,v=>qy V (flat t x) v
 | .bx _,_,_=>False
 | .Ly,_,_=>False
def mM (V:View):(ps:List nK)→Gq ps→List Value→Prop
 | [],_,vs=>vs=[]
 | [p],x,vs=>∃v,vs=[v]∧ArgRel V p x v
 |p::q::ps,x,vs=>∃v r,vs=v::r∧ArgRel V p x.1 v∧mM V (q::ps) x.2 r
section heaps
variable {T:cG}{σ:AS}{Φ:bN T}
theorem y9 (wr:List Nat):∀(hs:List Nat) (x:En T hs) (ae:List aV),(qt T wr hs x ae).length=ae.length
 | [],_,ae=>rfl
 | [h],x,ae=>by simp[qt,sJ]
 |h::i::r,x,ae=>by simp only[qt];rw[y9 wr (i::r)];simp[sJ]
theorem ka (wr:List Nat):∀(hs:List Nat) (x:En T hs) (ae:List aV) (k:Nat),k∉hs→(qt T wr hs x ae)[k]? =ae[k]?
 | [],_,ae,k,_=>rfl
 | [h],x,ae,k,hk=>by simp only[qt,sJ];rw[List.getElem?_set_ne (by simp at hk;omega)]
 |h::i::r,x,ae,k,hk=>by simp only[List.mem_cons,not_or] at hk;simp only[qt];rw[ka wr (i::r) _ _ k (by simp only[List.mem_cons,not_or];exact hk.2)];simp only[sJ];rw[List.getElem?_set_ne (by omega)]
theorem VQ (e:TypeId)(k:Nat)(w:Bool){s t:Ty}(h:s=t)(xs:List (Option (List s.den))):(⟨e,t,k,w,QA h xs⟩:aV)=⟨e,s,k,w,xs⟩:=by subst h;rfl
theorem Zg {w:Bool}{ae:List aV}{h:Nat}{hr:aV}(e1:hr.e=(T.ht h).e)(e2:hr.k=(T.ht h).k)(e3:hr.t=(T.ht h).t):sJ T w ae h (QA e3 hr.xs)=ae.set h ⟨hr.e,hr.t,hr.k,w,hr.xs⟩:=by unfold sJ;rw[VQ, ←e1, ←e2]
def aoh (T:cG)(σ:AS)(wr:List Nat)(put:List aV→List aV)(h:Nat):Prop:=∃hr:aV,σ.ae[h]? =some hr∧(wr.any (Nat.beq h)=true→hr.w=true)∧hr.e=(T.ht h).e∧hr.k=(T.ht h).k∧hr.t=(T.ht h).t∧
 ∀S5:List aV,h<S5.length→(put S5)[h]? =some ⟨hr.e,hr.t,hr.k,wr.any (Nat.beq h),hr.xs⟩
theorem VR (wr:List Nat):∀(hs:List Nat) (k:En T hs→Q T cn) (r:cn),(Sw T wr hs k).val Φ σ=some r→∃x,(k x).val Φ σ=some r∧∀h∈hs,aoh T σ wr (qt T wr hs x) h
 | [],k,r,h=>⟨(),h,fun h hh=>by simp at hh⟩
 | [h],k,r,he=>by
   simp only[Sw] at he;rw[ft] at he;obtain⟨hr,hh,he⟩:=he;rw[aB] at he;obtain⟨hc,he⟩:=he;simp only[Bool.and_eq_true,beq_iff,Bool.or_eq_true,Bool.not_eq_true'] at hc;obtain⟨⟨hw,e1⟩,e2⟩:=hc;split at he
   ·rename_i e3;refine⟨_,he,fun h' hm=> ?_⟩;simp only[List.mem_singleton] at hm;subst hm;refine⟨hr,hh,fun ha=> ?_,e1,e2,e3,fun S5 hlt=> ?_⟩
    ·rcases hw with hw |hw
     ·exact hw
     ·rw[ha] at hw;cases hw
    ·simp only[qt];rw[Zg e1 e2 e3,List.getElem?_set_self hlt]
   ·cases he
 |h::i::rs,k,r,he=>by
  simp only[Sw] at he;rw[ft] at he;obtain⟨hr,hh,he⟩:=he;rw[aB] at he;obtain⟨hc,he⟩:=he;simp only[Bool.and_eq_true,beq_iff,Bool.or_eq_true,Bool.not_eq_true'] at hc;obtain⟨⟨hw,e1⟩,e2⟩:=hc;split at he
  ·rename_i e3;obtain⟨x,hx,SY⟩:=VR wr (i::rs) _ r he;refine⟨_,hx,fun h' hm=> ?_⟩;by_cases hm2:h'∈i::rs
   ·obtain⟨hr',g1,g2,g3,g4,g5,g6⟩:=SY h' hm2;refine⟨hr',g1,g2,g3,g4,g5,fun S5 hlt=> ?_⟩;simp only[qt];exact g6 _ (by simpa [sJ] using hlt)
   ·have:h'=h:=by
     rcases List.mem_cons.1 hm with e |e
     ·exact e
     ·exact absurd e hm2
    subst this;refine⟨hr,hh,fun ha=> ?_,e1,e2,e3,fun S5 hlt=> ?_⟩
    ·rcases hw with hw |hw
     ·exact hw
     ·rw[ha] at hw;cases hw
    ·simp only[qt];rw[ka wr (i::rs) _ _ h' hm2,Zg e1 e2 e3,List.getElem?_set_self hlt]
  ·cases he
theorem xK (h:Nat)(hr:aV)(e:(cC T)[h]? =some hr):hr.xs=[]:=by unfold cC at e;rw[List.getElem?_map,Option.map_eq_some_iff] at e;obtain⟨g,_,rfl⟩:=e;rfl
theorem qA:(cC T).length=T.ae.length:=by simp[cC]
end heaps
open Go.RowKit Go.Lib
section
variable {P:Program}{T:cG}{E:Env}{σ ag:AS}{a:Act}{w w':World}{ν aK:Nm→Value}{O:Nat→Prop}{Φ:bN T}{V V':View}{Y:Value}{ae:List aV}{hs:List Nat}
def Src (V V':View)(t:Ty)(l:List t.den)(v:Value):Prop:=∃(A:Option Addr) (c:Nat) (br:List (List Value)),v= .slice A l.length c∧l.length≤c∧aC (Rel V t) l br∧(A=none→c=0)∧
 ∀j u,br.flatten[j]? =some u→∃ad,A=some ad∧V' (.cell (ad.add j)) u
theorem QH {α β γ:Type}{R:α→γ→Prop}{S:β→γ→Prop}{f:α→Option β}(hf:∀x y c,f x=some y→R x c→S y c):∀{xs:List α} {ys:List β} {cs:List γ},lH f xs=some ys→aC R xs cs→aC S ys cs
 | [],ys,[],h,_=>by simp only[lH,Option.some.injEq] at h;subst h;trivial
 |x::xs,ys,c::cs,h,hr=>by
  simp only[lH] at h;split at h
  ·rename_i y hy;split at h
   ·rename_i l hl;simp only[Option.some.injEq] at h;subst h;exact⟨hf _ _ _ hy hr.1,QH hf hl hr.2⟩
   ·cases h
  ·cases h
 | [],ys,_::_,_,hr=>hr.elim
 |_::_,ys,[],_,hr=>hr.elim
theorem Src.tr {t:Ty}{l:List t.den}{v:Value}(hc:∀(a:Addr) v,V (.cell a) v→V' (.cell a) v)(hr:∀h,hs.any (Nat.beq h)=true→∀n v,V (.ref h n) v→V' (.ref h n) v)(hi:eo hs t=true)(h:Src V V' t l v):bJ V' ⟨.slice t,l⟩ v:=by obtain⟨A,c,br,h1,h2,h3,h4,h5⟩:=h;exact⟨A,c,br,by rw[h1],h2,h3.mono (fun x y=>Rel.tr hc hr t x y hi),h4,h5⟩
theorem I0 (hc:∀(a:Addr) v,V (.cell a) v→V' (.cell a) v)(hr:∀h,hs.any (Nat.beq h)=true→∀n v,V (.ref h n) v→V' (.ref h n) v)
  (hsrc:∀(i n:Nat) (hr:aV) (l:List hr.t.den) (v:Value),ae[i]? =some hr→ai hr.xs n=some l→bJ V ⟨.ref i,n⟩ v→Src V V' hr.t l v):
  ∀{t:Ty} {l:List CV} {x:t.den} {r:List CV} {vs:List Value},eo hs t=true→snap ae t l=some (x,r)→aC (bJ V) l vs→∃v1 v2,vs=v1++v2∧Rel V' t x v1∧aC (bJ V) r v2
 | .unit,l,x,r,vs,_,h,hl=>by simp only[snap,Option.some.injEq,Prod.mk.injEq] at h;obtain⟨_,rfl⟩:=h;exact⟨[],vs,rfl,rfl,hl⟩
 | .pair a b,l,x,r,vs,hi,h,hl=>by
   simp only[eo,Bool.and_eq_true] at hi;simp only[snap] at h;split at h
   ·rename_i y l' h1;split at h
    ·rename_i z l'' h2;simp only[Option.some.injEq,Prod.mk.injEq] at h;obtain⟨rfl,rfl⟩:=h;obtain⟨v1,v2,rfl,r1,r2⟩:=I0 hc hr hsrc hi.1 h1 hl;obtain⟨v3,v4,rfl,r3,r4⟩:=I0 hc hr hsrc hi.2 h2 r2;exact⟨v1++v3,v4,by rw[List.append_assoc],⟨v1,v3,rfl,r1,r3⟩,r4⟩
    ·cases h
   ·cases h
 | .st t,l,x,r,vs,hi,h,hl=>I0 (t:=t) hc hr hsrc hi h hl
 | .slice t,l,x,r,vs,hi,h,hl=>by
   have hi':eo hs t=true:=hi;simp only[snap] at h;unfold Gr at h;split at h
   ·rename_i i n l';cases vs with
    |nil=>exact hl.elim
    |cons v vs=>
     cases hb:Nat.beq n 0 with
     |true=>rw[hb,cond_true] at h;simp only[Option.some.injEq,Prod.mk.injEq] at h;obtain⟨rfl,rfl⟩:=h;have:=(beq_iff _ _).1 hb;subst this;exact⟨[v],vs,rfl,VJ hl.1,hl.2⟩
     |false=>
     rw[hb,cond_false] at h;split at h
     ·rename_i Ze hh;simp only[Option.bind_eq_some_iff,Option.some.injEq,Prod.mk.injEq] at h;obtain⟨ys,hys,xs,hxs,rfl,rfl⟩:=h;obtain⟨A,c,br,e1,e2,e3,e4,e5⟩:=hsrc i n Ze ys v hh hys hl.1;have hall:aC (Rel V' t) xs br:=QH (R:=Rel V Ze.t) (fun y z cs hy cr=>by
       split at hy
       ·rename_i x' hsn;simp only[Option.some.injEq] at hy;subst hy;obtain⟨v1,v2,rfl,h1,h2⟩:=I0 hc hr hsrc hi' hsn (iC cr);cases v2 with
        |nil=>simpa using h1
        |cons _ _=>exact h2.elim
       ·cases hy) hxs e3
      have hlen:xs.length=ys.length:=by rw[hall.length,e3.length]
      exact⟨[v],vs,rfl,⟨A,c,br,by rw[e1,hlen],by rw[hlen];exact e2,hall,e4,e5⟩,hl.2⟩
     ·cases h
   ·rename_i t' o l';cases vs with
    |nil=>exact hl.elim
    |cons v vs=>
     simp only[Option.map_eq_some_iff,Prod.mk.injEq] at h;obtain⟨⟨y,r'⟩,h1,h2,h3⟩:=h;simp only at h2 h3;subst h2 h3;have he:=bV h1;simp only[List.cons.injEq] at he;have h4:bJ V ⟨.slice t',lst o⟩ v:=SL hl.1;rw[he.1] at h4;exact⟨[v],vs,rfl,Rel.tr hc hr _ _ _ hi h4,by
      have:=he.2;subst this;exact hl.2⟩
   ·rw[bV h] at hl;cases vs with
    |nil=>exact hl.elim
    |cons v vs=>exact⟨[v],vs,rfl,Rel.tr hc hr _ _ _ hi hl.1,hl.2⟩
 | .px t,l,x,r,vs,hi,h,hl=>by
   simp only[snap] at h;unfold W7 at h;split at h
   ·rename_i t' xs l';cases vs with
    |nil=>exact hl.elim
    |cons v vs=>
     cases xs with
     |nil=>cases h
     |cons x0 xs=>
      simp only[Option.map_eq_some_iff,Prod.mk.injEq] at h;obtain⟨⟨y,r'⟩,h1,h2,h3⟩:=h;simp only at h2 h3;subst h2 h3;have he:=bV h1;simp only[List.cons.injEq] at he;obtain⟨A,c,br,e1,e2,e3,e4,e5⟩:=qz hl.1;have h4:bJ V ⟨.px t',(some (x0::xs):Option (List t'.den))⟩ v:=by
       cases A with
       |none=>have:=e4 rfl;simp at e2;omega
       |some ad=>
        refine⟨ad,c,br,by rw[e1],e2,e3,fun j u hj=> ?_⟩;obtain⟨Pw,h5,h6⟩:=e5 j u hj;obtain rfl:ad=Pw:=by simpa using h5
        exact h6
      rw[he.1] at h4;exact⟨[v],vs,rfl,Rel.tr hc hr _ _ _ hi h4,by
       have:=he.2;subst this;exact hl.2⟩
   ·rw[bV h] at hl;cases vs with
    |nil=>exact hl.elim
    |cons v vs=>exact⟨[v],vs,rfl,Rel.tr hc hr _ _ _ hi hl.1,hl.2⟩
 | .int k,l,x,r,vs,hi,h,hl=>leaf hi h hl
 | .bool,l,x,r,vs,hi,h,hl=>leaf hi h hl
 | .str,l,x,r,vs,hi,h,hl=>leaf hi h hl
 | .ref k,l,x,r,vs,hi,h,hl=>by
   simp only[snap] at h;unfold W8 at h;split at h
   ·rename_i h' n l';cases hc:Nat.beq k h' with
    |true=>rw[hc,cond_true] at h;exact leaf hi h hl
    |false=>
    rw[hc,cond_false] at h;cases hb:Nat.beq n 0 with
    |false=>rw[hb] at h;cases h
    |true=>
     rw[hb] at h;have e1:some ((0:Nat),l')=some (x,r):=h;simp only[Option.some.injEq,Prod.mk.injEq] at e1;obtain⟨rfl,rfl⟩:=e1;obtain rfl:n=0:=Nat.eq_of_beq_eq_true hb;cases vs with
     |nil=>exact hl.elim
     |cons v vs=>exact⟨[v],vs,rfl,(show [v]=[Value.slice none 0 0] from hl.1),hl.2⟩
   ·exact leaf hi h hl
 | .ptr k,l,x,r,vs,hi,h,hl=>leaf hi h hl
 | .mp k,l,x,r,vs,hi,h,hl=>leaf hi h hl
 | .fn,l,x,r,vs,hi,h,hl=>leaf hi h hl
where
 leaf {t:Ty} {l:List CV} {x:t.den} {r:List CV} {vs:List Value} (hi:eo hs t=true) (h:cQ t l=some (x,r)) (hl:aC (bJ V) l vs):∃v1 v2,vs=v1++v2∧Rel V' t x v1∧aC (bJ V) r v2:=by
  rw[bV h] at hl;cases vs with
  |nil=>exact hl.elim
  |cons v vs=>exact⟨[v],vs,rfl,Rel.tr hc hr _ _ _ hi hl.1,hl.2⟩
theorem Kr (hc:∀(a:Addr) v,V (.cell a) v→V' (.cell a) v)(hr:∀h,hs.any (Nat.beq h)=true→∀n v,V (.ref h n) v→V' (.ref h n) v)
  (hsrc:∀(i n:Nat) (hr:aV) (l:List hr.t.den) (v:Value),ae[i]? =some hr→ai hr.xs n=some l→bJ V ⟨.ref i,n⟩ v→Src V V' hr.t l v)
  {t:Ty} {av:AV} {x:t.den} {v:Value} (hi:eo hs t=true) (h:typed ae t av=some x) (ha:aj V σ ν Y av v):wT V' t x v:=by
 have s1:∀{t:Ty} {l:List CV} {x:t.den} {vs:List Value},eo hs t=true→vh ae t l=some x→aC (bJ V) l vs→Rel V' t x vs:=fun {t l x vs} hi h hl=>by
  unfold vh at h;split at h
  ·rename_i y h1;simp only[Option.some.injEq] at h;subst h;obtain⟨v1,v2,rfl,h2,h3⟩:=I0 hc hr hsrc hi h1 hl;cases v2 with
   |nil=>simpa using h2
   |cons _ _=>exact h3.elim
  ·cases h
 unfold typed at h;split at h
 ·rename_i cs;obtain⟨vs,h1,h2⟩:=ha;exact⟨vs,h1,s1 hi h h2⟩
 ·rename_i t vs;split at h
  ·rename_i cs hl;obtain⟨l1,h1,h2⟩:=iH (V:=V') hl;refine⟨vs.toList, ?_,iD ?_⟩
   ·have:v= .agg vs:=ha;simpa using this
   ·rw[←qv h,h1,List.append_nil];exact h2
  ·cases h
 ·cases h
 ·rename_i c hn;exact wT.PF (fun u e=>by subst e;exact hn u rfl) (s1 hi h (vs:=[v]) ⟨ha,trivial⟩)
 ·rename_i v' hn1 hn2;split at h
  ·rename_i c hl;obtain⟨l1,h1,h2⟩:=iH (V:=V') hl;have h3:v=v':=ha;rw[List.append_nil] at h1;subst h1;subst h3;have:=Dq h;subst this;exact wT.PF (fun u e=>by subst e;exact hn2 u rfl) h2.1
  ·cases h
 ·cases h
end
open Go.RowKit Go.Lib
def XOf (σ:AS)(ν:Nm→Value)(hout:List Nat)(k:Nat):Prop:=∃i n,hout.any (Nat.beq i)=true∧Own σ ν (.hp i n) k
theorem xL (ad:Addr)(j:Nat):(ad.add j).block=ad.block:=by unfold Addr.add;split<;>rfl
section
variable {P:Program}{T:cG}{E:Env}{σ ag:AS}{a:Act}{w w':World}{ν aK:Nm→Value}{O:Nat→Prop}{Φ:bN T}{V V':View}{Y:Value}{hs hout:List Nat}
structure U5 (V V':View) (σ:AS) (ν:Nm→Value) (w:World) (hin hout:List Nat) (dg:Bool):Prop where
 cell:∀(a:Addr) v,V (.cell a) v→V' (.cell a) v
 ref:∀h,hin.any (Nat.beq h)=true→∀n v,V (.ref h n) v→V' (.ref h n) v
 all:dg=true→∀(ad:Addr) u,w.cell? ad=some u→¬XOf σ ν hout ad.block→V' (.cell ad) u
theorem U5.src {dg:Bool}(hl:U5 V V' σ ν w hs hout dg)(h1:dg=true){v:Value}{row:Row}(hr:jf V w v row)(hb:∀k,cR v=some k→¬XOf σ ν hout k):Src V V' row.t row.xs v:=by obtain⟨A,c,br,e1,e2,e3,e4,e5⟩:=R7 hr;refine⟨A,c,br,e1,e2,e3,e4,fun j u hj=> ?_⟩;obtain⟨ad,rfl,hc⟩:=e5 j u hj;refine⟨ad,rfl,hl.all h1 _ _ hc ?_⟩;rw[xL];exact hb _ (by rw[e1];rfl)
theorem aez (h:St E σ a w ν O){q:Nat}(hq:(look σ.rows q).isSome=true)(k:Nat)(hk:cR (ν (.row q))=some k):¬XOf σ ν hout k:=fun⟨i,n,_,ho⟩=>by have:=h.inj _ _ k ⟨by simpa [AS.obj] using hq,hk⟩ ho;cases this
theorem aeA (h:St E σ a w ν O){q:Nat}(hq:(look σ.boxes q).isSome=true)(k:Nat)(hk:cR (ν (.box q))=some k):¬XOf σ ν hout k:=fun⟨i,n,_,ho⟩=>by have:=h.inj _ _ k ⟨by simpa [AS.obj] using hq,hk⟩ ho;cases this
theorem LD {k:List aV→Q T cn}{r:cn}:∀(is:List Nat) (acc:List aV),(Br is acc k).val Φ σ=some r→∃l:List aV,(k (acc.reverse++l)).val Φ σ=some r∧aC (fun i hr=>σ.ae[i]? =some hr) is l
 | [],acc,h=>⟨[],by simpa [Br] using h,trivial⟩
 |i::is,acc,h=>by simp only[Br] at h;rw[ft] at h;obtain⟨hr,h1,h⟩:=h;obtain⟨l,h2,h3⟩:=LD is (hr::acc) h;exact⟨hr::l,by simpa using h2,h1,h3⟩
theorem Zh {dg:Bool}(h:St E σ a w ν O)(hl:U5 (view E σ ν O w) V' σ ν w hs hout dg)(h1:dg=true){q:Nat}{row:Row}{t:Ty}{x:t.den}(hi:eo hs t=true)(hrow:look σ.rows q=some row)
  (hx:(cQ t [⟨.slice row.t,row.xs⟩]).map (·.1)=some x):bJ V' ⟨t,x⟩ (ν (.row q))∧(∀u,t≠ .st u)∧ [(⟨.slice row.t,row.xs⟩:CV)]=flat t x:=by
 have:=Dq hx;obtain⟨e,t',xs⟩:=row;dsimp only at this;injection this with e1 e2
 subst e1;simp only[heq_eq_eq] at e2;subst e2;exact⟨(hl.src h1 (h.row hrow) (aez h (bf hrow))).tr hl.cell hl.ref hi,(fun u e=>by cases e),rfl⟩
theorem GH {dg:Bool}(h:St E σ a w ν O)(hl:U5 (view E σ ν O w) V' σ ν w hs hout dg){t:Ty}(hi:eo hs t=true){k:t.den→Q T cn}{r:cn}{c:Hv}{v:Value}(hc:rX (view E σ ν O w) σ ν c v)(h1:dg=true∨∃cs,c= .pg cs)
  (he:(IK t k c).val Φ σ=some r):∃x,(k x).val Φ σ=some r∧qy V' (flat t x) v:=by
 unfold IK at he;split at he
 ·rename_i b;have h1:dg=true:=by
   rcases h1 with h1 | ⟨cs,e⟩
   ·exact h1
   ·cases e
  obtain⟨hbs,g,RD,rfl⟩:=hc;rw[Dm] at he;obtain⟨bx,hb,he⟩:=he;obtain⟨g',hg',hbr⟩:=h.box hb;obtain rfl:g=g':=by rw[RD] at hg';simpa using hg'
  have hnx:=aeA (hout:=hout) h (bf hb) g (by rw[RD];rfl);split at he
  ·rename_i cs;obtain⟨cur,e,hg,cr⟩:=hbr;rw[b6] at he;obtain⟨x,hx,he⟩:=he;have e1:=qv hx;subst e1;refine⟨x,he,⟨g,0,none⟩,cur.toList,rfl,iC (Rel.tr hl.cell hl.ref _ _ _ hi (iD cr)),fun j u hj=>hl.all h1 _ _ ?_ (by rw[xL];exact hnx)⟩;rw[HB,cell_of_row w g j cur e (0,0) hg];simpa using hj
  ·rename_i q;obtain⟨e,hg,_⟩:=hbr;rw[qi] at he;obtain⟨row,hrow,he⟩:=he;rw[b6] at he;obtain⟨x,hx,he⟩:=he;obtain⟨h2,_,h3⟩:=Zh h hl h1 hi hrow hx;refine⟨x,he,⟨g,0,none⟩,[ν (.row q)],rfl, ?_,fun j u hj=>hl.all h1 _ _ ?_ (by rw[xL];exact hnx)⟩
   ·exact iC h2
   ·rw[HB,cell_of_row w g j _ e (0,0) hg];simpa using hj
  ·cases he
 ·rename_i cs;rw[b6] at he;obtain⟨x,hx,he⟩:=he;have e1:=qv hx;subst e1;obtain⟨ad,vs,e2,e3,e4⟩:=hc;exact⟨x,he,ad,vs,e2,iC (Rel.tr hl.cell hl.ref _ _ _ hi (iD e3)),fun j u hj=>hl.cell _ _ (e4 j u hj)⟩
theorem QI {dg:Bool}(h:St E σ a w ν O)(hl:U5 (view E σ ν O w) V' σ ν w hs hout dg){r:cn}:∀{ts:List Ty} {aQ:List Hv} {vs:List Value} {k:rU ts→Q T cn},(ts.all (eo hs))=true→aC (rX (view E σ ν O w) σ ν) aQ vs→(dg=true∨aQ=[])→
  (yr ts aQ k).val Φ σ=some r→∃x,(k x).val Φ σ=some r∧Dw V' ts x vs
 | [],[],[],k,_,_,_,he=>⟨(),he,rfl⟩
 | [t],[c],[v],k,hi,hc,h1,he=>by simp only[List.all_cons,List.all_nil,Bool.and_true] at hi;simp only[yr] at he;obtain⟨x,h2,h3⟩:=GH h hl hi hc.1 (.inl (h1.resolve_right (fun e=>by cases e))) he;exact⟨x,h2,v,rfl,h3⟩
 |t::u::ts,c::cs,v::vs,k,hi,hc,h1,he=>by simp only[List.all_cons,Bool.and_eq_true] at hi;simp only[yr] at he;obtain⟨x,h2,h3⟩:=GH h hl hi.1 hc.1 (.inl (h1.resolve_right (fun e=>by cases e))) he;obtain⟨y,h4,h5⟩:=QI h hl (ts:=u::ts) (by simp only[List.all_cons,Bool.and_eq_true];exact hi.2) hc.2 (.inl (h1.resolve_right (fun e=>by cases e))) h2;exact⟨(x,y),h4,v,vs,rfl,h3,h5⟩
 | [],_::_,_,k,_,_,_,he=>by simp only[yr,y7] at he
 | [_],[],_,k,_,_,_,he=>by simp only[yr,y7] at he
 | [_],_::_::_,_,k,_,_,_,he=>by simp only[yr,y7] at he
 |_::_::_,[],_,k,_,_,_,he=>by simp only[yr,y7] at he
 | [],[],_::_,k,_,hc,_,_=>hc.elim
 | [_],[_],[],k,_,hc,_,_=>hc.elim
 | [_],[_],_::_::_,k,_,hc,_,_=>hc.2.elim
 |_::_::_,_::_,[],k,_,hc,_,_=>hc.elim
theorem ahb {a b:CV}(h:agC a b=true):a=b:=by
 unfold agC at h;split at h
 ·rename_i i x j y;simp only[Bool.and_eq_true,decide_eq_true_eq,beq_iff_eq] at h;obtain⟨rfl,rfl⟩:=h;rfl
 ·rename_i x y;have:x=y:=by simpa using h
  subst this;rfl
 ·rename_i x y;have:x=y:=(beq_iff _ _).1 h;subst this;rfl
 ·cases h
theorem VS:∀{a b:List CV},Xc a b=true→a=b
 | [],[],_=>rfl
 |a::r,b::s,h=>by simp only[Xc,Bool.and_eq_true] at h;rw[ahb h.1,VS h.2]
 | [],_::_,h=>by cases h
 |_::_,[],h=>by cases h
theorem S6 {av:AV}{v:Value}(ha:aj V σ ν Y av v){g:FuncId}{aQ:List Hv}(h:Po av=some (g,aQ)):∃vs:List Value,v= .func (.func g) #[] vs.toArray∧aC (rX V σ ν) aQ vs:=by
 unfold Po at h;split at h
 ·simp only[Option.some.injEq,Prod.mk.injEq] at h;obtain⟨rfl,rfl⟩:=h;exact ha
 ·rename_i n;split at h
  ·simp only[Option.some.injEq,Prod.mk.injEq] at h;obtain⟨rfl,rfl⟩:=h;have: [v]=[fnV _]:=ha;simp only[List.cons.injEq,and_true] at this;exact⟨[],this,trivial⟩
  ·cases h
 ·cases h
theorem Zi {dg:Bool}{nh:Nat}(h:St E σ a w ν O)(hl:U5 (view E σ ν O w) V' σ ν w hs hout dg){p:nK}(hi:RZ hs p=true){av:AV}{v:Value}(ha:aj (view E σ ν O w) σ ν E.Y av v){k:p.den→Q T cn}{r:cn}
  (he:(aeg dg nh hout p av k).val Φ σ=some r):∃x,(k x).val Φ σ=some r∧ArgRel V' p x v:=by
 have aoi:∀(i n:Nat) (hr:aV) (l:List hr.t.den) (v:Value),([]:List aV)[i]? =some hr→ai hr.xs n=some l→bJ (view E σ ν O w) ⟨.ref i,n⟩ v→Src (view E σ ν O w) V' hr.t l v:=fun i n hr l v e=>by simp at e
 unfold aeg at he;split at he
 ·rename_i t k;split at he
  ·rename_i q;rw[aB] at he;obtain⟨h1,he⟩:=he;rw[qi] at he;obtain⟨row,hrow,he⟩:=he;rw[b6] at he;obtain⟨x,hx,he⟩:=he;obtain⟨h2,h3,_⟩:=Zh h hl h1 hi hrow hx;exact⟨x,he,wT.PF h3 (by rw[ha.1];exact h2)⟩
  ·rename_i hno;have fin:(Q.opt (typed [] t av) k).val Φ σ=some r→∃x,(k x).val Φ σ=some r∧ArgRel V' (.v t) x v:=fun he=>by rw[b6] at he;obtain⟨x,hx,he⟩:=he;exact⟨x,he,Kr hl.cell hl.ref aoi hi hx ha⟩
   cases hb:(Pp av&& !(abg t)&&dg) with
   |false=>rw[hb] at he;exact fin he
   |true=>
    rw[hb,cond_true] at he;have h1:dg=true:=by simp only[Bool.and_eq_true] at hb;exact hb.2
    obtain⟨l,he,hall⟩:=LD _ _ he;rw[b6] at he;obtain⟨x,hx,he⟩:=he;refine⟨x,he,Kr hl.cell hl.ref (fun i n hr l' v e hg hv=> ?_) hi hx ha⟩;simp only[List.reverse_nil,List.nil_append,List.getElem?_map,Option.map_eq_some_iff] at e;obtain⟨p,hp,e⟩:=e;rw[List.getElem?_zipIdx] at hp;simp only[Option.map_eq_some_iff,Nat.zero_add] at hp;obtain⟨Ze,hp1,rfl⟩:=hp;obtain⟨i',hi1,hi2⟩:=hall.get' i Ze hp1;have hii:i'=i:=by obtain⟨h5,h6⟩:=List.getElem?_eq_some_iff.1 hi1;simpa using h6.symm
    subst hii;dsimp only at e;cases ho:hout.any (Nat.beq i') with
    |true=>
     rw[ho,cond_true] at e;subst e;cases n with
     |zero=>simp only[ai,Option.some.injEq] at hg;subst hg;have: [v]=[_]:=hv;simp only[List.cons.injEq,and_true] at this;exact⟨none,0,[],this,Nat.le_refl _,trivial,fun _=>rfl,fun j u hj=>by simp at hj⟩
     |succ m=>simp[ai] at hg
    |false=>
     rw[ho,cond_false] at e;subst e;obtain⟨h2,h3,_⟩:=h.Kq hi2 hg hv;exact hl.src h1 h2 (fun k hk ⟨i2,n2,h4,h5⟩=>by
      have:=h.inj _ _ k (h3 k hk) h5;injection this with e1 e2
      subst e1;rw[ho] at h4;cases h4)
 ·rename_i f ts k;split at he
  ·rename_i g aQ hg;rw[aB] at he;obtain⟨hb,he⟩:=he;simp only[Bool.and_eq_true,Bool.or_eq_true,beq_iff] at hb;obtain⟨rfl,hb⟩:=hb;obtain⟨vs,e1,e2⟩:=S6 ha hg;obtain⟨x,h2,h3⟩:=QI h hl hi e2 (hb.imp id (fun e=>by simpa using e)) he;exact⟨x,h2,vs,e1,h3⟩
  ·cases he
 ·rename_i cs k;rw[aB] at he;obtain⟨hf,he⟩:=he;refine⟨(),he, ?_⟩;unfold agD at hf;split at hf
  ·rename_i e;cases e
  ·rename_i cs1 cs2 e;injection e with e
   subst e;obtain⟨vs,e1,e2⟩:=ha;have:=VS hf;subst this;refine⟨vs,e1, ?_⟩;have hi':∀c∈cs,eo hs c.1=true:=by simpa [RZ] using hi
   exact BE (fun c hc u hu=>Rel.tr hl.cell hl.ref _ _ _ (hi' c hc) hu) e2
  ·cases hf
  ·rename_i hx1 hx2 hx3 hx4
   first |exact absurd rfl (hx3 cs) |exact absurd rfl (hx4 cs) |exact(hx3 cs rfl).elim |exact(hx4 cs rfl).elim
 ·rename_i t k;split at he
  ·rename_i b;rw[aB] at he;obtain⟨h1,he⟩:=he;exact GH (c:= .box b) h hl hi ha (.inl h1) he
  ·rename_i cs;exact GH (c:= .pg cs) h hl hi ha (.inr ⟨cs,rfl⟩) he
  ·cases he
 ·cases he
 ·cases he
theorem VT {dg:Bool}{nh:Nat}(h:St E σ a w ν O)(hl:U5 (view E σ ν O w) V' σ ν w hs hout dg){r:cn}:∀{ps:List nK} {avs:List AV} {vs:List Value} {k:Gq ps→Q T cn},(ps.all (RZ hs))=true→aC (aj (view E σ ν O w) σ ν E.Y) avs vs→
  (LB dg nh hout ps avs k).val Φ σ=some r→∃x,(k x).val Φ σ=some r∧mM V' ps x vs
 | [],[],[],k,_,_,he=>⟨(),he,rfl⟩
 | [p],[c],[v],k,hi,hc,he=>by simp only[List.all_cons,List.all_nil,Bool.and_true] at hi;simp only[LB] at he;obtain⟨x,h2,h3⟩:=Zi h hl hi hc.1 he;exact⟨x,h2,v,rfl,h3⟩
 |t::u::ts,c::cs,v::vs,k,hi,hc,he=>by simp only[List.all_cons,Bool.and_eq_true] at hi;simp only[LB] at he;obtain⟨x,h2,h3⟩:=Zi h hl hi.1 hc.1 he;obtain⟨y,h4,h5⟩:=VT h hl (ps:=u::ts) (by simp only[List.all_cons,Bool.and_eq_true];exact hi.2) hc.2 h2;exact⟨(x,y),h4,v,vs,rfl,h3,h5⟩
 | [],_::_,_,k,_,_,he=>by simp only[LB,y7] at he
 | [_],[],_,k,_,_,he=>by simp only[LB,y7] at he
 | [_],_::_::_,_,k,_,_,he=>by simp only[LB,y7] at he
 |_::_::_,[],_,k,_,_,he=>by simp only[LB,y7] at he
 | [],[],_::_,k,_,hc,_=>hc.elim
 | [_],[_],[],k,_,hc,_=>hc.elim
 | [_],[_],_::_::_,k,_,hc,_=>hc.2.elim
 |_::_::_,_::_,[],k,_,hc,_=>hc.elim
end
open Go.RowKit Go.Lib
def aH (ae:List aV):AS:=⟨⟨0,[],[]⟩,[],[],ae,⟨.unit,()⟩,[],[]⟩
def kb (d:Nat):(ts:List Mg)→rU (ts.map (·.1))→List TU
 | [],_=>[]
 | [(t,some e)],x=>match ownRow t e x with
   |some row=>[.row d row]
   |none=>[]
 | [(t,none)],x=>[]
 | (t,some e)::u::ts,x=>match ownRow t e x.1 with
   |some row=> .row d row::kb (d+1) (u::ts) x.2
   |none=>kb (d+1) (u::ts) x.2
 | (t,none)::u::ts,x=>kb (d+1) (u::ts) x.2
def za (d:Nat):(ts:List Ty)→rU ts→List TU
 | [],_=>[]
 | [t],x=>[.box d (.cells (flat t x))]
 |t::u::ts,x=> .box d (.cells (flat t x.1))::za (d+1) (u::ts) x.2
def QJ (d:Nat):(ts:List Ty)→List Hv
 | []=>[]
 | [t]=>[.box d]
 |t::u::ts=> .box d::QJ (d+1) (u::ts)
def KS (d:Nat)(s:IE)(y:Mh s):List TU:=match s,y with
 | ⟨_,res,none,_,none⟩,y=>kb d res y
 | ⟨_,_,some (f,ts),_,none⟩,y=>za d ts y
 |_,_=>[]
def Zj (d:Nat)(s:IE)(y:Mh s):AV:=match s,y with
 | ⟨_,res,none,_,none⟩,y=>YP (As d res y)
 | ⟨_,_,some (f,ts),_,none⟩,y=> .fn f (QJ d ts)
 |_,_=> .nil
def aL (T:cG)(v:Nat)(xh:Bu T v):List aV:=qt T (T.sig v).hout (T.sig v).hin (Eo _ xh) (cC T)
def qB (T:cG)(v:Nat)(xh:Bu T v)(yh:xA T v):List aV:=qt T (T.sig v).hout (T.sig v).hout (Eo _ yh) (aL T v xh)
def wY (T:cG)(v d:Nat)(xh:Bu T v)(yh:xA T v):AS:=(aH (qB T v xh yh)).app (KS d (T.sig v) (vd _ yh))
def wZ (σ:AS)(us:List TU):Prop:=∀u∈us,match u with
 | .row k _=>look σ.rows k=none
 | .box k _=>look σ.boxes k=none
 |_=>False
section
variable {P:Program}{T:cG}{E:Env}{σ ag:AS}{a:Act}{w w':World}{ν aK:Nm→Value}{O:Nat→Prop}{Φ:bN T}{V V':View}{Y:Value}{hs hout:List Nat}
theorem wZ.cons {u:TU}{us:List TU}(h:wZ σ us)(hu:match u with | .row k _=>look σ.rows k=none | .box k _=>look σ.boxes k=none |_=>False):wZ σ (u::us):=fun x hx=>by
 rcases List.mem_cons.1 hx with rfl |hx
 ·exact hu
 ·exact h x hx
theorem wZ.nil:wZ σ []:=fun x hx=>by simp at hx
theorem I1 {r:cn}:∀(ts:List Mg) (d:Nat) (y:rU (ts.map (·.1))) (k:List TU→Q T cn),(yt d ts y k).val Φ σ=some r→(k (kb d ts y)).val Φ σ=some r∧wZ σ (kb d ts y)
 | [],d,y,k,h=>⟨h,wZ.nil⟩
 | [(t,none)],d,y,k,h=>⟨h,wZ.nil⟩
 | [(t,some e)],d,y,k,h=>by
   simp only[yt] at h;simp only[kb];split at h
   ·rename_i row hrow;rw[xE] at h;rw[hrow];exact⟨h.2,wZ.nil.cons h.1⟩
   ·cases h
 | (t,none)::u::ts,d,y,k,h=>by simp only[yt] at h;exact I1 (u::ts) (d+1) y.2 k h
 | (t,some e)::u::ts,d,y,k,h=>by
   simp only[yt] at h;simp only[kb];split at h
   ·rename_i row hrow;rw[xE] at h;rw[hrow];obtain⟨h1,h2⟩:=I1 (u::ts) (d+1) y.2 _ h.2;exact⟨h1,h2.cons h.1⟩
   ·cases h
theorem NY {r:cn}:∀(ts:List Ty) (d:Nat) (y:rU ts) (k:List TU→List Hv→Q T cn),(E4 d ts y k).val Φ σ=some r→(k (za d ts y) (QJ d ts)).val Φ σ=some r∧wZ σ (za d ts y)
 | [],d,y,k,h=>⟨h,wZ.nil⟩
 | [t],d,y,k,h=>by simp only[E4] at h;rw[xF] at h;exact⟨h.2,wZ.nil.cons h.1⟩
 |t::u::ts,d,y,k,h=>by simp only[E4] at h;rw[xF] at h;obtain⟨h1,h2⟩:=NY (u::ts) (d+1) y.2 _ h.2;exact⟨h1,h2.cons h.1⟩
theorem ahc {d:Nat}{s:IE}{y:Mh s}{us:List TU}{r:cn}(h:(agE T d s y us).val Φ σ=some r):r=(Zj d s y, .mI (us++KS d s y))∧wZ σ (KS d s y)∧s.gen=none:=by
 unfold agE at h;split at h
 ·obtain⟨h1,h2⟩:=I1 _ _ _ _ h;rw[gD] at h1;exact⟨h1.symm,h2,rfl⟩
 ·obtain⟨h1,h2⟩:=NY _ _ _ _ h;rw[gD] at h1;exact⟨h1.symm,h2,rfl⟩
 ·cases h
theorem abw (us vs:List TU):σ.app (us++vs)=(σ.app us).app vs:=by
 induction us generalizing σ with
 |nil=>rfl
 |cons u us ih=>exact ih
theorem S7 (wr:List Nat):∀(hs:List Nat) (x:En T hs) (σ:AS),(∀h∈hs,wr.any (Nat.beq h)=true)→σ.app (zU T hs x)={σ with ae:=qt T wr hs x σ.ae}
 | [],_,σ,_=>rfl
 | [h],x,σ,hw=>by simp only[zU,qt,sJ,AS.app,AS.one];rw[hw h (by simp)]
 |h::i::r,x,σ,hw=>by simp only[zU,qt,AS.app];rw[S7 wr (i::r) x.2 _ (fun h' hm=>hw h' (by simp only[List.mem_cons] at hm ⊢;exact .inr hm))];simp only[sJ,AS.one];rw[hw h (by simp)]
def Mr (us:List TU):Prop:=∀u∈us,(∃k r,u= .row k r)∨∃k x,u= .box k x
theorem wZ.only {us:List TU}(h:wZ σ us):Mr us:=fun u hu=>by
 have:=h u hu;cases u with
 |row k r=>exact .inl ⟨k,r,rfl⟩
 |box k x=>exact .inr ⟨k,x,rfl⟩
 |_=>exact this.elim
theorem S8 {us:List TU}(h:Mr us)(σ:AS):(σ.app us).tmps=σ.tmps∧(σ.app us).ae=σ.ae∧(σ.app us).trace=σ.trace∧(σ.app us).cq=σ.cq∧(σ.app us).sites=σ.sites:=by
 induction us generalizing σ with
 |nil=>exact⟨rfl,rfl,rfl,rfl,rfl⟩
 |cons u us ih=>
  have vg:=ih (fun x hx=>h x (by simp[hx])) (σ.one u);rcases h u (by simp) with ⟨k,r,rfl⟩ | ⟨k,x,rfl⟩
  ·exact vg
  ·exact vg
theorem ahd {us:List TU}(h:Mr us)(σ Pk de:AS)(hr:∀k,look de.rows k=(look Pk.rows k).or (look σ.rows k))(hb:∀k,look de.boxes k=(look Pk.boxes k).or (look σ.boxes k)):
  (∀k,look (de.app us).rows k=(look (Pk.app us).rows k).or (look σ.rows k))∧∀k,look (de.app us).boxes k=(look (Pk.app us).boxes k).or (look σ.boxes k):=by
 induction us generalizing Pk de with
 |nil=>exact⟨hr,hb⟩
 |cons u us ih=>
  refine ih (fun x hx=>h x (by simp[hx])) (Pk.one u) (de.one u) (fun k=> ?_) (fun k=> ?_)
  ·rcases h u (by simp) with ⟨j,r,rfl⟩ | ⟨j,x,rfl⟩
   ·show look (put _ _ _) k=(look (put _ _ _) k).or _;rw[aD,aD];split
    ·rfl
    ·exact hr k
   ·exact hr k
  ·rcases h u (by simp) with ⟨j,r,rfl⟩ | ⟨j,x,rfl⟩
   ·exact hb k
   ·show look (put _ _ _) k=(look (put _ _ _) k).or _;rw[aD,aD];split
    ·rfl
    ·exact hb k
theorem zb {us:List TU}(h:Mr us)(σ:AS)(k:Nat):(∀r,look (σ.app us).rows k=some r→look σ.rows k=some r∨TU.row k r∈us)∧∀x,look (σ.app us).boxes k=some x→look σ.boxes k=some x∨TU.box k x∈us:=by
 induction us generalizing σ with
 |nil=>exact⟨fun r h=> .inl h,fun r h=> .inl h⟩
 |cons u us ih=>
  obtain⟨h1,h2⟩:=ih (fun x hx=>h x (by simp[hx])) (σ.one u);rcases h u (by simp) with ⟨j,r0,rfl⟩ | ⟨j,x0,rfl⟩
  ·refine⟨fun r hr=> ?_,fun x hx=>(h2 x hx).imp id (fun h=>by simp[h])⟩;rcases h1 r hr with h3 |h3
   ·have h3':look (put σ.rows j r0) k=some r:=h3;rw[aD] at h3';split at h3'
    ·rename_i e;subst e;simp only[Option.some.injEq] at h3';subst h3';exact .inr (by simp)
    ·exact .inl h3'
   ·exact .inr (by simp[h3])
  ·refine⟨fun r hr=>(h1 r hr).imp id (fun h=>by simp[h]),fun x hx=> ?_⟩;rcases h2 x hx with h3 |h3
   ·have h3':look (put σ.boxes j x0) k=some x:=h3;rw[aD] at h3';split at h3'
    ·rename_i e;subst e;simp only[Option.some.injEq] at h3';subst h3';exact .inr (by simp)
    ·exact .inl h3'
   ·exact .inr (by simp[h3])
theorem adb (wr:List Nat):∀(hs:List Nat) (x:En T hs) (l l':List aV) (h:Nat),h∈hs→h<l.length→h<l'.length→(qt T wr hs x l)[h]? =(qt T wr hs x l')[h]?
 | [],_,_,_,h,hm,_,_=>by simp at hm
 | [i],x,l,l',h,hm,h1,h2=>by simp only[List.mem_singleton] at hm;subst hm;simp only[qt,sJ];rw[List.getElem?_set_self h1,List.getElem?_set_self h2]
 |i::j::r,x,l,l',h,hm,h1,h2=>by
  by_cases hm2:h∈j::r
  ·simp only[qt];exact adb wr (j::r) x.2 _ _ h hm2 (by simpa [sJ] using h1) (by simpa [sJ] using h2)
  ·have:h=i:=by
    rcases List.mem_cons.1 hm with e |e
    ·exact e
    ·exact absurd e hm2
   subst this;simp only[qt];rw[ka wr _ _ _ h hm2,ka wr _ _ _ h hm2];simp only[sJ];rw[List.getElem?_set_self h1,List.getElem?_set_self h2]
def Xw (T:cG)(V:View):Prop:=∀i x,look T.ale i=some x→∃g cs,i=gk g∧x= .pg cs∧qy V cs (.pointer (some ⟨g,0,none⟩))
def Ms (T:cG)(E:Env):Prop:=Mo E∧Xw T (fun key v=>∃ad:Addr,key= .cell ad∧ad.block<E.w0.heap.size∧E.V0 (.cell ad) v)
def kc:CV→(Nat→Prop)→World→Prop:=fun tr _ _=>tr=⟨.unit,()⟩
def Left (T:cG)(E:Env)(v:Nat)(xh:Bu T v)(yh:xA T v)(d:Nat)(e:Ending)(w':World):Prop:=
 ∃r aK,e= .returned r∧St E (wY T v d xh yh) ⟨#[],[]⟩ w' aK (fun _=>False)∧aj (view E (wY T v d xh yh) aK (fun _=>False) w') (wY T v d xh yh) aK E.Y (Zj d (T.sig v) (vd _ yh)) r
structure Callee (T:cG) (E:Env) (v:Nat) (xh:Bu T v):Prop where
 j:E.J=kc
 m:∀r,¬E.M r
 om:∀k,¬E.Om k
 acc:∀tr,E.acc tr
 hx:∀i k,i∉(T.sig v).hin→¬E.XH i k
 ro:∀i,E.ro i=bif (T.sig v).hin.any (Nat.beq i)&& !((T.sig v).hout.any (Nat.beq i)) then (aL T v xh)[i]? else none
def Zk (P:Program)(T:cG)(Φ:bN T):Prop:=∀v xh yh,Φ v xh=some yh→(T.sig v).gen=none→(∃fn,P.funcs[T.real v]? =some fn∧fn.body.isSome=true∧(fn.name== "runtime.NumGoroutine")=false)∧
 ∀(E:Env) (ν:Nm→Value) (args:Array Value) (d:Nat),aE E→Ms T E→Callee T E v xh→St E (aH (aL T v xh)) ⟨#[],[]⟩ E.w0 ν (fun _=>False)→
  mM (view E (aH (aL T v xh)) ν (fun _=>False) E.w0) (T.sig v).args (vd _ xh) args.toList→Calls P (T.real v) args E.w0 (Left T E v xh yh d)
end
open Go.RowKit Go.Lib
theorem GI {w:World}{a:Addr}{v:Value}(h:w.cell? a=some v):a.block<w.heap.size:=by
 unfold World.cell? at h;cases hb:w.heap[a.block]? with
 |none=>simp[hb] at h
 |some o=>exact(Array.getElem?_eq_some_iff.1 hb).1
theorem kC {l:List Nat}{h:Nat}:l.any (Nat.beq h)=true↔h∈l:=by rw[List.any_eq_true];exact⟨fun⟨x,hx,e⟩=>by rw[(beq_iff _ _).1 e];exact hx,fun hx=>⟨h,hx,beq_refl h⟩⟩
theorem Zl {T:cG}{A:Type}{x:A}:∀{hs:List Nat} {h:En T hs} {y:NF T A hs},IF x hs (some h)=some y→vd hs y=x∧Eo hs y=h
 | [],h,y,e=>by simp only[IF,Option.some.injEq] at e;exact⟨e.symm,rfl⟩
 |_::_,h,y,e=>by simp only[IF,Option.some.injEq] at e;subst e;exact⟨rfl,rfl⟩
section
variable {P:Program}{T:cG}{E:Env}{σ ag:AS}{a:Act}{w w':World}{ν aK:Nm→Value}{O:Nat→Prop}{Φ:bN T}{V V':View}{Y:Value}
def yv (T:cG)(E:Env)(σ:AS)(ν:Nm→Value)(O:Nat→Prop)(w:World)(v:Nat)(xh:Bu T v)(dg:Bool):Env where
 V0:=fun key u=>∃ad:Addr,key= .cell ad∧(view E σ ν O w (.cell ad) u∨(dg=true∧w.cell? ad=some u∧¬XOf σ ν (T.sig v).hout ad.block))
 w0:=w
 X:=XOf σ ν (T.sig v).hout
 J:=kc
 XS:=E.XS
 Y:= .nilFunc
 ro:=fun i=>bif (T.sig v).hin.any (Nat.beq i)&& !((T.sig v).hout.any (Nat.beq i)) then (aL T v xh)[i]? else none
 h0:=aL T v xh
 n0:=fun h n=>ν (.hp h n)
 M:=fun _=>False
 base:=w
 CB:=XOf σ ν (T.sig v).hout
 Om:=fun _=>False
 acc:=fun _=>True
 XH:=fun i k=>i∈(T.sig v).hin∧∃n,Own σ ν (.hp i n) k
def Bl (T:cG)(σ:AS)(v:Nat)(xh:Bu T v):Prop:=∀h∈(T.sig v).hin,aoh T σ (T.sig v).hout (qt T (T.sig v).hout (T.sig v).hin (Eo _ xh)) h
theorem Ks {v:Nat}{xh:Bu T v}(hI:Bl T σ v xh){i:Nat}{hr':aV}(e:(aL T v xh)[i]? =some hr'):
  (i∈(T.sig v).hin∧∃hr,σ.ae[i]? =some hr∧hr'=⟨hr.e,hr.t,hr.k,(T.sig v).hout.any (Nat.beq i),hr.xs⟩∧((T.sig v).hout.any (Nat.beq i)=true→hr.w=true)∧hr.t=(T.ht i).t)∨(i∉(T.sig v).hin∧hr'.xs=[]):=by
 by_cases hi:i∈(T.sig v).hin
 ·left;obtain⟨hr,h1,h2,h3,h4,h5,h6⟩:=hI i hi;have hlt:i<(cC T).length:=by have:=(List.getElem?_eq_some_iff.1 e).1;unfold aL at this;rwa [y9] at this
  have h7:=h6 (cC T) hlt;unfold aL at e;rw[e] at h7;simp only[Option.some.injEq] at h7;exact⟨hi,hr,h1,h7,h2,h5⟩
 ·right;unfold aL at e;rw[ka _ _ _ _ _ hi] at e;exact⟨hi,xK i hr' e⟩
theorem VV {v:Nat}{xh:Bu T v}(hI:Bl T σ v xh){i n:Nat}{o:Obj}(e:nL (aL T v xh) i n=some o):i∈(T.sig v).hin∧nL σ.ae i n=some o:=by
 cases n with
 |zero=>cases e
 |succ m=>
  simp only[nL] at e;split at e
  ·rename_i hr' hh;rcases Ks hI hh with ⟨h1,hr,h2,rfl,_⟩ | ⟨_,h1⟩
   ·refine⟨h1, ?_⟩;simp only[nL,h2];exact e
   ·rw[h1] at e;simp[Hz] at e
  ·cases e
theorem aeB (hE:aE E)(h:St E σ a w ν O){hout:List Nat}(hw:∀i,hout.any (Nat.beq i)=true→∃hr,σ.ae[i]? =some hr∧hr.w=true){ad:Addr}{u:Value}(hv:view E σ ν O w (.cell ad) u):¬XOf σ ν hout ad.block:=fun⟨i,n,h1,h2⟩=>by
 rcases hv with ⟨hlt,hv⟩ | ⟨hge,hn,_⟩
 ·rcases (h.y6 _ _ h2).1 with h3 |h3 | ⟨j,m,hr',e,h3⟩
  ·omega
  ·exact(hE.cell _ _ hv).2 h3
  ·injection e with e1 e2
   subst e1;obtain⟨hr,h4,h5⟩:=hw i h1;obtain⟨h6,h7⟩:=h.ro i hr' h3;rw[h4] at h6;obtain rfl:hr=hr':=by simpa using h6
   rw[h5] at h7;cases h7
 ·exact hn ⟨_,h2⟩
theorem abx {v:Nat}{xh:Bu T v}(hI:Bl T σ v xh)(i:Nat)(hi:(T.sig v).hout.any (Nat.beq i)=true):∃hr,σ.ae[i]? =some hr∧hr.w=true:=by
 have hm:i∈(T.sig v).hin:=by have:=kC.1 hi;simp only[IE.hout,IE.hin,List.mem_map,List.mem_filter] at this ⊢;obtain⟨p,⟨hp,_⟩,e⟩:=this;exact⟨p,hp,e⟩
 obtain⟨hr,h1,h2,_⟩:=hI i hm;exact⟨hr,h1,h2 hi⟩
theorem aby (hE:aE E)(h:St E σ a w ν O){v:Nat}{xh:Bu T v}(hI:Bl T σ v xh)(dg:Bool):aE (yv T E σ ν O w v xh dg):=by
 refine⟨fun ad u hv=> ?_,fun _ _ _ _ _ h _ _=>h⟩;obtain⟨Pw,e,hv⟩:=hv;injection e with e
 subst e;rcases hv with hv | ⟨_,h1,h2⟩
 ·exact⟨xD hE h.keep hv,aeB hE h (abx hI) hv⟩
 ·exact⟨h1,h2⟩
theorem qy.of {V V':View}(hV:∀a v,V a v→V' a v){cs:List CV}{v:Value}(h:qy V cs v):qy V' cs v:=qy.mono hV h
theorem Zm (hG:Ms T E)(hE:aE E)(h:St E σ a w ν O){v:Nat}{xh:Bu T v}(dg:Bool):Ms T (yv T E σ ν O w v xh dg):=by refine⟨hG.1,fun i x hx=> ?_⟩;obtain⟨g,cs,h1,h2,h3⟩:=hG.2 i x hx;refine⟨g,cs,h1,h2,h3.of fun key u ⟨ad,e,hlt,hv⟩=>⟨ad,e,Nat.lt_of_lt_of_le hlt h.keep.size,ad,rfl, .inl (.inl ⟨hlt,hv⟩)⟩⟩
theorem QK (hE:aE E)(h:St E σ a w ν O){v:Nat}{xh:Bu T v}(hI:Bl T σ v xh)(BH:σ.ae.length=T.ae.length)(dg:Bool):
  U5 (view E σ ν O w) (view (yv T E σ ν O w v xh dg) (aH (aL T v xh)) ν (fun _=>False) w) σ ν w (T.sig v).hin (T.sig v).hout dg:=by
 refine⟨fun ad u hv=> .inl ⟨GI (xD hE h.keep hv),ad,rfl, .inl hv⟩,fun k hk n u hv=> ?_,fun hl ad u hc hx=> .inl ⟨GI hc,ad,rfl, .inr ⟨hl,hc,hx⟩⟩⟩;obtain⟨h1,h2,h3⟩:=hv;refine⟨h1, ?_,h3⟩;obtain⟨hr,g1,g2,g3,g4,g5,g6⟩:=hI k (kC.1 hk);have hlt:k<(cC T).length:=by rw[qA, ←BH];exact(List.getElem?_eq_some_iff.1 g1).1
 show n≤hlen (aL T v xh) k;rw[Kn g1] at h2;rw[Kn (ae:=aL T v xh) (g6 (cC T) hlt)];exact h2
theorem Xx (hE:aE E)(h:St E σ a w ν O){v:Nat}{xh:Bu T v}(hI:Bl T σ v xh)(BH:σ.ae.length=T.ae.length)(hs:Hx T (T.sig v)=true)(dg:Bool):
  St (yv T E σ ν O w v xh dg) (aH (aL T v xh)) ⟨#[],[]⟩ w ν (fun _=>False):=by
 have hl:=QK hE h hI BH dg;have hown:∀m k,Own (aH (aL T v xh)) ν m k→∃i n,m= .hp i n∧i∈(T.sig v).hin∧Own σ ν m k:=fun m k hm=>by
  obtain⟨h1,h2⟩:=hm;cases m with
  |row r=>simp[AS.obj,aH,look] at h1
  |box r=>simp[AS.obj,aH,look] at h1
  |hp i n=>obtain⟨o,ho⟩:=Option.isSome_iff_exists.1 h1;obtain⟨h3,h4⟩:=VV hI ho;exact⟨i,n,rfl,h3,bf (show σ.obj (.hp i n)=some o from h4),h2⟩
 have aoj:∀m k,Own (aH (aL T v xh)) ν m k→(yv T E σ ν O w v xh dg).wS m∨XOf σ ν (T.sig v).hout k:=fun m k hm=>by
  obtain⟨i,n,rfl,h3,h4⟩:=hown m k hm;by_cases ho:(T.sig v).hout.any (Nat.beq i)=true
  ·exact .inr ⟨i,n,ho,h4⟩
  ·have ho':(T.sig v).hout.any (Nat.beq i)=false:=eq_false_of_ne_true ho;obtain⟨hr,g1,g2,g3,g4,g5,g6⟩:=hI i h3;have hlt:i<(cC T).length:=by rw[qA, ←BH];exact(List.getElem?_eq_some_iff.1 g1).1
   refine .inl ⟨i,n,⟨hr.e,hr.t,hr.k,(T.sig v).hout.any (Nat.beq i),hr.xs⟩,rfl, ?_⟩;show (bif _ then _ else _)=_;have g7:=g6 (cC T) hlt;rw[ho'] at g7;rw[kC.2 h3,ho'];exact g7
 refine⟨Grow.refl _ _,(fun d hd=>by cases hd),⟨rfl,(fun i x e=>by cases e),(fun i x e=>by cases e)⟩,fun m o ho=> ?_,fun m m' k h1 h2=> ?_,fun m k hm=> ?_,fun r k hk=> ?_,⟨rfl,fun k hk=>hk.elim⟩,fun i hr n e h1 h2=> ?_,fun i hr e=> ?_,⟨rfl,fun i hr e=>⟨hr,e,Av.refl _,Nat.le_refl _⟩,fun _ _ _ _=>rfl⟩,fun _ hf=>hf.elim,Grow.refl _ _,fun m k hm=> ?_,fun _ hf=>hf,List.nodup_nil⟩
 ·cases m with
  |row r=>simp[AS.obj,aH,look] at ho
  |box r=>simp[AS.obj,aH,look] at ho
  |hp i n=>
   have ho':nL (aL T v xh) i n=some o:=ho;obtain⟨h3,h4⟩:=VV hI ho';obtain⟨k,row,rfl⟩:=NS ho';have cr:Au (view E σ ν O w) w k (ν (.hp i n)) row:=h.Bj (.hp i n) _ h4;have hrt:eo (T.sig v).hin row.t=true:=by
    obtain⟨hr,g1,g2,g3,g4,g5,g6⟩:=hI i h3;have:row.t=hr.t:=by
     cases n with
     |zero=>cases h4
     |succ m=>
      simp only[nL,g1,Hz] at h4;split at h4
      ·simp only[Option.some.injEq,Obj.hp.injEq] at h4;rw[←h4.2]
      ·cases h4
    rw[this,g5];simp only[Hx,Bool.and_eq_true] at hs;exact List.all_eq_true.1 hs.1.2 i h3
   have htr:=fun x cs=>Rel.tr hl.cell hl.ref row.t x cs hrt;show Au _ w k _ row
   match k,cr with
   |0,⟨h5,br,h6,h7⟩=>exact⟨h5,br,h6,h7.mono htr⟩
   |1,⟨g,cur,ys,x,h5,h6,h7,h8,h9⟩=>exact⟨g,cur,ys,x,h5,h6,h7,h8,htr _ _ h9⟩
 ·obtain⟨_,_,_,_,h3⟩:=hown m k h1;obtain⟨_,_,_,_,h4⟩:=hown m' k h2;exact h.inj m m' k h3 h4
 ·obtain⟨i,n,rfl,h3,h4⟩:=hown m k hm;exact⟨(aoj _ k hm).elim (fun e=> .inr (.inr e)) (fun e=> .inr (.inl e)),(h.y6 _ k h4).2.1,fun hf=>hf⟩
 ·obtain⟨i,n,e,h3,h4⟩:=hown _ k hk;subst e;exact .inr ⟨h3,n,h4⟩
 ·rcases Ks hI e with ⟨_,HA,g1,rfl,_⟩ | ⟨_,g1⟩
  ·exact h.nn i HA n g1 h1 h2
  ·rw[g1] at h2;simp at h2;omega
 ·have e':(bif (T.sig v).hin.any (Nat.beq i)&& !((T.sig v).hout.any (Nat.beq i)) then (aL T v xh)[i]? else none)=some hr:=e;cases hb:((T.sig v).hin.any (Nat.beq i)&& !((T.sig v).hout.any (Nat.beq i))) with
  |false=>rw[hb] at e';cases e'
  |true=>
   rw[hb,cond_true] at e';refine⟨e', ?_⟩;simp only[Bool.and_eq_true,Bool.not_eq_true'] at hb;rcases Ks hI e' with ⟨_,HA,g1,rfl,_⟩ | ⟨g1,_⟩
   ·exact hb.2
   ·exact absurd (kC.1 hb.1) g1
 ·exact(aoj m k hm).imp id .inl
end
open Go.RowKit Go.Lib
theorem Kt:∀{t:Ty} {x:t.den},Ep t=true→∀c∈flat t x,Ep c.1=true
 | .unit,_,_,c,hc=>by simp[flat] at hc
 | .pair a b,x,h,c,hc=>by
   simp only[Ep,Bool.and_eq_true] at h;simp only[flat,List.mem_append] at hc;rcases hc with hc |hc
   ·exact Kt h.1 c hc
   ·exact Kt h.2 c hc
 | .st t,x,h,c,hc=>Kt (t:=t) h c hc
 | .int k,x,h,c,hc=>by simp only[flat,List.mem_singleton] at hc;subst hc;rfl
 | .bool,x,h,c,hc=>by simp only[flat,List.mem_singleton] at hc;subst hc;rfl
 | .str,x,h,c,hc=>by simp only[flat,List.mem_singleton] at hc;subst hc;rfl
 | .slice t,x,h,c,hc=>by cases h
 | .px t,x,h,c,hc=>by cases h
 | .ref k,x,h,c,hc=>by simp only[flat,List.mem_singleton] at hc;subst hc;rfl
 | .ptr k,x,h,c,hc=>by simp only[flat,List.mem_singleton] at hc;subst hc;rfl
 | .mp k,x,h,c,hc=>by simp only[flat,List.mem_singleton] at hc;subst hc;rfl
 | .fn,x,h,c,hc=>by simp only[flat,List.mem_singleton] at hc;subst hc;rfl
theorem VW {t:Ty}{e:TypeId}{x:t.den}{row:Row}(h:ownRow t e x=some row):t= .slice row.t:=by
 unfold ownRow at h;split at h
 ·simp only[Option.some.injEq] at h;subst h;rfl
 ·cases h
theorem xM:∀(ts:List Mg) (d:Nat) (y:rU (ts.map (·.1))) (u:TU),u∈kb d ts y→∃k row t e,u= .row k row∧(t,some e)∈ts∧t= .slice row.t
 | [],d,y,u,h=>by simp[kb] at h
 | [(t,none)],d,y,u,h=>by simp[kb] at h
 | [(t,some e)],d,y,u,h=>by
   simp only[kb] at h;split at h
   ·rename_i row hr;simp only[List.mem_singleton] at h;exact⟨d,row,t,e,h,by simp,VW hr⟩
   ·simp at h
 | (t,none)::p::ts,d,y,u,h=>by simp only[kb] at h;obtain⟨k,row,t',e,h1,h2,h3⟩:=xM (p::ts) _ _ _ h;exact⟨k,row,t',e,h1,List.mem_cons_of_mem _ h2,h3⟩
 | (t,some e)::p::ts,d,y,u,h=>by
   simp only[kb] at h;split at h
   ·rename_i row hr;rcases List.mem_cons.1 h with h |h
    ·exact⟨d,row,t,e,h,List.mem_cons_self,VW hr⟩
    ·obtain⟨k,row,t',e,h1,h2,h3⟩:=xM (p::ts) _ _ _ h;exact⟨k,row,t',e,h1,List.mem_cons_of_mem _ h2,h3⟩
   ·obtain⟨k,row,t',e,h1,h2,h3⟩:=xM (p::ts) _ _ _ h;exact⟨k,row,t',e,h1,List.mem_cons_of_mem _ h2,h3⟩
def RvT (t:Ty):RV→Prop
 | .cv c=>c.1=t
 | .agg cs=>∃(u:Ty) (y:u.den),t= .st u∧cs=flat u y
 | .own _=>False
theorem PG:∀(ts:List Mg) (d:Nat) (y:rU (ts.map (·.1))) (x:RV),x∈As d ts y→(∃q,x= .own q)∨∃t,(t,none)∈ts∧RvT t x
 | [],d,y,x,h=>by simp[As] at h
 | [(t,some e)],d,y,x,h=>by
   have:x∈[RV.own d]:=by cases t<;>exact h
   simp only[List.mem_singleton] at this;exact .inl ⟨d,this⟩
 | [(t,none)],d,y,x,h=>by
   refine .inr ⟨t,by simp, ?_⟩;cases t<;>(simp only[As,List.mem_singleton] at h;subst h;first |rfl |exact⟨_,_,rfl,rfl⟩)
 | (t,some e)::p::ts,d,y,x,h=>by
   have:x∈RV.own d::As (d+1) (p::ts) y.2:=by cases t<;>exact h
   rcases List.mem_cons.1 this with h |h
   ·exact .inl ⟨d,h⟩
   ·exact(PG (p::ts) _ _ _ h).imp id (fun⟨t,h1,h2⟩=>⟨t,List.mem_cons_of_mem _ h1,h2⟩)
 | (t,none)::p::ts,d,y,x,h=>by
   have:RvT t x∨x∈As (d+1) (p::ts) y.2:=by
    cases t<;>(simp only[As,List.mem_cons] at h;exact h.imp (fun h=>by subst h;first |rfl |exact⟨_,_,rfl,rfl⟩) id)
   rcases this with h |h
   ·exact .inr ⟨t,List.mem_cons_self,h⟩
   ·exact(PG (p::ts) _ _ _ h).imp id (fun⟨t,h1,h2⟩=>⟨t,List.mem_cons_of_mem _ h1,h2⟩)
section
variable {P:Program}{T:cG}{E:Env}{σ ag:AS}{a:Act}{w w':World}{ν aK:Nm→Value}{O:Nat→Prop}{Φ:bN T}{V V':View}{Y:Value}
def Xy (e:AS)(hout:List Nat):Nm→Bool
 | .row k=>(look e.rows k).isSome
 | .box k=>(look e.boxes k).isSome
 | .hp i _=>hout.any (Nat.beq i)
def VY (e:AS)(hout:List Nat)(ν aK:Nm→Value)(m:Nm):Value:=bif Xy e hout m then aK m else ν m
def I2 (T:cG)(σ:AS)(v d:Nat)(yh:xA T v):AS:=(σ.app (zU T (T.sig v).hout (Eo _ yh))).app (KS d (T.sig v) (vd _ yh))
structure ahe (NB es σ:AS) (hout:List Nat):Prop where
 tmps:NB.tmps=σ.tmps
 trace:NB.trace=σ.trace
 num:NB.ae.length=σ.ae.length
 rows:∀k,look NB.rows k=(look es.rows k).or (look σ.rows k)
 boxes:∀k,look NB.boxes k=(look es.boxes k).or (look σ.boxes k)
 fr:∀k,(look es.rows k).isSome=true→look σ.rows k=none
 fb:∀k,(look es.boxes k).isSome=true→look σ.boxes k=none
 hin:∀i,hout.any (Nat.beq i)=true→NB.ae[i]? =es.ae[i]?
 hout:∀i,hout.any (Nat.beq i)=false→NB.ae[i]? =σ.ae[i]?
theorem ahf (BH:σ.ae.length=T.ae.length){v d:Nat}{xh:Bu T v}{yh:xA T v}(hI:Bl T σ v xh)(hf:wZ σ (KS d (T.sig v) (vd _ yh))):ahe (I2 T σ v d yh) (wY T v d xh yh) σ (T.sig v).hout:=by
 have ho:=hf.only;have e1:σ.app (zU T (T.sig v).hout (Eo _ yh))={σ with ae:=qt T (T.sig v).hout (T.sig v).hout (Eo _ yh) σ.ae}:=S7 (T.sig v).hout _ _ σ (fun h hm=>kC.2 hm);obtain⟨a1,a2,a3,_,_⟩:=S8 ho (σ.app (zU T (T.sig v).hout (Eo _ yh)));obtain⟨_,b2,_,_,_⟩:=S8 ho (aH (qB T v xh yh));have hh:(I2 T σ v d yh).ae=qt T (T.sig v).hout (T.sig v).hout (Eo _ yh) σ.ae:=by unfold I2;rw[a2,e1]
 have hh2:(wY T v d xh yh).ae=qB T v xh yh:=b2;obtain⟨r1,r2⟩:=ahd ho σ (aH (qB T v xh yh)) (σ.app (zU T (T.sig v).hout (Eo _ yh))) (fun k=>by rw[e1];rfl) (fun k=>by rw[e1];rfl);have hl:(cC T).length=σ.ae.length:=by rw[qA,BH]
 refine⟨by unfold I2;rw[a1,e1],by unfold I2;rw[a3,e1],by rw[hh,y9],r1,r2,fun k hk=> ?_,fun k hk=> ?_,fun i hi=> ?_,fun i hi=> ?_⟩
 ·obtain⟨r,hr⟩:=Option.isSome_iff_exists.1 hk;rcases (zb ho (aH (qB T v xh yh)) k).1 r hr with h1 |h1
  ·cases h1
  ·exact hf _ h1
 ·obtain⟨r,hr⟩:=Option.isSome_iff_exists.1 hk;rcases (zb ho (aH (qB T v xh yh)) k).2 r hr with h1 |h1
  ·cases h1
  ·exact hf _ h1
 ·obtain⟨hr,h1,_⟩:=abx hI i hi;have hlt:=(List.getElem?_eq_some_iff.1 h1).1;rw[hh,hh2];unfold qB;exact adb _ _ _ _ _ i (kC.1 hi) hlt (by unfold aL;rw[y9,hl];exact hlt)
 ·rw[hh];exact ka _ _ _ _ i (fun hm=>by rw[kC.2 hm] at hi;cases hi)
theorem ahg {NB es:AS}{hout:List Nat}(hc:ahe NB es σ hout)(m:Nm):(Xy es hout m=true→NB.obj m=es.obj m)∧(Xy es hout m=false→NB.obj m=σ.obj m):=by
 cases m with
 |row k=>
  simp only[Xy,AS.obj,hc.rows k];refine⟨fun h=> ?_,fun h=> ?_⟩
  ·obtain⟨r,hr⟩:=Option.isSome_iff_exists.1 h;rw[hr];rfl
  ·cases hr:look es.rows k with
   |none=>rfl
   |some r=>rw[hr] at h;cases h
 |box k=>
  simp only[Xy,AS.obj,hc.boxes k];refine⟨fun h=> ?_,fun h=> ?_⟩
  ·obtain⟨r,hr⟩:=Option.isSome_iff_exists.1 h;rw[hr];rfl
  ·cases hr:look es.boxes k with
   |none=>rfl
   |some r=>rw[hr] at h;cases h
 |hp i n=>
  refine⟨fun h=> ?_,fun h=> ?_⟩
  ·cases n with
   |zero=>rfl
   |succ n=>simp only[AS.obj,nL];rw[hc.hin i h]
  ·cases n with
   |zero=>rfl
   |succ n=>simp only[AS.obj,nL];rw[hc.hout i h]
end
open Go.RowKit Go.Lib
section
variable {P:Program}{T:cG}{E:Env}{σ ag:AS}{a:Act}{w w':World}{ν aK:Nm→Value}{O:Nat→Prop}{Φ:bN T}{V V':View}{Y:Value}
theorem aeC {h0:List aV}{n0:Nat→Nat→Value}{hs:List aV}(hk:HK h0 n0 hs ν){i:Nat}{hr:aV}(h:h0[i]? =some hr):∃hr',hs[i]? =some hr'∧Av hr hr'∧hr.xs.length≤hr'.xs.length∧∀n,1≤n→n≤hr.xs.length→ν (.hp i n)=n0 i n:=by obtain⟨hr',h1,h2,h3⟩:=hk.row i hr h;exact⟨hr',h1,h2,h3,fun n h4 h5=>hk.nm i n h4 (by rw[Kn h];exact h5)⟩
theorem NZ {s:IE}{i:Nat}(hi:s.hout.any (Nat.beq i)=true):i∈s.hin:=by have:=kC.1 hi;simp only[IE.hout,IE.hin,List.mem_map,List.mem_filter] at this ⊢;obtain⟨p,⟨hp,_⟩,e⟩:=this;exact⟨p,hp,e⟩
theorem Zn {v d:Nat}{xh:Bu T v}{yh:xA T v}(hf:wZ σ (KS d (T.sig v) (vd _ yh))):(wY T v d xh yh).ae=qB T v xh yh:=(S8 hf.only (aH (qB T v xh yh))).2.1
theorem Ku {s:IE}(h:j9 T s=true)(hg:s.gen=none):s.clo=none∧(∀i∈s.hout,Ep (T.ht i).t=true)∧∀t o,(t,o)∈s.res→(o=none→Ep t=true)∧∀u e,t= .slice u→o=some e→Ep u=true:=by
 unfold j9 at h;rw[hg] at h;simp only[Bool.and_eq_true,Option.isNone_iff_eq_none,List.all_eq_true] at h;refine⟨h.1.1,h.1.2,fun t o hm=> ?_⟩;have h1:=h.2 (t,o) hm;refine⟨fun e=> ?_,fun u e e1 e2=> ?_⟩
 ·subst e;cases t<;>first |exact h1 |rfl
 ·subst e1 e2;exact h1
theorem ade {d:Nat}{s:IE}{y:Mh s}(hl:j9 T s=true){u:TU}(h:u∈KS d s y):∃k row,u= .row k row∧Ep row.t=true:=by
 unfold KS at h;split at h
 ·rename_i args res hps y;obtain⟨k,row,t,e,rfl,h2,h3⟩:=xM _ _ _ _ h;obtain⟨_,_,h4⟩:=Ku hl rfl;exact⟨k,row,rfl,(h4 _ _ h2).2 _ _ h3 rfl⟩
 ·obtain⟨h4,_⟩:=Ku hl rfl;cases h4
 ·simp at h
theorem St.called (hE:aE E)(h:St E σ a w ν O)(BH:σ.ae.length=T.ae.length){v d:Nat}{xh:Bu T v}{yh:xA T v}{dg:Bool}(Zo:dg=true→j9 T (T.sig v)=true)(hI:Bl T σ v xh)(BI:(T.sig v).gen=none)
  (hf:wZ σ (KS d (T.sig v) (vd _ yh))) (hend:St (yv T E σ ν O w v xh dg) (wY T v d xh yh) ⟨#[],[]⟩ w' aK (fun _=>False)):
  St E (I2 T σ v d yh) a w' (VY (wY T v d xh yh) (T.sig v).hout ν aK) O∧
   ∀t,(dg=true→Ep t=true)→∀x cs,Rel (view (yv T E σ ν O w v xh dg) (wY T v d xh yh) aK (fun _=>False) w') t x cs→Rel (view E (I2 T σ v d yh) (VY (wY T v d xh yh) (T.sig v).hout ν aK) O w') t x cs:=by
 have hc:=ahf (xh:=xh) BH hI hf;have heh:=Zn (xh:=xh) hf;generalize hes:wY T v d xh yh=es at hc hend heh ⊢;generalize hsn:I2 T σ v d yh=NB at hc ⊢;have hob:=fun m=>ahg hc m;have hw:∀i,(T.sig v).hout.any (Nat.beq i)=true→∃hr,σ.ae[i]? =some hr∧hr.w=true:=fun i hi=>abx hI i hi;have aeq:∀i n,(T.sig v).hout.any (Nat.beq i)=true→¬E.wS (.hp i n):=fun i n hi ⟨j,m,hr',e,h3⟩=>by
  injection e with e1 e2
  subst e1;obtain⟨hr,h4,h5⟩:=hw i hi;obtain⟨h6,h7⟩:=h.ro i hr' h3;rw[h4] at h6;obtain rfl:hr=hr':=by simpa using h6
  rw[h5] at h7;cases h7
 have aeD:∀m,Xy es (T.sig v).hout m=true→VY es (T.sig v).hout ν aK m=aK m:=fun m hm=>by unfold VY;rw[hm];rfl
 have abz:∀m,Xy es (T.sig v).hout m=false→VY es (T.sig v).hout ν aK m=ν m:=fun m hm=>by unfold VY;rw[hm];rfl
 -- GJ aok ae
 have hstart:∀i hr,σ.ae[i]? =some hr→i∈(T.sig v).hin→(aL T v xh)[i]? =some ⟨hr.e,hr.t,hr.k,(T.sig v).hout.any (Nat.beq i),hr.xs⟩∧hr.t=(T.ht i).t:=fun i hr h1 h2=>by
  obtain⟨hr',g1,g2,g3,g4,g5,g6⟩:=hI i h2;rw[h1] at g1;obtain rfl:hr=hr':=by simpa using g1
  have hlt:i<(cC T).length:=by rw[qA, ←BH];exact(List.getElem?_eq_some_iff.1 h1).1
  have:=g6 (cC T) hlt;refine⟨?_,g5⟩;unfold aL;exact this
 have adg:∀i hr,σ.ae[i]? =some hr→i∈(T.sig v).hin→∃hr',es.ae[i]? =some hr'∧hr'.e=hr.e∧hr'.t=hr.t∧hr'.k=hr.k∧hr'.w=(T.sig v).hout.any (Nat.beq i)∧hr.xs.length≤hr'.xs.length∧∀n,1≤n→n≤hr.xs.length→aK (.hp i n)=ν (.hp i n):=fun i hr h1 h2=>by obtain⟨hr',k1,k2,k3,k4⟩:=aeC hend.kept (hstart i hr h1 h2).1;exact⟨hr',k1,k2.e,k2.t,k2.k,k2.w,k3,k4⟩
 -- what is owned
 have hown:∀m k,Own NB (VY es (T.sig v).hout ν aK) m k→(Xy es (T.sig v).hout m=true∧Own es aK m k)∨(Xy es (T.sig v).hout m=false∧Own σ ν m k):=fun m k ⟨h1,h2⟩=>by
  cases hm:Xy es (T.sig v).hout m with
  |true=>rw[(hob m).1 hm] at h1;rw[aeD m hm] at h2;exact .inl ⟨rfl,h1,h2⟩
  |false=>rw[(hob m).2 hm] at h1;rw[abz m hm] at h2;exact .inr ⟨rfl,h1,h2⟩
 have ahh:∀m k,Xy es (T.sig v).hout m=true→Own es aK m k→w.heap.size≤k∨XOf σ ν (T.sig v).hout k:=fun m k hm ho=>by
  rcases (hend.y6 m k ho).1 with h1 |h1 | ⟨i,n,hr,e,h1⟩
  ·exact .inl h1
  ·right;exact h1
  ·subst e;have hm':(T.sig v).hout.any (Nat.beq i)=true:=hm;have h1':(bif (T.sig v).hin.any (Nat.beq i)&& !((T.sig v).hout.any (Nat.beq i)) then (aL T v xh)[i]? else none)=some hr:=h1;rw[hm'] at h1';simp at h1'
 have alj:∀m k,Xy es (T.sig v).hout m=false→Own σ ν m k→¬XOf σ ν (T.sig v).hout k:=fun m k hm ho ⟨i,n,h1,h2⟩=>by have:=h.inj m _ k ho h2;subst this;have hm':(T.sig v).hout.any (Nat.beq i)=false:=hm;rw[h1] at hm';cases hm'
 have hgr:Grow (XOf σ ν (T.sig v).hout) w w':=hend.keep
 -- GJ ae
 have hsub:HSub σ ν NB (VY es (T.sig v).hout ν aK):=by
  refine⟨hc.num,fun i hr e=> ?_,fun i n h1 h2=> ?_⟩
  ·cases hi:(T.sig v).hout.any (Nat.beq i) with
   |true=>
    obtain⟨hr',k1,k2,k3,k4,k5,k6,_⟩:=adg i hr e (NZ (s:=T.sig v) hi);obtain⟨HA,h3,h4⟩:=hw i hi;rw[e] at h3;obtain rfl:hr=HA:=by simpa using h3
    exact⟨hr',by rw[hc.hin i hi];exact k1,⟨k2,k3,k4,by rw[k5,hi,h4]⟩,k6⟩
   |false=>exact⟨hr,by rw[hc.hout i hi];exact e,Av.refl _,Nat.le_refl _⟩
  ·cases hi:(T.sig v).hout.any (Nat.beq i) with
   |true=>rw[aeD (.hp i n) hi];obtain⟨hr,e,h3⟩:=IW h1 h2;obtain⟨hr',_,_,_,_,_,_,k7⟩:=adg i hr e (NZ (s:=T.sig v) hi);exact k7 n h1 h3
   |false=>exact abz (.hp i n) hi
 -- what can be seen
 have amg:dg=false→∀(ad:Addr) u,view (yv T E σ ν O w v xh dg) es aK (fun _=>False) w' (.cell ad) u→(∀key u,view E σ ν O w key u→view E NB (VY es (T.sig v).hout ν aK) O w' key u)→view E NB (VY es (T.sig v).hout ν aK) O w' (.cell ad) u:=fun hl ad u hv hV=>by
  rcases hv with ⟨hlt,Pw,e,hv⟩ | ⟨hge,hn,_,hcell⟩
  ·injection e with e
   subst e;rcases hv with hv | ⟨h1,_⟩
   ·exact hV _ _ hv
   ·rw[hl] at h1;cases h1
  ·have aqz:w.heap.size≤ad.block:=hge;refine .inr ⟨Nat.le_trans h.keep.size aqz,fun⟨m,hm⟩=> ?_,fun ho=> ?_,hcell⟩
   ·rcases hown m _ hm with ⟨_,h1⟩ | ⟨_,h1⟩
    ·exact hn ⟨m,h1⟩
    ·exact absurd (h.y6 _ _ h1).2.1 (by omega)
   ·exact absurd (h.out.2 _ ho).1 (by omega)
 have ahi:∀(i n:Nat) u,view (yv T E σ ν O w v xh dg) es aK (fun _=>False) w' (.ref i n) u→view E NB (VY es (T.sig v).hout ν aK) O w' (.ref i n) u:=fun i n u ⟨h1,h2,h3⟩=>by
  cases hi:(T.sig v).hout.any (Nat.beq i) with
  |true=>refine⟨h1, ?_,by rw[aeD (.hp i n) hi];exact h3⟩;unfold hlen at h2 ⊢;rw[hc.hin i hi];exact h2
  |false=>
   obtain⟨hr',e',h4⟩:=IW h1 h2;have hil:i<(aL T v xh).length:=by have h9:es.ae.length=(aL T v xh).length:=hend.kept.num;rw[←h9];exact(List.getElem?_eq_some_iff.1 e').1
   have hro:es.ae[i]? =(aL T v xh)[i]? :=by rw[heh];unfold qB;exact ka _ _ _ _ i (fun hm=>by rw[kC.2 hm] at hi;cases hi)
   rw[e'] at hro;rcases Ks hI hro.symm with ⟨g1,hr,g2,g3,_,_⟩ | ⟨_,g1⟩
   ·have hlen:n≤hr.xs.length:=by rw[g3] at h4;exact h4
    obtain⟨_,_,_,_,_,_,_,k7⟩:=adg i hr g2 g1;refine⟨h1, ?_,by rw[abz (.hp i n) hi, ←k7 n h1 hlen];exact h3⟩;unfold Abs.hlen;rw[hc.hout i hi,g2];exact hlen
   ·rw[g1] at h4;simp at h4;omega
 have htr:(∀key u,view E σ ν O w key u→view E NB (VY es (T.sig v).hout ν aK) O w' key u)→∀t,(dg=true→Ep t=true)→∀x cs,Rel (view (yv T E σ ν O w v xh dg) es aK (fun _=>False) w') t x cs→Rel (view E NB (VY es (T.sig v).hout ν aK) O w') t x cs:=fun hV t ht x cs hr=>by
  cases hl:dg with
  |true=>rw[hl] at hr ahi;exact Rel.trN ahi t x cs (ht hl) hr
  |false=>
   refine Rel.mono (fun key u hu=> ?_) t x cs hr;cases key with
   |cell ad=>exact amg hl ad u hu hV
   |ref i n=>exact ahi i n u hu
 -- no aqA in what comes out of a ajZ call
 have aol:∀k row,look es.rows k=some row→dg=true→Ep row.t=true:=fun k row hk hl=>by
  have hld:=Zo hl;rw[←hes] at hk;rcases (zb hf.only (aH (qB T v xh yh)) k).1 row hk with h1 |h1
  ·cases h1
  ·obtain⟨k',row',e,hn⟩:=ade hld h1;injection e with _ e
   subst e;exact hn
 have aqB:∀(i n:Nat) kk (row:Row),(T.sig v).hout.any (Nat.beq i)=true→nL es.ae i n=some (.hp kk row)→dg=true→Ep row.t=true:=fun i n kk row hi e hl=>by
  obtain⟨hr,h1,_⟩:=hw i hi;have hin:=NZ hi;obtain⟨HA,k1,k2,k3,_⟩:=adg i hr h1 hin
  have:row.t=HA.t:=by
   cases n with
   |zero=>cases e
   |succ n=>
    simp only[nL,k1,Hz] at e;split at e
    ·simp only[Option.some.injEq,Obj.hp.injEq] at e;rw[←e.2]
    ·cases e
  rw[this,k3,(hstart i hr h1 hin).2];exact(Ku (Zo hl) BI).2.1 i (kC.1 hi)
 have aom:∀k x,look es.boxes k=some x→dg=true→False:=fun k x hk hl=>by
  rw[←hes] at hk;rcases (zb hf.only (aH (qB T v xh yh)) k).2 x hk with h1 |h1
  ·cases h1
  ·obtain⟨k',row',e,hn⟩:=ade (Zo hl) h1;cases e
 have hV:∀key u,view E σ ν O w key u→view E NB (VY es (T.sig v).hout ν aK) O w' key u:=fun key u hu=>E5 hgr hsub (fun k h1 h2 h3 h4=>⟨fun⟨m,hm⟩=>by
   rcases hown m k hm with ⟨hm1,h5⟩ | ⟨_,h5⟩
   ·rcases ahh m k hm1 h5 with h6 | ⟨i,n,_,h6⟩
    ·omega
    ·exact h3 ⟨_,h6⟩
   ·exact h3 ⟨_,h5⟩,h4,fun⟨i,n,_,h6⟩=>h3 ⟨_,h6⟩⟩) hu
 have hTr:=htr hV;have alk:∀r,(look es.rows r).isSome=true→VY es (T.sig v).hout ν aK (.row r)=aK (.row r)∧(look NB.rows r).isSome=true:=fun r hr=>by refine⟨aeD (.row r) hr, ?_⟩;obtain⟨row,e⟩:=Option.isSome_iff_exists.1 hr;rw[hc.rows r,e];rfl
 have ahj:∀r row,look σ.rows r=some row→VY es (T.sig v).hout ν aK (.row r)=ν (.row r)∧look NB.rows r=some row:=fun r row hr=>by
  have hn:look es.rows r=none:=by
   cases e:look es.rows r with
   |none=>rfl
   |some x=>have:=hc.fr r (by rw[e];rfl);rw[hr] at this;cases this
  exact⟨abz (.row r) (by simp only[Xy];rw[hn];rfl),by rw[hc.rows r,hn];exact hr⟩
 have aon:∀b,(look σ.boxes b).isSome=true→VY es (T.sig v).hout ν aK (.box b)=ν (.box b)∧(look NB.boxes b).isSome=true:=fun b hb=>by
  have hn:look es.boxes b=none:=by
   cases e:look es.boxes b with
   |none=>rfl
   |some x=>have:=hc.fb b (by rw[e];rfl);rw[this] at hb;cases hb
  exact⟨abz (.box b) (by simp only[Xy];rw[hn];rfl),by rw[hc.boxes b,hn];exact hb⟩
 have alm:∀m m' k,Xy es (T.sig v).hout m=true→Own es aK m k→Xy es (T.sig v).hout m'=false→Own σ ν m' k→False:=fun m m' k h1 h2 h3 h4=>by
  rcases ahh m k h1 h2 with h5 |h5
  ·exact absurd (h.y6 _ _ h4).2.1 (by omega)
  ·exact alj m' k h3 h4 h5
 refine⟨h.step hE hgr (fun k ⟨i,n,h1,h2⟩=>⟨_,h2,aeq i n h1⟩) hsub (fun m k hm=> ?_) (fun m k hm=> ?_) (fun m m' k h1 h2=> ?_) (fun q k hk=> ?_) hc.trace rfl (fun i hr n e h1 h2=> ?_) (fun i hr e=> ?_) (fun _ m o ho=> ?_) (fun _=> ?_),hTr⟩
 ·rcases hown m k hm with ⟨hm1,h5⟩ | ⟨_,h5⟩
  ·rcases ahh m k hm1 h5 with h6 | ⟨i,n,h7,h6⟩
   ·exact .inr h6
   ·exact .inl ⟨_,h6,fun e=>absurd e (aeq i n h7)⟩
  ·exact .inl ⟨_,h5,id⟩
 ·rcases hown m k hm with ⟨hm1,h5⟩ | ⟨_,h5⟩
  ·exact(hend.y6 _ _ h5).2.1
  ·exact Nat.lt_of_lt_of_le (h.y6 _ _ h5).2.1 hgr.size
 ·rcases hown m k h1 with ⟨hm1,h5⟩ | ⟨hm1,h5⟩<;>rcases hown m' k h2 with ⟨hm2,h6⟩ | ⟨hm2,h6⟩
  ·exact hend.inj m m' k h5 h6
  ·exact(alm m m' k hm1 h5 hm2 h6).elim
  ·exact(alm m' m k hm2 h6 hm1 h5).elim
  ·exact h.inj m m' k h5 h6
 ·rcases hown _ k hk with ⟨hm1,h5⟩ | ⟨_,h5⟩
  ·rcases hend.new q k h5 with h6 |h6
   ·exact .inl (Nat.le_trans h.keep.size h6)
   ·cases q with
    |row q=>exact h6.elim
    |box q=>exact .inr trivial
    |hp i n=>obtain⟨_,n',h7⟩:=h6;exact h.new (.hp i n') k h7
  ·exact h.new q k h5
 ·cases hi:(T.sig v).hout.any (Nat.beq i) with
  |true=>rw[aeD (.hp i n) hi];rw[hc.hin i hi] at e;exact hend.nn i hr n e h1 h2
  |false=>rw[abz (.hp i n) hi];rw[hc.hout i hi] at e;exact h.nn i hr n e h1 h2
 ·obtain⟨h1,h2⟩:=h.ro i hr e;cases hi:(T.sig v).hout.any (Nat.beq i) with
  |true=>
   obtain⟨HA,h3,h4⟩:=hw i hi;rw[h1] at h3;obtain rfl:hr=HA:=by simpa using h3
   rw[h2] at h4;cases h4
  |false=>rw[hc.hout i hi];exact h1
 ·cases hm:Xy es (T.sig v).hout m with
  |true=>
   rw[(hob m).1 hm] at ho;rw[aeD m hm];have cr:=hend.Bj m o ho;cases m with
   |row k=>simp only[AS.obj,Option.map_eq_some_iff] at ho;obtain⟨row,e,rfl⟩:=ho;obtain⟨br,h1,h2⟩:=cr;exact⟨br,h1,h2.mono (hTr row.t (aol k row e))⟩
   |box k=>
    simp only[AS.obj,Option.map_eq_some_iff] at ho;obtain⟨x,e,rfl⟩:=ho;obtain⟨g,h1,h2⟩:=cr;refine⟨g,h1, ?_⟩;cases x with
    |cells cs=>obtain⟨cur,e1,h3,h4⟩:=h2;exact⟨cur,e1,h3,h4.mono (fun c u hu=>hTr c.1 (fun hl=>(aom k _ e hl).elim) _ _ hu)⟩
    |own r=>obtain⟨e1,h3,h4⟩:=h2;exact⟨e1,by rw[(alk r h4).1];exact h3,(alk r h4).2⟩
    |nil=>exact h2
   |hp i n=>
    have ho':nL es.ae i n=some o:=ho;obtain⟨kk,row,rfl⟩:=NS ho';have hN:=aqB i n kk row hm ho';have aoo:Au _ w' kk (aK (.hp i n)) row:=cr;show Au _ w' kk (aK (.hp i n)) row
    match kk,aoo with
    |0,⟨h5,br,h6,h7⟩=>exact⟨h5,br,h6,h7.mono (hTr row.t hN)⟩
    |1,⟨g,cur,ys,x,h5,h6,h7,h8,h9⟩=>exact⟨g,cur,ys,x,h5,h6,h7,h8,hTr row.t hN _ _ h9⟩
  |false=>
   rw[(hob m).2 hm] at ho;rw[abz m hm];exact h.old hgr ho (fun k hk hx=>alj m k hm ⟨bf ho,hk⟩ hx) hV (fun r _ hr=>by
    obtain⟨row,e⟩:=Option.isSome_iff_exists.1 hr;obtain⟨h1,h2⟩:=ahj r row e;exact⟨h1,by rw[h2];rfl⟩)
 ·rw[hc.tmps];exact h.slots.mono (aj.mono hV {hsub with rows:=fun r row hr=>⟨(ahj r row hr).1,row,(ahj r row hr).2,rfl⟩,boxes:=fun b hb=>aon b hb})
end
open Go.RowKit Go.Lib
def S9 (T:cG):Prop:=∀v,Hx T (T.sig v)=true
theorem Ta {P:Program}{r:Option Nat}{n:Nat}{f:FuncId}{args:Array Value}{w:World}{R:Ending→World→Prop}(h:Calls P f args w R):CallsIn (FW r) n P f args w R:=
 ⟨trivial,fun cs _=>let ⟨e,w',fr,q,s,x⟩:=h cs;⟨e,w',fr,q,(comesIn_wide (P:=P)).2 s,x⟩⟩
section
variable {P:Program}{T:cG}{E:Env}{σ ag:AS}{a:Act}{w w':World}{ν aK:Nm→Value}{O:Nat→Prop}{Φ:bN T}{V V':View}{Y:Value}
theorem aj0 {NB es:AS}{Vn Ve:View}{s:IE}{d:Nat}{y:Mh s}{dg:Bool}{Y':Value}{aeE:Nm→Value}(Zo:dg=true→j9 T s=true)(BI:s.gen=none)
  (hTr:∀t,(dg=true→Ep t=true)→∀x cs,Rel Ve t x cs→Rel Vn t x cs) (hrow:∀r,(look es.rows r).isSome=true→aeE (.row r)=aK (.row r)∧(look NB.rows r).isSome=true)
  (al7:∀r,(look es.boxes r).isSome=true→aeE (.box r)=aK (.box r)∧(look NB.boxes r).isSome=true) {v:Value} (h:aj Ve es aK Y' (Zj d s y) v):aj Vn NB aeE Y (Zj d s y) v:=by
 unfold Zj at h ⊢;split at h
 ·rename_i args res hps y;have hrv:∀x∈As d res y,∀u,rO Ve es aK x u→rO Vn NB aeE x u:=fun x hx u hu=>by
   rcases PG _ _ _ _ hx with ⟨q,rfl⟩ | ⟨t,h1,h2⟩
   ·obtain⟨h3,h4⟩:=hrow q hu.2;exact⟨by rw[h3];exact hu.1,h4⟩
   ·have hno:dg=true→Ep t=true:=fun hl=>((Ku (Zo hl) rfl).2.2 _ _ h1).1 rfl;cases x with
    |own q=>exact h2.elim
    |cv c=>obtain⟨ct,cx⟩:=c;have h2:ct=t:=h2;subst h2;exact hTr _ hno _ _ hu
    |agg cs=>obtain⟨u',z,rfl,rfl⟩:=h2;obtain⟨vs,e1,e2⟩:=hu;refine⟨vs,e1,BE (fun c hc u hu=>hTr c.1 (fun hl=>Kt (hno hl) c hc) _ _ hu) e2⟩
  have key:∀(l:List RV),(∀x∈l,∀u,rO Ve es aK x u→rO Vn NB aeE x u)→aj Ve es aK Y' (YP l) v→aj Vn NB aeE Y (YP l) v:=fun l hl h=>by
   match l,hl,h with
   | [],_,⟨vs,e1,e2⟩=>exact⟨vs,e1,by cases vs with
     |nil=>trivial
     |cons _ _=>exact e2.elim⟩
   | [x],hl,h=>exact hl x (by simp) v h
   |x::z::l,hl,⟨vs,e1,e2⟩=>exact⟨vs,e1,BE hl e2⟩
  exact key _ hrv h
 ·rename_i args res f ts hps y;obtain⟨vs,e1,e2⟩:=h;refine⟨vs,e1,BE (fun c hc u hu=> ?_) e2⟩;have:∃b,c= .box b:=by
   have hb:∀(ts:List Ty) (d:Nat),∀c∈QJ d ts,∃b,c= .box b:=by
    intro ts;induction ts with
    |nil=>intro d c hc;simp[QJ] at hc
    |cons t ts ih=>
     intro d c hc;cases ts with
     |nil=>simp only[QJ,List.mem_singleton] at hc;exact⟨_,hc⟩
     |cons t2 ts=>
      simp only[QJ] at hc;rcases List.mem_cons.1 hc with e |hc
      ·exact⟨_,e⟩
      ·exact ih _ c hc
   exact hb ts d c hc
  obtain⟨b,rfl⟩:=this;obtain⟨h1,g,h2,h3⟩:=hu;obtain⟨h4,h5⟩:=al7 b h1;exact⟨h5,g,by rw[h4];exact h2,h3⟩
 ·exact h
theorem abA {st:Option Site}{f:FuncId}{avs:List AV}{v:Nat}(h:Su T st f avs=some v):T.real v=f:=by
 unfold Su at h;split at h
 ·cases hb:Nat.beq (T.real _) f with
  |true=>rw[hb] at h;simp only[cond_true,Option.some.injEq] at h;subst h;exact(beq_iff _ _).1 hb
  |false=>rw[hb] at h;cases h
 ·split at h
  ·cases hb:Nat.beq (T.real _) f with
   |true=>rw[hb] at h;simp only[cond_true,Option.some.injEq] at h;subst h;exact(beq_iff _ _).1 hb
   |false=>rw[hb] at h;cases h
  ·cases h
theorem Tc (qk:∀x,aj V σ ν Y (σ.av x) (a.eval x)):∀(xs:List Operand),aC (aj V σ ν Y) (xs.map σ.av) (xs.map a.eval)
 | []=>trivial
 |x::xs=>⟨qk x,Tc qk xs⟩
theorem PH:∀{aQ:List Hv} {vs:List Value},aC (rX V σ ν) aQ vs→aC (aj V σ ν Y) (aQ.map VA) vs
 | [],[],_=>trivial
 | .box b::cs,v::vs,h=>⟨h.1,PH h.2⟩
 | .pg l::cs,v::vs,h=>⟨h.1,PH h.2⟩
 | [],_::_,h=>h.elim
 |_::_,[],h=>h.elim
theorem Dw.mono {V V':View}(hV:∀a v,V a v→V' a v):∀{ts:List Ty} {x:rU ts} {vs:List Value},Dw V ts x vs→Dw V' ts x vs
 | [],_,_,h=>h
 | [t],x,_,⟨v,e,h⟩=>⟨v,e,h.of hV⟩
 |t::u::ts,x,_,⟨v,r,e,h,h2⟩=>⟨v,r,e,h.of hV,Dw.mono hV h2⟩
theorem ArgRel.mono {V V':View}(hV:∀a v,V a v→V' a v):∀{p:nK} {x:p.den} {v:Value},ArgRel V p x v→ArgRel V' p x v
 | .v t,x,v,h=>wT.mono hV h
 | .fn f ts,x,v,⟨vs,e,h⟩=>⟨vs,e,h.mono hV⟩
 | .c cs,_,v,⟨vs,e,h⟩=>⟨vs,e,h.mono (bJ.mono hV)⟩
 | .rp t,x,v,h=>qy.of hV h
 | .bx _,_,_,h=>h
 | .Ly,_,_,h=>h
theorem mM.mono {V V':View}(hV:∀a v,V a v→V' a v):∀{ps:List nK} {x:Gq ps} {vs:List Value},mM V ps x vs→mM V' ps x vs
 | [],_,_,h=>h
 | [p],x,_,⟨v,e,h⟩=>⟨v,e,h.mono hV⟩
 |p::q::ps,x,_,⟨v,r,e,h,h2⟩=>⟨v,r,e,h.mono hV,mM.mono hV h2⟩
def aln (E:Env)(σ:AS)(ν:Nm→Value)(O:Nat→Prop)(w:World)(hin hout:List Nat)(dg:Bool):View:=fun key u=>match key with
 | .cell ad=>view E σ ν O w (.cell ad) u∨(dg=true∧w.cell? ad=some u∧¬XOf σ ν hout ad.block)
 | .ref i n=>hin.any (Nat.beq i)=true∧view E σ ν O w (.ref i n) u
theorem abB (hin hout:List Nat)(dg:Bool):U5 (view E σ ν O w) (aln E σ ν O w hin hout dg) σ ν w hin hout dg:=
 ⟨fun ad u hv=> .inl hv,fun i hi n u hv=>⟨hi,hv⟩,fun hl ad u h1 h2=> .inr ⟨hl,h1,h2⟩⟩
theorem abC {hs hout:List Nat}{dg:Bool}(hl:U5 (view E σ ν O w) V' σ ν w hs hout dg)(key:Key)(u:Value)(h:aln E σ ν O w hs hout dg key u):V' key u:=by
 cases key with
 |cell ad=>
  rcases h with h | ⟨h1,h2,h3⟩
  ·exact hl.cell _ _ h
  ·exact hl.all h1 _ _ h2 h3
 |ref i n=>exact hl.ref i h.1 n u h.2
theorem Td (hE:aE E)(hG:Ms T E)(hS:S9 T)(N0:Zk P T Φ)(BH:σ.ae.length=T.ae.length)(h:St E σ a w ν O){o:Oper}{f:Operand}{args:Array Operand}{ats:Array TypeId}(ho:o.op= .call {callee:= .value f,args:=args,argTypes:=ats})
  {g:FuncId} {aQ:List Hv} {cvs:List Value} (hf:a.eval f= .func (.func g) #[] cvs.toArray) (R4:aC (rX (view E σ ν O w) σ ν) aQ cvs) {st:Option Site} {r:cn} (he:(IL T σ.av st o.dst g aQ args.toList).val Φ σ=some r):
  ∃us,r.2= .mI us∧lj P o a w (To E ((σ.app us).iS o.dst r.1)):=by
 unfold IL at he;dsimp only at he;split at he
 ·rename_i v hv;have aop:=abA hv;have hal:=hS v;have aqC:=hal;simp only[Hx,Bool.and_eq_true] at hal;have hargs:=aC.append (Tc (h.av hG.1) args.toList) (PH (Y:=E.Y) R4);obtain⟨x,he,hx⟩:=VT h (abB (T.sig v).hin (T.sig v).hout (j9 T (T.sig v))) hal.1.1 hargs he;obtain⟨hh,he,hI⟩:=VR _ _ _ _ he;rw[b6] at he;obtain⟨xh,hxh,he⟩:=he;obtain⟨ex,eh⟩:=Zl hxh;rw[NN] at he;obtain⟨yh,hy,he⟩:=he;obtain⟨rfl,hfree,BI⟩:=ahc he;have hIn:Bl T σ v xh:=fun i hi=>by rw[eh];exact hI i hi
  obtain⟨⟨fn,hfn,hbody,hname⟩,VZ⟩:=N0 v xh yh hy BI;have hE':=aby hE h hIn (j9 T (T.sig v));have hG':=Zm (v:=v) (xh:=xh) hG hE h (j9 T (T.sig v));have hst:=Xx hE h hIn BH aqC (j9 T (T.sig v));have hl':=QK hE h hIn BH (j9 T (T.sig v));rw[aop] at hfn VZ;have hc:=VZ _ ν (args.map a.eval++cvs.toArray) (NG o.dst) hE' hG' ⟨rfl,fun _ h=>h,fun _ h=>h,fun _=>trivial,fun _ _ h1 h2=>h1 h2.1,fun _=>rfl⟩ hst (by
   rw[ex];have:(args.map a.eval++cvs.toArray).toList=args.toList.map a.eval++cvs:=by simp
   rw[this];exact hx.mono (abC hl'))
  refine⟨_,rfl,fun rr next Q hn=> ?_⟩;have hrun:(execOp a.eval o).run P w= .ok (.enter g (args.map a.eval++cvs.toArray)) w:=by
   have hb:fn.body.isNone=false:=by cases hfb:fn.body<;>simp_all
   have hn1:¬fn.name= "runtime.NumGoroutine" :=by simpa using hname
   have hb1:¬fn.body=none:=by intro e;rw[e] at hb;cases hb
   simp[execOp,ho,resolve,hf,Deferred.ofValue,invoke,callFunc,hfn,hn1,hb1]
  refine⟨fun _ _=>trivial, ?_⟩;rw[Oper.semAt_eq _ _ _ (by rw[ho];intro c e;cases e),hrun,Oper.uponIn_enter];refine⟨fun e=>(by cases e),Ta (Calls.mono hc ?_)⟩;rintro e w' ⟨rv,aK,rfl,hend,hres⟩;obtain⟨s1,hTr⟩:=h.called hE BH (fun hl=>hl) hIn BI hfree hend;have hcs:=ahf (xh:=xh) BH hIn hfree;refine hn _ _ ⟨VY (wY T v (NG o.dst) xh yh) (T.sig v).hout ν aK,O, ?_⟩;show St E (((σ.app (zU T (T.sig v).hout (Eo (T.sig v).hout yh)++KS (NG o.dst) (T.sig v) (vd (T.sig v).hout yh)))).iS o.dst (Zj (NG o.dst) (T.sig v) (vd (T.sig v).hout yh))) _ _ _ _;rw[abw];refine s1.slot (aj0 (es:=wY T v (NG o.dst) xh yh) (fun hl=>hl) BI hTr (fun k hk=>⟨?_, ?_⟩) (fun k hk=>⟨?_, ?_⟩) hres)
  ·unfold VY;simp only[Xy];rw[hk];rfl
  ·obtain⟨row,e⟩:=Option.isSome_iff_exists.1 hk;rw[hcs.rows k,e];rfl
  ·unfold VY;simp only[Xy];rw[hk];rfl
  ·obtain⟨row,e⟩:=Option.isSome_iff_exists.1 hk;rw[hcs.boxes k,e];rfl
 ·cases he
theorem aeF (q:Nat)(c:CV)(hc:∀n,c≠⟨.fn,n⟩)(x:AV):Po (x.tw q c)=Po x:=by
 cases x with
 |rv x=>cases x with
  |own k=>
   simp only[AV.tw,RV.tw];cases Nat.beq k q with
   |true=>obtain⟨t,z⟩:=c;cases t<;>first |rfl |exact absurd rfl (hc z)
   |false=>rfl
  |_=>rfl
 |ND k sz i off=>simp only[AV.tw];cases Nat.beq k q<;>rfl
 |_=>rfl
theorem Zp (q:Nat)(x:Operand):Po ((σ.freeze q).av x)=Po (σ.av x):=by
 cases hq:look σ.rows q with
 |none=>unfold AS.freeze;rw[hq]
 |some row=>rw[Kp hq];exact aeF q _ (fun n e=>by injection e with e;cases e) _
theorem V1 (x:Operand):∀(xs:List Operand) (σ:AS),Po ((σ.ve xs).av x)=Po (σ.av x)
 | [],σ=>rfl
 |y::ys,σ=>by
  show Po (((σ.frz y).ve ys).av x)=_;rw[V1 x ys];unfold AS.frz;split
  ·exact Zp _ _
  ·rfl
theorem Te:∀(xs:List Operand) (σ:AS),(σ.ve xs).ae=σ.ae
 | [],σ=>rfl
 |y::ys,σ=>by
  show ((σ.frz y).ve ys).ae=_;rw[Te ys];unfold AS.frz;split
  ·unfold AS.freeze;split<;>rfl
  ·rfl
end
open Go.RowKit Go.Lib
theorem Rel.LF {V V':View}:∀(t:Ty) (x:t.den) (cs:List Value),Hw t=true→Rel V t x cs→Rel V' t x cs
 | .int k,x,cs,_,h=>h
 | .bool,x,cs,_,h=>h
 | .str,x,cs,_,h=>h
 | .slice t,xs,cs,hi,_=>by cases hi
 | .unit,_,cs,_,h=>h
 | .pair a b,x,cs,hi,⟨c1,c2,e,h1,h2⟩=>by simp only[Hw,Bool.and_eq_true] at hi;exact⟨c1,c2,e,Rel.LF a _ _ hi.1 h1,Rel.LF b _ _ hi.2 h2⟩
 | .st t,x,cs,hi,h=>Rel.LF t x cs hi h
 | .ref _,_,_,hi,_=>by cases hi
 | .ptr _,_,_,hi,_=>by cases hi
 | .mp _,_,_,hi,_=>by cases hi
 | .fn,_,_,_,h=>h
 | .px t,_,cs,hi,_=>by cases hi
theorem wT.LF {V V':View}{t:Ty}{x:t.den}{v:Value}(hi:Hw t=true)(h:wT V t x v):wT V' t x v:=by
 cases t with
 |st t=>obtain⟨cs,h1,h2⟩:=h;exact⟨cs,h1,Rel.LF _ _ _ hi h2⟩
 |_=>exact Rel.LF (V:=V) _ _ _ hi h
def U6 (V:View):(t:Ty)→t.den→List Value→Prop
 | .unit,_,vs=>vs=[]
 | .pair a b,x,vs=>∃v r,vs=v::r∧wT V a x.1 v∧U6 V b x.2 r
 |_,_,_=>False
theorem U6.LF {V V':View}:∀{t:Ty} {x:t.den} {vs:List Value},Hw t=true→U6 V t x vs→U6 V' t x vs
 | .unit,x,vs,_,h=>h
 | .pair a b,x,vs,hi,⟨v,r,e,h1,h2⟩=>by simp only[Hw,Bool.and_eq_true] at hi;exact⟨v,r,e,wT.LF hi.1 h1,U6.LF hi.2 h2⟩
 | .int _,_,_,_,h=>h.elim
 | .bool,_,_,_,h=>h.elim
 | .str,_,_,_,h=>h.elim
 | .slice _,_,_,_,h=>h.elim
 | .st _,_,_,_,h=>h.elim
 | .ref _,_,_,_,h=>h.elim
 | .ptr _,_,_,_,h=>h.elim
 | .mp _,_,_,_,h=>h.elim
 | .fn,_,_,_,h=>h.elim
 | .px _,_,_,_,h=>h.elim
section
variable {P:Program}{T:cG}{E:Env}{σ ag:AS}{a:Act}{w w':World}{ν aK:Nm→Value}{O O':Nat→Prop}{Φ:bN T}{V V':View}{Y:Value}
theorem Tf:∀{t:Ty} {avs:List AV} {x:t.den} {vs:List Value},qx t avs=some x→aC (aj V σ ν Y) avs vs→U6 V t x vs
 | .unit,[],x,[],_,_=>rfl
 | .pair a b,av::r,x,v::vs,h,hr=>by
   simp only[qx] at h;split at h
   ·rename_i y hy;split at h
    ·rename_i z hz;simp only[Option.some.injEq] at h;subst h;exact⟨v,vs,rfl,GB hy hr.1,Tf hz hr.2⟩
    ·cases h
   ·cases h
 | .unit,[],_,_::_,_,hr=>hr.elim
 | .unit,_::_,_,_,h,_=>by simp[qx] at h
 | .pair _ _,[],_,_,h,_=>by simp[qx] at h
 | .pair _ _,_::_,_,[],_,hr=>hr.elim
 | .int _,_,_,_,h,_=>by simp[qx] at h
 | .bool,_,_,_,h,_=>by simp[qx] at h
 | .str,_,_,_,h,_=>by simp[qx] at h
 | .slice _,_,_,_,h,_=>by simp[qx] at h
 | .st _,_,_,_,h,_=>by simp[qx] at h
 | .ref _,_,_,_,h,_=>by simp[qx] at h
 | .ptr _,_,_,_,h,_=>by simp[qx] at h
 | .mp _,_,_,_,h,_=>by simp[qx] at h
 | .fn,_,_,_,h,_=>by simp[qx] at h
 | .px _,_,_,_,h,_=>by simp[qx] at h
def GK (P:Program)(E:Env):Prop:=∀(r:Option Nat) (t:Ty) (xs:List t.den) (x:t.den) (vs:List Value) (O:Nat→Prop) (w:World),E.J ⟨.slice t,xs⟩ O w→E.acc ⟨.slice t,xs++[x]⟩→(∀V,U6 V t x vs)→
 (E.base=E.w0∧∀k,E.X k→E.CB k)∧∃(l:Nat) (f:FuncId) (tmps:Array Value) (Rx body:Code),E.Y= .func (.yield l) #[] #[]∧(Instr.yield l vs.toArray).run P w= .ok (.round l f tmps Rx body) w∧
   RoundIn (FW r) 0 P l f tmps Rx body w fun e w'=>e= .returned (.bool true)∧∃O',E.J ⟨.slice t,xs++[x]⟩ O' w'∧Grow O w w'∧(∀k,O k→O' k)∧∀k,O' k→O k∨(w.heap.size≤k∧k<w'.heap.size)
theorem Er (h:E.J=kc):GK P E:=fun r t xs x vs O w hJ=>by
 rw[h] at hJ;have:(⟨.slice t,xs⟩:CV)=⟨.unit,()⟩:=hJ;injection this with e
 cases e
theorem St.yielded (hE:aE E)(h:St E σ a w ν O){tr:CV}(hJ:E.J tr O' w')(hg:Grow O w w')(hO:∀k,O k→O' k)(hO':∀k,O' k→O k∨(w.heap.size≤k∧k<w'.heap.size))(hb:E.base=E.w0∧∀k,E.X k→E.CB k):
  St E {σ with trace:=tr} a w' ν O':=by
 have hs:KR {σ with trace:=tr} {σ with trace:=tr}:=⟨rfl,rfl,rfl,rfl⟩
 have hob:({σ with trace:=tr}:AS).obj=σ.obj:=by funext m;cases m<;>rfl
 have hown:∀m k,Own {σ with trace:=tr} ν m k→Own σ ν m k:=fun m k hm=>by unfold Own at hm ⊢;rw[hob] at hm;exact hm
 have hV:∀key u,view E σ ν O w key u→view E {σ with trace:=tr} ν O' w' key u:=fun key u hu=>E5 hg (HSub.of_eq rfl (fun _ _=>rfl)) (fun k h1 h2 h3 h4=>⟨fun⟨m,hm⟩=>h3 ⟨m,hown m k hm⟩,fun h5=>by
  rcases hO' k h5 with h6 |h6
  ·exact h4 h6
  ·omega,h4⟩) hu
 have hblk:∀r o,w.heap[r]? =some o→¬O r→w'.heap[r]? =some o∧¬O' r:=fun r o h1 h2=>by
  have hlt:=(Array.getElem?_eq_some_iff.1 h1).1;refine⟨by rw[hg.block r hlt h2];exact h1,fun h3=> ?_⟩;rcases hO' r h3 with h4 |h4
  ·exact h2 h4
  ·omega
 refine⟨h.keep.trans hg (fun k hk ho=>(h.out.2 k ho).2 hk),fun d hd=> ?_,h.slots.mono (aj.mono hV ⟨HSub.of_eq rfl (fun _ _=>rfl),fun r row hr=>⟨rfl,row,hr,rfl⟩,fun b hb=>⟨rfl,hb⟩⟩),fun m o ho=> ?_,fun m m' k h1 h2=>h.inj m m' k (hown _ _ h1) (hown _ _ h2),fun m k hm=> ?_,fun r k hk=>h.new r k (hown _ _ hk),⟨hJ,fun k hk=> ?_⟩,h.nn,h.ro,h.kept,fun r hr=> ?_,h.vm.trans hg (fun k hk ho=> ?_),fun m k hm=>h.wX m k (hown _ _ hm),fun k hk=>hO k (h.NK k hk),h.nd⟩
 ·obtain⟨r,h1,h2,h3,h4⟩:=h.marks d hd;obtain⟨h5,h6⟩:=hblk r _ h3 h4;exact⟨r,h1,h2,h5,h6⟩
 ·rw[hob] at ho;exact(h.Bj m o ho).mono hV (fun k hk=>hg.block k (h.y6 m k ⟨bf ho,hk⟩).2.1 (h.y6 m k ⟨bf ho,hk⟩).2.2) (fun r _ hr=>⟨rfl,hr⟩)
 ·obtain⟨h1,h2,h3⟩:=h.y6 m k (hown _ _ hm);refine⟨h1,Nat.lt_of_lt_of_le h2 hg.size,fun h4=> ?_⟩;rcases hO' k h4 with h5 |h5
  ·exact h3 h5
  ·omega
 ·rcases hO' k hk with h5 |h5
  ·exact⟨Nat.lt_of_lt_of_le (h.out.2 k h5).1 hg.size,(h.out.2 k h5).2⟩
  ·exact⟨h5.2,fun h6=>by have:=h.keep.size;omega⟩
 ·obtain⟨h1,h2⟩:=h.waits r hr;exact hblk r _ h1 h2
 ·rw[hb.1] at hk;exact hb.2 k ((h.out.2 k ho).2 hk)
structure Ctx (P:Program) (T:cG) (Φ:bN T) (E:Env):Prop where
 env:aE E
 RE:Ms T E
 tab:iG P T.rows
 hps:Dt P T
 eqs:agQ P T
 sigs:S9 T
 fns:Zk P T Φ
 num:E.h0.length=T.ae.length
 amh:GK P E
 jj:∀O w,E.J ⟨.unit,()⟩ O w→E.J=kc
theorem ahk (C:Ctx P T Φ E)(h:St E σ a w ν O){o:Oper}{r:cn}{f:Operand}{args:Array Operand}{ats:Array TypeId}(ho:o.op= .call {callee:= .value f,args:=args,argTypes:=ats})
  (he:(Dk T σ.av σ.sites o).val Φ σ=some r) (hacc:E.acc (aW σ o.dst r).trace):lj P o a w (To E (aW σ o.dst r)):=by
 have BH:σ.ae.length=T.ae.length:=by rw[h.kept.num,C.num]
 have hd:∀c,o.op≠ .defer c:=by rw[ho];intro c e;cases e
 have hf:=h.av C.RE.1 f;unfold Dk at he;simp only[ho] at he;generalize o.dst.bind (look σ.sites)=st at he;split at he
 ·rename_i hfy;rw[hfy] at hf;have hf':a.eval f=E.Y:=hf;rw[mL] at he;split at he
  ·rename_i t xs htr;rw[aB,b6] at he;obtain⟨Ph,x,hx,he⟩:=he;rw[gD] at he;subst he;have hJ:=h.out.1;rw[htr] at hJ;have hvs:=Tf hx (Tc (h.av C.RE.1) args.toList);have aor:E.acc ⟨.slice t,xs++[x]⟩:=by
    have:(aW σ o.dst (AV.rv (.cv ⟨.bool,true⟩),Eff.set {σ with trace:=⟨.slice t,xs++[x]⟩})).trace=⟨.slice t,xs++[x]⟩:=by unfold aW;dsimp only;cases o.dst<;>rfl
    rw[this] at hacc;exact hacc
   intro rr next Q hn
   obtain⟨hb,l,f',tmps,Rx,body,hY,hrun,ami⟩:=C.amh rr t xs x _ O w hJ aor (fun V=>U6.LF Ph hvs);refine⟨fun _ _=>trivial, ?_⟩;have hev:(execOp a.eval o).run P w= .ok (.round l f' tmps Rx body) w:=by
    have e1:(args.map a.eval)=(args.toList.map a.eval).toArray:=by rw[←Array.toList_map]
    rw[←e1] at hrun;simp[execOp,ho,resolve,hf',hY,Deferred.ofValue,invoke,hrun]
   rw[Oper.semAt_eq _ _ _ hd,hev,Oper.uponIn_round];refine⟨fun e=>(by cases e),RoundIn.mono ami ?_⟩;rintro e w' ⟨rfl,O',h1,h2,h3,h4⟩;exact hn _ _ ⟨ν,O',(h.yielded C.env h1 h2 h3 h4 hb).slot (x:= .rv (.cv ⟨.bool,true⟩)) xI⟩
  ·cases he
 ·rename_i hny;split at he
  ·rename_i g aQ hg;cases hb:((args.toList.any fun x=>wV (σ.av x))&& !(j9 T (T.sig ((Su T st g (args.toList.map σ.av++aQ.map VA)).getD 0)))) with
   |true=>rw[hb,cond_true,mL,R2] at he;obtain⟨y,he,rfl⟩:=he;rw[SJ] at he;have s1:=h.ve C.env args.toList;have hf1:=s1.av C.RE.1 f;obtain⟨vs,e1,e2⟩:=S6 hf1 (by rw[V1];exact hg);obtain⟨us,e3,hx⟩:=Td C.env C.RE C.sigs C.fns (by rw[Te];exact BH) s1 ho e1 e2 he;unfold aW;dsimp only;rw[e3];exact hx
   |false=>rw[hb,cond_false] at he;obtain⟨vs,e1,e2⟩:=S6 hf hg;obtain⟨us,e3,hx⟩:=Td C.env C.RE C.sigs C.fns BH h ho e1 e2 he;unfold aW;rw[e3];exact hx
  ·cases he
theorem ahl (C:Ctx P T Φ E)(h:St E σ a w ν O){o:Oper}{r:cn}(he:(Dk T σ.av σ.sites o).val Φ σ=some r)(hacc:E.acc (aW σ o.dst r).trace):lj P o a w (To E (aW σ o.dst r)):=by
 have BH:σ.ae.length=T.ae.length:=by rw[h.kept.num,C.num]
 have hE:=C.env;have hG:=C.RE.1;have hT:=C.tab;have bad:∀{op:Op},o.op=op→(∀(he:(Dk T σ.av σ.sites {o with op:=op}).val Φ σ=some r),False)→False:=fun {op} e hb=>by subst e;exact hb he
 cases ho:o.op with
 |move x=>exact mZ hE hG hT C.eqs h (.inl ⟨_,ho⟩) he
 |pick c x y=>exact mZ hE hG hT C.eqs h (.inr (.inl ⟨_,_,_,ho⟩)) he
 |nilCheck x=>exact mZ hE hG hT C.eqs h (.inr (.inr (.inl ⟨_,ho⟩))) he
 |load t x=>exact mZ hE hG hT C.eqs h (.inr (.inr (.inr (.inl ⟨_,_,ho⟩)))) he
 |binOp b t x y u=>exact mZ hE hG hT C.eqs h (.inr (.inr (.inr (.inr (.inl ⟨_,_,_,_,_,ho⟩))))) he
 |unOp b t x=>exact mZ hE hG hT C.eqs h (.inr (.inr (.inr (.inr (.inr (.inl ⟨_,_,_,ho⟩)))))) he
 |convert s d x=>exact mZ hE hG hT C.eqs h (.inr (.inr (.inr (.inr (.inr (.inr (.inl ⟨_,_,_,ho⟩))))))) he
 |fieldAddr s x f=>exact mZ hE hG hT C.eqs h (.inr (.inr (.inr (.inr (.inr (.inr (.inr (.inl ⟨_,_,_,ho⟩)))))))) he
 |indexAddr t x i=>exact mZ hE hG hT C.eqs h (.inr (.inr (.inr (.inr (.inr (.inr (.inr (.inr (.inl ⟨_,_,_,ho⟩))))))))) he
 |index t x i=>exact mZ hE hG hT C.eqs h (.inr (.inr (.inr (.inr (.inr (.inr (.inr (.inr (.inr (.inl ⟨_,_,_,ho⟩)))))))))) he
 |extract x i=>exact mZ hE hG hT C.eqs h (.inr (.inr (.inr (.inr (.inr (.inr (.inr (.inr (.inr (.inr ⟨_,_,ho⟩)))))))))) he
 |assign x=>exact aer hE hG hT h ho he
 |store t x v=>exact ag6 hE hG hT h ho he
 |alloc t=>exact ag7 hE hG hT C.hps BH h ho he
 |box t v=>exact amc hE hG hT h ho he
 |build t ps=>exact ag9 hE hG hT h ho he
 |buildSlice t l ps=>exact U2 hE hG hT C.hps BH h ho he
 |makeSlice t l c=>exact Xu hE hG hT C.hps BH h ho he
 |slice t x l u m=>exact aha hE hG hT h ho he
 |makeFunc f fs cs=>exact Zc hE hG h ho he
 |call c=>
  obtain⟨callee,args,ats⟩:=c;cases callee with
  |value f=>exact ahk C h ho he hacc
  |builtin b=>
   cases b with
   |len=>exact ama hE hG hT h ho he
   |max=>exact VM hE hG h (.inl rfl) ho he
   |min=>exact VM hE hG h (.inr rfl) ho he
   |append=>exact aex hE hG hT h ho he
   |_=>unfold Dk at he;simp only[ho] at he;cases he
  |invoke x n=>unfold Dk at he;simp only[ho] at he;cases he
 |_=>unfold Dk at he;simp only[ho] at he;cases he
end
open Go.RowKit Go.Lib
section
variable {T:cG}{α:Type}
def Q.ok (p:α→Prop):AS→Q T α→Prop
 |_, .ret a=>p a
 |_, .fail=>True
 |σ, .opt o k=>∀y,o=some y→(k y).ok p σ
 |σ, .fi b k=>k.ok p σ
 |σ, .ite b x y=>x.ok p σ∧y.ok p σ
 |σ, .row q k=>∀x,look σ.rows q=some x→(k x).ok p σ
 |σ, .len q k=>∀x,(k x).ok p σ
 |σ, .box q k=>∀x,(k x).ok p σ
 |σ, .heap q k=>∀x,(k x).ok p σ
 |σ, .qg q k=>k.ok p σ
 |σ, .qh q k=>k.ok p σ
 |σ, .call v x k=>∀y,(k y).ok p σ
 |σ, .all k=>(k σ).ok p σ
 |_, .on ag k=>k.ok p ag
theorem ahm {p:α→Prop}{Φ:bN T}:∀{q:Q T α} {σ:AS} {r:α},q.ok p σ→q.val Φ σ=some r→p r:=by
 intro q;induction q with
 |ret a=>intro σ r h he;rw[gD] at he;subst he;exact h
 |fail=>intro σ r h he;cases he
 |opt o k ih=>intro σ r h he;rw[b6] at he;obtain⟨y,h1,h2⟩:=he;exact ih y (h y h1) h2
 |fi b k ih=>intro σ r h he;rw[aB] at he;exact ih h he.2
 |ite b x y KN Ig=>intro σ r h he;rw[NM] at he;rcases he with ⟨_,he⟩ | ⟨_,he⟩
                   ·exact KN h.1 he
                   ·exact Ig h.2 he
 |row q k ih=>intro σ r h he;rw[qi] at he;obtain⟨y,h1,h2⟩:=he;exact ih y (h y h1) h2
 |len q k ih=>intro σ r h he;rw[R1] at he;obtain⟨y,h1,h2⟩:=he;exact ih _ (h _) h2
 |box q k ih=>intro σ r h he;rw[Dm] at he;obtain⟨y,h1,h2⟩:=he;exact ih y (h y) h2
 |heap q k ih=>intro σ r h he;rw[ft] at he;obtain⟨y,h1,h2⟩:=he;exact ih y (h y) h2
 |qg q k ih=>intro σ r h he;rw[xE] at he;exact ih h he.2
 |qh q k ih=>intro σ r h he;rw[xF] at he;exact ih h he.2
 |call v x k ih=>intro σ r h he;rw[NN] at he;obtain⟨y,h1,h2⟩:=he;exact ih y (h y) h2
 |all k ih=>intro σ r h he;rw[mL] at he;exact ih σ h he
 |on ag k ih=>intro σ r h he;rw[SJ] at he;exact ih h he
theorem abD {β:Type}{f:α→β}{p:β→Prop}:∀{q:Q T α} {σ:AS},q.ok (fun x=>p (f x)) σ→(q.map f).ok p σ:=by
 intro q;induction q with
 |ret a=>intro σ h;exact h
 |fail=>intro σ h;trivial
 |opt o k ih=>intro σ h y hy;exact ih y (h y hy)
 |fi b k ih=>intro σ h;exact ih h
 |ite b x y KN Ig=>intro σ h;exact⟨KN h.1,Ig h.2⟩
 |row q k ih=>intro σ h y hy;exact ih y (h y hy)
 |len q k ih=>intro σ h y;exact ih y (h y)
 |box q k ih=>intro σ h y;exact ih y (h y)
 |heap q k ih=>intro σ h y;exact ih y (h y)
 |qg q k ih=>intro σ h;exact ih h
 |qh q k ih=>intro σ h;exact ih h
 |call v x k ih=>intro σ h y;exact ih y (h y)
 |all k ih=>intro σ h;exact ih σ h
 |on ag k ih=>intro σ h;exact ih (σ:=ag) h
end
def o8 (a b:CV):Prop:=b=a∨∃(t:Ty) (xs ys:List t.den),a=⟨.slice t,xs⟩∧b=⟨.slice t,xs++ys⟩
theorem o8.refl (a:CV):o8 a a:= .inl rfl
theorem o8.trans {a b c:CV}(h:o8 a b)(g:o8 b c):o8 a c:=by
 rcases h with rfl | ⟨t,xs,ys,rfl,rfl⟩
 ·exact g
 ·rcases g with rfl | ⟨t',xs',ys',e,rfl⟩
  ·exact .inr ⟨t,xs,ys,rfl,rfl⟩
  ·injection e with e1 e2
   injection e1 with e1
   subst e1;simp only[heq_eq_eq] at e2;subst e2;exact .inr ⟨t,xs,ys++ys',rfl,by rw[List.append_assoc]⟩
structure Fr (σ ag:AS):Prop where
 cq:ag.cq=σ.cq
 sites:ag.sites=σ.sites
 s:ag.tmps.n=σ.tmps.n
 tr:o8 σ.trace ag.trace
 ks:ag.tmps.s.map (·.1)=σ.tmps.s.map (·.1)
theorem Fr.refl (σ:AS):Fr σ σ:=⟨rfl,rfl,rfl,o8.refl _,rfl⟩
theorem Fr.trans {a b c:AS}(h:Fr a b)(g:Fr b c):Fr a c:=⟨g.cq.trans h.cq,g.sites.trans h.sites,g.s.trans h.s,h.tr.trans g.tr,g.ks.trans h.ks⟩
theorem Fr.iS {σ ag:AS}(h:Fr σ ag)(d:Option Tmp)(x:AV):Fr σ (ag.iS d x):=by
 cases d with
 |none=>exact h
 |some d=>
  refine⟨h.cq,h.sites, ?_,h.tr, ?_⟩
  ·show (Db ag.tmps d x).n=_;unfold Db;cases Nat.blt d ag.tmps.n<;>exact h.s
  ·show (Db ag.tmps d x).s.map (·.1)=_;unfold Db;cases Nat.blt d ag.tmps.n<;>exact h.ks
theorem xN (f:AV→AV)(l:List (Nat×AV)):(US f l).map (·.1)=l.map (·.1):=by simp[US]
def TU.fits (σ:AS):TU→Prop
 | .IH q r=>(look σ.rows q).map (fun row=>row.xs.length)=some r.xs.length
 |_=>True
def TU.PI:TU→Bool
 | .IH _ _=>false
 |_=>true
def Fits:AS→List TU→Prop
 |_,[]=>True
 |σ,u::us=>u.fits σ∧Fits (σ.one u) us
theorem TU.aeG {σ:AS}{u:TU}(h:u.PI=true):u.fits σ:=by cases u<;>first |trivial |cases h
theorem Fits.ahn:∀{us:List TU} {σ:AS},us.all TU.PI=true→Fits σ us
 | [],_,_=>trivial
 |u::us,σ,h=>by simp only[List.all_cons,Bool.and_eq_true] at h;exact⟨TU.aeG h.1,Fits.ahn h.2⟩
def uv (σ:AS)(r:cn):Prop:=match r.2 with
 | .mI us=>Fits σ us
 | .set ag=>Fr σ ag
section
variable {T:cG}{σ:AS}
theorem Fr.app (σ:AS):∀us,Fr σ (σ.app us):=by
 intro us;induction us generalizing σ with
 |nil=>exact Fr.refl _
 |cons u us ih=>exact Fr.trans (b:=σ.one u) (by cases u<;>exact⟨rfl,rfl,rfl,o8.refl _,rfl⟩) (ih (σ.one u))
theorem Fr.res {r:cn}(h:uv σ r)(d:Option Tmp):Fr σ (aW σ d r):=by
 unfold aW;unfold uv at h;split at h
 ·rename_i us e;first | (rw[e];exact(Fr.app σ us).iS d _) |exact(Fr.app σ us).iS d _
 ·rename_i s e;first | (rw[e];exact Fr.iS h d _) |exact Fr.iS h d _
theorem fu (r:Nat):Fr σ (σ.freeze r):=by unfold AS.freeze;split<;>first |exact⟨rfl,rfl,rfl,o8.refl _,rfl⟩ |exact⟨rfl,rfl,rfl,o8.refl _,xN _ _⟩
theorem V2 (r d:Nat):Fr σ (σ.rename r d):=by unfold AS.rename;split<;>first |exact⟨rfl,rfl,rfl,o8.refl _,rfl⟩ |exact⟨rfl,rfl,rfl,o8.refl _,xN _ _⟩
theorem abE (r:Nat):Fr σ (σ.bl r):=⟨rfl,rfl,rfl,o8.refl _,xN _ _⟩
theorem Tg (r:Nat):Fr σ (σ.dN r):=⟨rfl,rfl,rfl,o8.refl _,xN _ _⟩
theorem aho (x:Operand):Fr σ (σ.frz x):=by unfold AS.frz;split<;>first |exact fu _ |exact Fr.refl _
theorem Dx:∀(xs:List Operand) (σ:AS),Fr σ (σ.ve xs)
 | [],σ=>Fr.refl _
 |x::xs,σ=>(aho x).trans (Dx xs _)
theorem V3 {ag:AS}(h:Fr σ ag)(rows:List (Nat×Row))(boxes:List (Nat×BX)):Fr σ {ag with rows:=rows,boxes:=boxes}:=⟨h.cq,h.sites,h.s,h.tr,h.ks⟩
def sL (r:cn):Prop:=match r.2 with
 | .mI us=>us.all TU.PI=true
 | .set _=>False
theorem sL.eff {r:cn}(h:sL r):uv σ r:=by
 unfold sL at h;unfold uv;split at h
 ·rename_i us e;exact Fits.ahn h
 ·exact h.elim
theorem bB {q:Q T cn}(h:q.ok sL σ):q.ok (uv σ) σ:=by
 have key:∀(q:Q T cn) (de:AS),q.ok sL de→q.ok (uv σ) de:=by
  intro q;induction q with
  |ret a=>intro de h;exact sL.eff h
  |fail=>intro de h;trivial
  |opt o k ih=>intro de h y hy;exact ih y de (h y hy)
  |fi b k ih=>intro de h;exact ih de h
  |ite b x y KN Ig=>intro de h;exact⟨KN de h.1,Ig de h.2⟩
  |row q k ih=>intro de h y hy;exact ih y de (h y hy)
  |len q k ih=>intro de h y;exact ih y de (h y)
  |box q k ih=>intro de h y;exact ih y de (h y)
  |heap q k ih=>intro de h y;exact ih y de (h y)
  |qg q k ih=>intro de h;exact ih de h
  |qh q k ih=>intro de h;exact ih de h
  |call v x k ih=>intro de h y;exact ih y de (h y)
  |all k ih=>intro de h;exact ih de de h
  |on ag k ih=>intro de h;exact ih ag h
 exact key q σ h
theorem vp (z:AV):(pv (T:=T) z).ok sL σ:=rfl
theorem PJ (t:Ty)(x:t.den):(Dc (T:=T) t x).ok sL σ:=rfl
theorem lB {β:Type}{f:β→Q T cn}{p:cn→Prop}(hf:∀y,(f y).ok p σ)(o:Option β):(jt f o).ok p σ:=by
 cases o with
 |none=>trivial
 |some y=>exact hf y
theorem abF (op:BinOp)(b:Bool):(eqV (T:=T) op b).ok sL σ:=by unfold eqV;split<;>first |exact rfl |trivial
theorem ahp (rows:List fJ)(t:TypeId)(x:AV):(Vy (T:=T) rows t x).ok sL σ:=by
 unfold Vy;split
 ·trivial
 ·split
  ·intro bx;cases bx with
   |cells cs=>exact lB (fun y=>vp _) _
   |own q=>dsimp only;split<;>first |exact rfl |trivial
   |nil=>trivial
  ·intro row _;intro y hy;exact lB (fun y=>vp _) _
  ·exact lB (fun y=>vp _) _
  ·intro hr;intro l hl;intro y hy;exact lB (fun y=>vp _) _
  ·intro hr;intro l hl;intro y hy;exact lB (fun y=>vp _) _
  ·trivial
theorem Th (rows:List fJ)(ty:TypeId)(x:AV):(Lz (T:=T) rows ty x).ok sL σ:=by
 unfold Lz
 repeat' split
 all_goals first |exact rfl |trivial
theorem adh (op:BinOp)(x y:AV):(aec (T:=T) op x y).ok sL σ:=by
 unfold aec
 repeat' split
 all_goals first |exact rfl |trivial |exact lB (fun y=>PJ _ _) _
theorem aj2 (op:BinOp)(x y:AV):(aed (T:=T) op x y).ok sL σ:=by
 unfold aed
 repeat' split
 all_goals first |exact abF _ _ |trivial
theorem aj3 (ty:Ty)(op:BinOp)(x y:AV):(aee (T:=T) ty op x y).ok sL σ:=by
 unfold aee
 repeat' split
 all_goals first |exact abF _ _ |trivial
theorem aj4 (t:Ty)(op:BinOp)(x y:AV):(agB (T:=T) t op x y).ok sL σ:=by
 unfold agB;split
 ·exact(abF op _:Q.ok sL σ (eqV op _))
 ·trivial
theorem aj5 (ty:Ty)(x:AV):(aef (T:=T) ty x).ok sL σ:=by
 unfold aef;split
 ·exact rfl
 ·exact rfl
 ·intro n;exact rfl
 ·exact rfl
 ·intro hr;intro l hl;exact rfl
 ·trivial
theorem aeH (rows:List fJ)(t:TypeId)(x i:AV):(Pl (T:=T) rows t x i).ok sL σ:=by
 unfold Pl;split
 ·split
  ·split
   ·intro y hy;exact rfl
   ·intro row _ y hy;exact rfl
   ·intro hr l hl y hy;exact rfl
   ·split
    ·show Q.ok _ _ _;split
     ·split<;>first |exact rfl |trivial
     ·trivial
    ·trivial
   ·trivial
  ·trivial
 ·trivial
theorem aeI (rows:List fJ)(s:TypeId)(x:AV)(f:Nat):(Pm (T:=T) rows s x f).ok sL σ:=by
 unfold Pm;split
 ·show Q.ok _ _ _;split
  ·split<;>first |exact rfl |trivial
  ·trivial
 ·trivial
theorem ahq (rows:List fJ)(s d:TypeId)(x:AV):(Vz (T:=T) rows s d x).ok sL σ:=by
 unfold Vz;split
 ·split
  ·exact rfl
  ·exact rfl
  ·exact rfl
  ·intro row _;dsimp only;split
   ·exact rfl
   ·trivial
  ·exact rfl
  ·trivial
 ·trivial
theorem aeJ (rows:List fJ)(av:Operand→AV)(t:TypeId)(x:AV)(lo hi mx:Option Operand):(vi (T:=T) rows av t x lo hi mx).ok sL σ:=by
 unfold vi
 repeat' split
 all_goals first |exact rfl |trivial
theorem aeK (rows:List fJ)(av:Operand→AV)(t:TypeId)(ps:List (Nat×Operand)):(Bw (T:=T) rows av t ps).ok sL σ:=by
 unfold Bw
 repeat' split
 all_goals first |exact lB (fun y=>vp _) _ |trivial
theorem PK (d:Option Tmp)(row:Row):(newRow (T:=T) d row).ok sL σ:=by unfold newRow;split<;>first |exact rfl |trivial
theorem V4 (d:Option Tmp)(x:BX):(zS (T:=T) d x).ok sL σ:=by unfold zS;split<;>first |exact rfl |trivial
theorem Fb (h:Nat)(hr:aV)(xs:List (Option (List hr.t.den)))(l:List hr.t.den):(xB (T:=T) h hr xs l).ok sL σ:=rfl
theorem V5 (h:Nat)(hr:aV)(x:hr.t.den):(Mk (T:=T) h hr x).ok sL σ:=rfl
theorem V6 (h n i off:Nat)(vs:List CV):(Pn (T:=T) h n i off vs).ok sL σ:=fun hr l hl y hy y' hy'=>rfl
theorem V7 (x:AV)(vs:List CV):(IJ (T:=T) x vs).ok (uv σ) σ:=by
 unfold IJ;split
 ·exact bB (q:= .box _ _) (by intro bx;dsimp only;split<;>exact rfl)
 ·intro row hrow y hy y' hy';refine show uv σ (AV.nil,Eff.mI _) from ?_
  refine⟨?_,trivial⟩;show (look σ.rows _).map _=_;rw[hrow];simp
 ·exact bB (V6 _ _ _ _ _)
 ·exact bB (V6 _ _ _ _ _)
 ·trivial
theorem Dy {p:cn→Prop}(t:Ty)(x:AV)(k:List t.den→Q T cn)(hk:∀l,(k l).ok p σ):(appended t x k).ok p σ:=by
 unfold appended;split
 ·intro hr l hl y hy;exact hk _
 ·intro y hy;exact hk _
 ·intro row _ y hy;exact hk _
 ·exact hk _
 ·trivial
theorem Kw {p:cn→Prop}(t:Ty)(k:t.den→Q T cn)(hk:∀l,(k l).ok p σ)(c:Hv):(IK t k c).ok p σ:=by
 unfold IK;split
 ·intro bx;dsimp only;split
  ·intro y hy;exact hk _
  ·intro row _ y hy;exact hk _
  ·trivial
 ·intro y hy;exact hk _
theorem Ti {p:cn→Prop}:∀(ts:List Ty) (cs:List Hv) (k:rU ts→Q T cn),(∀l,(k l).ok p σ)→(yr ts cs k).ok p σ
 | [],[],k,hk=>hk ()
 | [t],[c],k,hk=>Kw t k hk c
 |t::u::ts,c::cs,k,hk=>Kw t _ (fun x=>Ti (u::ts) cs _ fun y=>hk (x,y)) c
 | [],_::_,k,hk=>trivial
 | [_],[],k,hk=>trivial
 | [_],_::_::_,k,hk=>trivial
 |_::_::_,[],k,hk=>trivial
theorem N1 {p:cn→Prop}:∀(hs:List Nat) (acc:List aV) (k:List aV→Q T cn),(∀l,(k l).ok p σ)→(Br hs acc k).ok p σ
 | [],acc,k,hk=>hk _
 |h::hs,acc,k,hk=>fun hr=>N1 hs _ k hk
theorem adi {q:cn→Prop}(dg:Bool)(nh:Nat)(hout:List Nat)(p:nK)(a:AV)(k:p.den→Q T cn)(hk:∀l,(k l).ok q σ):(aeg dg nh hout p a k).ok q σ:=by
 unfold aeg;split
 ·rename_i t k;split
  ·intro row _ y hy;exact hk _
  ·cases (Pp a&& !(abg t)&&dg) with
   |true=>exact N1 _ _ _ (fun l y hy=>hk _)
   |false=>intro y hy;exact hk _
 ·split
  ·exact Ti _ _ _ hk
  ·trivial
 ·exact hk ()
 ·split
  ·exact Kw _ _ hk _
  ·exact Kw _ _ hk _
  ·trivial
 ·trivial
 ·trivial
theorem Zq {q:cn→Prop}(dg:Bool)(nh:Nat)(hout:List Nat):∀(ps:List nK) (as:List AV) (k:Gq ps→Q T cn),(∀l,(k l).ok q σ)→(LB dg nh hout ps as k).ok q σ
 | [],[],k,hk=>hk ()
 | [p],[a],k,hk=>adi dg nh hout p a k hk
 |p::p'::ps,a::as,k,hk=>adi dg nh hout p a _ (fun x=>Zq dg nh hout (p'::ps) as _ fun y=>hk (x,y))
 | [],_::_,k,hk=>trivial
 | [_],[],k,hk=>trivial
 | [_],_::_::_,k,hk=>trivial
 |_::_::_,[],k,hk=>trivial
theorem Zr {q:cn→Prop}(wr:List Nat):∀(hs:List Nat) (k:En T hs→Q T cn),(∀l,(k l).ok q σ)→(Sw T wr hs k).ok q σ
 | [],k,hk=>hk ()
 | [h],k,hk=>fun hr=>by
   show Q.ok q σ (if e:hr.t=(T.ht h).t then k (QA e hr.xs) else .fail);split
   ·exact hk _
   ·trivial
 |h::i::r,k,hk=>fun hr=>by
  show Q.ok q σ (if e:hr.t=(T.ht h).t then Sw T wr (i::r) fun y=>k (QA e hr.xs,y) else .fail);split
  ·exact Zr wr (i::r) _ fun y=>hk _
  ·trivial
theorem I3 {q:cn→Prop}:∀(ts:List Mg) (d:Nat) (y:rU (ts.map (·.1))) (k:List TU→Q T cn),(∀l,l.all TU.PI=true→(k l).ok q σ)→(yt d ts y k).ok q σ
 | [],d,y,k,hk=>hk _ rfl
 | [(t,none)],d,y,k,hk=>hk _ rfl
 | [(t,some e)],d,y,k,hk=>by
   simp only[yt];split
   ·exact hk _ rfl
   ·trivial
 | (t,none)::u::ts,d,y,k,hk=>I3 (u::ts) (d+1) y.2 k hk
 | (t,some e)::u::ts,d,y,k,hk=>by
   simp only[yt];split
   ·exact I3 (u::ts) (d+1) y.2 _ fun l hl=>hk _ (by simp only[List.all_cons,TU.PI,Bool.true_and];exact hl)
   ·trivial
theorem N2 {q:cn→Prop}:∀(ts:List Ty) (d:Nat) (y:rU ts) (k:List TU→List Hv→Q T cn),(∀l m,l.all TU.PI=true→(k l m).ok q σ)→(E4 d ts y k).ok q σ
 | [],d,y,k,hk=>hk _ _ rfl
 | [t],d,y,k,hk=>hk _ _ rfl
 |t::u::ts,d,y,k,hk=>N2 (u::ts) (d+1) y.2 _ fun l m hl=>hk _ _ (by simp only[List.all_cons,TU.PI,Bool.true_and];exact hl)
theorem aeL:∀(ts:List Mg) (d:Nat) (y:rU (ts.map (·.1))),(kb d ts y).all TU.PI=true:=fun ts d y=>by rw[List.all_eq_true];intro u hu;obtain⟨k,row,_,_,rfl,_⟩:=xM ts d y u hu;rfl
theorem Tj:∀(hs:List Nat) (x:En T hs),(zU T hs x).all TU.PI=true
 | [],_=>rfl
 | [h],_=>rfl
 |h::i::r,x=>by simp only[zU,List.all_cons,TU.PI,Bool.true_and];exact Tj (i::r) _
theorem aj6 (d:Nat)(s:IE)(y:Mh s)(us:List TU)(hu:us.all TU.PI=true):(agE T d s y us).ok sL σ:=by
 unfold agE;have key:∀(x:AV) (vs:List TU),vs.all TU.PI=true→sL (x, .mI (us++vs)):=fun x vs hv=>by show (us++vs).all TU.PI=true;rw[List.all_append,hu,hv];rfl
 split
 ·rename_i a res hps y;have:=aeL res d y;exact I3 _ _ _ _ (fun l hl=>key _ _ hl)
 ·exact N2 _ _ _ _ fun l m hl=>key _ _ hl
 ·trivial
theorem Zs (av:Operand→AV)(st:Option Site)(dst:Option Tmp)(f:FuncId)(aQ:List Hv)(args:List Operand):(IL T av st dst f aQ args).ok sL σ:=by
 unfold IL;dsimp only;split
 ·exact Zq _ _ _ _ _ _ fun x=>Zr _ _ _ fun h xh hxh yh=>aj6 _ _ _ _ (Tj _ _)
 ·trivial
end
open Go.RowKit Go.Lib
section
variable {T:cG}{σ:AS}
theorem b7 {p:cn→Prop}{k:AS→Q T cn}(h:(k σ).ok p σ):(Q.all k).ok p σ:=h
theorem b8 {p:cn→Prop}{b:Bool}{k:Q T cn}(h:k.ok p σ):(Q.fi b k).ok p σ:=h
theorem b9 {p:cn→Prop}{q:Nat}{k:Row→Q T cn}(h:∀x,(k x).ok p σ):(Q.row q k).ok p σ:=fun x _=>h x
theorem bj {p:cn→Prop}{q:Nat}{k:aV→Q T cn}(h:∀x,(k x).ok p σ):(Q.heap q k).ok p σ:=h
theorem cg {p:cn→Prop}{q:Nat}{k:BX→Q T cn}(h:∀x,(k x).ok p σ):(Q.box q k).ok p σ:=h
theorem ch {p:cn→Prop}{β:Type}{q:Option β}{k:β→Q T cn}(h:∀x,(k x).ok p σ):(Q.opt q k).ok p σ:=fun y _=>h y
theorem yw {p:cn→Prop}{r:cn}(h:p r):(Q.ret (T:=T) r).ok p σ:=h
theorem Q.adj {p p':cn→Prop}(hp:∀r,p r→p' r):∀{q:Q T cn} {σ:AS},q.ok p σ→q.ok p' σ:=by
 intro q;induction q with
 |ret a=>intro σ h;exact hp _ h
 |fail=>intro σ h;trivial
 |opt o k ih=>intro σ h y hy;exact ih y (h y hy)
 |fi b k ih=>intro σ h;exact ih h
 |ite b x y KN Ig=>intro σ h;exact⟨KN h.1,Ig h.2⟩
 |row q k ih=>intro σ h y hy;exact ih y (h y hy)
 |len q k ih=>intro σ h y;exact ih y (h y)
 |box q k ih=>intro σ h y;exact ih y (h y)
 |heap q k ih=>intro σ h y;exact ih y (h y)
 |qg q k ih=>intro σ h;exact ih h
 |qh q k ih=>intro σ h;exact ih h
 |call v x k ih=>intro σ h y;exact ih y (h y)
 |all k ih=>intro σ h;exact ih σ h
 |on ag k ih=>intro σ h;exact ih (σ:=ag) h
theorem jR {z:AV}{ag:AS}(h:Fr σ ag):uv σ (z, .set ag):=h
theorem V8 {q:Q T cn}{ag:AS}(h:Fr σ ag):(q.map fun p=>(p.1,Eff.set ag)).ok (uv σ) σ:=by
 refine abD (p:=uv σ) ?_;have key:∀(q:Q T cn) (de:AS),q.ok (fun x=>uv σ (x.1,Eff.set ag)) de:=by
  intro q;induction q with
  |ret a=>intro de;exact h
  |fail=>intro de;trivial
  |opt o k ih=>intro de y hy;exact ih y de
  |fi b k ih=>intro de;exact ih de
  |ite b x y KN Ig=>intro de;exact⟨KN de,Ig de⟩
  |row q k ih=>intro de y hy;exact ih y de
  |len q k ih=>intro de y;exact ih y de
  |box q k ih=>intro de y;exact ih y de
  |heap q k ih=>intro de y;exact ih y de
  |qg q k ih=>intro de;exact ih de
  |qh q k ih=>intro de;exact ih de
  |call v x k ih=>intro de y;exact ih y de
  |all k ih=>intro de;exact ih de de
  |on ag k ih=>intro de;exact ih ag
 exact key q σ
theorem alo (av:Operand→AV)(sites:List (Nat×Site))(o:Oper):(Dk T av sites o).ok (uv σ) σ:=by
 unfold Dk;dsimp only;generalize o.dst.bind (look sites)=st;cases ho:o.op with
 |move x=>exact bB (Th _ _ _)
 |assign x=>
  dsimp only;split
  ·((repeat (first |refine b7 ?_ |refine b8 ?_ |refine b9 fun _=> ?_ |refine bj fun _=> ?_ |refine cg fun _=> ?_ |refine ch fun _=> ?_))<;>(try dsimp only))
   refine yw (jR ?_);cases Nat.beq _ _ with
   |true=>exact Fr.refl _
   |false=>exact(fu _).trans (V2 _ _)
  ·split
   ·exact bB (vp _)
   ·split
    ·((repeat (first |refine b7 ?_ |refine b8 ?_ |refine b9 fun _=> ?_ |refine bj fun _=> ?_ |refine cg fun _=> ?_ |refine ch fun _=> ?_))<;>(try dsimp only))
     exact yw (jR ⟨(fu _).cq,(fu _).sites,(fu _).s,(fu _).tr,(fu _).ks⟩)
    ·exact bB (Th _ _ _)
  ·exact bB (Th _ _ _)
 |pick c x y=>
  dsimp only;split
  ·exact⟨bB (vp (T:=T) (σ:=σ) _),bB (vp (T:=T) (σ:=σ) _)⟩
  ·trivial
 |nilCheck x=>
  dsimp only;split
  ·((repeat (first |refine b7 ?_ |refine b8 ?_ |refine b9 fun _=> ?_ |refine bj fun _=> ?_ |refine cg fun _=> ?_ |refine ch fun _=> ?_))<;>(try dsimp only));exact bB (vp (T:=T) (σ:=σ) _)
  ·exact bB (vp (T:=T) (σ:=σ) _)
  ·exact bB (vp (T:=T) (σ:=σ) _)
  ·exact bB (vp (T:=T) (σ:=σ) _)
  ·exact bB (vp (T:=T) (σ:=σ) _)
  ·trivial
 |load t x=>exact bB (ahp _ _ _)
 |binOp b t x y u=>
  dsimp only;split
  ·split
   ·exact bB (aj2 _ _ _)
   ·exact bB (adh _ _ _)
   ·exact bB (adh _ _ _)
   ·((repeat (first |refine b7 ?_ |refine b8 ?_ |refine b9 fun _=> ?_ |refine bj fun _=> ?_ |refine cg fun _=> ?_ |refine ch fun _=> ?_))<;>(try dsimp only));exact bB (aj4 _ _ _ _)
   ·exact bB (aj3 _ _ _ _)
  ·trivial
 |unOp b t x=>
  dsimp only;split
  ·exact bB (PJ (T:=T) (σ:=σ) _ _)
  ·exact bB (PJ (T:=T) (σ:=σ) _ _)
  ·trivial
 |convert s d x=>exact bB (ahq _ _ _ _)
 |fieldAddr s x f=>exact bB (aeI _ _ _ _)
 |indexAddr t x i=>exact bB (aeH _ _ _ _)
 |index t x i=>
  dsimp only;split
  ·split
   ·((repeat (first |refine b7 ?_ |refine b8 ?_ |refine b9 fun _=> ?_ |refine bj fun _=> ?_ |refine cg fun _=> ?_ |refine ch fun _=> ?_))<;>(try dsimp only));exact bB (PJ (T:=T) (σ:=σ) _ _)
   ·trivial
  ·trivial
 |extract x i=>
  dsimp only;split
  ·exact bB (lB (fun y=>vp _) _)
  ·trivial
 |makeFunc f fs cs=>
  cases f with
  |func g=>
   dsimp only;split
   ·exact bB (lB (fun y=>vp _) _)
   ·trivial
  |_=>trivial
 |slice t x l u m=>
  dsimp only;split
  ·split
   ·split
    ·((repeat (first |refine b7 ?_ |refine b8 ?_ |refine b9 fun _=> ?_ |refine bj fun _=> ?_ |refine cg fun _=> ?_ |refine ch fun _=> ?_))<;>(try dsimp only))
     split
     ·((repeat (first |refine b7 ?_ |refine b8 ?_ |refine b9 fun _=> ?_ |refine bj fun _=> ?_ |refine cg fun _=> ?_ |refine ch fun _=> ?_))<;>(try dsimp only))
      split
      ·exact yw (jR ⟨rfl,rfl,rfl,o8.refl _,by first |rfl |exact xN _ _⟩)
      ·trivial
     ·trivial
    ·trivial
   ·((repeat (first |refine b7 ?_ |refine b8 ?_ |refine b9 fun _=> ?_ |refine bj fun _=> ?_ |refine cg fun _=> ?_ |refine ch fun _=> ?_))<;>(try dsimp only))
    exact V8 (fu _)
  ·split
   ·split
    ·((repeat (first |refine b7 ?_ |refine b8 ?_ |refine b9 fun _=> ?_ |refine bj fun _=> ?_ |refine cg fun _=> ?_ |refine ch fun _=> ?_))<;>(try dsimp only))
     exact⟨bB (vp (T:=T) (σ:=σ) _),bB (Fb (T:=T) (σ:=σ) _ _ _ _)⟩
    ·trivial
   ·trivial
  ·exact bB (aeJ _ _ _ _ _ _ _)
 |build t ps=>
  dsimp only;cases ((ps.toList.map (·.2)).any fun x=>wV (av x)) with
  |true=>exact V8 (Dx _ _)
  |false=>exact bB (aeK _ _ _ _)
 |buildSlice t len ps=>
  dsimp only;split
  ·split
   ·((repeat (first |refine b7 ?_ |refine b8 ?_ |refine b9 fun _=> ?_ |refine bj fun _=> ?_ |refine cg fun _=> ?_ |refine ch fun _=> ?_))<;>(try dsimp only))
    exact bB (Fb (T:=T) (σ:=σ) _ _ _ _)
   ·((repeat (first |refine b7 ?_ |refine b8 ?_ |refine b9 fun _=> ?_ |refine bj fun _=> ?_ |refine cg fun _=> ?_ |refine ch fun _=> ?_))<;>(try dsimp only))
    cases ((ps.toList.map (·.2)).any fun x=>wV (av x)) with
    |true=>
     ((repeat (first |refine b7 ?_ |refine b8 ?_ |refine b9 fun _=> ?_ |refine bj fun _=> ?_ |refine cg fun _=> ?_ |refine ch fun _=> ?_))<;>(try dsimp only))
     split
     ·split
      ·exact yw (jR ⟨(Dx _ σ).cq,(Dx _ σ).sites,(Dx _ σ).s,(Dx _ σ).tr,(Dx _ σ).ks⟩)
      ·trivial
     ·trivial
    |false=>((repeat (first |refine b7 ?_ |refine b8 ?_ |refine b9 fun _=> ?_ |refine bj fun _=> ?_ |refine cg fun _=> ?_ |refine ch fun _=> ?_))<;>(try dsimp only));exact bB (PK _ _)
  ·trivial
 |makeSlice t l c=>
  dsimp only;split
  ·((repeat (first |refine b7 ?_ |refine b8 ?_ |refine b9 fun _=> ?_ |refine bj fun _=> ?_ |refine cg fun _=> ?_ |refine ch fun _=> ?_))<;>(try dsimp only))
   split
   ·((repeat (first |refine b7 ?_ |refine b8 ?_ |refine b9 fun _=> ?_ |refine bj fun _=> ?_ |refine cg fun _=> ?_ |refine ch fun _=> ?_))<;>(try dsimp only));exact bB (Fb (T:=T) (σ:=σ) _ _ _ _)
   ·exact bB (PK _ _)
  ·trivial
 |alloc t=>
  dsimp only;split
  ·split
   ·((repeat (first |refine b7 ?_ |refine b8 ?_ |refine b9 fun _=> ?_ |refine bj fun _=> ?_ |refine cg fun _=> ?_ |refine ch fun _=> ?_))<;>(try dsimp only));exact bB (V5 (T:=T) (σ:=σ) _ _ _)
   ·split
    ·exact bB (q:= .qh _ (.qg _ (.ret _))) rfl
    ·exact bB (V4 _ _)
  ·trivial
 |box t v=>
  dsimp only;split
  ·split
   ·((repeat (first |refine b7 ?_ |refine b8 ?_ |refine b9 fun _=> ?_ |refine bj fun _=> ?_ |refine cg fun _=> ?_ |refine ch fun _=> ?_))<;>(try dsimp only))
    split
    ·split
     ·exact yw (jR ⟨(fu _).cq,(fu _).sites,(fu _).s,(fu _).tr,(fu _).ks⟩)
     ·trivial
    ·trivial
   ·refine lB (fun vs=> ?_) _
    ((repeat (first |refine b7 ?_ |refine b8 ?_ |refine b9 fun _=> ?_ |refine bj fun _=> ?_ |refine cg fun _=> ?_ |refine ch fun _=> ?_))<;>(try dsimp only))
    split
    ·((repeat (first |refine b7 ?_ |refine b8 ?_ |refine b9 fun _=> ?_ |refine bj fun _=> ?_ |refine cg fun _=> ?_ |refine ch fun _=> ?_))<;>(try dsimp only));exact bB (V5 (T:=T) (σ:=σ) _ _ _)
    ·exact bB (V4 _ _)
  ·trivial
 |store t x v=>
  dsimp only;split
  ·split
   ·((repeat (first |refine b7 ?_ |refine b8 ?_ |refine b9 fun _=> ?_ |refine bj fun _=> ?_ |refine cg fun _=> ?_ |refine ch fun _=> ?_))<;>(try dsimp only))
    cases Nat.beq _ _ with
    |true=>exact yw (jR ⟨rfl,rfl,rfl,o8.refl _,by first |rfl |exact xN _ _⟩)
    |false=>exact yw (jR (V3 ((fu _).trans (V2 _ _)) _ _))
   ·rename_i q hnb e1
    ((repeat (first |refine b7 ?_ |refine b8 ?_ |refine b9 fun _=> ?_ |refine bj fun _=> ?_ |refine cg fun _=> ?_ |refine ch fun _=> ?_))<;>(try dsimp only))
    refine abD (p:=uv σ) ?_;refine Q.adj (σ:=σ.freeze q) (p:=uv (σ.freeze q)) (fun r hr=> ?_) (lB (fun vs=>by ((repeat (first |refine b7 ?_ |refine b8 ?_ |refine b9 fun _=> ?_ |refine bj fun _=> ?_ |refine cg fun _=> ?_ |refine ch fun _=> ?_))<;>(try dsimp only));exact V7 _ _) _);show uv σ _;unfold uv at hr;split at hr
    ·rename_i us e;rw[e];exact jR ((fu _).trans (Fr.app _ us))
    ·rename_i s e;rw[e];exact jR ((fu _).trans hr)
   ·split
    ·((repeat (first |refine b7 ?_ |refine b8 ?_ |refine b9 fun _=> ?_ |refine bj fun _=> ?_ |refine cg fun _=> ?_ |refine ch fun _=> ?_))<;>(try dsimp only))
     exact yw (jR (V3 (fu _) _ _))
    ·trivial
   ·exact lB (fun vs=>by ((repeat (first |refine b7 ?_ |refine b8 ?_ |refine b9 fun _=> ?_ |refine bj fun _=> ?_ |refine cg fun _=> ?_ |refine ch fun _=> ?_))<;>(try dsimp only));exact V7 _ _) _
  ·trivial
 |call c=>
  obtain⟨callee,args,ats⟩:=c;cases callee with
  |value f=>
   dsimp only;split
   ·((repeat (first |refine b7 ?_ |refine b8 ?_ |refine b9 fun _=> ?_ |refine bj fun _=> ?_ |refine cg fun _=> ?_ |refine ch fun _=> ?_))<;>(try dsimp only))
    split
    ·rename_i t xs htr
     ((repeat (first |refine b7 ?_ |refine b8 ?_ |refine b9 fun _=> ?_ |refine bj fun _=> ?_ |refine cg fun _=> ?_ |refine ch fun _=> ?_))<;>(try dsimp only))
     refine yw (jR ⟨rfl,rfl,rfl, .inr ⟨t,xs,[_],htr,rfl⟩,rfl⟩)
    ·trivial
   ·split
    ·cases ((args.toList.any fun x=>wV (av x))&& !(j9 T (T.sig ((Su T st _ (args.toList.map av++List.map VA _)).getD 0)))) with
     |true=>
      ((repeat (first |refine b7 ?_ |refine b8 ?_ |refine b9 fun _=> ?_ |refine bj fun _=> ?_ |refine cg fun _=> ?_ |refine ch fun _=> ?_))<;>(try dsimp only))
      refine abD (p:=uv σ) ?_;refine Q.adj (σ:=σ.ve args.toList) (p:=sL) (fun r hr=> ?_) (Zs _ _ _ _ _ _);show uv σ _;unfold sL at hr;split at hr
      ·rename_i us e;rw[e];exact jR ((Dx _ σ).trans (Fr.app _ us))
      ·exact hr.elim
     |false=>exact bB (Zs _ _ _ _ _ _)
    ·trivial
  |builtin b=>
   cases b with
   |len=>
    dsimp only;split
    ·split
     ·exact bB (aj5 _ _)
     ·trivial
    ·trivial
   |max=>
    dsimp only;split
    ·split
     ·exact bB (PJ (T:=T) (σ:=σ) _ _)
     ·trivial
    ·trivial
   |min=>
    dsimp only;split
    ·split
     ·exact bB (PJ (T:=T) (σ:=σ) _ _)
     ·trivial
    ·trivial
   |append=>
    dsimp only;split
    ·((repeat (first |refine b7 ?_ |refine b8 ?_ |refine b9 fun _=> ?_ |refine bj fun _=> ?_ |refine cg fun _=> ?_ |refine ch fun _=> ?_))<;>(try dsimp only))
     split
     ·split
      ·((repeat (first |refine b7 ?_ |refine b8 ?_ |refine b9 fun _=> ?_ |refine bj fun _=> ?_ |refine cg fun _=> ?_ |refine ch fun _=> ?_))<;>(try dsimp only))
       refine Dy _ _ _ fun ys=> ?_
       ((repeat (first |refine b7 ?_ |refine b8 ?_ |refine b9 fun _=> ?_ |refine bj fun _=> ?_ |refine cg fun _=> ?_ |refine ch fun _=> ?_))<;>(try dsimp only))
       split
       ·((repeat (first |refine b7 ?_ |refine b8 ?_ |refine b9 fun _=> ?_ |refine bj fun _=> ?_ |refine cg fun _=> ?_ |refine ch fun _=> ?_))<;>(try dsimp only))
        split
        ·exact yw (jR ⟨rfl,rfl,rfl,o8.refl _,by first |rfl |exact xN _ _⟩)
        ·trivial
       ·trivial
      ·((repeat (first |refine b7 ?_ |refine b8 ?_ |refine b9 fun _=> ?_ |refine bj fun _=> ?_ |refine cg fun _=> ?_ |refine ch fun _=> ?_))<;>(try dsimp only))
       refine Dy _ _ _ fun ys=> ?_
       ((repeat (first |refine b7 ?_ |refine b8 ?_ |refine b9 fun _=> ?_ |refine bj fun _=> ?_ |refine cg fun _=> ?_ |refine ch fun _=> ?_))<;>(try dsimp only));exact⟨bB (vp (T:=T) (σ:=σ) _),bB (Fb (T:=T) (σ:=σ) _ _ _ _)⟩
      ·split
       ·((repeat (first |refine b7 ?_ |refine b8 ?_ |refine b9 fun _=> ?_ |refine bj fun _=> ?_ |refine cg fun _=> ?_ |refine ch fun _=> ?_))<;>(try dsimp only))
        refine Dy _ _ _ fun ys=> ?_
        ((repeat (first |refine b7 ?_ |refine b8 ?_ |refine b9 fun _=> ?_ |refine bj fun _=> ?_ |refine cg fun _=> ?_ |refine ch fun _=> ?_))<;>(try dsimp only));exact⟨bB (vp (T:=T) (σ:=σ) _),bB (Fb (T:=T) (σ:=σ) _ _ _ _)⟩
       ·refine Dy _ _ _ fun ys=> ?_
        ((repeat (first |refine b7 ?_ |refine b8 ?_ |refine b9 fun _=> ?_ |refine bj fun _=> ?_ |refine cg fun _=> ?_ |refine ch fun _=> ?_))<;>(try dsimp only));exact bB (PK _ _)
      ·trivial
     ·trivial
    ·trivial
   |_=>trivial
  |invoke x n=>trivial
 |_=>trivial
end
open Go.RowKit Go.Lib
def na (σ mj:AS)(k:Nat):Prop:=(∀r,k=4*r→look mj.rows r=look σ.rows r)∧(∀b,k=2*b+1→look mj.boxes b=look σ.boxes b)∧
 (∀r,k=4*r+2→(look mj.rows r).map (fun row=>row.xs.length)=(look σ.rows r).map (fun row=>row.xs.length))∧∀h,k=hk h→mj.ae[h]? =σ.ae[h]?
def ahr:ml→List Nat
 | .M r _=>r
 |_=>[]
def Xz:ml→List Nat
 | .M _ w=>w
 |_=>[]
theorem na.refl (σ:AS)(k:Nat):na σ σ k:=⟨fun _ _=>rfl,fun _ _=>rfl,fun _ _=>rfl,fun _ _=>rfl⟩
theorem na.trans {σ de mj:AS}{k:Nat}(h1:na σ de k)(h2:na de mj k):na σ mj k:=
 ⟨fun r e=>(h2.1 r e).trans (h1.1 r e),fun b e=>(h2.2.1 b e).trans (h1.2.1 b e),fun r e=>(h2.2.2.1 r e).trans (h1.2.2.1 r e),fun r e=>(h2.2.2.2 r e).trans (h1.2.2.2 r e)⟩
theorem na.symm {σ de:AS}{k:Nat}(h1:na σ de k):na de σ k:=⟨fun r e=>(h1.1 r e).symm,fun b e=>(h1.2.1 b e).symm,fun r e=>(h1.2.2.1 r e).symm,fun r e=>(h1.2.2.2 r e).symm⟩
section
variable {T:cG}{Φ:bN T}{α:Type}
abbrev Q.go (Φ:bN T)(σ:AS)(q:Q T α)(c:ml):Option (ml×α):=q.run Φ σ c fun c a=>some (c,a)
theorem R8 {R:Type}{k:ml→α→Option R}:∀(q:Q T α) (σ:AS) (c:ml),q.run Φ σ c k=(q.go Φ σ c).bind fun p=>k p.1 p.2:=by
 intro q;induction q with
 |ret a=>intro σ c;rfl
 |fail=>intro σ c;rfl
 |opt o q ih=>intro σ c;cases o with
  |none=>rfl
  |some y=>exact ih y σ c
 |fi b q ih=>intro σ c;cases b
             ·rfl
             ·exact ih σ c
 |ite b x y KN Ig=>intro σ c;cases b
                   ·exact Ig σ c
                   ·exact KN σ c
 |row r q ih=>intro σ c;simp only[Q.go,Q.run];split
              ·exact ih _ σ _
              ·rfl
 |len r q ih=>intro σ c;simp only[Q.go,Q.run];split
              ·exact ih _ σ _
              ·rfl
 |box r q ih=>intro σ c;simp only[Q.go,Q.run];split
              ·exact ih _ σ _
              ·rfl
 |heap r q ih=>intro σ c;simp only[Q.go,Q.run];split
               ·exact ih _ σ _
               ·rfl
 |qg r q ih=>intro σ c;simp only[Q.go,Q.run];split
             ·exact ih σ _
             ·rfl
 |qh r q ih=>intro σ c;simp only[Q.go,Q.run];split
             ·exact ih σ _
             ·rfl
 |call v x q ih=>intro σ c;simp only[Q.go,Q.run];cases Φ v x with
  |none=>rfl
  |some y=>exact ih y σ c
 |all q ih=>intro σ c;exact ih σ σ .X
 |on ag q ih=>intro σ c;exact ih ag .X
theorem aos:∀(q:Q T α) (σ:AS) (c':ml) (r:α),q.go Φ σ .X=some (c',r)→c'= .X:=by
 intro q;induction q with
 |ret a=>intro σ c' r h;simp only[Q.go,Q.run,Option.some.injEq,Prod.mk.injEq] at h;exact h.1.symm
 |fail=>intro σ c' r h;cases h
 |opt o q ih=>intro σ c' r h;cases o with
  |none=>cases h
  |some y=>exact ih y σ c' r h
 |fi b q ih=>intro σ c' r h;cases b
             ·cases h
             ·exact ih σ c' r h
 |ite b x y KN Ig=>intro σ c' r h;cases b
                   ·exact Ig σ c' r h
                   ·exact KN σ c' r h
 |row q k ih=>intro σ c' r h;simp only[Q.go,Q.run] at h;split at h
              ·exact ih _ σ c' r h
              ·cases h
 |len q k ih=>intro σ c' r h;simp only[Q.go,Q.run] at h;split at h
              ·exact ih _ σ c' r h
              ·cases h
 |box q k ih=>intro σ c' r h;simp only[Q.go,Q.run] at h;split at h
              ·exact ih _ σ c' r h
              ·cases h
 |heap q k ih=>intro σ c' r h;simp only[Q.go,Q.run] at h;split at h
               ·exact ih _ σ c' r h
               ·cases h
 |qg q k ih=>intro σ c' r h;simp only[Q.go,Q.run] at h;split at h
             ·exact ih σ c' r h
             ·cases h
 |qh q k ih=>intro σ c' r h;simp only[Q.go,Q.run] at h;split at h
             ·exact ih σ c' r h
             ·cases h
 |call v x q ih=>intro σ c' r h;simp only[Q.go,Q.run,Option.bind_eq_some_iff] at h;obtain⟨y,_,h⟩:=h;exact ih y σ c' r h
 |all q ih=>intro σ c' r h;exact ih σ σ c' r h
 |on ag q ih=>intro σ c' r h;exact ih ag c' r h
theorem aj7:∀(q:Q T α) (σ:AS) (rd wr:List Nat) (c':ml) (r:α),q.go Φ σ (.M rd wr)=some (c',r)→c'≠ .X→
  ∃l,c'= .M (l++rd) wr∧∀mj,(∀k∈l,na σ mj k)→q.go Φ mj (.M rd wr)=some (c',r):=by
 intro q;induction q with
 |ret a=>intro σ rd wr c' r h hc;simp only[Q.go,Q.run,Option.some.injEq,Prod.mk.injEq] at h;obtain⟨rfl,rfl⟩:=h;exact⟨[],rfl,fun mj _=>rfl⟩
 |fail=>intro σ rd wr c' r h hc;cases h
 |opt o q ih=>intro σ rd wr c' r h hc;cases o with
  |none=>cases h
  |some y=>exact ih y σ rd wr c' r h hc
 |fi b q ih=>intro σ rd wr c' r h hc;cases b
             ·cases h
             ·exact ih σ rd wr c' r h hc
 |ite b x y KN Ig=>intro σ rd wr c' r h hc;cases b
                   ·exact Ig σ rd wr c' r h hc
                   ·exact KN σ rd wr c' r h hc
 |row q k ih=>
  intro σ rd wr c' r h hc;simp only[Q.go,Q.run] at h;split at h
  ·rename_i x hx;obtain⟨l,h1,h2⟩:=ih x σ (4*q::rd) wr c' r h hc;refine⟨l++[4*q],by rw[h1];simp,fun mj hs=> ?_⟩;have:=(hs (4*q) (by simp)).1 q rfl;simp only[Q.go,Q.run,this,hx];exact h2 mj (fun k hk=>hs k (by simp[hk]))
  ·cases h
 |len q k ih=>
  intro σ rd wr c' r h hc;simp only[Q.go,Q.run] at h;split at h
  ·rename_i x hx;obtain⟨l,h1,h2⟩:=ih _ σ ((4*q+2)::rd) wr c' r h hc;refine⟨l++[4*q+2],by rw[h1];simp,fun mj hs=> ?_⟩;have:=(hs (4*q+2) (by simp)).2.2.1 q rfl;rw[hx] at this;obtain⟨x2,hx2,hl⟩:=Option.map_eq_some_iff.1 this;simp only[Q.go,Q.run,hx2,hl];exact h2 mj (fun k hk=>hs k (by simp[hk]))
  ·cases h
 |box q k ih=>
  intro σ rd wr c' r h hc;simp only[Q.go,Q.run] at h;split at h
  ·rename_i x hx;obtain⟨l,h1,h2⟩:=ih x σ ((2*q+1)::rd) wr c' r h hc;refine⟨l++[2*q+1],by rw[h1];simp,fun mj hs=> ?_⟩;have:=(hs (2*q+1) (by simp)).2.1 q rfl;simp only[Q.go,Q.run,this,hx];exact h2 mj (fun k hk=>hs k (by simp[hk]))
  ·cases h
 |heap q k ih=>
  intro σ rd wr c' r h hc;simp only[Q.go,Q.run] at h;split at h
  ·rename_i x hx;obtain⟨l,h1,h2⟩:=ih x σ (hk q::rd) wr c' r h hc;refine⟨l++[hk q],by rw[h1];simp,fun mj hs=> ?_⟩;have:=(hs (hk q) (by simp)).2.2.2 q rfl;simp only[Q.go,Q.run,this,hx];exact h2 mj (fun k hk=>hs k (by simp[hk]))
  ·cases h
 |qg q k ih=>
  intro σ rd wr c' r h hc;simp only[Q.go,Q.run] at h;split at h
  ·rename_i hx;obtain⟨l,h1,h2⟩:=ih σ (4*q::rd) wr c' r h hc;refine⟨l++[4*q],by rw[h1];simp,fun mj hs=> ?_⟩;have:=(hs (4*q) (by simp)).1 q rfl;simp only[Q.go,Q.run,this,hx];exact h2 mj (fun k hk=>hs k (by simp[hk]))
  ·cases h
 |qh q k ih=>
  intro σ rd wr c' r h hc;simp only[Q.go,Q.run] at h;split at h
  ·rename_i hx;obtain⟨l,h1,h2⟩:=ih σ ((2*q+1)::rd) wr c' r h hc;refine⟨l++[2*q+1],by rw[h1];simp,fun mj hs=> ?_⟩;have:=(hs (2*q+1) (by simp)).2.1 q rfl;simp only[Q.go,Q.run,this,hx];exact h2 mj (fun k hk=>hs k (by simp[hk]))
  ·cases h
 |call v x q ih=>intro σ rd wr c' r h hc;simp only[Q.go,Q.run,Option.bind_eq_some_iff] at h;obtain⟨y,hy,h⟩:=h;obtain⟨l,h1,h2⟩:=ih y σ rd wr c' r h hc;exact⟨l,h1,fun mj hs=>by simp only[Q.go,Q.run,hy,Option.bind_some];exact h2 mj hs⟩
 |all q ih=>intro σ rd wr c' r h hc;exact absurd (aos (q σ) σ c' r h) hc
 |on ag q ih=>intro σ rd wr c' r h hc;exact absurd (aos q ag c' r h) hc
end
section
variable {T:cG}{av PE:Operand→AV}
theorem GL {d:Int}{x:Option Operand}(h:∀y,x=some y→PE y=av y):iE PE d x=iE av d x:=by
 cases x with
 |none=>rfl
 |some y=>simp only[iE,h y rfl]
theorem LG {qw:List (Nat×Nat)}:∀(parts:List (Nat×Operand)) (cs:List CV),(∀p∈parts,PE p.2=av p.2)→partsOf PE qw parts cs=partsOf av qw parts cs
 | [],cs,h=>rfl
 | (i,x)::r,cs,h=>by have hx:=h (i,x) (by simp);simp only at hx;have ih:=fun cs=>LG (qw:=qw) r cs (fun p hp=>h p (by simp[hp]));simp only[partsOf,hx,ih]
theorem QL {t:Ty}:∀(parts:List (Nat×Operand)) (xs:List t.den),(∀p∈parts,PE p.2=av p.2)→elems PE t parts xs=elems av t parts xs
 | [],cs,h=>rfl
 | (i,x)::r,cs,h=>by have hx:=h (i,x) (by simp);simp only at hx;have ih:=fun cs=>QL (t:=t) r cs (fun p hp=>h p (by simp[hp]));simp only[elems,hx,ih]
theorem XA {xs:List Operand}(h:∀x∈xs,PE x=av x):xs.any (fun x=>wV (PE x))=xs.any (fun x=>wV (av x)):=by
 induction xs with
 |nil=>rfl
 |cons x xs ih=>simp only[List.any_cons];rw[h x (by simp),ih (fun y hy=>h y (by simp[hy]))]
theorem LH {α β:Type}{f g:α→Option β}:∀{xs:List α},(∀x∈xs,f x=g x)→lH f xs=lH g xs
 | [],_=>rfl
 |x::xs,h=>by simp only[lH,h x (by simp),LH (xs:=xs) (fun y hy=>h y (by simp[hy]))]
theorem V9 {xs:List Operand}(h:∀x∈xs,PE x=av x):xs.map PE=xs.map av:=List.map_congr_left h
theorem Zt {st:Option Site}{dst:Option Tmp}{f:FuncId}{aQ:List Hv}{args:List Operand}(h:∀x∈args,PE x=av x):IL T PE st dst f aQ args=IL T av st dst f aQ args:=by unfold IL;rw[V9 h]
theorem aeM {sites:List (Nat×Site)}{o:Oper}(h:∀x∈o.op.operands,PE x=av x):Dk T PE sites o=Dk T av sites o:=by
 unfold Dk;dsimp only;generalize o.dst.bind (look sites)=st;cases ho:o.op with
 |move x=>have hx:=h x (by simp[ho,Op.operands]);simp only[hx]
 |assign x=>have hx:=h x (by simp[ho,Op.operands]);simp only[hx]
 |pick c x y=>have h1:=h c (by simp[ho,Op.operands]);have h2:=h x (by simp[ho,Op.operands]);have h3:=h y (by simp[ho,Op.operands]);simp only[h1,h2,h3]
 |nilCheck x=>have hx:=h x (by simp[ho,Op.operands]);simp only[hx]
 |load t x=>have hx:=h x (by simp[ho,Op.operands]);simp only[hx]
 |binOp b t x y u=>have h1:=h x (by simp[ho,Op.operands]);have h2:=h y (by simp[ho,Op.operands]);simp only[h1,h2]
 |unOp b t x=>have hx:=h x (by simp[ho,Op.operands]);simp only[hx]
 |convert s d x=>have hx:=h x (by simp[ho,Op.operands]);simp only[hx]
 |fieldAddr s x f=>have hx:=h x (by simp[ho,Op.operands]);simp only[hx]
 |indexAddr t x i=>have h1:=h x (by simp[ho,Op.operands]);have h2:=h i (by simp[ho,Op.operands]);simp only[h1,h2]
 |index t x i=>have h1:=h x (by simp[ho,Op.operands]);have h2:=h i (by simp[ho,Op.operands]);simp only[h1,h2]
 |extract x i=>have hx:=h x (by simp[ho,Op.operands]);simp only[hx]
 |makeFunc f fs cs=>
  cases f with
  |func g=>
   dsimp only;split
   ·exact congrArg (jt _) (LH fun x hx=>by
     have:=h x (by simp only[ho,Op.operands,Array.mem_append];exact .inr (by simpa using hx));rw[this])
   ·rfl
  |_=>rfl
 |slice t x l u m=>
  have hx:=h x (by simp[ho,Op.operands]);have hl:∀d,iE PE d l=iE av d l:=fun d=>GL (fun y e=>h y (by subst e;simp[ho,Op.operands]));have hu:∀d,iE PE d u=iE av d u:=fun d=>GL (fun y e=>h y (by subst e;simp[ho,Op.operands]));have hm:∀d,iE PE d m=iE av d m:=fun d=>GL (fun y e=>h y (by subst e;simp[ho,Op.operands]));have hs:∀z,vi (T:=T) T.rows PE t z l u m=vi T.rows av t z l u m:=fun z=>by
   unfold vi;simp only[hl,hu];cases m with
   |none=>rfl
   |some mm=>cases u with
    |none=>rfl
    |some uu=>have e1:=hu 0;have e2:=hm 0;simp only[e1,e2]
  simp only[hx,hs];cases u with
  |none=>cases l<;>cases m<;>rfl
  |some uu=>have e1:=h uu (by simp[ho,Op.operands]);cases l<;>cases m<;>first |rfl |simp only[e1]
 |build t ps=>
  have hp:∀p∈ps.toList,PE p.2=av p.2:=fun p hp=>h p.2 (by simp only[ho,Op.operands,List.mem_toArray,List.mem_map];exact⟨p,hp,rfl⟩);have ha:=XA (xs:=ps.toList.map (·.2)) (fun x hx=>by obtain⟨p,h1,rfl⟩:=List.mem_map.1 hx;exact hp p h1);have hb:Bw (T:=T) T.rows PE t ps.toList=Bw T.rows av t ps.toList:=by unfold Bw;simp only[LG _ _ hp]
  simp only[ha,hb]
 |buildSlice t len ps=>have hp:∀p∈ps.toList,PE p.2=av p.2:=fun p hp=>h p.2 (by simp only[ho,Op.operands,List.mem_toArray,List.mem_map];exact⟨p,hp,rfl⟩);have ha:=XA (xs:=ps.toList.map (·.2)) (fun x hx=>by obtain⟨p,h1,rfl⟩:=List.mem_map.1 hx;exact hp p h1);have he:∀(u:Ty) (l:List u.den),elems PE u ps.toList l=elems av u ps.toList l:=fun u l=>QL _ _ hp;simp only[ha,he]
 |makeSlice t l c=>have h1:=h l (by simp[ho,Op.operands]);have h2:=h c (by simp[ho,Op.operands]);simp only[h1,h2]
 |alloc t=>rfl
 |box t v=>have hx:=h v (by simp[ho,Op.operands]);simp only[hx]
 |store t x v=>have h1:=h x (by simp[ho,Op.operands]);have h2:=h v (by simp[ho,Op.operands]);simp only[h1,h2]
 |call c=>
  obtain⟨callee,args,ats⟩:=c;have hargs:∀x∈args.toList,PE x=av x:=fun x hx=>h x (by simp only[ho,Op.operands,Call.operands];cases callee<;>simp<;>(try right)<;>simpa using hx);cases callee with
  |value f=>have hf:=h f (by simp[ho,Op.operands,Call.operands]);simp only[hf,V9 hargs,XA hargs,Zt hargs]
  |builtin b=>
   cases b with
   |len=>
    dsimp only;split
    ·rename_i x t hx ht;have h1:=hargs x (by rw[hx];simp);simp only[h1]
    ·rfl
   |max=>
    dsimp only;split
    ·rename_i x y hx;have h1:=hargs x (by rw[hx];simp);have h2:=hargs y (by rw[hx];simp);simp only[h1,h2]
    ·rfl
   |min=>
    dsimp only;split
    ·rename_i x y hx;have h1:=hargs x (by rw[hx];simp);have h2:=hargs y (by rw[hx];simp);simp only[h1,h2]
    ·rfl
   |append=>
    dsimp only;split
    ·rename_i s x t tx hx ht;have h1:=hargs s (by rw[hx];simp);have h2:=hargs x (by rw[hx];simp);simp only[h1,h2]
    ·rfl
   |_=>rfl
  |invoke x n=>rfl
 |_=>rfl
end
open Go.RowKit Go.Lib
section
variable {P:Program}{T:cG}{E:Env}{σ de mj:AS}{Φ:bN T}{ops:Array Oper}
theorem ahs (u:TU):(σ.one u).tmps=σ.tmps:=by cases u<;>rfl
theorem aeN (u:TU):(σ.one u).sites=σ.sites:=by cases u<;>rfl
theorem I4:∀(us:List TU) (σ:AS),(σ.app us).tmps=σ.tmps
 | [],σ=>rfl
 |u::us,σ=>by rw[AS.app,I4 us,ahs]
theorem PL:∀(us:List TU) (σ:AS),(σ.app us).sites=σ.sites
 | [],σ=>rfl
 |u::us,σ=>by rw[AS.app,PL us,aeN]
theorem Tk (d:Option Tmp)(v:AV):(σ.iS d v).sites=σ.sites:=by cases d<;>rfl
theorem aht (d:Option Tmp)(v:AV):(σ.iS d v).tmps.s=σ.tmps.s:=by
 cases d with
 |none=>rfl
 |some d=>simp only[AS.iS,Db];cases Nat.blt d σ.tmps.n<;>rfl
theorem Zu (d:Option Tmp)(v:AV):(σ.iS d v).rows=σ.rows∧(σ.iS d v).boxes=σ.boxes∧(σ.iS d v).ae=σ.ae:=by cases d<;>exact⟨rfl,rfl,rfl⟩
theorem ahu {R:Type}(o:Oper)(k:ml→AS→Option R):KO T Φ σ o k=(KO T Φ σ o (fun c s=>some (c,s))).bind fun p=>k p.1 p.2:=by
 rw[Ki,Ki];rw[R8]
 conv=>rhs;rw[R8]
 cases (Dk T σ.av σ.sites o).go Φ σ (.M [] []) with
 |none=>rfl
 |some p=>obtain⟨c,r1,r2⟩:=p;cases r2<;>rfl
theorem Zv {o:Oper}{c:ml}{ag:AS}(he:KO T Φ σ o (fun c s=>some (c,s))=some (c,ag)):∃r,(Dk T σ.av σ.sites o).val Φ σ=some r∧ag=aW σ o.dst r:=by
 rw[Ki] at he;obtain⟨c',r,h1,h2⟩:=ac1 _ _ he;refine⟨r,h1, ?_⟩;unfold aW;split at h2
 ·rename_i us e;first | (rw[e];simp only[Option.some.injEq,Prod.mk.injEq] at h2;exact h2.2.symm) | (simp only[Option.some.injEq,Prod.mk.injEq] at h2;exact h2.2.symm)
 ·rename_i s e;first | (rw[e];simp only[Option.some.injEq,Prod.mk.injEq] at h2;exact h2.2.symm) | (simp only[Option.some.injEq,Prod.mk.injEq] at h2;exact h2.2.symm)
theorem aj8 {mj:AS}{xs:Array Operand}(hs:mj.tmps.s=σ.tmps.s)(h:∀t, .tmp t∈xs→nth mj.tmps t=nth σ.tmps t):∀x∈xs,mj.av x=σ.av x:=by
 intro x hx;cases x with
 |tmp t=>exact h t hx
 |const v=>rfl
 |global g=>simp only[AS.av,eY.av,hs]
 |func f=>rfl
def Local (T:cG)(Φ:bN T)(σ:AS)(o:Oper)(c:ml)(ag:AS):Prop:=
 ∃v us,ag=(σ.app us).iS o.dst v∧(∀u∈us,∀k∈u.keys,k∈Xz c)∧Fits σ us∧∀mj:AS,mj.sites=σ.sites→(∀x∈o.op.operands,mj.av x=σ.av x)→(∀k,k∈ahr c∨k∈Xz c→na σ mj k)→
  KO T Φ mj o (fun c s=>some (c,s))=some (c,(mj.app us).iS o.dst v)
theorem ahv {o:Oper}{c:ml}{ag:AS}(he:KO T Φ σ o (fun c s=>some (c,s))=some (c,ag))(hc:c≠ .X):Local T Φ σ o c ag:=by
 have he0:=he;rw[Ki] at he;rw[R8,Option.bind_eq_some_iff] at he;obtain⟨⟨c',r⟩,h1,h2⟩:=he;have hv:(Dk T σ.av σ.sites o).val Φ σ=some r:=by obtain⟨c2,r2,h3,h4⟩:=ac1 _ _ h1;simp only[Option.some.injEq,Prod.mk.injEq] at h4;rw[←h4.2];exact h3
 have hok:=ahm (alo σ.av σ.sites o) hv;dsimp only at h2;unfold uv at hok;split at h2
 ·rename_i us e;rw[e] at hok;simp only[Option.some.injEq,Prod.mk.injEq] at h2;obtain⟨rfl,rfl⟩:=h2;have hc':c'≠ .X:=fun e'=>hc (by rw[e'];rfl);obtain⟨l,rfl,hl⟩:=aj7 _ _ _ _ _ _ h1 hc';refine⟨r.1,us,rfl,fun u hu k hk=> ?_,hok,fun mj hs qk hk=> ?_⟩
  ·show k∈YN us++[]
   rw[List.append_nil];exact List.mem_flatMap.2 ⟨u,hu,hk⟩
  ·rw[Ki];rw[aeM (av:=σ.av) qk,hs,R8];rw[hl mj (fun k hk'=>hk k (.inl (by show k∈l++[];simpa using hk')))];simp only[Option.bind_some,e]
 ·simp only[Option.some.injEq,Prod.mk.injEq] at h2;exact absurd h2.1.symm hc
theorem Zw (l:eY)(t d:Nat)(v:AV)(h:t≠d):nth (Db l d v) t=nth l t:=by
 unfold Db;cases Nat.blt d l.n with
 |true=>simp only[cond_true,nth,VC,if_neg (Ne.symm h)]
 |false=>rfl
theorem aeO {α:Type}(l:List (Nat×α)){i j:Nat}(u v:α)(h:i≠j):Mj (Mj l i u) j v=Mj (Mj l j v) i u:=by
 have QB:∀{a b:Nat},a<b→Nat.blt a b=true:=fun h=>(tj _ _).2 h;have QC:∀{a b:Nat},¬a<b→Nat.blt a b=false:=fun h=>by
  cases hb:Nat.blt _ _
  ·rfl
  ·exact absurd ((tj _ _).1 hb) h
 induction l with
 |nil=>
  rcases Nat.lt_or_gt_of_ne h with h1 |h1
  ·simp[Mj,QB h1,QC (show ¬j<i by omega),mn (Ne.symm h)]
  ·simp[Mj,QB h1,QC (show ¬i<j by omega),mn h]
 |cons p r ih=>
  obtain⟨k,x⟩:=p;rcases Nat.lt_trichotomy k i with h1 |h1 |h1<;>rcases Nat.lt_trichotomy k j with h2 |h2 |h2<;>rcases Nat.lt_or_gt_of_ne h with h3 |h3<;>
   first
   |omega
   | (try subst h1
      try subst h2
      simp (disch:=omega) [Mj,QB,QC,mn,beq_refl,ih])
theorem aeP (l:eY)(i j:Nat)(u v:AV)(h:i≠j):Db (Db l i u) j v=Db (Db l j v) i u:=by unfold Db;cases hi:Nat.blt i l.n<;>cases hj:Nat.blt j l.n<;>simp[hi,hj];exact aeO _ _ _ h
theorem adk {α:Type}:∀{l:List (Nat×α)} {t:Nat} {x:α},look l t=some x→ajF l t x=l
 | [],_,_,h=>by cases h
 | (k,u)::r,t,x,h=>by
   simp only[look] at h;simp only[ajF];cases hb:Nat.beq k t with
   |true=>rw[hb] at h;have e:u=x:=by simpa using h
          subst e;rfl
   |false=>rw[hb] at h;simp only[cond_false];rw[adk h]
theorem XB {t:Nat}{b:Bool}(h:nth σ.tmps t= .rv (.cv ⟨.bool,b⟩)):σ.Ml t b=σ:=by
 unfold AS.Ml;have:look σ.tmps.l t=some (.rv (.cv ⟨.bool,b⟩)):=by
  unfold nth at h;split at h
  ·rename_i x hx;rw[hx,h]
  ·cases h
 obtain⟨⟨n,l,sv⟩,rows,boxes,ae,trace,cq,sites⟩:=σ;simp only at this ⊢;rw[adk this]
theorem aeQ {R:Type}{o:Oper}(hg:o.guard=none)(k:ml→AS→Option R):IM T Φ ops σ o k=KO T Φ σ o k:=by unfold IM;rw[hg]
theorem aeR {R:Type}{o:Oper}{j t:Nat}{want b:Bool}(hg:o.guard=some (j,want))(ht:(ops[j]?).bind (·.dst)=some t)(hb:nth σ.tmps t= .rv (.cv ⟨.bool,b⟩))(k:ml→AS→Option R):
  IM T Φ ops σ o k=if b=want then KO T Φ σ o k else k (.M [] []) (σ.iS o.dst (.lit undef)):=by
 unfold IM;simp only[hg,ht,hb];cases b<;>cases want<;>simp[XB hb,SC]
theorem ahw {R:Type}{o:Oper}{j t:Nat}{want:Bool}{vs:Array Value}(hg:o.guard=some (j,want))(ht:(ops[j]?).bind (·.dst)=some t)(hb:nth σ.tmps t= .lit (.tuple vs))(k:ml→AS→Option R):
  IM T Φ ops σ o k=k (.M [] []) (σ.iS o.dst (.lit undef)):=by
 unfold IM;simp only[hg,ht,hb,SC]
theorem abG {R:Type}{o:Oper}{j:Nat}{want:Bool}(hg:o.guard=some (j,want))(h:∀t,(ops[j]?).bind (·.dst)=some t→(∀b,nth σ.tmps t≠ .rv (.cv ⟨.bool,b⟩))∧∀vs,nth σ.tmps t≠ .lit (.tuple vs))(k:ml→AS→Option R):
  IM T Φ ops σ o k=none:=by
 unfold IM;rw[hg];simp only;split
 ·rename_i t ht;obtain⟨h1,h2⟩:=h t ht;split
  ·rename_i b hb;exact absurd hb (h1 b)
  ·rename_i vs hb;exact absurd hb (h2 vs)
  ·rfl
 ·rfl
def Way (ops:Array Oper)(o:Oper)(σ:AS)(run:Bool):Prop:=
 match o.guard with
 |none=>run=true
 |some (j,want)=>∃t,(ops[j]?).bind (·.dst)=some t∧((∃b,nth σ.tmps t= .rv (.cv ⟨.bool,b⟩)∧run=(b==want))∨(∃vs,nth σ.tmps t= .lit (.tuple vs)∧run=false))
theorem amj {R:Type}{o:Oper}{run:Bool}(h:Way ops o σ run)(k:ml→AS→Option R):IM T Φ ops σ o k=if run then KO T Φ σ o k else k (.M [] []) (σ.iS o.dst (.lit undef)):=by
 unfold Way at h;split at h
 ·rename_i hg;subst h;rw[aeQ hg];rfl
 ·rename_i j want hg;obtain⟨t,ht,⟨b,hb,rfl⟩ | ⟨vs,hb,rfl⟩⟩:=h
  ·rw[aeR hg ht hb];cases b<;>cases want<;>rfl
  ·rw[ahw hg ht hb];rfl
theorem amk {R:Type}{o:Oper}{k:ml→AS→Option R}{r:R}(h:IM T Φ ops σ o k=some r):∃run,Way ops o σ run:=by
 cases hg:o.guard with
 |none=>exact⟨true,by unfold Way;rw[hg]⟩
 |some p=>
  obtain⟨j,want⟩:=p;by_cases hx:∃t,(ops[j]?).bind (·.dst)=some t∧((∃b,nth σ.tmps t= .rv (.cv ⟨.bool,b⟩))∨∃vs,nth σ.tmps t= .lit (.tuple vs))
  ·obtain⟨t,ht,⟨b,hb⟩ | ⟨vs,hb⟩⟩:=hx
   ·exact⟨b==want,by unfold Way;rw[hg];exact⟨t,ht, .inl ⟨b,hb,rfl⟩⟩⟩
   ·exact⟨false,by unfold Way;rw[hg];exact⟨t,ht, .inr ⟨vs,hb,rfl⟩⟩⟩
  ·rw[abG hg (fun t ht=>⟨fun b hb=>hx ⟨t,ht, .inl ⟨b,hb⟩⟩,fun vs hb=>hx ⟨t,ht, .inr ⟨vs,hb⟩⟩⟩)] at h;cases h
def Tr (T:cG)(Φ:bN T)(ops:Array Oper)(o:Oper)(σ:AS)(c:ml)(ag:AS):Prop:=
 ∃run,Way ops o σ run∧(if run then KO T Φ σ o (fun c s=>some (c,s))=some (c,ag) else c= .M [] []∧ag=σ.iS o.dst (.lit undef))
theorem aj9 {R:Type}{o:Oper}{k:ml→AS→Option R}{r:R}(h:IM T Φ ops σ o k=some r):∃c ag,Tr T Φ ops o σ c ag∧k c ag=some r:=by
 obtain⟨run,hw⟩:=amk h;rw[amj hw] at h;cases run with
 |true=>simp only[if_true] at h;rw[ahu] at h;obtain⟨p,hp,h2⟩:=Option.bind_eq_some_iff.1 h;exact⟨p.1,p.2,⟨true,hw,by simpa using hp⟩,h2⟩
 |false=>exact⟨.M [] [],_,⟨false,hw,rfl,rfl⟩,h⟩
theorem aot {o:Oper}{c:ml}{ag:AS}(h:Tr T Φ ops o σ c ag):Fr σ ag:=by
 obtain⟨run,hw,h⟩:=h;cases run with
 |true=>simp only[if_true] at h;obtain⟨r,h1,rfl⟩:=Zv h;exact Fr.res (ahm (alo σ.av σ.sites o) h1) _
 |false=>obtain⟨_,rfl⟩:=h;exact(Fr.refl σ).iS _ _
theorem Zx {o:Oper}{c:ml}{ag:AS}(h:Tr T Φ ops o σ c ag)(hc:c≠ .X):∃v us,ag=(σ.app us).iS o.dst v∧(∀u∈us,∀k∈u.keys,k∈Xz c)∧Fits σ us∧
  ∀mj:AS,mj.sites=σ.sites→mj.tmps.s=σ.tmps.s→(∀t∈o.looksAt ops,nth mj.tmps t=nth σ.tmps t)→(∀k,k∈ahr c∨k∈Xz c→na σ mj k)→Tr T Φ ops o mj c ((mj.app us).iS o.dst v):=by
 obtain⟨run,hw,h⟩:=h;have aou:∀mj:AS,(∀t∈o.looksAt ops,nth mj.tmps t=nth σ.tmps t)→Way ops o mj run:=fun mj hs=>by
  unfold Way at hw ⊢;cases hg:o.guard with
  |none=>simp only[hg] at hw;exact hw
  |some p=>obtain⟨j,want⟩:=p;simp only[hg] at hw;obtain⟨t,ht,hor⟩:=hw;have:=hs t (by simp[Oper.looksAt,hg,ht]);exact⟨t,ht,by rw[this];exact hor⟩
 cases run with
 |true=>simp only[if_true] at h;obtain⟨v,us,h1,h2,h3,h4⟩:=ahv h hc;refine⟨v,us,h1,h2,h3,fun mj hsi hss hs hk=> ?_⟩;have hop:∀x∈o.op.operands,mj.av x=σ.av x:=aj8 hss (fun t ht=>hs t (by simp only[Oper.looksAt,List.mem_append,List.mem_filterMap];exact .inl ⟨.tmp t,by simpa using ht,rfl⟩));exact⟨true,aou mj hs,by simpa using h4 mj hsi hop hk⟩
 |false=>obtain⟨rfl,rfl⟩:=h;exact⟨.lit undef,[],rfl,(fun u hu=>by cases hu),trivial,fun mj _ _ hs hk=>⟨false,aou mj hs,rfl,rfl⟩⟩
theorem Tl:∀(us:List TU) (σ:AS) (d:Option Tmp) (v:AV),(σ.iS d v).app us=(σ.app us).iS d v
 | [],σ,d,v=>rfl
 |u::us,σ,d,v=>by
  have:(σ.iS d v).one u=(σ.one u).iS d v:=by cases u<;>cases d<;>rfl
  rw[AS.app,this,Tl us];rfl
theorem ahx {u:TU}{k:Nat}(h:k∉u.keys)(hf:u.fits σ):na σ (σ.one u) k:=by
 cases u with
 |row q r=>
  simp only[TU.keys,List.mem_cons,List.not_mem_nil,or_false,not_or] at h;refine⟨fun r' e=> ?_,fun b e=>rfl,fun r' e=> ?_,fun _ _=>rfl⟩
  ·simp only[AS.one,aD];rw[if_neg];intro e';exact h.1 (by rw[e,e'])
  ·simp only[AS.one,aD];rw[if_neg];intro e';exact h.2 (by rw[e,e'])
 |IH q r=>
  simp only[TU.keys,List.mem_cons,List.not_mem_nil,or_false] at h;refine⟨fun r' e=> ?_,fun b e=>rfl,fun r' e=> ?_,fun _ _=>rfl⟩
  ·simp only[AS.one,aD];rw[if_neg];intro e';exact h (by rw[e,e'])
  ·simp only[AS.one,aD];split
   ·rename_i e';subst e';exact hf.symm
   ·rfl
 |box q x=>simp only[TU.keys,List.mem_cons,List.not_mem_nil,or_false] at h;refine⟨fun r' e=>rfl,fun b e=> ?_,fun r' e=>rfl,fun _ _=>rfl⟩;simp only[AS.one,aD];rw[if_neg];intro e';exact h (by rw[e,e'])
 |heap q x=>simp only[TU.keys,List.mem_cons,List.not_mem_nil,or_false] at h;refine⟨fun r' e=>rfl,fun b e=>rfl,fun r' e=>rfl,fun h' e=> ?_⟩;simp only[AS.one];rw[List.getElem?_set_ne];intro e';exact h (by rw[e,e'])
theorem Tn:∀(us:List TU) (σ:AS) (k:Nat),(∀u∈us,k∉u.keys)→Fits σ us→na σ (σ.app us) k
 | [],σ,k,h,hf=>na.refl _ _
 |u::us,σ,k,h,hf=>(ahx (h u (by simp)) hf.1).trans (Tn us (σ.one u) k (fun v hv=>h v (by simp[hv])) hf.2)
theorem abH {u:TU}{k:Nat}(h:na σ mj k):na (σ.one u) (mj.one u) k:=by
 cases u with
 |row q r=>
  refine⟨fun r' e=> ?_,h.2.1,fun r' e=> ?_,h.2.2.2⟩
  ·simp only[AS.one,aD];split
   ·rfl
   ·exact h.1 r' e
  ·simp only[AS.one,aD];split
   ·rfl
   ·exact h.2.2.1 r' e
 |IH q r=>
  refine⟨fun r' e=> ?_,h.2.1,fun r' e=> ?_,h.2.2.2⟩
  ·simp only[AS.one,aD];split
   ·rfl
   ·exact h.1 r' e
  ·simp only[AS.one,aD];split
   ·rfl
   ·exact h.2.2.1 r' e
 |box q x=>
  refine⟨h.1,fun r' e=> ?_,h.2.2.1,h.2.2.2⟩;simp only[AS.one,aD];split
  ·rfl
  ·exact h.2.1 r' e
 |heap q x=>
  refine⟨h.1,h.2.1,h.2.2.1,fun h' e=> ?_⟩;have h0:=h.2.2.2 h' e;simp only[AS.one];by_cases e':q=h'
  ·subst e';by_cases hl:q<σ.ae.length
   ·have hl2:q<mj.ae.length:=by have:=List.getElem?_eq_getElem hl;rw[←h0] at this;exact(List.getElem?_eq_some_iff.1 this).1
    rw[List.getElem?_set_self hl,List.getElem?_set_self hl2]
   ·have hl2:¬q<mj.ae.length:=fun hl2=>by have:=List.getElem?_eq_getElem hl2;rw[h0] at this;exact hl (List.getElem?_eq_some_iff.1 this).1
    rw[List.getElem?_eq_none (by simp;omega),List.getElem?_eq_none (by simp;omega)]
  ·rw[List.getElem?_set_ne e',List.getElem?_set_ne e'];exact h0
theorem Wa:∀{us:List TU} {σ mj:AS},Fits σ us→(∀u∈us,∀k∈u.keys,na σ mj k)→Fits mj us
 | [],_,_,_,_=>trivial
 |u::us,σ,mj,h,hs=>by
  refine⟨?_,Wa h.2 (fun v hv k hk=>abH (hs v (by simp[hv]) k hk))⟩;have h1:=h.1;cases u with
  |IH q r=>have:=(hs (.IH q r) (by simp) (4*q) (by simp[TU.keys])).1 q rfl;show (look mj.rows q).map _=_;rw[this];exact h1
  |_=>trivial
theorem ahy {u v:TU}(h:∀k∈u.keys,k∉v.keys):(σ.one u).one v=(σ.one v).one u:=by
 have rr:∀(q q':Nat) (r r':Row),q≠q'→put (put σ.rows q r) q' r'=put (put σ.rows q' r') q r:=fun q q' r r' e=>put_comm _ _ _ e;cases u with
 |row q r=>cases v with
  |row q' r'=>simp only[AS.one];rw[rr];intro e;exact h (4*q) (by simp[TU.keys]) (by simp[TU.keys,e])
  |IH q' r'=>simp only[AS.one];rw[rr];intro e;exact h (4*q) (by simp[TU.keys]) (by simp[TU.keys,e])
  |_=>rfl
 |IH q r=>cases v with
  |row q' r'=>simp only[AS.one];rw[rr];intro e;exact h (4*q) (by simp[TU.keys]) (by simp[TU.keys,e])
  |IH q' r'=>simp only[AS.one];rw[rr];intro e;exact h (4*q) (by simp[TU.keys]) (by simp[TU.keys,e])
  |_=>rfl
 |box q x=>cases v with
  |box q' x'=>simp only[AS.one];rw[put_comm];intro e;exact h (2*q+1) (by simp[TU.keys]) (by simp[TU.keys,e])
  |_=>rfl
 |heap q x=>cases v with
  |heap q' x'=>simp only[AS.one];rw[List.set_comm];intro e;exact h (hk q) (by simp[TU.keys]) (by simp[TU.keys,e])
  |_=>rfl
theorem adl:∀(us:List TU) (σ:AS) (u:TU),(∀v∈us,∀k∈u.keys,k∉v.keys)→(σ.one u).app us=(σ.app us).one u
 | [],σ,u,h=>rfl
 |v::us,σ,u,h=>by rw[AS.app,ahy (h v (by simp)),adl us (σ.one v) u (fun x hx=>h x (by simp[hx]))];rfl
theorem Zy:∀(us vs:List TU) (σ:AS),(∀u∈us,∀v∈vs,∀k∈u.keys,k∉v.keys)→(σ.app us).app vs=(σ.app vs).app us
 | [],vs,σ,h=>rfl
 |u::us,vs,σ,h=>by rw[AS.app,Zy us vs (σ.one u) (fun x hx v hv=>h x (by simp[hx]) v hv),adl vs σ u (fun v hv=>h u (by simp) v hv)];rfl
theorem aeS {σ:AS}{d d':Option Tmp}{u v:AV}(h:∀x,d=some x→d'≠some x):(σ.iS d u).iS d' v=(σ.iS d' v).iS d u:=by
 cases d with
 |none=>cases d'<;>rfl
 |some x=>
  cases d' with
  |none=>rfl
  |some y=>simp only[AS.iS];rw[aeP _ _ _ _ _ (fun e=>h x rfl (by rw[e]))]
theorem Dz {a b:List Nat}(h:meets a b=false):∀x∈a,∀y∈b,x≠y:=by
 intro x hx y hy e;have:meets a b=true:=by unfold meets;rw[List.any_eq_true];exact⟨x,hx,by rw[List.any_eq_true];exact⟨y,hy,(beq_iff _ _).2 e⟩⟩
 rw[this] at h;cases h
theorem Zz {c1 c2:ml}(h:Gt c1 c2=true):c1≠ .X∧c2≠ .X∧(∀x∈Xz c1,∀y,y∈ahr c2∨y∈Xz c2→x≠y)∧(∀x∈Xz c2,∀y,y∈ahr c1∨y∈Xz c1→x≠y):=by
 cases c1 with
 |X=>simp[Gt] at h
 |M r w=>
  cases c2 with
  |X=>simp[Gt] at h
  |M r' w'=>
   simp only[Gt,Bool.not_eq_true',Bool.or_eq_false_iff] at h;obtain⟨⟨h1,h2⟩,h3⟩:=h;refine⟨by simp,by simp,fun x hx y hy=> ?_,fun x hx y hy=> ?_⟩
   ·rcases hy with hy |hy
    ·exact Dz h1 x hx y hy
    ·exact Dz h2 x hx y hy
   ·rcases hy with hy |hy
    ·exact fun e=>Dz h3 y hy x hx e.symm
    ·exact fun e=>Dz h2 y hy x hx e.symm
theorem ZA {σ:AS}{d:Option Tmp}{v:AV}{t:Nat}(h:d≠some t):nth (σ.iS d v).tmps t=nth σ.tmps t:=by
 cases d with
 |none=>rfl
 |some d=>exact Zw _ _ _ _ (fun e=>h (by rw[e]))
theorem Wb {d:Option Tmp}{v:AV}(k:Nat):na σ (σ.iS d v) k:=by obtain⟨h1,h2,h3⟩:=Zu (σ:=σ) d v;exact⟨fun _ _=>by rw[h1],fun _ _=>by rw[h2],fun _ _=>by rw[h1],fun _ _=>by rw[h3]⟩
theorem aka {o1 o2:Oper}{c1 c2:ml}(h1:Tr T Φ ops o1 σ c1 de)(h2:Tr T Φ ops o2 de c2 mj)(ha:o1.apart ops o2=true)(hn:Gt c1 c2=true):
  ∃akb,Tr T Φ ops o2 σ c2 akb∧Tr T Φ ops o1 akb c1 mj:=by
 obtain⟨n1,n2,n3,n4⟩:=Zz hn;obtain⟨v1,us1,rfl,k1,f1,l1⟩:=Zx h1 n1;obtain⟨v2,us2,rfl,k2,f2,l2⟩:=Zx h2 n2;obtain⟨p1,p2,p3⟩:=Oper.apart_spec ha;have sa:∀k,k∈ahr c2∨k∈Xz c2→na σ ((σ.app us1).iS o1.dst v1) k:=fun k hk=>
  (Tn us1 σ k (fun u hu hm=>n3 k (k1 u hu k hm) k hk rfl) f1).trans (Wb k)
 have e2:=l2 σ (by rw[Tk,PL]) (by rw[aht,I4]) (fun t ht=>by
   rw[ZA (fun e=>p1 t e ht),I4]) (fun k hk=>(sa k hk).symm)
 have f2':Fits σ us2:=Wa f2 (fun u hu k hk=>(sa k (.inr (k2 u hu k hk))).symm);refine⟨_,e2, ?_⟩;have e1:=l1 ((σ.app us2).iS o2.dst v2) (by rw[Tk,PL]) (by rw[aht,I4]) (fun t ht=>by
   rw[ZA (fun e=>p3 t e ht),I4]) (fun k hk=>(Tn us2 σ k (fun u hu hm=>n4 k (k2 u hu k hm) k hk rfl) f2').trans (Wb k))
 rw[Tl,Zy us2 us1 σ (fun u hu v hv k hk hk'=>n4 k (k2 u hu k hk) k (.inr (k1 v hv k hk')) rfl)] at e1;rw[Tl,aeS (fun x e=>p2 x e)];exact e1
end
open Go.RowKit Go.Lib
def yx (E:Env):Prop:=∀tr tr',o8 tr tr'→E.acc tr'→E.acc tr
section
variable {P:Program}{T:cG}{E:Env}{σ de mj Ij:AS}{a:Act}{w w':World}{ν aK:Nm→Value}{O:Nat→Prop}{Φ:bN T}{ops:Array Oper}{Q:Exit→Act→World→Prop}{rr:Option Nat}
theorem getD_some {l:Array Value}{t:Nat}{v:Value}(h:l.toList.getD t undef=v)(hv:v≠undef):l[t]? =some v:=by
 simp only[List.getD_eq_getElem?_getD,Array.getElem?_toList] at h;cases hl:l[t]? with
 |none=>rw[hl] at h;exact absurd h.symm hv
 |some u=>rw[hl] at h;simpa using h
theorem abI (h:St E σ a w ν O){o:Oper}{run:Bool}(hw:Way ops o σ run):Region.wanted o (yielded ops a.tmps)=run:=by
 unfold Way at hw;unfold Region.wanted;cases hg:o.guard with
 |none=>simp only[hg] at hw ⊢;exact hw.symm
 |some p=>
  obtain⟨j,want⟩:=p;simp only[hg] at hw ⊢;obtain⟨t,ht,⟨b,hb,rfl⟩ | ⟨vs,hb,rfl⟩⟩:=hw
  ·have hr:=NL (fun v=>by trivial) h.slots t;rw[hb] at hr;have h1:a.tmps.toList.getD t undef= .bool b:=VF (V:=view E σ ν O w) hr;have h2:=getD_some h1 (by intro e;cases e);unfold yielded;rw[ht];simp[h2]
  ·have hr:=NL (fun v=>by trivial) h.slots t;rw[hb] at hr;have h1:a.tmps.toList.getD t undef= .tuple vs:=hr;unfold yielded;rw[ht];simp only[Option.bind_some];cases hl:a.tmps[t]? with
   |none=>rfl
   |some u=>
    have:u= .tuple vs:=by simp only[List.getD_eq_getElem?_getD,Array.getElem?_toList,hl] at h1;simpa using h1
    subst this;rfl
theorem ZB (C:Ctx P T Φ E)(h:St E σ a w ν O){i:Nat}{o:Oper}(ho:ops[i]? =some o){c:ml}{ag:AS}(ht:Tr T Φ ops o σ c ag)(hacc:E.acc ag.trace)
  {K:Act→World→Prop} (hK:∀a' w',To E ag a' w'→K a' w'):wpOpIn (FW rr) 0 P ops Q i K a w:=by
 obtain⟨run,hw,ht⟩:=ht;unfold wpOpIn;rw[ho];simp only[abI h hw];cases run with
 |true=>simp only[if_true] at ht ⊢;obtain⟨r,h1,rfl⟩:=Zv ht;exact ahl C h h1 hacc rr K Q hK
 |false=>obtain⟨rfl,rfl⟩:=ht;exact⟨fun _ _=>trivial,hK _ _ ⟨ν,O,h.slot (x:= .lit undef) rfl⟩⟩
def abJ (T:cG)(Φ:bN T)(ops:Array Oper):List (Nat×Oper×ml)→AS→AS→Prop
 | [],σ,Ij=>Ij=σ
 | (_,o,c)::r,σ,Ij=>∃de,Tr T Φ ops o σ c de∧abJ T Φ ops r de Ij
theorem Tp:∀{L:List (Nat×Oper×ml)} {σ:AS},abJ T Φ ops L σ Ij→Fr σ Ij
 | [],σ,h=>by have:Ij=σ:=h;subst this;exact Fr.refl _
 | (_,o,c)::r,σ,⟨de,h1,h2⟩=>(aot h1).trans (Tp h2)
def BJ:Nat→List Oper→List ml→List (Nat×Oper×ml)
 |i,o::l,c::cs=>(i,o,c)::BJ (i+1) l cs
 |_,_,_=>[]
theorem PM {R:Type}:∀(l:List Oper) (i:Nat) (σ:AS) (cs:List ml) (k:List ml→AS→Option R) (r:R),VB T Φ ops l σ cs k=some r→
  ∃(t:List ml) (Ij:AS),t.length=l.length∧abJ T Φ ops (BJ i l t) σ Ij∧k (t.reverse++cs) Ij=some r
 | [],i,σ,cs,k,r,h=>⟨[],σ,rfl,rfl,h⟩
 |o::l,i,σ,cs,k,r,h=>by obtain⟨c,de,h1,h2⟩:=aj9 h;obtain⟨t,Ij,h3,h4,h5⟩:=PM l (i+1) de (c::cs) k r h2;exact⟨c::t,Ij,by simp[h3],⟨de,h1,h4⟩,by simpa using h5⟩
theorem N3:∀(l:List Oper) (i:Nat) (t:List ml) (x:Nat×Oper×ml),x∈BJ i l t→i≤x.1∧l[x.1 - i]? =some x.2.1∧t[x.1 - i]? =some x.2.2
 | [],i,t,x,h=>by simp[BJ] at h
 |o::l,i,[],x,h=>by simp[BJ] at h
 |o::l,i,c::t,x,h=>by
  simp only[BJ,List.mem_cons] at h;rcases h with rfl |h
  ·exact⟨Nat.le_refl _,by simp,by simp⟩
  ·obtain⟨h1,h2,h3⟩:=N3 l (i+1) t x h;have:x.1 - i=(x.1 - (i+1))+1:=by omega
   exact⟨by omega,by rw[this];simpa using h2,by rw[this];simpa using h3⟩
theorem ZC:∀(l:List Oper) (i:Nat) (t:List ml),t.length=l.length→∀p o,l[p]? =some o→∃c,(i+p,o,c)∈BJ i l t
 | [],i,t,ht,p,o,h=>by simp at h
 |o'::l,i,[],ht,p,o,h=>by simp at ht
 |o'::l,i,c::t,ht,0,o,h=>by simp at h;subst h;exact⟨c,by simp[BJ]⟩
 |o'::l,i,c::t,ht,p+1,o,h=>by
  obtain⟨c',h1⟩:=ZC l (i+1) t (by simpa using ht) p o (by simpa using h);refine⟨c', ?_⟩;simp only[BJ,List.mem_cons];right;have:i+(p+1)=i+1+p:=by omega
  rw[this];exact h1
theorem ZD:∀(l:List Oper) (i:Nat) (t:List ml),(BJ i l t).length≤l.length
 | [],i,t=>by simp[BJ]
 |o::l,i,[]=>by simp[BJ]
 |o::l,i,c::t=>by simp[BJ,ZD l (i+1) t]
theorem QM:∀(l:List Oper) (i:Nat) (t:List ml),(BJ i l t).Pairwise fun x y=>x.1<y.1
 | [],i,t=>by simp[BJ]
 |o::l,i,[]=>by simp[BJ]
 |o::l,i,c::t=>by simp only[BJ,List.pairwise_cons];exact⟨fun y hy=>by have:=(N3 l (i+1) t y hy).1;show i<y.1;omega,QM l (i+1) t⟩
theorem ZE (C:Ctx P T Φ E)(hD:yx E)(hacc:E.acc Ij.trace):∀(l pre:List Oper) (t:List ml) (σ:AS) (a:Act) (w:World) (ν:Nm→Value) (O:Nat→Prop),ops.toList=pre++l→t.length=l.length→
  St E σ a w ν O→abJ T Φ ops (BJ pre.length l t) σ Ij→(∀a' w',To E Ij a' w'→Q .normal a' w')→wpOpsIn (FW rr) 0 P ops Q (List.range' pre.length l.length) a w
 | [],pre,t,σ,a,w,ν,O,hop,ht,h,hr,hQ=>by
   have:Ij=σ:=by cases t<;>exact hr
   subst this;exact hQ _ _ ⟨ν,O,h⟩
 |o::l,pre,[],σ,a,w,ν,O,hop,ht,h,hr,hQ=>by simp at ht
 |o::l,pre,c::t,σ,a,w,ν,O,hop,ht,h,hr,hQ=>by
  obtain⟨de,h1,h2⟩:=hr;rw[List.length_cons,List.range'_succ,wpOpsIn_cons];have ho:ops[pre.length]? =some o:=by rw[←Array.getElem?_toList,hop];simp
  refine ZB C h ho h1 (hD _ _ (Tp h2).tr hacc) (fun a' w' ⟨aK,O',h'⟩=> ?_);have:=ZE C hD hacc l (pre++[o]) t de a' w' aK O' (by rw[hop];simp) (by simpa using ht) h' (by simpa using h2) hQ;simpa using this
theorem Wc:∀(L1 L2:List (Nat×Oper×ml)) (x:Nat×Oper×ml) (σ:AS),abJ T Φ ops (L1++x::L2) σ Ij→(∀y∈L1,y.2.1.apart ops x.2.1=true∧Gt y.2.2 x.2.2=true)→
  ∃de,Tr T Φ ops x.2.1 σ x.2.2 de∧abJ T Φ ops (L1++L2) de Ij
 | [],L2,x,σ,h,_=>h
 |y::L1,L2,x,σ,h,hy=>by obtain⟨de,h1,h2⟩:=h;obtain⟨mj,h3,h4⟩:=Wc L1 L2 x de h2 (fun z hz=>hy z (by simp[hz]));obtain⟨p1,p2⟩:=hy y (by simp);obtain⟨akb,h5,h6⟩:=aka h1 h3 p1 p2;exact⟨akb,h5,mj,h6,h4⟩
theorem akc (C:Ctx P T Φ E)(hD:yx E)(hacc:E.acc Ij.trace){A:Nat→Nat}(hQ:∀a' w',To E Ij a' w'→Q .normal a' w')
  (aov:∀j o,ops[j]? =some o→∀e∈o.after,Region.binds .any e=true→e.on<j)
  (aqF:∀j o i,ops[j]? =some o→(A j).testBit i=true→∃e∈o.after,Region.binds .any e=true∧(i=e.on∨(A e.on).testBit i=true)):
  ∀(fuel:Nat) (L:List (Nat×Oper×ml)) (listed:Array Bool) (σ:AS) (a:Act) (w:World) (ν:Nm→Value) (O:Nat→Prop),
   (∀x∈L,ops[x.1]? =some x.2.1)→(∀i,i<ops.size→(listed.getD i true=false↔∃x∈L,x.1=i))→listed.size=ops.size→
   (∀m om,listed.getD m false=true→ops[m]? =some om→∀e∈om.after,Region.binds .any e=true→listed.getD e.on false=true)→
   L.Pairwise (fun x y=>x.1<y.1)→L.Pairwise (fun x y=>(A y.1).testBit x.1=true∨(x.2.1.apart ops y.2.1=true∧Gt x.2.2 y.2.2=true))→
   abJ T Φ ops L σ Ij→St E σ a w ν O→L.length≤fuel→wpAnyIn (FW rr) 0 P .any ops Q fuel listed a w:=by
 intro fuel;induction fuel with
 |zero=>intro L listed σ a w ν O hL Tq hsz S1 hsort ahz hrun h hf;have hL0:L=[]:=List.eq_nil_of_length_eq_zero (by omega);subst hL0;have hr:Ij=σ:=hrun;subst hr;refine⟨?_,hQ _ _ ⟨ν,O,h⟩⟩;apply List.eq_nil_iff_forall_not_mem.2;intro i hi;obtain⟨h1,o,ho,_⟩:=mem_ready.1 hi;obtain⟨x,hx,_⟩:=(Tq i (Array.getElem?_eq_some_iff.1 ho).1).1 h1;cases hx
 |succ fuel ih=>
  intro L listed σ a w ν O hL Tq hsz S1 hsort ahz hrun h hf;have ahA:∀i,i<ops.size→listed.getD i true=listed.getD i false:=fun i hi=>by simp[Array.getD,hsz,hi]
  refine⟨fun aqG=> ?_,fun i hi=> ?_⟩
  ·cases L with
   |nil=>have hr:Ij=σ:=hrun;subst hr;exact hQ _ _ ⟨ν,O,h⟩
   |cons x L=>
    exfalso;have hox:=hL x (by simp);have hlt:=(Array.getElem?_eq_some_iff.1 hox).1;have:x.1∈Region.ready .any ops listed:=by
     refine mem_ready.2 ⟨(Tq x.1 hlt).2 ⟨x,by simp,rfl⟩,x.2.1,hox,fun e he hb=> ?_⟩;have h1:=aov x.1 x.2.1 hox e he hb;have h2:¬listed.getD e.on true=false:=fun hf'=>by
      obtain⟨y,hy,hye⟩:=(Tq e.on (by omega)).1 hf';rcases List.mem_cons.1 hy with rfl |hy
      ·omega
      ·have:=(List.pairwise_cons.1 hsort).1 y hy;omega
     rw[←ahA e.on (by omega)];cases hb':listed.getD e.on true
     ·exact absurd hb' h2
     ·rfl
    rw[aqG] at this;cases this
  ·obtain⟨h1,o,ho,hall⟩:=mem_ready.1 hi;have hlt:=(Array.getElem?_eq_some_iff.1 ho).1;obtain⟨x,hx,rfl⟩:=(Tq i hlt).1 h1;obtain⟨L1,L2,rfl⟩:=List.append_of_mem hx;have hox:=hL x hx;rw[ho] at hox;have hoe:o=x.2.1:=by simpa using hox
   -- what aqH before x is done
   have aow:∀j,j≤x.1→∀oj,ops[j]? =some oj→(∀e∈oj.after,Region.binds .any e=true→listed.getD e.on false=true)→∀i,(A j).testBit i=true→listed.getD i false=true:=by
    intro j;induction j using Nat.strongRecOn with
    |_ j ihj=>
     intro hj oj hoj aox i hi';obtain⟨e,he,hb,h2⟩:=aqF j oj i hoj hi';have hd:=aox e he hb;rcases h2 with rfl |h2
     ·exact hd
     ·have aqJ:=aov j oj hoj e he hb;have hlt3:e.on<ops.size:=by have:=(Array.getElem?_eq_some_iff.1 hoj).1;omega
      exact ihj e.on aqJ (by omega) ops[e.on] (Array.getElem?_eq_getElem hlt3) (S1 e.on _ hd (Array.getElem?_eq_getElem hlt3)) i h2
   have hfree:∀y∈L1,y.2.1.apart ops x.2.1=true∧Gt y.2.2 x.2.2=true:=fun y hy=>by
    have h2:=(List.pairwise_append.1 ahz).2.2 y hy x (by simp);rcases h2 with h2 |h2
    ·exfalso;have h3:=aow x.1 (Nat.le_refl _) o ho hall y.1 h2;have hylt:=(Array.getElem?_eq_some_iff.1 (hL y (by simp[hy]))).1;have h4:=(Tq y.1 hylt).2 ⟨y,by simp[hy],rfl⟩;rw[ahA y.1 hylt,h3] at h4;cases h4
    ·exact h2
   obtain⟨de,ht,alp⟩:=Wc L1 L2 x σ hrun hfree;rw[←hoe] at ht;refine ZB C h ho ht (hD _ _ (Tp alp).tr hacc) (fun a' w' ⟨aK,O',h'⟩=> ?_);have hne:∀y,y∈L1++L2→y.1≠x.1:=fun y hy=>by
    rcases List.mem_append.1 hy with hy |hy
    ·have:=(List.pairwise_append.1 hsort).2.2 y hy x (by simp);omega
    ·have:=(List.pairwise_cons.1 (List.pairwise_append.1 hsort).2.1).1 y hy;omega
   have hsub:(L1++L2).Sublist (L1++x::L2):=(List.Sublist.refl L1).append (List.sublist_cons_self x L2);refine ih (L1++L2) _ de a' w' aK O' (fun y hy=>hL y (hsub.subset hy)) (fun i hi'=> ?_) (by simpa using hsz) (fun m om hm hom e he hb=> ?_) (hsort.sublist hsub) (ahz.sublist hsub) alp h' (by simp at hf ⊢;omega)
   ·by_cases hix:x.1=i
    ·subst hix;constructor
     ·intro hf';have h5:listed.getD x.1 false=false:=by rw[←ahA x.1 hlt];exact h1
      have h6:x.1<listed.size:=by omega
      simp[Array.getD,h6] at hf'
     ·rintro ⟨y,hy,hye⟩;exact absurd hye (hne y hy)
    ·rw[getD_set_ne true hix,Tq i hi'];constructor
     ·rintro ⟨y,hy,hye⟩;refine⟨y, ?_,hye⟩;rcases List.mem_append.1 hy with hy |hy
      ·exact List.mem_append.2 (.inl hy)
      ·rcases List.mem_cons.1 hy with rfl |hy
       ·exact absurd hye hix
       ·exact List.mem_append.2 (.inr hy)
     ·rintro ⟨y,hy,hye⟩;exact⟨y,hsub.subset hy,hye⟩
   ·by_cases hmx:x.1=m
    ·subst hmx;rw[ho] at hom;obtain rfl:o=om:=by simpa using hom
     exact getD_set_true (hall e he hb)
    ·rw[getD_set_ne false hmx] at hm;exact getD_set_true (S1 m om hm hom e he hb)
theorem QN:∀(l:List Oper) (i:Nat),IP i l=true→∀p o,l[p]? =some o→∀e∈o.after,Region.binds .any e=true→e.on<i+p
 | [],i,h,p,o,hp,e,he,hb=>by simp at hp
 |o'::l,i,h,0,o,hp,e,he,hb=>by
  simp at hp;subst hp;simp only[IP,Bool.and_eq_true,List.all_eq_true] at h;have:=h.1 e (by simpa using he);rw[hb] at this;have:Nat.blt e.on i=true:=by simpa using this
  have:=Nat.le_of_ble_eq_true this;omega
 |o'::l,i,h,p+1,o,hp,e,he,hb=>by simp only[IP,Bool.and_eq_true] at h;have:=QN l (i+1) h.2 p o (by simpa using hp) e he hb;omega
theorem QO:∀(l:List Oper) (acc:List Nat),∃r,KP l acc=acc++r∧r.length=l.length
 | [],acc=>⟨[],by simp[KP]⟩
 |o::l,acc=>by obtain⟨r,h1,h2⟩:=QO l (acc++[LC acc o]);exact⟨LC acc o::r,by simp[KP,h1],by simp[h2]⟩
theorem aeT {acc:List Nat}{o:Oper}{i:Nat}(h:(LC acc o).testBit i=true):∃e∈o.after,Region.binds .any e=true∧(i=e.on∨((acc[e.on]?).getD 0).testBit i=true):=by
 unfold LC at h;have key:∀l:List Edge,(l.foldr (fun e s=>bif Region.binds .any e then (s|||2^e.on)||| (acc[e.on]?).getD 0 else s) 0).testBit i=true→
   ∃e∈l,Region.binds .any e=true∧(i=e.on∨((acc[e.on]?).getD 0).testBit i=true):=by
  intro l;induction l with
  |nil=>intro h;simp at h
  |cons e l ih=>
   intro h;simp only[List.foldr_cons] at h;cases hb:Region.binds .any e with
   |false=>rw[hb] at h;obtain⟨e',h1,h2⟩:=ih h;exact⟨e',by simp[h1],h2⟩
   |true=>
    rw[hb] at h;simp only[cond_true,Nat.testBit_or,Bool.or_eq_true] at h;rcases h with (h |h) |h
    ·obtain⟨e',h1,h2⟩:=ih h;exact⟨e',by simp[h1],h2⟩
    ·refine⟨e,by simp,hb, .inl ?_⟩;rw[Nat.testBit_two_pow] at h;simpa using (of_decide_eq_true h).symm
    ·exact⟨e,by simp,hb, .inr h⟩
 obtain⟨e,h1,h2⟩:=key _ h;exact⟨e,by simpa using h1,h2⟩
theorem ZF:∀(l:List Oper) (acc:List Nat) (p:Nat) (o:Oper),l[p]? =some o→(KP l acc)[acc.length+p]? =some (LC ((KP l acc).take (acc.length+p)) o)
 | [],acc,p,o,h=>by simp at h
 |o'::l,acc,0,o,h=>by simp at h;subst h;obtain⟨r,h1,h2⟩:=QO l (acc++[LC acc o']);simp[KP,h1]
 |o'::l,acc,p+1,o,h=>by
  have:=ZF l (acc++[LC acc o']) p o (by simpa using h);simp only[KP];have e:acc.length+(p+1)=(acc++[LC acc o']).length+p:=by simp;omega
  rw[e];exact this
theorem QP:∀(r:List (Oper×ml)) (ms:List Nat) (i:Nat) (a:Oper×ml),SD ops i a r ms=true→∀(p:Nat) (b:Oper×ml) (m:Nat),r[p]? =some b→ms[p]? =some m→Xf ops i a m b=true
 | [],ms,i,a,h,p,b,m,hb,hm=>by simp at hb
 |b'::r,m'::ms,i,a,h,0,b,m,hb,hm=>by simp at hb hm;subst hb hm;simp only[SD,Bool.and_eq_true] at h;exact h.1
 |b'::r,m'::ms,i,a,h,p+1,b,m,hb,hm=>by simp only[SD,Bool.and_eq_true] at h;exact QP r ms i a h.2 p b m (by simpa using hb) (by simpa using hm)
 |b'::r,[],i,a,h,p,b,m,hb,hm=>by simp at hm
theorem QQ:∀(l:List (Oper×ml)) (ms:List Nat) (i:Nat),IN ops i l ms=true→∀(p q:Nat) (a b:Oper×ml) (m:Nat),p<q→l[p]? =some a→l[q]? =some b→ms[q]? =some m→Xf ops (i+p) a m b=true
 | [],ms,i,h,p,q,a,b,m,hpq,ha,hb,hm=>by simp at ha
 |x::l,[],i,h,p,q,a,b,m,hpq,ha,hb,hm=>by simp at hm
 |x::l,m'::ms,i,h,0,q,a,b,m,hpq,ha,hb,hm=>by
  simp at ha;subst ha;simp only[IN,Bool.and_eq_true] at h;cases q with
  |zero=>omega
  |succ q=>exact QP l ms i x h.1 q b m (by simpa using hb) (by simpa using hm)
 |x::l,m'::ms,i,h,p+1,q,a,b,m,hpq,ha,hb,hm=>by
  simp only[IN,Bool.and_eq_true] at h;cases q with
  |zero=>omega
  |succ q=>
   have:=QQ l ms (i+1) h.2 p q a b m (by omega) (by simpa using ha) (by simpa using hb) (by simpa using hm);have e:i+(p+1)=i+1+p:=by omega
   rw[e];exact this
theorem Ts (R:(Nat×Oper×ml)→(Nat×Oper×ml)→Prop):∀(l:List Oper) (i:Nat) (t:List ml),
  (∀p q o1 c1 o2 c2,p<q→l[p]? =some o1→t[p]? =some c1→l[q]? =some o2→t[q]? =some c2→R (i+p,o1,c1) (i+q,o2,c2))→(BJ i l t).Pairwise R
 | [],i,t,h=>by simp[BJ]
 |o::l,i,[],h=>by simp[BJ]
 |o::l,i,c::t,h=>by
  simp only[BJ,List.pairwise_cons];refine⟨fun y hy=> ?_,Ts R l (i+1) t (fun p q o1 c1 o2 c2 hpq h1 h2 h3 h4=> ?_)⟩
  ·obtain⟨h1,h2,h3⟩:=N3 l (i+1) t y hy;have:=h 0 (y.1 - i) o c y.2.1 y.2.2 (by omega) (by simp) (by simp) (by
    have e:y.1 - i=(y.1 - (i+1))+1:=by omega
    rw[e];simpa using h2) (by
    have e:y.1 - i=(y.1 - (i+1))+1:=by omega
    rw[e];simpa using h3)
   have e:i+(y.1 - i)=y.1:=by omega
   rw[e] at this;exact this
  ·have:=h (p+1) (q+1) o1 c1 o2 c2 (by omega) (by simpa using h1) (by simpa using h2) (by simpa using h3) (by simpa using h4);have e1:i+(p+1)=i+1+p:=by omega
   have e2:i+(q+1)=i+1+q:=by omega
   rw[e1,e2] at this;exact this
theorem ZG (hE:aE E)(h:St E σ a w ν O)(d:Nat):St E (σ.YT d) a w ν O:=by
 unfold AS.YT;split
 ·exact h
 ·exact h.bl hE d
theorem ZH (hE:aE E)(h:St E σ a w ν O)(d:Nat):St E (σ.YU d) a w ν O:=by
 unfold AS.YU;split
 ·exact h
 ·exact h.dN hE d
theorem N4 (hE:aE E):∀(ds:List Nat) (σ:AS),St E σ a w ν O→St E (σ.Pq ds) a w ν O
 | [],σ,h=>h
 |d::ds,σ,h=>by
  simp only[AS.Pq];split
  ·exact h
  ·exact N4 hE ds _ (ZG hE h d)
theorem N5 (hE:aE E):∀(ds:List Nat) (σ:AS),St E σ a w ν O→St E (σ.Ps ds) a w ν O
 | [],σ,h=>h
 |d::ds,σ,h=>by
  simp only[AS.Ps];split
  ·exact h
  ·exact N5 hE ds _ (ZH hE h d)
theorem abK (hE:aE E)(l:List Oper)(σ:AS)(h:St E σ a w ν O):St E (AS.ajO σ l) a w ν O:=N5 hE _ _ (N4 hE _ _ h)
theorem ahB (d:Nat):Fr σ (σ.YT d):=by
 unfold AS.YT;split
 ·exact Fr.refl _
 ·exact abE d
theorem ahC (d:Nat):Fr σ (σ.YU d):=by
 unfold AS.YU;split
 ·exact Fr.refl _
 ·exact Tg d
theorem Wd:∀(ds:List Nat) (σ:AS),Fr σ (σ.Pq ds)
 | [],σ=>Fr.refl _
 |d::ds,σ=>by
  simp only[AS.Pq];split
  ·exact Fr.refl _
  ·exact(ahB d).trans (Wd ds _)
theorem We:∀(ds:List Nat) (σ:AS),Fr σ (σ.Ps ds)
 | [],σ=>Fr.refl _
 |d::ds,σ=>by
  simp only[AS.Ps];split
  ·exact Fr.refl _
  ·exact(ahC d).trans (We ds _)
theorem Tt:∀(ds:List Nat) (σ:AS),Fr σ (σ.jF ds)
 | [],σ=>Fr.refl _
 |d::ds,σ=>(Tg d).trans (Tt ds _)
theorem adm (l:List Oper)(σ:AS):Fr σ (AS.ajO σ l):=(Wd _ _).trans (We _ _)
theorem abL {R:Type}{draw:Bool}{k:AS→Option R}{r:R}(he:vj T Φ ops draw σ k=some r):∃ag,k ag=some r∧Fr σ ag:=by
 unfold vj at he;obtain⟨t,Ij,h1,h2,h3⟩:=PM (ops:=ops) ops.toList 0 _ [] _ r he;have hf:=(adm ops.toList σ).trans (Tp h2);cases draw with
 |false=>exact⟨Ij,by simpa using h3,hf⟩
 |true=>
  simp only[cond_true,List.append_nil,List.reverse_reverse] at h3;cases hok:(IP 0 ops.toList&&IN ops 0 (ops.toList.zip t) (KP ops.toList [])) with
  |false=>simp[hok] at h3
  |true=>exact⟨Ij,by simpa [hok] using h3,hf⟩
theorem XC {R:Type}(C:Ctx P T Φ E)(hD:yx E)(hm:P.follows .mixedOrders=true)(h:St E σ a w ν O){id:Nat}{draw:Bool}{k:AS→Option R}{r:R}
  (he:vj T Φ ops draw σ k=some r) (hk:∀ag,k ag=some r→Fr σ ag→E.acc ag.trace) (hQ:∀ag a' w',k ag=some r→Fr σ ag→To E ag a' w'→Q .normal a' w'):(Code.region id ops draw).wpIn (FW rr) 0 P Q a w:=by
 unfold vj at he;obtain⟨t,Ij,h1,h2,h3⟩:=PM (ops:=ops) ops.toList 0 _ [] _ r he;have hp:=abK C.env ops.toList σ h;have hf:=(adm ops.toList σ).trans (Tp h2);cases draw with
 |false=>simp only[cond_false] at h3;have:=ZE (rr:=rr) C hD (hk Ij (by simpa using h3) hf) ops.toList [] t _ a w ν O rfl h1 hp h2 (fun a' w'=>hQ Ij a' w' (by simpa using h3) hf);refine wpIn_region ?_;rw[List.range_eq_range'];simpa using this
 |true=>
  simp only[cond_true,List.append_nil,List.reverse_reverse] at h3;cases hok:(IP 0 ops.toList&&IN ops 0 (ops.toList.zip t) (KP ops.toList [])) with
  |false=>simp[hok] at h3
  |true=>
   simp only[hok,cond_true] at h3;rw[Bool.and_eq_true] at hok;obtain⟨hd,hok⟩:=hok;have hw:St E (AS.ajO σ ops.toList) a {w with drawn:=w.drawn+1} ν O:=hp.grow C.env ⟨rfl,rfl,rfl,Nat.le_refl _,fun _ _=>rfl⟩;refine wpIn_region_any hm ?_;have ai:∀j o,ops[j]? =some o→(KP ops.toList [])[j]? =some (LC ((KP ops.toList []).take j) o):=fun j o ho=>by have:=ZF ops.toList [] j o (by rw[Array.getElem?_toList];exact ho);simpa using this
   refine akc C hD (hk Ij h3 hf) (A:=fun j=>((KP ops.toList [])[j]?).getD 0) (fun a' w'=>hQ Ij a' w' h3 hf) (fun j o ho e he' hb=>by
     have:=QN ops.toList 0 hd j o (by rw[Array.getElem?_toList];exact ho) e he' hb;omega) (fun j o i ho hi=> ?_) ops.size (BJ 0 ops.toList t) _ _ a _ ν O (fun x hx=> ?_) (fun i hi=> ?_) (by simp) (fun m om hmm=> ?_) (QM _ _ _) (Ts _ _ _ _ fun p q o1 c1 o2 c2 hpq e1 e2 e3 e4=> ?_) h2 hw ?_
   ·simp only[ai j o ho,Option.getD_some] at hi;obtain⟨e,h4,h5,h6⟩:=aeT hi;refine⟨e,h4,h5,h6.imp (fun h7=>h7) fun h7=> ?_⟩;cases hh:((KP ops.toList []).take j)[e.on]? with
    |none=>rw[hh] at h7;simp at h7
    |some v=>
     rw[hh] at h7;rw[List.getElem?_take] at hh;split at hh
     ·simp only[hh];exact h7
     ·cases hh
   ·obtain⟨_,h4,_⟩:=N3 _ _ _ x hx;rw[←Array.getElem?_toList];simpa using h4
   ·constructor
    ·intro _;obtain⟨c,hc⟩:=ZC ops.toList 0 t h1 i ops[i] (by simp[hi]);exact⟨_,hc,by simp⟩
    ·intro _;simp[hi]
   ·exfalso;by_cases hlt:m<ops.size
    ·simp[hlt] at hmm
    ·simp[hlt] at hmm
   ·have hz1:(ops.toList.zip t)[p]? =some (o1,c1):=by rw[List.getElem?_zip_eq_some];exact⟨e1,e2⟩
    have hz2:(ops.toList.zip t)[q]? =some (o2,c2):=by rw[List.getElem?_zip_eq_some];exact⟨e3,e4⟩
    have hg:=ai q o2 (by rw[←Array.getElem?_toList];exact e3);have:=QQ (ops.toList.zip t) _ 0 hok p q _ _ _ hpq hz1 hz2 hg;simp only[Xf,Bool.or_eq_true,Bool.and_eq_true,Nat.zero_add] at this ⊢;rw[hg];exact this
   ·have:=ZD ops.toList 0 t;simpa using this
end
open Go.RowKit Go.Lib
section
variable {P:Program}{T:cG}{E:Env}{σ de mj Ij:AS}{a:Act}{w w':World}{ν aK:Nm→Value}{O:Nat→Prop}{Φ:bN T}
theorem Tu:∀(h:List (Nat×Bool)) (σ:AS),Fr σ (σ.share h)
 | [],σ=>Fr.refl _
 | (j,true)::h,σ=>(aho _).trans (Tu h _)
 | (j,false)::h,σ=>Tu h σ
theorem nb (h:List (Nat×Bool))(σ:AS):Fr σ (σ.forget h):=by refine(Tu h σ).trans ?_;unfold AS.forget;exact⟨rfl,rfl,rfl,o8.refl _,rfl⟩
structure FrX (Pk σ:AS):Prop where
 cq:∃x,σ.cq=[x]
 sites:σ.sites=Pk.sites
 s:σ.tmps.n=Pk.tmps.n
 tr:o8 Pk.trace σ.trace
 ks:∃ls:List Nat,σ.tmps.s.map (·.1)=ls++Pk.tmps.s.map (·.1)∧∀i∈ls,kB 1 i=true
theorem FrX.fr {Pk σ ag:AS}(h:FrX Pk σ)(g:Fr σ ag):FrX Pk ag:=⟨by rw[g.cq];exact h.cq,g.sites.trans h.sites,g.s.trans h.s,h.tr.trans g.tr,by rw[g.ks];exact h.ks⟩
theorem ZI {l:List (Nat×AV)}{ls ms:List Nat}(h:l.map (·.1)=ls++ms)(h1:∀i∈ls,kB 1 i=true)(h2:∀i∈ms,kB 1 i=false):(l.filter fun p=> !(kB 1 p.1)).map (·.1)=ms:=by
 have:(l.filter fun p=> !(kB 1 p.1)).map (·.1)=(l.map (·.1)).filter fun i=> !(kB 1 i):=by rw[List.filter_map];rfl
 rw[this,h,List.filter_append,List.filter_eq_nil_iff.2 (fun i hi=>by rw[h1 i hi];simp),List.filter_eq_self.2 (fun i hi=>by rw[h2 i hi];rfl)];rfl
theorem Wf {Pk:AS}(h:FrX Pk σ)(h0:∀i∈Pk.tmps.s.map (·.1),kB 1 i=false):(σ.Bv).tmps.s.map (·.1)=Pk.tmps.s.map (·.1):=by obtain⟨x,hx⟩:=h.cq;obtain⟨ls,h1,h2⟩:=h.ks;unfold AS.Bv;rw[hx];exact ZI h1 h2 h0
theorem Kx {R:Type}{r:R}{h:List (Nat×Bool)}{body:AS→(Ex→AS→Option R)→Option R}{k:Ex→AS→Option R}{I:AS→Prop}(hf:∀σ,I σ→I (σ.forget h))
  (hb:∀σ k',I σ→body σ k'=some r→∃e ag,k' e ag=some r∧I ag):∀(n:Nat) (σ:AS),I σ→lJ h body k n σ=some r→∃e ag,k e ag=some r∧I ag
 |0,σ,hi,he=>by cases he
 |n+1,σ,hi,he=>by
  simp only[lJ] at he;obtain⟨e,ag,h1,h2⟩:=hb σ _ hi he;cases e with
  |normal=>exact Kx hf hb n _ (hf _ h2) h1
  |exit i=>exact⟨_,_,h1,h2⟩
  |ret=>exact⟨_,_,h1,h2⟩
theorem amm (s:eY)(i:Nat)(x:AV):(Db s i x).n=s.n:=by unfold Db;cases Nat.blt i s.n<;>rfl
theorem amn (s:eY)(i:Nat)(x:AV):(Db s i x).s=s.s:=by unfold Db;cases Nat.blt i s.n<;>rfl
theorem Ky:∀{ps:List Tmp} {ts:List Ty} {s s':eY} {x:(jE ts).den},Hy s ps ts x=some s'→s'.n=s.n∧s'.s=s.s
 | [],[],s,s',x,h=>by simp only[Hy,Option.some.injEq] at h;subst h;exact⟨rfl,rfl⟩
 |p::ps,t::ts,s,s',x,h=>by simp only[Hy] at h;obtain⟨h1,h2⟩:=Ky h;exact⟨h1.trans (amm _ _ _),h2.trans (amn _ _ _)⟩
 | [],_::_,_,_,_,h=>by simp[Hy] at h
 |_::_,[],_,_,_,h=>by simp[Hy] at h
theorem XD {f:AV}{R:Type}{k:Rng→List Nat→Option R}{r:R}(h:vk T Φ σ f k=some r):∃g bs,k g bs=some r:=by
 unfold vk at h
 repeat' split at h
 all_goals first | (cases h;done) |skip
 simp only[Option.bind_eq_some_iff] at h;obtain⟨yh,_,h⟩:=h;cases hb:(wW (bm _)&&(T.sig _).ae.isEmpty&&Nat.beq (T.real _) _) with
 |false=>rw[hb] at h;cases h
 |true=>
  rw[hb,cond_true] at h;split at h
  ·exact⟨_,_,h⟩
  ·cases h
theorem Tv {R:Type}{n:Nat}{r:R}:∀(c:Code) (hs:List (List (Nat×Bool))) (σ:AS) (k:Ex→AS→Option R),aJ T Φ n c hs σ k=some r→∃e ag,k e ag=some r∧Fr σ ag:=by
 intro c;induction c with
 |skip=>intro hs σ k he;exact⟨_,σ,he,Fr.refl _⟩
 |region id ops draw=>intro hs σ k he;obtain⟨ag,h1,h2⟩:=abL he;exact⟨_,ag,h1,h2⟩
 |seq x y KN Ig=>
  intro hs σ k he;simp only[aJ] at he;obtain⟨e,ag,h1,h2⟩:=KN _ _ _ he;cases e with
  |normal=>obtain⟨e,abM,h3,h4⟩:=Ig _ _ _ h1;exact⟨e,abM,h3,h2.trans h4⟩
  |exit i=>exact⟨_,_,h1,h2⟩
  |ret=>exact⟨_,_,h1,h2⟩
 |cond x y z Ig ihz=>
  intro hs σ k he;simp only[aJ] at he;have ik:∀t b,Fr σ (σ.Ml t b):=fun t b=>⟨rfl,rfl,rfl,o8.refl _,rfl⟩
  split at he
  ·split at he
   ·rename_i t _ b hb;have main:∀b:Bool,(bif b then aJ T Φ n y hs (σ.Ml t true) k else aJ T Φ n z (hs.drop (loops y)) (σ.Ml t false) k)=some r→∃e ag,k e ag=some r∧Fr σ ag:=fun b he=>by
     cases b
     ·obtain⟨e,ag,h1,h2⟩:=ihz _ _ _ he;exact⟨e,ag,h1,(ik _ _).trans h2⟩
     ·obtain⟨e,ag,h1,h2⟩:=Ig _ _ _ he;exact⟨e,ag,h1,(ik _ _).trans h2⟩
    exact main b he
   ·cases he
  ·rename_i b;cases b
   ·exact ihz _ _ _ he
   ·exact Ig _ _ _ he
  ·cases he
 |block id c ih=>
  intro hs σ k he;simp only[aJ] at he;obtain⟨e,ag,h1,h2⟩:=ih _ _ _ he;cases e with
  |normal=>exact⟨_,_,h1,h2⟩
  |exit i=>
   cases hb:Nat.beq i id with
   |true=>simp only[hb,cond_true] at h1;exact⟨_,_,h1,h2⟩
   |false=>simp only[hb,cond_false] at h1;exact⟨_,_,h1,h2⟩
  |ret=>exact⟨_,_,h1,h2⟩
 |loop c ih=>
  intro hs σ k he;simp only[aJ] at he;split at he
  ·rename_i hd hs';exact Kx (I:=Fr σ) (fun ag h=>h.trans (nb hd ag)) (fun ag k' hi hb=>by
    obtain⟨e,abM,h1,h2⟩:=ih _ _ _ hb;exact⟨e,abM,h1,hi.trans h2⟩) n _ (nb hd σ) he
  ·cases he
 |rangeFunc f ps x y KN Ig=>
  intro hs σ k he;simp only[aJ] at he;split at he
  ·rename_i hd hs' u hrn htr;obtain⟨g,bs,h1⟩:=XD he;cases hok:xC ((σ.jF bs).forget hd) with
   |false=>rw[hok] at h1;cases h1
   |true=>
    rw[hok,cond_true] at h1;have f1:Fr σ ((σ.jF bs).forget hd):=(Tt bs σ).trans (nb hd _);have ZJ:=hok;simp only[xC,Bool.and_eq_true,List.all_eq_true] at ZJ;have h0:FrX σ ({((σ.jF bs).forget hd) with cq:=[g]}:AS).save:=⟨⟨g,rfl⟩,f1.sites,f1.s,f1.tr,by
     refine⟨((σ.jF bs).forget hd).tmps.l.map fun p=>p.1+10000, ?_,fun i hi=> ?_⟩
     ·show (List.map _ _++_).map _=_;rw[List.map_append,List.map_map, ←f1.ks];rfl
     ·obtain⟨p,hp,rfl⟩:=List.mem_map.1 hi;have:=ZJ.1 p hp;rw[tj] at this;simp only[kB,Bool.and_eq_true,Nat.ble_eq,tj];omega⟩
    obtain⟨e,ag,h2,h3⟩:=Kx (r:=r) (h:=hd) (k:=fp k) (body:=iF ps.toList (fun σ k'=>aJ T Φ n x hs' σ k') (fun σ k'=>aJ T Φ n y (hs'.drop (loops x)) σ k')) (I:=FrX σ) (fun ag h=>h.fr (nb hd ag)) (fun ag k' hi hb=>by
     unfold iF at hb;obtain⟨x0,hx0⟩:=hi.cq;rw[hx0] at hb;obtain⟨ts,xs⟩:=x0;cases xs with
     |nil=>exact⟨_,_,hb,hi⟩
     |cons x1 xs=>
      dsimp only at hb;split at hb
      ·rename_i s hs;obtain⟨e,de,h4,h5⟩:=KN _ _ _ hb;cases e with
       |normal=>
        dsimp only at h4;obtain⟨e,mj,h6,h7⟩:=Ig _ _ _ h4;cases e with
        |normal=>
         refine⟨_,_,h6, ?_⟩;have f2:=h5.trans h7;exact⟨⟨_,f2.cq⟩,f2.sites.trans hi.sites,(show mj.tmps.n=_ from (f2.s.trans (Ky hs).1).trans hi.s),hi.tr.trans f2.tr,by
          show ∃ls:List Nat,mj.tmps.s.map (·.1)=_∧_;rw[f2.ks];show ∃ls:List Nat,s.s.map (·.1)=_∧_;rw[(Ky hs).2];exact hi.ks⟩
        |_=>cases h6
       |_=>cases h4
      ·cases hb) n _ h0 h1
    unfold fp at h2;split at h2
    ·refine⟨_,_,h2, ?_,h3.sites,h3.s,h3.tr,Wf h3 (fun i hi=>by
      rw[←f1.ks] at hi;obtain⟨p,hp,rfl⟩:=List.mem_map.1 hi;have:=ZJ.2 p hp;rw[Nat.ble_eq] at this;simp only[kB,Bool.and_eq_false_iff];exact .inr (by cases hb:Nat.blt p.1 (10000*(1+1)) with
       |false=>rfl
       |true=>rw[tj] at hb;omega))⟩
     obtain⟨x,hx⟩:=h3.cq;show ag.cq.tail=_;rw[hx,hrn];rfl
    ·cases h2
  ·cases he
 |exit i=>intro hs σ k he;exact⟨_,σ,he,Fr.refl _⟩
 |ret=>intro hs σ k he;exact⟨_,σ,he,Fr.refl _⟩
 |_=>intros;rename_i he;cases he
end
end Go.Abs
