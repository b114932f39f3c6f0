/- YtofjebmoebhiiaaGreatDoorJb: a part of the proof (AbsO6, AbsO7, AbsO8 ..). No condition. -/
import Derived.Test.YtofjebmoebhiiaaGreatDoorJa
import Derived.OrdersIn
set_option linter.unusedVariables false
set_option linter.unusedSimpArgs false
set_option maxRecDepth 100000
set_option exponentiation.threshold 2000
namespace Go.Abs
open Go.RowKit Go.Lib
section
variable {P:Program}{T:dc}{E:Env}{σ ah:AS}{a:Act}{w w':World}{ν aN:Nm→Value}{O:Nat→Prop}{Φ:cj T}{V:View}{Y:Value}
theorem made_eq (z:Array Value)(n:Nat):madeCells z (n*z.size)=((List.replicate n z.toList).flatten).toArray:=by
 apply Array.ext
 ·simp[madeCells]
 ·intro i h1 h2;have h3:i<n*z.size:=by simpa [madeCells] using h1
  have hz:0<z.size:=by
   rcases Nat.eq_zero_or_pos z.size with h |h
   ·rw[h] at h3;omega
   ·exact h
  have hm:i % z.size<z.size:=Nat.mod_lt _ hz;have key:∀(n i:Nat),i<n*z.size→(List.replicate n z.toList).flatten[i]? =some (z[i % z.size]'(Nat.mod_lt _ hz)):=by
   intro n;induction n with
   |zero=>intro i hi;omega
   |succ n ih=>
    intro i hi;rw[List.replicate_succ,List.flatten_cons];by_cases hlt:i<z.size
    ·rw[List.getElem?_append_left (by simpa using hlt)];simp[hlt,Nat.mod_eq_of_lt hlt]
    ·rw[List.getElem?_append_right (by simpa using Nat.not_lt.1 hlt)];rw[Nat.succ_mul] at hi;have:=ih (i - z.size) (by omega);simp only[Array.length_toList];rw[this]
     congr 2
     conv=>rhs;rw[←Nat.sub_add_cancel (Nat.not_lt.1 hlt)]
     simp
  have:=key n i h3;have h4:madeCells z (n*z.size)=(Array.range (n*z.size)).map (z[· % z.size]!):=rfl;simp only[h4,Array.getElem_map,Array.getElem_range,List.getElem_toArray];have h5:i<(List.replicate n z.toList).flatten.length:=by simpa using h2
  rw[List.getElem?_eq_getElem h5] at this;rw[Option.some.inj this];simp[hm]
theorem Xm {V:View}{t:Ty}{av:Operand→AV}(rL:∀x,ak V σ ν Y (av x) (a.eval x)):∀(parts:List (Nat×Operand)) (xs xs':List t.den) (bG:List (List Value)),
  elems av t parts xs=some xs'→aF (Rel V t) xs bG→
  ∃Ux,Instr.fill (fun i=>some (i*t.size,t.size)) bG.flatten.toArray (parts.map fun(i,x)=>(i,a.eval x))=some Ux.flatten.toArray∧aF (Rel V t) xs' Ux
 | [],xs,xs',bG,h,hr=>by simp only[elems,Option.some.injEq] at h;subst h;exact⟨bG,rfl,hr⟩
 | (i,x)::parts,xs,xs',bG,h,hr=>by
   simp only[elems] at h;split at h
   ·rename_i v hv;cases hb:Nat.blt i xs.length with
    |false=>simp[hb] at h
    |true=>
     simp only[hb,cond_true] at h;have hlt:i+1≤xs.length:=Nat.le_of_ble_eq_true hb;have hvr:=(Ia hv (rL x)).cells;have hvl:=Rel.length hvr;obtain⟨ys,hy1,hy2,hy3⟩:=C1 hr i (xs[i]'(by omega)) (List.getElem?_eq_getElem (by omega));have hyl:=Rel.length hy2;have hsp:=C4 (bG:=bG) i ys (a.eval x).cells.toList 0 (Ic hr) hy1 (by rw[hvl];omega);rw[hvl] at hsp;simp only[Nat.zero_add,List.take_zero,List.nil_append,Nat.add_zero] at hsp;have hd:ys.drop t.size=[]:=List.drop_eq_nil_of_le (by omega);rw[hd,List.append_nil] at hsp;obtain⟨Ux,h1,h2⟩:=Xm rL parts (xs.set i v) xs' (bG.set i (a.eval x).cells.toList) h (hr.set hvr);refine⟨Ux, ?_,h2⟩;have hsz:(a.eval x).cells.size=t.size:=by simpa using hvl
     have QQ:=ie hr;have hmul:i*t.size+t.size≤xs.length*t.size:=by rw[←Nat.succ_mul];exact Nat.mul_le_mul_right _ hlt
     simp only[List.map_cons,Instr.fill];rw[if_neg (by simp[hsz,QQ];omega)];have hfo:=Kk (a.eval x).cells.toList 0 (i*t.size) bG.flatten.toArray (by simp[QQ,hsz];omega);have e:((a.eval x).cells.zipIdx.foldl (fun cs (p:Value×Nat)=>cs.setIfInBounds (i*t.size+p.2) p.1) bG.flatten.toArray)=(bG.set i (a.eval x).cells.toList).flatten.toArray:=by apply Array.ext';rw[←Array.foldl_toList,Array.toList_zipIdx];rw[hsp];simpa [hsz] using hfo
     rw[←h1]
     congr 1
   ·cases h
theorem PB {t:Ty}{av:Operand→AV}:∀(parts:List (Nat×Operand)) (xs xs':List t.den),elems av t parts xs=some xs'→xs'.length=xs.length
 | [],xs,xs',h=>by simp only[elems,Option.some.injEq] at h;rw[h]
 | (i,x)::parts,xs,xs',h=>by
   simp only[elems] at h;split at h
   ·cases hb:Nat.blt i xs.length with
    |false=>simp[hb] at h
    |true=>simp only[hb,cond_true] at h;rw[PB parts _ xs' h];simp
   ·cases h
theorem Q9 {V:View}{t:Ty}{zs:List Value}(h:Rel V t t.zero zs)(n:Nat):aF (Rel V t) (List.replicate n t.zero) (List.replicate n zs):=aF.replicate h n
theorem Sj {w:World}{B:Nat}{e:TypeId}{size n cap:Nat}{cs:Array Value}{xs:List Value}(hB:B≤w.heap.size)(hn:n≤cap)(hm:cap≤maxLen)(hs:cs.size=cap*size)(hx:cs.toList.take (n*size)=xs)(hl:xs.length=n*size):
  (w.alloc (.cells cs e)).ownsRow B e size (.slice (some ⟨w.heap.size,0,none⟩) n cap) n xs:=
 ⟨hl, .inr ⟨w.heap.size,cap,cs,rfl,hB,heap_alloc_new w _,hn,hm,hs,hx⟩⟩
theorem Below.UA {w:World}{o:Go.Obj}:Below w.heap.size w (w.alloc o):=⟨rfl,rfl,rfl,by simp,fun k hk=>heap_alloc_old w _ k hk⟩
theorem PC (hE:aI E)(h:St E σ a w ν O){i n1:Nat}{hr:aQ}{l':List hr.t.den}{v0:Value}{C:Nat→Prop}(hh:σ.af[i]? =some hr)(hn1:n1≤hr.xs.length)(hC:∀k,C k→Own σ ν (.hp i n1) k)(hg:Grow C w w')
  (hblk:∀k,dw v0=some k→Own σ ν (.hp i n1) k∨(w.heap.size≤k∧k<w'.heap.size)) (hv0:∃g n c,v0= .slice (some ⟨g,0,none⟩) n c) (cS:∀V',(∀key v,view E σ ν O w key v→V' key v)→ki V' w' v0 ⟨hr.e,hr.t,l'⟩)
  {r:cP} (he:(y8 (T:=T) i hr (cw hr.xs n1) l').val Φ σ=some r):
  ∃us n,r=(.rv (.cv ⟨.ref i,n⟩), .nu us)∧∃aN,St E (σ.app us) a w' aN O∧cg (view E (σ.app us) aN O w') ⟨.ref i,n⟩ v0:=by
 unfold y8 at he;rw[aD,iL] at he;obtain⟨hc,rfl⟩:=he;simp only[Bool.and_eq_true,beq_iff] at hc;obtain⟨hw,hk⟩:=hc;have YK:aij v0:=by obtain⟨g,n,c,e⟩:=hv0;exact⟨_,_,_,e⟩
 obtain⟨h1,h2⟩:=h.ans hE (n1:=n1) (l':=l') hh hw hn1 hC hg hblk (.inl ⟨hk,hv0⟩) (fun V' hV=>by rw[hk];exact⟨YK,cS V' hV⟩);rw[pr];exact⟨_,_,rfl,_,h1,alR (by omega) YK h2⟩
theorem YV (hE:aI E)(h:St E σ a w ν O){d:Option Tmp}{row:Row}{v':Value}(hg:Below w.heap.size w w')(GG:∀k,dw v'=some k→w.heap.size≤k∧k<w'.heap.size)
  (cS:∀V',(∀key v,view E σ ν O w key v→V' key v)→ki V' w' v' row) {r:cP} (he:(newRow (T:=T) d row).val Φ σ=some r):
  ∃q us,r=(.rv (.own q), .nu us)∧∃aN,St E (σ.app us) a w' aN O∧tp (view E (σ.app us) aN O w') (σ.app us) aN (.own q) v':=by
 unfold newRow at he;split at he
 ·rename_i d;rw[zb,iL] at he;obtain⟨hd,rfl⟩:=he;refine⟨_,_,rfl,_,h.newRow hE (row':=row) hd hg GG (fun hV=>cS _ hV), ?_, ?_⟩
  ·rw[oz]
  ·show (look (put _ _ _) _).isSome=true;rw[aH,if_pos rfl];rfl
 ·cases he
theorem aaM {o:Oper}{t:TypeId}{l cc:Operand}(ho:o.op= .makeSlice t l cc){e:TypeId}{i:TypeInfo}{z:Value}{size bytes:Nat}(hu:P.underlying t=some (.slice e))(i1:P.info? e=some i)(i4:i.zero=some z)(i2:i.size=size)
  (hzs:z.cells.size=size) (i3:i.bytes=bytes) (hb:0<bytes) {k k':IntKind} {n m:Int} (el:a.eval l= .int k n) (ec:a.eval cc= .int k' m) (hok:ic bytes n m=true):
  (execOp a.eval o).run P w= .ok (.value (.slice (some ⟨w.heap.size,0,none⟩) n.toNat m.toNat)) (w.alloc (.cells (List.replicate m.toNat z.cells.toList).flatten.toArray e))∧
  (w.alloc (.cells (List.replicate m.toNat z.cells.toList).flatten.toArray e)).ownsRow 0 e size (.slice (some ⟨w.heap.size,0,none⟩) n.toNat m.toNat) n.toNat (List.replicate n.toNat z.cells.toList).flatten:=by
 simp only[ic,Bool.and_eq_true,decide_eq_true_eq] at hok;obtain⟨⟨h0,h1⟩,h2⟩:=hok;have hm0:0≤m:=Int.le_trans h0 h1;have hmb:m≤(bytes:Int)*m:=by have:1*m≤(bytes:Int)*m:=Int.mul_le_mul_of_nonneg_right (by omega) hm0;rwa [Int.one_mul] at this
 have hb2:(i.bytes:Int)*m≤281474976710656:=by rw[i3];omega
 have hrun:=run_make (P:=P) w t e i z hu i1 i4 k k' n m h0 h1 hb2 (by omega);have his:i.size=z.cells.size:=by rw[i2,hzs]
 rw[his,made_eq] at hrun;have hnm:n.toNat≤m.toNat:=by omega
 have hsz:((List.replicate m.toNat z.cells.toList).flatten.toArray).size=m.toNat*size:=by simp[hzs]
 have QQ:(List.replicate n.toNat z.cells.toList).flatten.length=n.toNat*size:=by simp[hzs]
 refine⟨by simp[execOp,ho,el,ec,hrun],Sj (Nat.zero_le _) hnm ?_ hsz ?_ QQ⟩
 ·simp only[maxLen];omega
 ·have e1:m.toNat=n.toNat+(m.toNat - n.toNat):=by omega
  rw[e1, ←List.replicate_append_replicate,List.flatten_append];show List.take _ (_++_)=_;rw[←QQ,List.take_left]
theorem GJ {w:World}{n c:Nat}{o:Go.Obj}(k:Nat)(hk:dw (.slice (some ⟨w.heap.size,0,none⟩) n c)=some k):w.heap.size≤k∧k<(w.alloc o).heap.size:=by simp only[dw,Option.some.injEq] at hk;subst hk;exact⟨Nat.le_refl _,by simp⟩
theorem YW (hE:aI E)(hG:NX E)(hT:jO P T.rows)(hH:EU P T)(hl:σ.af.length=T.af.length)(h:St E σ a w ν O){o:Oper}{r:cP}{t:TypeId}{l cc:Operand}(ho:o.op= .makeSlice t l cc)
  (he:(EN T σ.av σ.sites o).val Φ σ=some r):mv P o a w (To E (bo σ o.dst r)):=by
 have hd:∀c,o.op≠ .defer c:=by rw[ho];intro c e;cases e
 unfold EN at he;simp only[ho] at he;split at he
 ·rename_i u e bytes k n k' m hel hl1 hc1;obtain⟨re,hu,Ts,Wn,rK,hby,hpos⟩:=wU hT hel;have el:=h.av hG l;rw[hl1] at el;have ec:=h.av hG cc;rw[hc1] at ec;have el:=zd el rfl;have ec:=zd ec rfl;rw[aD] at he;obtain⟨hok,he⟩:=he;split at he
  ·rename_i hp hhp;rw[gG] at he;obtain⟨hr,hh,he⟩:=he;rw[aD] at he;obtain⟨hc,he⟩:=he;simp only[Bool.and_eq_true,beq_iff] at hc;obtain⟨e1,hc⟩:=hc;obtain⟨j,z,j1,j2,j3,j4⟩:=Q8 hH hc (by rw[←hl];exact(List.getElem?_eq_some_iff.1 hh).1);obtain⟨i,z',i1,i2,i3,i4,_⟩:=Uw (V:=view E σ ν O w) Ts;rw[Wn,e1,j1] at i1;obtain rfl:j=i:=by simpa using i1
   have hzs:z.cells.size=hr.t.size:=by simpa using Rel.length (j4 (fun _ _=>False))
   obtain⟨hrun,hown⟩:=aaM (P:=P) (w:=w) ho hu (by rw[e1];exact j1) j3 j2 hzs (by rw[i3,hby]) hpos el ec hok;rw[e1] at hrun hown;obtain⟨us,n',rfl,aN,hs,hv⟩:=PC hE h (n1:=0) (C:=fun _=>False) (v0:= .slice (some ⟨w.heap.size,0,none⟩) n.toNat m.toNat) hh (Nat.zero_le _) (fun _ hk=>hk.elim) (Grow.C0 Below.UA) (fun k hk=> .inr (GJ k hk)) ⟨_,_,_,rfl⟩
    (fun V' hV=>⟨_,by simpa using hown,Q9 (j4 V') _⟩) he
   exact cM hd hrun ⟨aN,O,hs.slot hv⟩
  ·obtain⟨i,z,i1,i2,i3,i4,i5⟩:=aaG Ts (o.dst.bind (look σ.sites));rw[Wn] at i1;rw[rK] at i2 i5;have hzs:z.cells.size=u.size:=by have:=Rel.length (i5 (fun _ _=>False));rw[NZ] at this;simpa using this
   obtain⟨hrun,hown⟩:=aaM (P:=P) (w:=w) ho hu i1 i4 i2 hzs (by rw[i3,hby]) hpos el ec hok;obtain⟨q,us,rfl,aN,hs,hv⟩:=YV hE h (v':= .slice (some ⟨w.heap.size,0,none⟩) n.toNat m.toNat) Below.UA (fun k hk=>GJ k hk)
    (fun V' hV=>⟨_,by rw[NZ];simpa using hown,Q9 (i5 V') _⟩) he
   exact cM hd hrun ⟨aN,O,hs.slot (x:= .rv (.own q)) hv⟩
 ·cases he
theorem Ra {o:Oper}{t:TypeId}{len:Nat}{parts:Array (Nat×Operand)}(ho:o.op= .buildSlice t len parts){e:TypeId}{i:TypeInfo}{z:Value}{u:Ty}(hu:P.underlying t=some (.slice e))(i1:P.info? e=some i)(i4:i.zero=some z)(i2:i.size=u.size)
  (i5:Rel V u u.zero z.cells.toList) {av:Operand→AV} (rL:∀x,ak V σ ν Y (av x) (a.eval x)) {xs:List u.den} (hxs:elems av u parts.toList (List.replicate len u.zero)=some xs) (hle:len*u.size≤16777216) (hlen:len≤16777216):
  ∃bG,(execOp a.eval o).run P w= .ok (.value (.slice (some ⟨w.heap.size,0,none⟩) len len)) (w.alloc (.cells bG.flatten.toArray e))∧aF (Rel V u) xs bG∧xs.length=len∧
   (w.alloc (.cells bG.flatten.toArray e)).ownsRow 0 e u.size (.slice (some ⟨w.heap.size,0,none⟩) len len) len bG.flatten:=by
 have hzs:z.cells.size=u.size:=by simpa using Rel.length i5
 obtain⟨bG,f1,f2⟩:=Xm rL parts.toList _ xs (List.replicate len z.cells.toList) hxs (Q9 i5 len);have aqr:(Array.range (len*u.size)).map (z.cells[· % z.cells.size]!)=(List.replicate len z.cells.toList).flatten.toArray:=by rw[←made_eq,hzs];unfold madeCells;rw[hzs]
 have hxl:xs.length=len:=by rw[PB _ _ _ hxs];simp
 have hsz:i.size=u.size:=i2;have QQ:=ie f2;have hrun:(execOp a.eval o).run P w= .ok (.value (.slice (some ⟨w.heap.size,0,none⟩) len len)) (w.alloc (.cells bG.flatten.toArray e)):=by
  have hn:¬len*u.size>16777216:=by omega
  have f1':Instr.fill (fun i=>some (i*u.size,u.size)) (List.replicate len z.cells.toList).flatten.toArray (List.map (fun x=>(x.fst,a.eval x.snd)) parts.toList)=some bG.flatten.toArray:=f1;have hr0:Array.map (fun x=>(default:Value)) (Array.range 0)= #[]:=by simp
  by_cases hz:len*u.size=0
  ·have he:(List.replicate len z.cells.toList).flatten=[]:=by apply List.eq_nil_of_length_eq_zero;simp[hzs,hz]
   rw[he] at f1';simp[execOp,ho,Instr.buildSlice,run_underlying hu,sizeOf,typeInfo,i1,hsz,hn,hz,hr0,f1',Go.newRow]
  ·simp[execOp,ho,Instr.buildSlice,run_underlying hu,sizeOf,typeInfo,zeroValue,i1,i4,hsz,hn,hz,aqr,f1',Go.newRow]
 have hlm:len≤maxLen:=by simp only[maxLen];omega
 refine⟨bG,hrun,f2,hxl,Sj (Nat.zero_le _) (Nat.le_refl _) hlm (by simp[QQ,hxl]) (by show List.take (len*u.size) bG.flatten=_;rw[←hxl, ←QQ,List.take_length]) (by rw[QQ,hxl])⟩
theorem WA (hE:aI E)(hG:NX E)(hT:jO P T.rows)(hH:EU P T)(hl:σ.af.length=T.af.length)(h:St E σ a w ν O){o:Oper}{r:cP}{t:TypeId}{len:Nat}{parts:Array (Nat×Operand)}(ho:o.op= .buildSlice t len parts)
  (he:(EN T σ.av σ.sites o).val Φ σ=some r):mv P o a w (To E (bo σ o.dst r)):=by
 have hd:∀c,o.op≠ .defer c:=by rw[ho];intro c e;cases e
 unfold EN at he;simp only[ho] at he;generalize o.dst.bind (look σ.sites)=st at he;split at he
 ·rename_i u e bytes hel;obtain⟨re,hu,Ts,Wn,rK,hby,hpos⟩:=wU hT hel;split at he
  ·rename_i hp hhp;rw[gG] at he;obtain⟨hr,hh,he⟩:=he;rw[aD,cE] at he;obtain⟨hc,ys,hys,he⟩:=he;simp only[Bool.and_eq_true,beq_iff] at hc;obtain⟨⟨⟨e1,hc⟩,hb1⟩,hb2⟩:=hc;obtain⟨j,z,j1,j2,j3,j4⟩:=Q8 hH hc (by rw[←hl];exact(List.getElem?_eq_some_iff.1 hh).1);obtain⟨bG,hrun,f2,f3,hown⟩:=Ra (P:=P) (w:=w) ho hu (by rw[e1];exact j1) j3 j2 (j4 _) (h.av hG) hys (Nat.le_of_ble_eq_true hb1) (Nat.le_of_ble_eq_true hb2);rw[e1] at hrun hown;obtain⟨us,n',rfl,aN,hs,hv⟩:=PC hE h (n1:=0) (C:=fun _=>False) (v0:= .slice (some ⟨w.heap.size,0,none⟩) len len) hh (Nat.zero_le _) (fun _ hk=>hk.elim) (Grow.C0 Below.UA) (fun k hk=> .inr (GJ k hk)) ⟨_,_,_,rfl⟩
    (fun V' hV=>⟨bG,by rw[f3];exact hown,f2.mono (Rel.mono hV _)⟩) he
   exact cM hd hrun ⟨aN,O,hs.slot hv⟩
  ·rw[aD] at he;obtain⟨hc,he⟩:=he;simp only[Bool.and_eq_true] at hc;obtain⟨hb1,hb2⟩:=hc;obtain⟨i,z,i1,i2,i3,i4,i5⟩:=aaG Ts st;rw[Wn] at i1;rw[rK] at i2 i5;have i2':i.size=(Nc st u).size:=by rw[NZ];exact i2
   cases hb:(List.map (fun x=>x.2) parts.toList).any fun x=>yv (σ.av x) with
   |true=>
    rw[hb,cond_true,nY,cE] at he;obtain⟨ys,hys,he⟩:=he;have s1:=h.wK hE (parts.toList.map (·.2));split at he
    ·rename_i d Q6;split at he
     ·rename_i hfree;rw[iL] at he;subst he;obtain⟨bG,hrun,f2,f3,hown⟩:=Ra (P:=P) (w:=w) ho hu i1 i4 i2' (i5 _) (s1.av hG) hys (Nat.le_of_ble_eq_true hb1) (Nat.le_of_ble_eq_true hb2);refine cM hd hrun ⟨uY ν d (.slice (some ⟨w.heap.size,0,none⟩) len len),O, ?_⟩;simp only[bo,Q6];have s2:=s1.newRow hE (w':=w.alloc (.cells bG.flatten.toArray e)) (row':=⟨e,Nc st u,ys⟩) (v':= .slice (some ⟨w.heap.size,0,none⟩) len len) hfree Below.UA (fun k hk=>GJ k hk) (fun hV=>⟨bG,by rw[f3];exact hown,f2.mono (Rel.mono hV _)⟩);refine s2.slot (x:= .rv (.own d)) ⟨?_, ?_⟩
      ·rw[oz]
      ·show (look (put _ _ _) _).isSome=true;rw[aH,if_pos rfl];rfl
     ·cases he
    ·cases he
   |false=>rw[hb,cond_false,cE] at he;obtain⟨ys,hys,he⟩:=he;obtain⟨bG,hrun,f2,f3,hown⟩:=Ra (P:=P) (w:=w) ho hu i1 i4 i2' (i5 _) (h.av hG) hys (Nat.le_of_ble_eq_true hb1) (Nat.le_of_ble_eq_true hb2);obtain⟨q,us,rfl,aN,hs,hv⟩:=YV hE h (v':= .slice (some ⟨w.heap.size,0,none⟩) len len) Below.UA (fun k hk=>GJ k hk) (fun V' hV=>⟨bG,by rw[f3];exact hown,f2.mono (Rel.mono hV _)⟩) he;exact cM hd hrun ⟨aN,O,hs.slot (x:= .rv (.own q)) hv⟩
 ·cases he
end
section
variable {P:Program}{T:dc}{E:Env}{σ ah:AS}{a:Act}{w w':World}{ν aN:Nm→Value}{O:Nat→Prop}{Φ:cj T}{V:View}{Y:Value}
theorem Ie (base:Nat)(t ty e:TypeId)(i:TypeInfo)(z:Value)(size bytes:Nat)(ht:P.underlying t=some (.slice e))(hi:P.info? e=some i)(hz:i.zero=some z)
  (hsize:i.size=size) (hby:i.bytes=bytes) (hzs:z.cells.size=size) (hsz:0<size) (hb0:0<bytes)
  (v:Value) (n:Nat) (xs:List Value) (hown:w.ownsRow base e size v n xs)
  (A:Option Addr) (m c:Nat) (news:List Value) (hl:news.length=m*size) (hmc:m≤c) (hA:A=none→c=0) (hnews:∀j u,news[j]? =some u→∃ad,A=some ad∧w.cell? (ad.add j)=some u) (h1:∀u∈news,u.oneCell'=true)
  (hbytes:(n+m)*bytes≤140737488355328) (hbase:base≤w.heap.size):
  ∃v' w',(Builtin.append_ #[t,t] ty #[v, .slice A m c]).run P w= .ok v' w'∧w'.ownsRow base e size v' (n+m) (xs++news)∧w.grownBy w' v.ownBlock∧
   (∀k,v'.ownBlock=some k→v.ownBlock=some k∨w.heap.size≤k):=by
 cases A with
 |none=>
  have hc:=hA rfl;subst hc;obtain rfl:m=0:=by omega
  have:news=[]:=List.eq_nil_of_length_eq_zero (by simpa using hl);subst this;have hrun:=run_append_owned_none (P:=P) (w:=w) base t ty e i size ht hi v n xs hown;exact⟨v,w,hrun,by simpa using hown,⟨rfl,rfl,rfl,Nat.le_refl _,fun _ _ _=>rfl⟩,fun k hk=> .inl hk⟩
 |some ad=>
  have hn':∀j u,news[j]? =some u→w.cell? (ad.add j)=some u:=fun j u hj=>by
   obtain⟨Q3,e',h⟩:=hnews j u hj;obtain rfl:ad=Q3:=by simpa using e'
   exact h
  have hle:n+m≤(n+m)*bytes:=Nat.le_mul_of_pos_right _ hb0;have h63:n+m≤maxLen:=by simp only[maxLen];omega
  obtain⟨v',w',hr,h2,h3,h4⟩:=run_append_own (P:=P) w base t ty e i z size bytes ht hi hz hsize hby hzs hsz v n xs hown ad m c news hl hn' h1 h63 hbytes hbase;refine⟨v',w',hr,h2,h3,fun k hk=> ?_⟩;subst hsize hby;rcases hown.2 with ⟨rfl,rfl⟩ | ⟨g,cap,cur,rfl,hbg,hg,hnc,hcm,hcs,Jc⟩
  ·by_cases hm:m=0
   ·have:=h4.2 ⟨rfl,hm⟩;rw[this] at hk;cases hk
   ·have Ja:=run_append_nil (P:=P) w t ty e i z ht hi hz ad m c news hl hn' (by omega) (by omega) (by simp only[Nat.zero_add] at hbytes;omega);rw[Ja] at hr;injection hr with Pe hr3
    rw[←Pe] at hk;simp[Value.ownBlock] at hk;exact .inr (by omega)
  ·by_cases hroom:n+m≤cap
   ·have hfit:n*i.size+news.length≤cur.size:=by rw[hl,hcs, ←Nat.add_mul];exact Nat.mul_le_mul_right _ hroom
    have Ja:=run_append_room (P:=P) w t ty e i ht hi g n cap cur hg ad m c news hl hn' h1 hroom hfit;rw[Ja] at hr;injection hr with Pe hr3
    rw[←Pe] at hk;exact .inl hk
   ·have holds:∀j u,xs[j]? =some u→w.cell? ((⟨g,0,none⟩:Addr).add j)=some u:=hown.cells (g:=g) rfl;have Ja:=run_append_grow (P:=P) w t ty e i z ht hi hz ⟨g,0,none⟩ n cap xs hown.1 holds ad m c news hl hn' (by omega) (by omega) (growslice_fits (by omega) hbytes);rw[Ja] at hr;injection hr with Pe hr3
    rw[←Pe] at hk;simp[Value.ownBlock] at hk;exact .inr (by omega)
theorem PD {V:View}{t:Ty}{xs:List t.den}{bG:List (List Value)}(h:aF (Rel V t) xs bG):∀u∈bG.flatten,u.oneCell'=true:=by intro u hu;obtain⟨l,hl,hul⟩:=List.mem_flatten.1 hu;obtain⟨i,hi⟩:=List.getElem?_of_mem hl;obtain⟨x,_,hr⟩:=h.get' i l hi;obtain⟨j,hj⟩:=List.getElem?_of_mem hul;obtain⟨c,_,hc⟩:=(jK hr).get' j u hj;exact T8 hc
theorem Grow.of_grownBy {g:Option Nat}(h:w.grownBy w' g):Grow (fun k=>g=some k) w w':=⟨h.os,h.tape,h.output,h.size,fun k hk hn=>h.block k hk fun e=>hn e.symm⟩
theorem Sk (base:Nat)(t ty e:TypeId)(i:TypeInfo)(size:Nat)(ht:P.underlying t=some (.slice e))(hi:P.info? e=some i)
  (v:Value) (n:Nat) (xs:List Value) (hown:w.ownsRow base e size v n xs) (A:Option Addr) (c:Nat) (hA:A=none→c=0):
  (Builtin.append_ #[t,t] ty #[v, .slice A 0 c]).run P w= .ok v w:=by
 cases A with
 |none=>rw[hA rfl];exact run_append_owned_none (P:=P) (w:=w) base t ty e i size ht hi v n xs hown
 |some ad=>
  rcases hown.2 with ⟨rfl,rfl⟩ | ⟨g,cap,cur,rfl,_,_,hnc,_⟩
  ·simp[Builtin.append_,run_underlying ht,sizeOf,typeInfo,hi,Builtin.lenOf,Builtin.firstCells,loadCells,loadCellsFrom]
  ·simp[Builtin.append_,run_underlying ht,sizeOf,typeInfo,hi,Builtin.lenOf,Builtin.firstCells,hnc,storeCells,loadCells,loadCellsFrom]
theorem EV {v:Value}{A:Option Addr}{n c:Nat}(h:v= .slice A n c):dw v=v.ownBlock:=by subst h;cases A<;>rfl
theorem qB {e:TypeId}{B size n:Nat}{v:Value}{xs:List Value}(h:w.ownsRow B e size v n xs):∃A c,v= .slice A n c:=by
 rcases h.2 with ⟨rfl,rfl⟩ | ⟨g,cap,cur,rfl,_⟩
 ·exact⟨_,_,rfl⟩
 ·exact⟨_,_,rfl⟩
theorem Ig {e:TypeId}{B size n:Nat}{v:Value}{xs:List Value}(h:w.ownsRow B e size v n xs){k:Nat}(hk:v.ownBlock=some k):k<w.heap.size:=by
 rcases h.2 with ⟨rfl,rfl⟩ | ⟨g,cap,cur,rfl,_,hg,_⟩
 ·cases hk
 ·simp[Value.ownBlock] at hk;subst hk;exact(Array.getElem?_eq_some_iff.1 hg).1
theorem St.LW (h:St E σ a w ν O){i n:Nat}{hr:aQ}{l:List hr.t.den}{v:Value}(hh:σ.af[i]? =some hr)(hl:ag hr.xs n=some l)(hv:cg (view E σ ν O w) ⟨.ref i,n⟩ v):
  ki (view E σ ν O w) w v ⟨hr.e,hr.t,l⟩∧(∀k,dw v=some k→Own σ ν (.hp i n) k)∧((n=0∧v= .slice none 0 0∧l=[])∨(1≤n∧hr.k=0∧v=ν (.hp i n))):=by
 rcases Kh hv with ⟨rfl,rfl⟩ | ⟨h1,hs,_,h2,h3⟩
 ·simp only[ag,Option.some.injEq] at hl;subst hl;exact⟨⟨[],Ib,trivial⟩,(fun k hk=>by cases hk), .inl ⟨rfl,rfl,rfl⟩⟩
 ·have cS:=h.hp hh h1 hl;have hk:hr.k=0:=by
   rcases h.nn i hr n hh h1 (LR hl) with ⟨e,_⟩ | ⟨_,g,e⟩
   ·exact e
   ·obtain⟨A,m,c,e2⟩:=hs;rw[h3,e] at e2;cases e2
  rw[hk] at cS;rw[←h3] at cS;exact⟨cS.2,fun k hk=>⟨br (ac2 hh h1 hl),by rw[←h3];exact hk⟩, .inr ⟨h1,hk,h3⟩⟩
theorem TW {v:Value}{row:Row}(h:ki V w v row):∃(A:Option Addr) (c:Nat) (bG:List (List Value)),v= .slice A row.xs.length c∧row.xs.length≤c∧aF (Rel V row.t) row.xs bG∧(A=none→c=0)∧
  ∀j u,bG.flatten[j]? =some u→∃ad,A=some ad∧w.cell? (ad.add j)=some u:=by
 obtain⟨bG,⟨e1,e2⟩,hall⟩:=h;rcases e2 with ⟨e2,e3⟩ | ⟨g,cap,cur,e2,_,hg,hn,hm,hcs,Jc⟩
 ·have:row.xs=[]:=List.eq_nil_of_length_eq_zero e3;have hy:=ie hall;rw[e3,Nat.zero_mul] at hy;refine⟨none,0,bG,by rw[e2,e3],by omega,hall,fun _=>rfl,fun j u hj=> ?_⟩;rw[List.eq_nil_of_length_eq_zero hy] at hj;simp at hj
 ·refine⟨some ⟨g,0,none⟩,cap,bG,e2,hn,hall,(fun e=>by cases e),fun j u hj=>⟨_,rfl, ?_⟩⟩;rw[Jb,cell_of_row w g j cur row.e (0,0) hg];rw[←Jc] at hj;simpa using Kf hj
theorem CG (hE:aI E)(h:St E σ a w ν O){t:Ty}{x:AV}{u:Value}(hx:ak (view E σ ν O w) σ ν E.Y x u){k:List t.den→Q T cP}{r:cP}(he:(appended t x k).val Φ σ=some r):
  ∃ys:List t.den,(k ys).val Φ σ=some r∧∃(A:Option Addr) (c:Nat) (bG:List (List Value)),u= .slice A ys.length c∧ys.length≤c∧aF (Rel (view E σ ν O w) t) ys bG∧(A=none→c=0)∧
   ∀j u,bG.flatten[j]? =some u→∃ad,A=some ad∧w.cell? (ad.add j)=some u:=by
 have hc:=Ul hx;have cast:∀{e0:TypeId} {t':Ty} {l:List t'.den} {ys:List t.den},(dv (.slice t) [⟨.slice t',l⟩]).map (·.1)=some ys→ki (view E σ ν O w) w u ⟨e0,t',l⟩→∃(A:Option Addr) (c:Nat) (bG:List (List Value)),u= .slice A ys.length c∧ys.length≤c∧aF (Rel (view E σ ν O w) t) ys bG∧(A=none→c=0)∧
   ∀j u,bG.flatten[j]? =some u→∃ad,A=some ad∧w.cell? (ad.add j)=some u:=fun {e0 t' l ys} h1 h2=>by
  have:=ES h1;injection this with e1 e2
  injection e1 with e1
  subst e1;simp only[heq_eq_eq] at e2;subst e2;exact TW h2
 unfold appended at he;split at he
 ·rename_i i n hxx;rw[hxx] at hc;rw[gG] at he;obtain⟨hr,hh,he⟩:=he;rw[cE] at he;obtain⟨l,hl,he⟩:=he;rw[cE] at he;obtain⟨ys,hys,he⟩:=he;refine⟨ys,he, ?_⟩;obtain⟨h1,_⟩:=h.LW hh hl hc;exact cast hys h1
 ·rename_i c hxx;rw[hxx] at hc;rw[cE] at he;obtain⟨ys,hys,he⟩:=he;refine⟨ys,he, ?_⟩;have:=ES hys;subst this;obtain⟨A,cc,bG,e1,e2,e3,e4,e5⟩:=rX hc;exact⟨A,cc,bG,e1,e2,e3,e4,fun j u hj=>by
   obtain⟨ad,e,hv⟩:=e5 j u hj;exact⟨ad,e,za hE h.keep hv⟩⟩
 ·rename_i q hxx;rw[hxx] at hc;rw[rJ] at he;obtain⟨row,hrow,he⟩:=he;rw[cE] at he;obtain⟨ys,hys,he⟩:=he;refine⟨ys,he, ?_⟩;have h1:=h.row hrow;rw[←hc.1] at h1;exact cast hys h1
 ·rename_i hxx;rw[hxx] at hc;exact⟨[],he,none,0,[],hc,Nat.le_refl _,trivial,fun _=>rfl,fun j u hj=>by simp at hj⟩
 ·cases he
theorem agb {t tx ty e e2:TypeId}{i:TypeInfo}(ht:P.underlying t=some (.slice e))(hi:P.info? e=some i)(hx:P.underlying tx=some (.slice e2))(v x:Value):(Builtin.append_ #[t,tx] ty #[v,x]).run P w=(Builtin.append_ #[t,t] ty #[v,x]).run P w:=by cases v<;>simp[Builtin.append_,run_underlying ht,run_underlying hx,sizeOf,typeInfo,hi]
theorem agc (hE:aI E)(hG:NX E)(hT:jO P T.rows)(h:St E σ a w ν O){o:Oper}{r:cP}{args:Array Operand}{ats:Array TypeId}(ho:o.op= .call {callee:= .builtin .append,args:=args,argTypes:=ats})
  (he:(EN T σ.av σ.sites o).val Φ σ=some r):mv P o a w (To E (bo σ o.dst r)):=by
 have hd:∀c,o.op≠ .defer c:=by rw[ho];intro c e;cases e
 unfold EN at he;simp only[ho] at he;generalize o.dst.bind (look σ.sites)=st at he;split at he
 ·rename_i s x t tx hargs aqs;have hx':args= #[s,x]:=by cases args;simp at hargs;subst hargs;rfl
  have ht':ats= #[t,tx]:=by cases ats;simp at aqs;subst aqs;rfl
  subst hx' ht';rw[aD] at he;obtain⟨htt,he⟩:=he;split at he
  ·rename_i u e bytes hel;obtain⟨re,hu,Ts,Wn,rK,hby,hpos⟩:=wU hT hel;obtain⟨i,z,i1,i2,i3,i4,i5⟩:=Uw (V:=view E σ ν O w) Ts;rw[Wn] at i1;rw[rK] at i5 i2;rw[hby] at i3;have hzs:z.cells.size=u.size:=by simpa using Rel.length i5
   have htx:∀(v x:Value),(Builtin.append_ #[t,tx] o.type #[v,x]).run P w=(Builtin.append_ #[t,t] o.type #[v,x]).run P w:=by
    rw[Bool.or_eq_true] at htt;rcases htt with htt |htt
    ·have:=(beq_iff _ _).1 htt;subst this;exact fun _ _=>rfl
    ·obtain⟨⟨u2,e2,b2⟩,as2⟩:=Option.isSome_iff_exists.1 htt;obtain⟨re2,hu2,_⟩:=wU hT as2;exact fun v x=>agb hu i1 hu2 v x
   have Xn:∀(v':Value) (w':World),(Builtin.append_ #[t,t] o.type #[a.eval s,a.eval x]).run P w= .ok v' w'→(execOp a.eval o).run P w= .ok (.value v') w':=fun v' w' hv=>by rw[←htx] at hv;simp[execOp,ho,resolve,invoke,builtin,hv]
   have hs:=h.av hG s;have hx:=h.av hG x;split at he
   ·rename_i q hq;rw[hq] at hs;rw[rJ] at he;obtain⟨row,hrow,he⟩:=he;rw[aD] at he;obtain⟨_,he⟩:=he;obtain⟨ys,he,A,cc,bG,ex,f1,f2,f3,f4⟩:=CG hE h hx he;rw[aD] at he;obtain⟨hc,he⟩:=he;simp only[Bool.and_eq_true,aB,beq_iff] at hc;obtain⟨⟨c1,c2⟩,c3,c4⟩:=hc;have c3':0<u.size:=Nat.le_of_ble_eq_true c3;have c4':=Nat.le_of_ble_eq_true c4;split at he
    ·rename_i d Q6;rw[nY] at he;split at he
     ·rename_i hfree;rw[iL] at he;subst he;obtain⟨zss,hown,hall⟩:=h.row hrow;rw[c1,c2] at hown;obtain⟨v',w',hrun,g1,g2,g3⟩:=Ie (P:=P) 0 t o.type e i z u.size bytes hu i1 i4 i2 i3 hzs c3' hpos (ν (.row q)) row.xs.length zss.flatten hown A ys.length cc bG.flatten (by rw[ie f2,c2]) f1 f3 f4 (PD f2) c4' (Nat.zero_le _);refine cM hd (Xn v' w' (by rw[hs.1,ex];exact hrun)) ?_;simp only[bo,Q6];obtain⟨A1,k1,YU⟩:=qB hown;obtain⟨A2,k2,WB⟩:=qB g1;refine⟨uY ν d v',O,(h.aeK hE (d:=d) (row':=⟨e,row.t,row.xs++ys⟩) hfree ((Grow.of_grownBy g2).mono fun k _ hk=>YQ hrow (by rw[EV YU];exact hk)) (fun k hk=> ?_) (fun hV=> ?_)).slot (x:= .rv (.own d)) ⟨?_, ?_⟩⟩
      ·rw[EV WB] at hk;rcases g3 k hk with h1 |h1
       ·exact .inl (YQ hrow (by rw[EV YU];exact h1))
       ·exact .inr ⟨h1,Ig g1 hk⟩
      ·refine⟨zss++bG, ?_,(hall.mono (Rel.mono hV _)).append (f2.mono (Rel.mono hV _))⟩;rw[List.flatten_append,c2,List.length_append];exact g1
      ·rw[oz]
      ·show (look (put _ _ _) _).isSome=true;rw[aH,if_pos rfl];rfl
     ·cases he
    ·cases he
   ·rename_i hp n hq;rw[hq] at hs;rw[gG] at he;obtain⟨hr,hh,he⟩:=he;rw[cE] at he;obtain⟨l,hl,he⟩:=he;rw[aD] at he;obtain⟨hc,he⟩:=he;simp only[Bool.and_eq_true,beq_iff] at hc;obtain⟨c1,c2⟩:=hc;obtain⟨ys,he,A,cc,bG,ex,f1,f2,f3,f4⟩:=CG hE h hx he;rw[aD] at he;obtain⟨hc,he⟩:=he;simp only[Bool.and_eq_true,aB] at hc;obtain⟨c3,c4⟩:=hc;have c3':0<hr.t.size:=Nat.le_of_ble_eq_true c3;have c4':=Nat.le_of_ble_eq_true c4;obtain⟨hrow,hblk,GK⟩:=h.LW hh hl hs;obtain⟨zss,hown,hall⟩:=hrow;rw[←c1] at hown;dsimp only at hown hall;rw[Ps] at he;rcases he with ⟨hem,he⟩ | ⟨hne,he⟩
    ·have hys:ys=[]:=by cases ys with
      |nil=>rfl
      |cons _ _=>cases hem
     subst hys;rw[iJ] at he;subst he;have hrun:=Sk (P:=P) 0 t o.type e i hr.t.size hu i1 (a.eval s) l.length zss.flatten hown A cc f3;exact cN hE hd h rfl (Xn _ _ (by rw[ex];exact hrun)) hs
    ·obtain⟨v',w',hrun,g1,g2,g3⟩:=Ie (P:=P) 0 t o.type e i z hr.t.size bytes hu i1 i4 (by rw[i2,c2]) i3 (by rw[hzs,c2]) c3' hpos (a.eval s) l.length zss.flatten hown A ys.length cc bG.flatten (ie f2) f1 f3 f4 (PD f2) c4' (Nat.zero_le _);obtain⟨A1,k1,YU⟩:=qB hown;obtain⟨A2,k2,WB⟩:=qB g1;have aqt:0<ys.length:=by cases ys with
      |nil=>cases hne
      |cons _ _=>simp
     obtain⟨us,n',rfl,aN,s1,hv⟩:=PC hE h (n1:=n) (C:=fun k=>dw (a.eval s)=some k) (v0:=v') (w':=w') (l':=l++ys) hh (LR hl) hblk ((Grow.of_grownBy g2).mono fun k _ hk=>by rw[EV YU];exact hk) (fun k hk=>by
       rw[EV WB] at hk;rcases g3 k hk with h1 |h1
       ·exact .inl (hblk k (by rw[EV YU];exact h1))
       ·exact .inr ⟨h1,Ig g1 hk⟩) (by
       rcases g1.2 with ⟨_,e0⟩ | ⟨g,cap,cur,e0,_⟩
       ·omega
       ·exact⟨_,_,_,e0⟩)
      (fun V' hV=>⟨zss++bG,by rw[List.flatten_append, ←c1,List.length_append];exact g1,(hall.mono (Rel.mono hV _)).append (f2.mono (Rel.mono hV _))⟩) he
     exact cM hd (Xn v' w' (by rw[ex];exact hrun)) ⟨aN,O,s1.slot hv⟩
   ·rename_i hq;rw[hq] at hs;have es:a.eval s= .slice none 0 0:=hs;split at he
    ·rename_i hp hhp;rw[gG] at he;obtain⟨hr,hh,he⟩:=he;rw[aD] at he;obtain⟨hc,he⟩:=he;simp only[Bool.and_eq_true,beq_iff] at hc;obtain⟨c1,c2⟩:=hc;obtain⟨ys,he,A,cc,bG,ex,f1,f2,f3,f4⟩:=CG hE h hx he;rw[aD] at he;obtain⟨hc,he⟩:=he;simp only[Bool.and_eq_true,aB] at hc;obtain⟨c3,c4⟩:=hc;have c3':0<hr.t.size:=Nat.le_of_ble_eq_true c3;have c4':=Nat.le_of_ble_eq_true c4;rw[Ps] at he;rcases he with ⟨hem,he⟩ | ⟨hne,he⟩
     ·have hys:ys=[]:=by cases ys with
       |nil=>rfl
       |cons _ _=>cases hem
      subst hys;rw[iJ] at he;subst he;have hrun:=Sk (P:=P) 0 t o.type e i hr.t.size hu i1 (.slice none 0 0) 0 [] (World.ownsRow_nil w 0 e hr.t.size) A cc f3;exact cN hE hd h rfl (Xn _ _ (by rw[es,ex];exact hrun)) rfl
     ·obtain⟨v',w',hrun,g1,g2,g3⟩:=Ie (P:=P) 0 t o.type e i z hr.t.size bytes hu i1 i4 (by rw[i2,c2]) i3 (by rw[hzs,c2]) c3' hpos (.slice none 0 0) 0 [] (World.ownsRow_nil w 0 e hr.t.size) A ys.length cc bG.flatten (ie f2) f1 f3 f4 (PD f2) c4' (Nat.zero_le _);obtain⟨A2,k2,WB⟩:=qB g1;have aqt:0<ys.length:=by cases ys with
       |nil=>cases hne
       |cons _ _=>simp
      obtain⟨us,n',rfl,aN,s1,hv⟩:=PC hE h (n1:=0) (C:=fun _=>False) (v0:=v') (w':=w') (l':=ys) hh (Nat.zero_le _) (fun _ hk=>hk.elim) ((Grow.of_grownBy g2).mono fun k _ hk=>by cases hk) (fun k hk=>by
        rw[EV WB] at hk;rcases g3 k hk with h1 |h1
        ·cases h1
        ·exact .inr ⟨h1,Ig g1 hk⟩) (by
        rcases g1.2 with ⟨_,e0⟩ | ⟨g,cap,cur,e0,_⟩
        ·omega
        ·exact⟨_,_,_,e0⟩)
       (fun V' hV=>⟨bG,by rw[←c1];simpa using g1,f2.mono (Rel.mono hV _)⟩) he
      exact cM hd (Xn v' w' (by rw[es,ex];exact hrun)) ⟨aN,O,s1.slot hv⟩
    ·obtain⟨ys,he,A,cc,bG,ex,f1,f2,f3,f4⟩:=CG hE h hx he;rw[aD] at he;obtain⟨hc,he⟩:=he;simp only[Bool.and_eq_true,aB] at hc;obtain⟨c3,c4⟩:=hc;have c3':0<u.size:=Nat.le_of_ble_eq_true c3;have c4':=Nat.le_of_ble_eq_true c4;obtain⟨v',w',hrun,g1,g2,g3⟩:=Ie (P:=P) 0 t o.type e i z u.size bytes hu i1 i4 i2 i3 hzs c3' hpos (.slice none 0 0) 0 [] (World.ownsRow_nil w 0 e u.size) A ys.length cc bG.flatten (ie f2) f1 f3 f4 (PD f2) c4' (Nat.zero_le _);obtain⟨A2,k2,WB⟩:=qB g1;have as4:Below w.heap.size w w':=(((Grow.of_grownBy g2).mono fun k _ hk=>by cases hk):Grow (fun _=>False) w w').below;obtain⟨q,us,rfl,aN,s1,hv⟩:=YV hE h (v':=v') (w':=w') as4 (fun k hk=>by
       rw[EV WB] at hk;rcases g3 k hk with h1 |h1
       ·cases h1
       ·exact⟨h1,Ig g1 hk⟩) (fun V' hV=>⟨bG,by simpa using g1,f2.mono (Rel.mono hV _)⟩) he
     exact cM hd (Xn v' w' (by rw[es,ex];exact hrun)) ⟨aN,O,s1.slot (x:= .rv (.own q)) hv⟩
   ·cases he
  ·cases he
 ·cases he
end
section
variable {P:Program}{T:dc}{E:Env}{σ ah:AS}{a:Act}{w w':World}{ν aN:Nm→Value}{O:Nat→Prop}{Φ:cj T}{V:View}{Y:Value}
theorem UB (hT:jO P T.rows){o:Oper}{t:TypeId}{x hi:Operand}(ho:o.op= .slice t x none (some hi) none){u:Ty}{e:TypeId}{bytes:Nat}(hel:iK T.rows t=some (u,e,bytes)){A:Option Addr}{len cap:Nat}{k:IntKind}{n:Int}
  (ex:a.eval x= .slice A len cap) (en:a.eval hi= .int k n) (h0:0≤n) (h1:n≤len) (hlen:len≤cap) (hn:A=none→cap=0):(execOp a.eval o).run P w= .ok (.value (.slice A n.toNat cap)) w:=by
 obtain⟨re,hu,Ts,Wn,rK,hby,hpos⟩:=wU hT hel;have hsz:(sizeOf e).run P w= .ok u.size w:=by rw[←Wn, ←rK];exact C2 Ts w
 have hb:=fun code=>vK (P:=P) (w:=w) (y:=cap) (code:=code) en h0 (by omega);have hA:(if cap=0 then A else A.map (·.add (0*u.size)))=A:=by
  split
  ·rfl
  ·cases A with
   |none=>rfl
   |some ad=>simp[Addr.add]
 have hb':(Instr.sliceBounds true len cap none (some (a.eval hi)) none).run P w= .ok (0,n.toNat,cap) w:=by simp[Instr.sliceBounds,hb]
 have hs:(Instr.slice t (.slice A len cap) none (some (a.eval hi)) none).run P w= .ok (.slice A n.toNat cap) w:=by simp only[Instr.slice,Sem.run_bind,run_underlying hu,Result.andThen_ok,hb',hsz,Sem.run_pure,hA,Nat.sub_zero]
 simp only[execOp,ho,Instr.sliceAt,Sem.run_bind,run_underlying hu,Result.andThen_ok,ex,Option.map_none,Option.map_some,hs,Sem.run_pure]
theorem aaP {A:Option Addr}{cap:Nat}{row:Row}(h:ki V w (.slice A row.xs.length cap) row){n:Nat}(hn:n≤row.xs.length):ki V w (.slice A n cap) ⟨row.e,row.t,row.xs.take n⟩:=by
 obtain⟨bG,⟨e1,e2⟩,hall⟩:=h;have hft:=HV n hall;have QQ:=ie hall;have hmul:n*row.t.size≤row.xs.length*row.t.size:=Nat.mul_le_mul_right _ hn;have hln:(row.xs.take n).length=n:=by rw[List.length_take];omega
 refine⟨bG.take n, ?_,hall.take _⟩;show w.ownsRow 0 row.e row.t.size _ (row.xs.take n).length _;rw[hln,hft];refine⟨by rw[List.length_take,QQ];omega, ?_⟩;rcases e2 with ⟨e2,e3⟩ | ⟨g,cap',cur,e2,f1,f2,f3,f4,f5,f6⟩
 ·injection e2 with e4 e5 e6
  left;have:n=0:=by omega
  rw[this,e4,e6];exact⟨rfl,rfl⟩
 ·injection e2 with e4 e5 e6
  subst e4 e6;exact .inr ⟨g,cap,cur,rfl,f1,f2,by omega,f4,f5,by rw[←f6,List.take_take,Nat.min_eq_left hmul]⟩
theorem WC {q:Nat}{row:Row}(hq:look σ.rows q=some row)(d:Int)(x:Option Operand):jM (σ.freeze q).av d x=jM σ.av d x:=by
 cases x with
 |none=>rfl
 |some x=>
  simp only[jM];rw[LV hq];cases σ.av x with
  |rv x=>cases x with
   |own k=>simp only[AV.uX,RV.uX];cases Nat.beq k q<;>rfl
   |_=>rfl
  |Pj k sz i off=>simp only[AV.uX];cases Nat.beq k q<;>rfl
  |_=>rfl
theorem YX {rows:List gZ}{av Rb:Operand→AV}(h:∀d x,jM av d x=jM Rb d x)(t:TypeId)(x:AV)(lo hi mx:Option Operand):wP (T:=T) rows av t x lo hi mx=wP rows Rb t x lo hi mx:=by unfold wP;simp only[h]
theorem aiV (hE:aI E)(hG:NX E)(hT:jO P T.rows)(h:St E σ a w ν O){o:Oper}{r:cP}{t:TypeId}{x:Operand}{lo hi mx:Option Operand}(ho:o.op= .slice t x lo hi mx)
  (he:(EN T σ.av σ.sites o).val Φ σ=some r):mv P o a w (To E (bo σ o.dst r)):=by
 have hd:∀c,o.op≠ .defer c:=by rw[ho];intro c e;cases e
 have hx:=h.av hG x;unfold EN at he;simp only[ho] at he;split at he
 ·rename_i q hq;rw[hq] at hx;split at he
  ·rename_i hi';split at he
   ·rename_i u e bytes k n hel hn;rw[rJ] at he;obtain⟨row,hrow,he⟩:=he;rw[aD] at he;obtain⟨hc,he⟩:=he;rw[Bool.and_eq_true] at hc;obtain⟨c1,c2,c3⟩:=zg.1 hc.2;split at he
    ·rename_i d Q6;rw[nY] at he;split at he
     ·rename_i hfree;rw[iL] at he;subst he;have en:=h.av hG hi';rw[hn] at en;have cS:=h.row hrow;obtain⟨A,cap,er,hlen,hnone,_⟩:=ER cS;have hrun:=UB (P:=P) (w:=w) hT ho hel (by rw[hx.1,er]) (zd en rfl) c2 c3 hlen hnone;refine cM hd hrun ?_;simp only[bo,Q6];refine⟨uY ν d (.slice A n.toNat cap),O,(h.aeK hE (w':=w) (d:=d) (row':=⟨row.e,row.t,row.xs.take n.toNat⟩) hfree (Grow.refl _ _) (fun k hk=> .inl (YQ hrow ?_)) (fun hV=> ?_)).slot (x:= .rv (.own d)) ⟨?_, ?_⟩⟩
      ·rw[er];cases A<;>exact hk
      ·rw[er] at cS;exact ki.mono hV (fun _ _=>rfl) (aaP cS (by omega))
      ·rw[oz]
      ·show (look (put _ _ _) _).isSome=true;rw[aH,if_pos rfl];rfl
     ·cases he
    ·cases he
   ·cases he
  ·rw[rJ] at he;obtain⟨row,hrow,he⟩:=he;rw[nY,TQ] at he;obtain⟨y,he,rfl⟩:=he;have s1:=h.freeze hE q;have hx1:=s1.av hG x;rw[LV hrow,hq] at hx1;simp only[AV.uX,RV.uX,beq_refl,cond_true] at hx1;rw[YX (Rb:=(σ.freeze q).av) (fun d x=>(WC hrow d x).symm)] at he;obtain⟨e1,v,h2,h3⟩:=Ur (P:=P) (w:=w) hT (s1.av hG) hx1 he;exact cM hd (v:=v) (by simp[execOp,ho,h2]) ⟨ν,O,s1.slot h3⟩
 ·rename_i i n hq;rw[hq] at hx;split at he
  ·rename_i y;split at he
   ·rename_i ue k m hel hm;obtain⟨u,e,bytes⟩:=ue;rw[gG] at he;obtain⟨hr,hh,he⟩:=he;rw[cE] at he;obtain⟨l,hl,he⟩:=he;rw[aD,Ps] at he;obtain⟨hc,he⟩:=he;obtain⟨_,c2,c3⟩:=zg.1 hc;have en:=h.av hG y;rw[hm] at en;obtain⟨cS,hblk,GK⟩:=h.LW hh hl hx;obtain⟨A,cap,er,hlen,hnone,_⟩:=ER cS;dsimp only at er hlen;have hrun:=UB (P:=P) (w:=w) hT ho hel er (zd en rfl) c2 c3 hlen hnone;rcases he with ⟨h0,he⟩ | ⟨h0,he⟩
    ·have:=(beq_iff _ _).1 h0;subst this;rw[iJ] at he;subst he;rcases GK with ⟨_,hv,hl0⟩ | ⟨h1,_⟩
     ·rw[er] at hv;injection hv with v1 v2 v3
      subst v1 v3;subst hl0;have:m.toNat=0:=by simp at c3;omega
      rw[this] at hrun;exact cN hE hd h rfl hrun rfl
     ·omega
    ·have hn0:=tB.1 h0;rcases GK with ⟨h1,_⟩ | ⟨h1,hk,hv⟩
     ·exact absurd h1 hn0
     ·have hhv:=h.nn i hr n hh h1 (LR hl);rw[hk, ←hv,er] at hhv;rcases hhv with ⟨_,g,n',c',e9⟩ | ⟨e9,_⟩
      ·injection e9 with v1 v2 v3
       subst v1;have hb:dw (.slice (some ⟨g,0,none⟩) m.toNat cap)=dw (a.eval x):=by rw[er];rfl
       rw[er] at cS;obtain⟨us,n2,rfl,aN,s1,WB⟩:=PC hE h (n1:=n) (C:=fun _=>False) (v0:= .slice (some ⟨g,0,none⟩) m.toNat cap) (w':=w) (l':=l.take m.toNat) hh (LR hl) (fun _ hk=>hk.elim) (Grow.refl _ _) (fun k hk=> .inl (hblk k (by rw[←hb];exact hk))) ⟨_,_,_,rfl⟩
        (fun V' hV=>ki.mono hV (fun _ _=>rfl) (aaP cS (by dsimp only;omega))) he
       exact cM hd hrun ⟨aN,O,s1.slot WB⟩
      ·cases e9
   ·cases he
  ·cases he
 ·obtain⟨e1,v,h2,h3⟩:=Ur (P:=P) (w:=w) hT (h.av hG) hx he;exact cN hE hd h e1 (v:=v) (by simp[execOp,ho,h2]) h3
end
theorem Rel.tr {hs:List Nat}{V V':View}(hc:∀(a:Addr) v,V (.cell a) v→V' (.cell a) v)(hr:∀h,hs.any (Nat.beq h)=true→∀n v,V (.ref h n) v→V' (.ref h n) v):
  ∀(t:Ty) (x:t.den) (cs:List Value),fw hs t=true→Rel V t x cs→Rel V' t x cs
 | .int k,x,cs,_,h=>h
 | .bool,x,cs,_,h=>h
 | .str,x,cs,_,h=>h
 | .slice t,xs,cs,hi,⟨A,c,bG,h1,h2,h3,h5,h4⟩=>⟨A,c,bG,h1,h2,h3.mono (fun x y=>Rel.tr hc hr t x y hi),h5,fun j u hj=>let ⟨ad,e,hv⟩:=h4 j u hj;⟨ad,e,hc _ _ hv⟩⟩
 | .unit,_,cs,_,h=>h
 | .pair a b,x,cs,hi,⟨c1,c2,e,h1,h2⟩=>by simp only[fw,Bool.and_eq_true] at hi;exact⟨c1,c2,e,Rel.tr hc hr a _ _ hi.1 h1,Rel.tr hc hr b _ _ hi.2 h2⟩
 | .st t,x,cs,hi,h=>Rel.tr hc hr t x cs hi h
 | .ref _,0,_,_,h=>h
 | .ref k,_+1,_,hi,⟨v,e,hs,hv⟩=>⟨v,e,hs,hr k hi _ _ hv⟩
 | .ptr _,0,_,_,h=>h
 | .ptr k,_+1,_,hi,⟨v,e,hs,hv⟩=>⟨v,e,hs,hr k hi _ _ hv⟩
 | .mp _,0,_,_,h=>h
 | .mp k,_+1,_,hi,⟨v,e,hs,hv⟩=>⟨v,e,hs,hr k hi _ _ hv⟩
 | .fn,_,_,_,h=>h
 | .qG t,none,cs,_,h=>h
 | .qG t,some xs,cs,hi,⟨ad,c,bG,h1,h2,h3,h4⟩=>⟨ad,c,bG,h1,h2,h3.mono (fun x y=>Rel.tr hc hr t x y hi),fun j u hj=>hc _ _ (h4 j u hj)⟩
theorem Rel.trN {V V':View}(hr:∀h n v,V (.ref h n) v→V' (.ref h n) v):
  ∀(t:Ty) (x:t.den) (cs:List Value),F1 t=true→Rel V t x cs→Rel V' t x cs
 | .int k,x,cs,_,h=>h
 | .bool,x,cs,_,h=>h
 | .str,x,cs,_,h=>h
 | .slice t,xs,cs,hi,_=>by cases hi
 | .unit,_,cs,_,h=>h
 | .pair a b,x,cs,hi,⟨c1,c2,e,h1,h2⟩=>by simp only[F1,Bool.and_eq_true] at hi;exact⟨c1,c2,e,Rel.trN hr a _ _ hi.1 h1,Rel.trN hr b _ _ hi.2 h2⟩
 | .st t,x,cs,hi,h=>Rel.trN hr t x cs hi h
 | .ref _,0,_,_,h=>h
 | .ref k,_+1,_,hi,⟨v,e,hs,hv⟩=>⟨v,e,hs,hr _ _ _ hv⟩
 | .ptr _,0,_,_,h=>h
 | .ptr k,_+1,_,hi,⟨v,e,hs,hv⟩=>⟨v,e,hs,hr _ _ _ hv⟩
 | .mp _,0,_,_,h=>h
 | .mp k,_+1,_,hi,⟨v,e,hs,hv⟩=>⟨v,e,hs,hr _ _ _ hv⟩
 | .fn,_,_,_,h=>h
 | .qG t,_,cs,hi,_=>by cases hi
theorem yr.Rc {V:View}{t:Ty}{x:t.den}{v:Value}(h:∀u,t≠ .st u)(hr:Rel V t x [v]):yr V t x v:=by
 cases t with
 |st u=>exact absurd rfl (h u)
 |_=>exact hr
theorem yr.tr {hs:List Nat}{V V':View}(hc:∀(a:Addr) v,V (.cell a) v→V' (.cell a) v)(hr:∀h,hs.any (Nat.beq h)=true→∀n v,V (.ref h n) v→V' (.ref h n) v){t:Ty}{x:t.den}{v:Value}(hi:fw hs t=true)(h:yr V t x v):yr V' t x v:=by
 cases t with
 |st t=>obtain⟨cs,h1,h2⟩:=h;exact⟨cs,h1,Rel.tr hc hr _ _ _ hi h2⟩
 |_=>exact Rel.tr hc hr _ _ _ hi h
def EW (V:View):(ts:List Ty)→tw ts→List Value→Prop
 | [],_,vs=>vs=[]
 | [t],x,vs=>∃v,vs=[v]∧rW V (flat t x) v
 |t::u::ts,x,vs=>∃v r,vs=v::r∧rW V (flat t x.1) v∧EW V (u::ts) x.2 r
def ArgRel (V:View):(p:ph)→p.den→Value→Prop
 | .v t,x,v=>yr V t x v
 | .fn f ts,x,v=>∃vs:List Value,v= .func (.func f) #[] vs.toArray∧EW V ts x vs
 | .c cs,_,v=>∃vs:List Value,v= .agg vs.toArray∧aF (cg V) cs vs
 | .rp t,x,v=>rW V (flat t x) v
 | .bx _,_,_=>False
 | .Na,_,_=>False
def nZ (V:View):(ps:List ph)→HN ps→List Value→Prop
 | [],_,vs=>vs=[]
 | [p],x,vs=>∃v,vs=[v]∧ArgRel V p x v
 |p::q::ps,x,vs=>∃v r,vs=v::r∧ArgRel V p x.1 v∧nZ V (q::ps) x.2 r
section heaps
variable {T:dc}{σ:AS}{Φ:cj T}
theorem Az (wr:List Nat):∀(hs:List Nat) (x:FZ T hs) (af:List aQ),(rR T wr hs x af).length=af.length
 | [],_,af=>rfl
 | [h],x,af=>by simp[rR,uh]
 |h::i::r,x,af=>by simp only[rR];rw[Az wr (i::r)];simp[uh]
theorem lb (wr:List Nat):∀(hs:List Nat) (x:FZ T hs) (af:List aQ) (k:Nat),k∉hs→(rR T wr hs x af)[k]? =af[k]?
 | [],_,af,k,_=>rfl
 | [h],x,af,k,hk=>by simp only[rR,uh];rw[List.getElem?_set_ne (by simp at hk;omega)]
 |h::i::r,x,af,k,hk=>by simp only[List.mem_cons,not_or] at hk;simp only[rR];rw[lb wr (i::r) _ _ k (by simp only[List.mem_cons,not_or];exact hk.2)];simp only[uh];rw[List.getElem?_set_ne (by omega)]
theorem Xo (e:TypeId)(k:Nat)(w:Bool){s t:Ty}(h:s=t)(xs:List (Option (List s.den))):(⟨e,t,k,w,Sd h xs⟩:aQ)=⟨e,s,k,w,xs⟩:=by subst h;rfl
theorem aaQ {w:Bool}{af:List aQ}{h:Nat}{hr:aQ}(e1:hr.e=(T.ht h).e)(e2:hr.k=(T.ht h).k)(e3:hr.t=(T.ht h).t):uh T w af h (Sd e3 hr.xs)=af.set h ⟨hr.e,hr.t,hr.k,w,hr.xs⟩:=by unfold uh;rw[Xo, ←e1, ←e2]
def aqu (T:dc)(σ:AS)(wr:List Nat)(put:List aQ→List aQ)(h:Nat):Prop:=∃hr:aQ,σ.af[h]? =some hr∧(wr.any (Nat.beq h)=true→hr.w=true)∧hr.e=(T.ht h).e∧hr.k=(T.ht h).k∧hr.t=(T.ht h).t∧
 ∀UC:List aQ,h<UC.length→(put UC)[h]? =some ⟨hr.e,hr.t,hr.k,wr.any (Nat.beq h),hr.xs⟩
theorem Xp (wr:List Nat):∀(hs:List Nat) (k:FZ T hs→Q T cP) (r:cP),(Ua T wr hs k).val Φ σ=some r→∃x,(k x).val Φ σ=some r∧∀h∈hs,aqu T σ wr (rR T wr hs x) h
 | [],k,r,h=>⟨(),h,fun h hh=>by simp at hh⟩
 | [h],k,r,he=>by
   simp only[Ua] at he;rw[gG] at he;obtain⟨hr,hh,he⟩:=he;rw[aD] at he;obtain⟨hc,he⟩:=he;simp only[Bool.and_eq_true,beq_iff,Bool.or_eq_true,Bool.not_eq_true'] at hc;obtain⟨⟨hw,e1⟩,e2⟩:=hc;split at he
   ·rename_i e3;refine⟨_,he,fun h' hm=> ?_⟩;simp only[List.mem_singleton] at hm;subst hm;refine⟨hr,hh,fun ha=> ?_,e1,e2,e3,fun UC hlt=> ?_⟩
    ·rcases hw with hw |hw
     ·exact hw
     ·rw[ha] at hw;cases hw
    ·simp only[rR];rw[aaQ e1 e2 e3,List.getElem?_set_self hlt]
   ·cases he
 |h::i::rs,k,r,he=>by
  simp only[Ua] at he;rw[gG] at he;obtain⟨hr,hh,he⟩:=he;rw[aD] at he;obtain⟨hc,he⟩:=he;simp only[Bool.and_eq_true,beq_iff,Bool.or_eq_true,Bool.not_eq_true'] at hc;obtain⟨⟨hw,e1⟩,e2⟩:=hc;split at he
  ·rename_i e3;obtain⟨x,hx,Uv⟩:=Xp wr (i::rs) _ r he;refine⟨_,hx,fun h' hm=> ?_⟩;by_cases hm2:h'∈i::rs
   ·obtain⟨hr',g1,g2,g3,g4,g5,g6⟩:=Uv h' hm2;refine⟨hr',g1,g2,g3,g4,g5,fun UC hlt=> ?_⟩;simp only[rR];exact g6 _ (by simpa [uh] using hlt)
   ·have:h'=h:=by
     rcases List.mem_cons.1 hm with e |e
     ·exact e
     ·exact absurd e hm2
    subst this;refine⟨hr,hh,fun ha=> ?_,e1,e2,e3,fun UC hlt=> ?_⟩
    ·rcases hw with hw |hw
     ·exact hw
     ·rw[ha] at hw;cases hw
    ·simp only[rR];rw[lb wr (i::rs) _ _ h' hm2,aaQ e1 e2 e3,List.getElem?_set_self hlt]
  ·cases he
theorem zh (h:Nat)(hr:aQ)(e:(c8 T)[h]? =some hr):hr.xs=[]:=by unfold c8 at e;rw[List.getElem?_map,Option.map_eq_some_iff] at e;obtain⟨g,_,rfl⟩:=e;rfl
theorem rY:(c8 T).length=T.af.length:=by simp[c8]
end heaps
open Go.RowKit Go.Lib
section
variable {P:Program}{T:dc}{E:Env}{σ ah:AS}{a:Act}{w w':World}{ν aN:Nm→Value}{O:Nat→Prop}{Φ:cj T}{V V':View}{Y:Value}{af:List aQ}{hs:List Nat}
def Src (V V':View)(t:Ty)(l:List t.den)(v:Value):Prop:=∃(A:Option Addr) (c:Nat) (bG:List (List Value)),v= .slice A l.length c∧l.length≤c∧aF (Rel V t) l bG∧(A=none→c=0)∧
 ∀j u,bG.flatten[j]? =some u→∃ad,A=some ad∧V' (.cell (ad.add j)) u
theorem Sl {α β γ:Type}{R:α→γ→Prop}{S:β→γ→Prop}{f:α→Option β}(hf:∀x y c,f x=some y→R x c→S y c):∀{xs:List α} {ys:List β} {cs:List γ},mO f xs=some ys→aF R xs cs→aF S ys cs
 | [],ys,[],h,_=>by simp only[mO,Option.some.injEq] at h;subst h;trivial
 |x::xs,ys,c::cs,h,hr=>by
  simp only[mO] at h;split at h
  ·rename_i y hy;split at h
   ·rename_i l hl;simp only[Option.some.injEq] at h;subst h;exact⟨hf _ _ _ hy hr.1,Sl hf hl hr.2⟩
   ·cases h
  ·cases h
 | [],ys,_::_,_,hr=>hr.elim
 |_::_,ys,[],_,hr=>hr.elim
theorem Src.tr {t:Ty}{l:List t.den}{v:Value}(hc:∀(a:Addr) v,V (.cell a) v→V' (.cell a) v)(hr:∀h,hs.any (Nat.beq h)=true→∀n v,V (.ref h n) v→V' (.ref h n) v)(hi:fw hs t=true)(h:Src V V' t l v):cg V' ⟨.slice t,l⟩ v:=by obtain⟨A,c,bG,h1,h2,h3,h4,h5⟩:=h;exact⟨A,c,bG,by rw[h1],h2,h3.mono (fun x y=>Rel.tr hc hr t x y hi),h4,h5⟩
theorem Km (hc:∀(a:Addr) v,V (.cell a) v→V' (.cell a) v)(hr:∀h,hs.any (Nat.beq h)=true→∀n v,V (.ref h n) v→V' (.ref h n) v)
  (hsrc:∀(i n:Nat) (hr:aQ) (l:List hr.t.den) (v:Value),af[i]? =some hr→ag hr.xs n=some l→cg V ⟨.ref i,n⟩ v→Src V V' hr.t l v):
  ∀{t:Ty} {l:List CV} {x:t.den} {r:List CV} {vs:List Value},fw hs t=true→snap af t l=some (x,r)→aF (cg V) l vs→∃v1 v2,vs=v1++v2∧Rel V' t x v1∧aF (cg V) r v2
 | .unit,l,x,r,vs,_,h,hl=>by simp only[snap,Option.some.injEq,Prod.mk.injEq] at h;obtain⟨_,rfl⟩:=h;exact⟨[],vs,rfl,rfl,hl⟩
 | .pair a b,l,x,r,vs,hi,h,hl=>by
   simp only[fw,Bool.and_eq_true] at hi;simp only[snap] at h;split at h
   ·rename_i y l' h1;split at h
    ·rename_i z l'' h2;simp only[Option.some.injEq,Prod.mk.injEq] at h;obtain⟨rfl,rfl⟩:=h;obtain⟨v1,v2,rfl,r1,r2⟩:=Km hc hr hsrc hi.1 h1 hl;obtain⟨v3,v4,rfl,r3,r4⟩:=Km hc hr hsrc hi.2 h2 r2;exact⟨v1++v3,v4,by rw[List.append_assoc],⟨v1,v3,rfl,r1,r3⟩,r4⟩
    ·cases h
   ·cases h
 | .st t,l,x,r,vs,hi,h,hl=>Km (t:=t) hc hr hsrc hi h hl
 | .slice t,l,x,r,vs,hi,h,hl=>by
   have hi':fw hs t=true:=hi;simp only[snap] at h;unfold HO at h;split at h
   ·rename_i i n l';cases vs with
    |nil=>exact hl.elim
    |cons v vs=>
     cases hb:Nat.beq n 0 with
     |true=>rw[hb,cond_true] at h;simp only[Option.some.injEq,Prod.mk.injEq] at h;obtain⟨rfl,rfl⟩:=h;have:=(beq_iff _ _).1 hb;subst this;exact⟨[v],vs,rfl,Xh hl.1,hl.2⟩
     |false=>
     rw[hb,cond_false] at h;split at h
     ·rename_i hr0 hh;simp only[Option.bind_eq_some_iff,Option.some.injEq,Prod.mk.injEq] at h;obtain⟨ys,hys,xs,hxs,rfl,rfl⟩:=h;obtain⟨A,c,bG,e1,e2,e3,e4,e5⟩:=hsrc i n hr0 ys v hh hys hl.1;have hall:aF (Rel V' t) xs bG:=Sl (R:=Rel V hr0.t) (fun y z cs hy cS=>by
       split at hy
       ·rename_i x' hsn;simp only[Option.some.injEq] at hy;subst hy;obtain⟨v1,v2,rfl,h1,h2⟩:=Km hc hr hsrc hi' hsn (jK cS);cases v2 with
        |nil=>simpa using h1
        |cons _ _=>exact h2.elim
       ·cases hy) hxs e3
      have hlen:xs.length=ys.length:=by rw[hall.length,e3.length]
      exact⟨[v],vs,rfl,⟨A,c,bG,by rw[e1,hlen],by rw[hlen];exact e2,hall,e4,e5⟩,hl.2⟩
     ·cases h
   ·rename_i t' o l';cases vs with
    |nil=>exact hl.elim
    |cons v vs=>
     simp only[Option.map_eq_some_iff,Prod.mk.injEq] at h;obtain⟨⟨y,r'⟩,h1,h2,h3⟩:=h;simp only at h2 h3;subst h2 h3;have he:=cq h1;simp only[List.cons.injEq] at he;have h4:cg V ⟨.slice t',lst o⟩ v:=Uk hl.1;rw[he.1] at h4;exact⟨[v],vs,rfl,Rel.tr hc hr _ _ _ hi h4,by
      have:=he.2;subst this;exact hl.2⟩
   ·rw[cq h] at hl;cases vs with
    |nil=>exact hl.elim
    |cons v vs=>exact⟨[v],vs,rfl,Rel.tr hc hr _ _ _ hi hl.1,hl.2⟩
 | .qG t,l,x,r,vs,hi,h,hl=>by
   simp only[snap] at h;unfold YA at h;split at h
   ·rename_i t' xs l';cases vs with
    |nil=>exact hl.elim
    |cons v vs=>
     cases xs with
     |nil=>cases h
     |cons x0 xs=>
      simp only[Option.map_eq_some_iff,Prod.mk.injEq] at h;obtain⟨⟨y,r'⟩,h1,h2,h3⟩:=h;simp only at h2 h3;subst h2 h3;have he:=cq h1;simp only[List.cons.injEq] at he;obtain⟨A,c,bG,e1,e2,e3,e4,e5⟩:=rX hl.1;have h4:cg V ⟨.qG t',(some (x0::xs):Option (List t'.den))⟩ v:=by
       cases A with
       |none=>have:=e4 rfl;simp at e2;omega
       |some ad=>
        refine⟨ad,c,bG,by rw[e1],e2,e3,fun j u hj=> ?_⟩;obtain⟨Q3,h5,h6⟩:=e5 j u hj;obtain rfl:ad=Q3:=by simpa using h5
        exact h6
      rw[he.1] at h4;exact⟨[v],vs,rfl,Rel.tr hc hr _ _ _ hi h4,by
       have:=he.2;subst this;exact hl.2⟩
   ·rw[cq h] at hl;cases vs with
    |nil=>exact hl.elim
    |cons v vs=>exact⟨[v],vs,rfl,Rel.tr hc hr _ _ _ hi hl.1,hl.2⟩
 | .int k,l,x,r,vs,hi,h,hl=>leaf hi h hl
 | .bool,l,x,r,vs,hi,h,hl=>leaf hi h hl
 | .str,l,x,r,vs,hi,h,hl=>leaf hi h hl
 | .ref k,l,x,r,vs,hi,h,hl=>by
   simp only[snap] at h;unfold YB at h;split at h
   ·rename_i h' n l';cases hc:Nat.beq k h' with
    |true=>rw[hc,cond_true] at h;exact leaf hi h hl
    |false=>
    rw[hc,cond_false] at h;cases hb:Nat.beq n 0 with
    |false=>rw[hb] at h;cases h
    |true=>
     rw[hb] at h;have e1:some ((0:Nat),l')=some (x,r):=h;simp only[Option.some.injEq,Prod.mk.injEq] at e1;obtain⟨rfl,rfl⟩:=e1;obtain rfl:n=0:=Nat.eq_of_beq_eq_true hb;cases vs with
     |nil=>exact hl.elim
     |cons v vs=>exact⟨[v],vs,rfl,(show [v]=[Value.slice none 0 0] from hl.1),hl.2⟩
   ·exact leaf hi h hl
 | .ptr k,l,x,r,vs,hi,h,hl=>leaf hi h hl
 | .mp k,l,x,r,vs,hi,h,hl=>leaf hi h hl
 | .fn,l,x,r,vs,hi,h,hl=>leaf hi h hl
where
 leaf {t:Ty} {l:List CV} {x:t.den} {r:List CV} {vs:List Value} (hi:fw hs t=true) (h:dv t l=some (x,r)) (hl:aF (cg V) l vs):∃v1 v2,vs=v1++v2∧Rel V' t x v1∧aF (cg V) r v2:=by
  rw[cq h] at hl;cases vs with
  |nil=>exact hl.elim
  |cons v vs=>exact⟨[v],vs,rfl,Rel.tr hc hr _ _ _ hi hl.1,hl.2⟩
theorem LZ (hc:∀(a:Addr) v,V (.cell a) v→V' (.cell a) v)(hr:∀h,hs.any (Nat.beq h)=true→∀n v,V (.ref h n) v→V' (.ref h n) v)
  (hsrc:∀(i n:Nat) (hr:aQ) (l:List hr.t.den) (v:Value),af[i]? =some hr→ag hr.xs n=some l→cg V ⟨.ref i,n⟩ v→Src V V' hr.t l v)
  {t:Ty} {av:AV} {x:t.den} {v:Value} (hi:fw hs t=true) (h:typed af t av=some x) (ha:ak V σ ν Y av v):yr V' t x v:=by
 have s1:∀{t:Ty} {l:List CV} {x:t.den} {vs:List Value},fw hs t=true→wO af t l=some x→aF (cg V) l vs→Rel V' t x vs:=fun {t l x vs} hi h hl=>by
  unfold wO at h;split at h
  ·rename_i y h1;simp only[Option.some.injEq] at h;subst h;obtain⟨v1,v2,rfl,h2,h3⟩:=Km hc hr hsrc hi h1 hl;cases v2 with
   |nil=>simpa using h2
   |cons _ _=>exact h3.elim
  ·cases h
 unfold typed at h;split at h
 ·rename_i cs;obtain⟨vs,h1,h2⟩:=ha;exact⟨vs,h1,s1 hi h h2⟩
 ·rename_i t vs;split at h
  ·rename_i cs hl;obtain⟨l1,h1,h2⟩:=jP (V:=V') hl;refine⟨vs.toList, ?_,jL ?_⟩
   ·have:v= .agg vs:=ha;simpa using this
   ·rw[←rT h,h1,List.append_nil];exact h2
  ·cases h
 ·cases h
 ·rename_i c hn;exact yr.Rc (fun u e=>by subst e;exact hn u rfl) (s1 hi h (vs:=[v]) ⟨ha,trivial⟩)
 ·rename_i v' hn1 hn2;split at h
  ·rename_i c hl;obtain⟨l1,h1,h2⟩:=jP (V:=V') hl;have h3:v=v':=ha;rw[List.append_nil] at h1;subst h1;subst h3;have:=ES h;subst this;exact yr.Rc (fun u e=>by subst e;exact hn2 u rfl) h2.1
  ·cases h
 ·cases h
end
open Go.RowKit Go.Lib
def XOf (σ:AS)(ν:Nm→Value)(hout:List Nat)(k:Nat):Prop:=∃i n,hout.any (Nat.beq i)=true∧Own σ ν (.hp i n) k
theorem zi (ad:Addr)(j:Nat):(ad.add j).block=ad.block:=by unfold Addr.add;split<;>rfl
section
variable {P:Program}{T:dc}{E:Env}{σ ah:AS}{a:Act}{w w':World}{ν aN:Nm→Value}{O:Nat→Prop}{Φ:cj T}{V V':View}{Y:Value}{hs hout:List Nat}
structure WD (V V':View) (σ:AS) (ν:Nm→Value) (w:World) (hin hout:List Nat) (dY:Bool):Prop where
 cell:∀(a:Addr) v,V (.cell a) v→V' (.cell a) v
 ref:∀h,hin.any (Nat.beq h)=true→∀n v,V (.ref h n) v→V' (.ref h n) v
 all:dY=true→∀(ad:Addr) u,w.cell? ad=some u→¬XOf σ ν hout ad.block→V' (.cell ad) u
theorem WD.src {dY:Bool}(hl:WD V V' σ ν w hs hout dY)(h1:dY=true){v:Value}{row:Row}(hr:ki V w v row)(hb:∀k,dw v=some k→¬XOf σ ν hout k):Src V V' row.t row.xs v:=by obtain⟨A,c,bG,e1,e2,e3,e4,e5⟩:=TW hr;refine⟨A,c,bG,e1,e2,e3,e4,fun j u hj=> ?_⟩;obtain⟨ad,rfl,hc⟩:=e5 j u hj;refine⟨ad,rfl,hl.all h1 _ _ hc ?_⟩;rw[zi];exact hb _ (by rw[e1];rfl)
theorem age (h:St E σ a w ν O){q:Nat}(hq:(look σ.rows q).isSome=true)(k:Nat)(hk:dw (ν (.row q))=some k):¬XOf σ ν hout k:=fun⟨i,n,_,ho⟩=>by have:=h.inj _ _ k ⟨by simpa [AS.obj] using hq,hk⟩ ho;cases this
theorem agf (h:St E σ a w ν O){q:Nat}(hq:(look σ.boxes q).isSome=true)(k:Nat)(hk:dw (ν (.box q))=some k):¬XOf σ ν hout k:=fun⟨i,n,_,ho⟩=>by have:=h.inj _ _ k ⟨by simpa [AS.obj] using hq,hk⟩ ho;cases this
theorem Nh {k:List aQ→Q T cP}{r:cP}:∀(is:List Nat) (acc:List aQ),(CN is acc k).val Φ σ=some r→∃l:List aQ,(k (acc.reverse++l)).val Φ σ=some r∧aF (fun i hr=>σ.af[i]? =some hr) is l
 | [],acc,h=>⟨[],by simpa [CN] using h,trivial⟩
 |i::is,acc,h=>by simp only[CN] at h;rw[gG] at h;obtain⟨hr,h1,h⟩:=h;obtain⟨l,h2,h3⟩:=Nh is (hr::acc) h;exact⟨hr::l,by simpa using h2,h1,h3⟩
theorem aaR {dY:Bool}(h:St E σ a w ν O)(hl:WD (view E σ ν O w) V' σ ν w hs hout dY)(h1:dY=true){q:Nat}{row:Row}{t:Ty}{x:t.den}(hi:fw hs t=true)(hrow:look σ.rows q=some row)
  (hx:(dv t [⟨.slice row.t,row.xs⟩]).map (·.1)=some x):cg V' ⟨t,x⟩ (ν (.row q))∧(∀u,t≠ .st u)∧ [(⟨.slice row.t,row.xs⟩:CV)]=flat t x:=by
 have:=ES hx;obtain⟨e,t',xs⟩:=row;dsimp only at this;injection this with e1 e2
 subst e1;simp only[heq_eq_eq] at e2;subst e2;exact⟨(hl.src h1 (h.row hrow) (age h (br hrow))).tr hl.cell hl.ref hi,(fun u e=>by cases e),rfl⟩
theorem Ih {dY:Bool}(h:St E σ a w ν O)(hl:WD (view E σ ν O w) V' σ ν w hs hout dY){t:Ty}(hi:fw hs t=true){k:t.den→Q T cP}{r:cP}{c:I5}{v:Value}(hc:tC (view E σ ν O w) σ ν c v)(h1:dY=true∨∃cs,c= .qA cs)
  (he:(J7 t k c).val Φ σ=some r):∃x,(k x).val Φ σ=some r∧rW V' (flat t x) v:=by
 unfold J7 at he;split at he
 ·rename_i b;have h1:dY=true:=by
   rcases h1 with h1 | ⟨cs,e⟩
   ·exact h1
   ·cases e
  obtain⟨hbs,g,Tt,rfl⟩:=hc;rw[EP] at he;obtain⟨bx,hb,he⟩:=he;obtain⟨g',hg',hbr⟩:=h.box hb;obtain rfl:g=g':=by rw[Tt] at hg';simpa using hg'
  have hnx:=agf (hout:=hout) h (br hb) g (by rw[Tt];rfl);split at he
  ·rename_i cs;obtain⟨cur,e,hg,cS⟩:=hbr;rw[cE] at he;obtain⟨x,hx,he⟩:=he;have e1:=rT hx;subst e1;refine⟨x,he,⟨g,0,none⟩,cur.toList,rfl,jK (Rel.tr hl.cell hl.ref _ _ _ hi (jL cS)),fun j u hj=>hl.all h1 _ _ ?_ (by rw[zi];exact hnx)⟩;rw[Jb,cell_of_row w g j cur e (0,0) hg];simpa using hj
  ·rename_i q;obtain⟨e,hg,_⟩:=hbr;rw[rJ] at he;obtain⟨row,hrow,he⟩:=he;rw[cE] at he;obtain⟨x,hx,he⟩:=he;obtain⟨h2,_,h3⟩:=aaR h hl h1 hi hrow hx;refine⟨x,he,⟨g,0,none⟩,[ν (.row q)],rfl, ?_,fun j u hj=>hl.all h1 _ _ ?_ (by rw[zi];exact hnx)⟩
   ·exact jK h2
   ·rw[Jb,cell_of_row w g j _ e (0,0) hg];simpa using hj
  ·cases he
 ·rename_i cs;rw[cE] at he;obtain⟨x,hx,he⟩:=he;have e1:=rT hx;subst e1;obtain⟨ad,vs,e2,e3,e4⟩:=hc;exact⟨x,he,ad,vs,e2,jK (Rel.tr hl.cell hl.ref _ _ _ hi (jL e3)),fun j u hj=>hl.cell _ _ (e4 j u hj)⟩
theorem Sn {dY:Bool}(h:St E σ a w ν O)(hl:WD (view E σ ν O w) V' σ ν w hs hout dY){r:cP}:∀{ts:List Ty} {aX:List I5} {vs:List Value} {k:tw ts→Q T cP},(ts.all (fw hs))=true→aF (tC (view E σ ν O w) σ ν) aX vs→(dY=true∨aX=[])→
  (zQ ts aX k).val Φ σ=some r→∃x,(k x).val Φ σ=some r∧EW V' ts x vs
 | [],[],[],k,_,_,_,he=>⟨(),he,rfl⟩
 | [t],[c],[v],k,hi,hc,h1,he=>by simp only[List.all_cons,List.all_nil,Bool.and_true] at hi;simp only[zQ] at he;obtain⟨x,h2,h3⟩:=Ih h hl hi hc.1 (.inl (h1.resolve_right (fun e=>by cases e))) he;exact⟨x,h2,v,rfl,h3⟩
 |t::u::ts,c::cs,v::vs,k,hi,hc,h1,he=>by simp only[List.all_cons,Bool.and_eq_true] at hi;simp only[zQ] at he;obtain⟨x,h2,h3⟩:=Ih h hl hi.1 hc.1 (.inl (h1.resolve_right (fun e=>by cases e))) he;obtain⟨y,h4,h5⟩:=Sn h hl (ts:=u::ts) (by simp only[List.all_cons,Bool.and_eq_true];exact hi.2) hc.2 (.inl (h1.resolve_right (fun e=>by cases e))) h2;exact⟨(x,y),h4,v,vs,rfl,h3,h5⟩
 | [],_::_,_,k,_,_,_,he=>by simp only[zQ,Ax] at he
 | [_],[],_,k,_,_,_,he=>by simp only[zQ,Ax] at he
 | [_],_::_::_,_,k,_,_,_,he=>by simp only[zQ,Ax] at he
 |_::_::_,[],_,k,_,_,_,he=>by simp only[zQ,Ax] at he
 | [],[],_::_,k,_,hc,_,_=>hc.elim
 | [_],[_],[],k,_,hc,_,_=>hc.elim
 | [_],[_],_::_::_,k,_,hc,_,_=>hc.2.elim
 |_::_::_,_::_,[],k,_,hc,_,_=>hc.elim
theorem aiW {a b:CV}(h:ain a b=true):a=b:=by
 unfold ain at h;split at h
 ·rename_i i x j y;simp only[Bool.and_eq_true,decide_eq_true_eq,beq_iff_eq] at h;obtain⟨rfl,rfl⟩:=h;rfl
 ·rename_i x y;have:x=y:=by simpa using h
  subst this;rfl
 ·rename_i x y;have:x=y:=(beq_iff _ _).1 h;subst this;rfl
 ·cases h
theorem Xq:∀{a b:List CV},YF a b=true→a=b
 | [],[],_=>rfl
 |a::r,b::s,h=>by simp only[YF,Bool.and_eq_true] at h;rw[aiW h.1,Xq h.2]
 | [],_::_,h=>by cases h
 |_::_,[],h=>by cases h
theorem UD {av:AV}{v:Value}(ha:ak V σ ν Y av v){g:FuncId}{aX:List I5}(h:QW av=some (g,aX)):∃vs:List Value,v= .func (.func g) #[] vs.toArray∧aF (tC V σ ν) aX vs:=by
 unfold QW at h;split at h
 ·simp only[Option.some.injEq,Prod.mk.injEq] at h;obtain⟨rfl,rfl⟩:=h;exact ha
 ·rename_i n;split at h
  ·simp only[Option.some.injEq,Prod.mk.injEq] at h;obtain⟨rfl,rfl⟩:=h;have: [v]=[fnV _]:=ha;simp only[List.cons.injEq,and_true] at this;exact⟨[],this,trivial⟩
  ·cases h
 ·cases h
theorem aaS {dY:Bool}{nh:Nat}(h:St E σ a w ν O)(hl:WD (view E σ ν O w) V' σ ν w hs hout dY){p:ph}(hi:TO hs p=true){av:AV}{v:Value}(ha:ak (view E σ ν O w) σ ν E.Y av v){k:p.den→Q T cP}{r:cP}
  (he:(afV dY nh hout p av k).val Φ σ=some r):∃x,(k x).val Φ σ=some r∧ArgRel V' p x v:=by
 have aqv:∀(i n:Nat) (hr:aQ) (l:List hr.t.den) (v:Value),([]:List aQ)[i]? =some hr→ag hr.xs n=some l→cg (view E σ ν O w) ⟨.ref i,n⟩ v→Src (view E σ ν O w) V' hr.t l v:=fun i n hr l v e=>by simp at e
 unfold afV at he;split at he
 ·rename_i t k;split at he
  ·rename_i q;rw[aD] at he;obtain⟨h1,he⟩:=he;rw[rJ] at he;obtain⟨row,hrow,he⟩:=he;rw[cE] at he;obtain⟨x,hx,he⟩:=he;obtain⟨h2,h3,_⟩:=aaR h hl h1 hi hrow hx;exact⟨x,he,yr.Rc h3 (by rw[ha.1];exact h2)⟩
  ·rename_i hno;have fin:(Q.opt (typed [] t av) k).val Φ σ=some r→∃x,(k x).val Φ σ=some r∧ArgRel V' (.v t) x v:=fun he=>by rw[cE] at he;obtain⟨x,hx,he⟩:=he;exact⟨x,he,LZ hl.cell hl.ref aqv hi hx ha⟩
   cases hb:(QX av&& !(acX t)&&dY) with
   |false=>rw[hb] at he;exact fin he
   |true=>
    rw[hb,cond_true] at he;have h1:dY=true:=by simp only[Bool.and_eq_true] at hb;exact hb.2
    obtain⟨l,he,hall⟩:=Nh _ _ he;rw[cE] at he;obtain⟨x,hx,he⟩:=he;refine⟨x,he,LZ hl.cell hl.ref (fun i n hr l' v e hg hv=> ?_) hi hx ha⟩;simp only[List.reverse_nil,List.nil_append,List.getElem?_map,Option.map_eq_some_iff] at e;obtain⟨p,hp,e⟩:=e;rw[List.getElem?_zipIdx] at hp;simp only[Option.map_eq_some_iff,Nat.zero_add] at hp;obtain⟨hr0,hp1,rfl⟩:=hp;obtain⟨i',hi1,hi2⟩:=hall.get' i hr0 hp1;have hii:i'=i:=by obtain⟨h5,h6⟩:=List.getElem?_eq_some_iff.1 hi1;simpa using h6.symm
    subst hii;dsimp only at e;cases ho:hout.any (Nat.beq i') with
    |true=>
     rw[ho,cond_true] at e;subst e;cases n with
     |zero=>simp only[ag,Option.some.injEq] at hg;subst hg;have: [v]=[_]:=hv;simp only[List.cons.injEq,and_true] at this;exact⟨none,0,[],this,Nat.le_refl _,trivial,fun _=>rfl,fun j u hj=>by simp at hj⟩
     |succ m=>simp[ag] at hg
    |false=>
     rw[ho,cond_false] at e;subst e;obtain⟨h2,h3,_⟩:=h.LW hi2 hg hv;exact hl.src h1 h2 (fun k hk ⟨i2,n2,h4,h5⟩=>by
      have:=h.inj _ _ k (h3 k hk) h5;injection this with e1 e2
      subst e1;rw[ho] at h4;cases h4)
 ·rename_i f ts k;split at he
  ·rename_i g aX hg;rw[aD] at he;obtain⟨hb,he⟩:=he;simp only[Bool.and_eq_true,Bool.or_eq_true,beq_iff] at hb;obtain⟨rfl,hb⟩:=hb;obtain⟨vs,e1,e2⟩:=UD ha hg;obtain⟨x,h2,h3⟩:=Sn h hl hi e2 (hb.imp id (fun e=>by simpa using e)) he;exact⟨x,h2,vs,e1,h3⟩
  ·cases he
 ·rename_i cs k;rw[aD] at he;obtain⟨hf,he⟩:=he;refine⟨(),he, ?_⟩;unfold aio at hf;split at hf
  ·rename_i e;cases e
  ·rename_i cs1 cs2 e;injection e with e
   subst e;obtain⟨vs,e1,e2⟩:=ha;have:=Xq hf;subst this;refine⟨vs,e1, ?_⟩;have hi':∀c∈cs,fw hs c.1=true:=by simpa [TO] using hi
   exact C3 (fun c hc u hu=>Rel.tr hl.cell hl.ref _ _ _ (hi' c hc) hu) e2
  ·cases hf
  ·rename_i hx1 hx2 hx3 hx4
   first |exact absurd rfl (hx3 cs) |exact absurd rfl (hx4 cs) |exact(hx3 cs rfl).elim |exact(hx4 cs rfl).elim
 ·rename_i t k;split at he
  ·rename_i b;rw[aD] at he;obtain⟨h1,he⟩:=he;exact Ih (c:= .box b) h hl hi ha (.inl h1) he
  ·rename_i cs;exact Ih (c:= .qA cs) h hl hi ha (.inr ⟨cs,rfl⟩) he
  ·cases he
 ·cases he
 ·cases he
theorem Xr {dY:Bool}{nh:Nat}(h:St E σ a w ν O)(hl:WD (view E σ ν O w) V' σ ν w hs hout dY){r:cP}:∀{ps:List ph} {avs:List AV} {vs:List Value} {k:HN ps→Q T cP},(ps.all (TO hs))=true→aF (ak (view E σ ν O w) σ ν E.Y) avs vs→
  (Nf dY nh hout ps avs k).val Φ σ=some r→∃x,(k x).val Φ σ=some r∧nZ V' ps x vs
 | [],[],[],k,_,_,he=>⟨(),he,rfl⟩
 | [p],[c],[v],k,hi,hc,he=>by simp only[List.all_cons,List.all_nil,Bool.and_true] at hi;simp only[Nf] at he;obtain⟨x,h2,h3⟩:=aaS h hl hi hc.1 he;exact⟨x,h2,v,rfl,h3⟩
 |t::u::ts,c::cs,v::vs,k,hi,hc,he=>by simp only[List.all_cons,Bool.and_eq_true] at hi;simp only[Nf] at he;obtain⟨x,h2,h3⟩:=aaS h hl hi.1 hc.1 he;obtain⟨y,h4,h5⟩:=Xr h hl (ps:=u::ts) (by simp only[List.all_cons,Bool.and_eq_true];exact hi.2) hc.2 h2;exact⟨(x,y),h4,v,vs,rfl,h3,h5⟩
 | [],_::_,_,k,_,_,he=>by simp only[Nf,Ax] at he
 | [_],[],_,k,_,_,he=>by simp only[Nf,Ax] at he
 | [_],_::_::_,_,k,_,_,he=>by simp only[Nf,Ax] at he
 |_::_::_,[],_,k,_,_,he=>by simp only[Nf,Ax] at he
 | [],[],_::_,k,_,hc,_=>hc.elim
 | [_],[_],[],k,_,hc,_=>hc.elim
 | [_],[_],_::_::_,k,_,hc,_=>hc.2.elim
 |_::_::_,_::_,[],k,_,hc,_=>hc.elim
end
open Go.RowKit Go.Lib
def aK (af:List aQ):AS:=⟨⟨0,[],[]⟩,[],[],af,⟨.unit,()⟩,[],[]⟩
def lh (d:Nat):(ts:List NP)→tw (ts.map (·.1))→List TU
 | [],_=>[]
 | [(t,some e)],x=>match ownRow t e x with
   |some row=>[.row d row]
   |none=>[]
 | [(t,none)],x=>[]
 | (t,some e)::u::ts,x=>match ownRow t e x.1 with
   |some row=> .row d row::lh (d+1) (u::ts) x.2
   |none=>lh (d+1) (u::ts) x.2
 | (t,none)::u::ts,x=>lh (d+1) (u::ts) x.2
def AA (d:Nat):(ts:List Ty)→tw ts→List TU
 | [],_=>[]
 | [t],x=>[.box d (.cells (flat t x))]
 |t::u::ts,x=> .box d (.cells (flat t x.1))::AA (d+1) (u::ts) x.2
def Sp (d:Nat):(ts:List Ty)→List I5
 | []=>[]
 | [t]=>[.box d]
 |t::u::ts=> .box d::Sp (d+1) (u::ts)
def Mq (d:Nat)(s:JZ)(y:NQ s):List TU:=match s,y with
 | ⟨_,res,none,_,none⟩,y=>lh d res y
 | ⟨_,_,some (f,ts),_,none⟩,y=>AA d ts y
 |_,_=>[]
def aaT (d:Nat)(s:JZ)(y:NQ s):AV:=match s,y with
 | ⟨_,res,none,_,none⟩,y=>aan (BL d res y)
 | ⟨_,_,some (f,ts),_,none⟩,y=> .fn f (Sp d ts)
 |_,_=> .nil
def aO (T:dc)(v:Nat)(xh:CS T v):List aQ:=rR T (T.sig v).hout (T.sig v).hin (F0 _ xh) (c8 T)
def rZ (T:dc)(v:Nat)(xh:CS T v)(yh:wN T v):List aQ:=rR T (T.sig v).hout (T.sig v).hout (F0 _ yh) (aO T v xh)
def yy (T:dc)(v d:Nat)(xh:CS T v)(yh:wN T v):AS:=(aK (rZ T v xh yh)).app (Mq d (T.sig v) (wJ _ yh))
def yz (σ:AS)(us:List TU):Prop:=∀u∈us,match u with
 | .row k _=>look σ.rows k=none
 | .box k _=>look σ.boxes k=none
 |_=>False
section
variable {P:Program}{T:dc}{E:Env}{σ ah:AS}{a:Act}{w w':World}{ν aN:Nm→Value}{O:Nat→Prop}{Φ:cj T}{V V':View}{Y:Value}{hs hout:List Nat}
theorem yz.cons {u:TU}{us:List TU}(h:yz σ us)(hu:match u with | .row k _=>look σ.rows k=none | .box k _=>look σ.boxes k=none |_=>False):yz σ (u::us):=fun x hx=>by
 rcases List.mem_cons.1 hx with rfl |hx
 ·exact hu
 ·exact h x hx
theorem yz.nil:yz σ []:=fun x hx=>by simp at hx
theorem Kn {r:cP}:∀(ts:List NP) (d:Nat) (y:tw (ts.map (·.1))) (k:List TU→Q T cP),(aae d ts y k).val Φ σ=some r→(k (lh d ts y)).val Φ σ=some r∧yz σ (lh d ts y)
 | [],d,y,k,h=>⟨h,yz.nil⟩
 | [(t,none)],d,y,k,h=>⟨h,yz.nil⟩
 | [(t,some e)],d,y,k,h=>by
   simp only[aae] at h;simp only[lh];split at h
   ·rename_i row hrow;rw[zb] at h;rw[hrow];exact⟨h.2,yz.nil.cons h.1⟩
   ·cases h
 | (t,none)::u::ts,d,y,k,h=>by simp only[aae] at h;exact Kn (u::ts) (d+1) y.2 k h
 | (t,some e)::u::ts,d,y,k,h=>by
   simp only[aae] at h;simp only[lh];split at h
   ·rename_i row hrow;rw[zb] at h;rw[hrow];obtain⟨h1,h2⟩:=Kn (u::ts) (d+1) y.2 _ h.2;exact⟨h1,h2.cons h.1⟩
   ·cases h
theorem PE {r:cP}:∀(ts:List Ty) (d:Nat) (y:tw ts) (k:List TU→List I5→Q T cP),(GD d ts y k).val Φ σ=some r→(k (AA d ts y) (Sp d ts)).val Φ σ=some r∧yz σ (AA d ts y)
 | [],d,y,k,h=>⟨h,yz.nil⟩
 | [t],d,y,k,h=>by simp only[GD] at h;rw[aab] at h;exact⟨h.2,yz.nil.cons h.1⟩
 |t::u::ts,d,y,k,h=>by simp only[GD] at h;rw[aab] at h;obtain⟨h1,h2⟩:=PE (u::ts) (d+1) y.2 _ h.2;exact⟨h1,h2.cons h.1⟩
theorem aiX {d:Nat}{s:JZ}{y:NQ s}{us:List TU}{r:cP}(h:(aip T d s y us).val Φ σ=some r):r=(aaT d s y, .nu (us++Mq d s y))∧yz σ (Mq d s y)∧s.gen=none:=by
 unfold aip at h;split at h
 ·obtain⟨h1,h2⟩:=Kn _ _ _ _ h;rw[iL] at h1;exact⟨h1.symm,h2,rfl⟩
 ·obtain⟨h1,h2⟩:=PE _ _ _ _ h;rw[iL] at h1;exact⟨h1.symm,h2,rfl⟩
 ·cases h
theorem adb (us vs:List TU):σ.app (us++vs)=(σ.app us).app vs:=by
 induction us generalizing σ with
 |nil=>rfl
 |cons u us ih=>exact ih
theorem UE (wr:List Nat):∀(hs:List Nat) (x:FZ T hs) (σ:AS),(∀h∈hs,wr.any (Nat.beq h)=true)→σ.app (Bk T hs x)={σ with af:=rR T wr hs x σ.af}
 | [],_,σ,_=>rfl
 | [h],x,σ,hw=>by simp only[Bk,rR,uh,AS.app,AS.one];rw[hw h (by simp)]
 |h::i::r,x,σ,hw=>by simp only[Bk,rR,AS.app];rw[UE wr (i::r) x.2 _ (fun h' hm=>hw h' (by simp only[List.mem_cons] at hm ⊢;exact .inr hm))];simp only[uh,AS.one];rw[hw h (by simp)]
def N0 (us:List TU):Prop:=∀u∈us,(∃k r,u= .row k r)∨∃k x,u= .box k x
theorem yz.only {us:List TU}(h:yz σ us):N0 us:=fun u hu=>by
 have:=h u hu;cases u with
 |row k r=>exact .inl ⟨k,r,rfl⟩
 |box k x=>exact .inr ⟨k,x,rfl⟩
 |_=>exact this.elim
theorem UF {us:List TU}(h:N0 us)(σ:AS):(σ.app us).tmps=σ.tmps∧(σ.app us).af=σ.af∧(σ.app us).trace=σ.trace∧(σ.app us).cR=σ.cR∧(σ.app us).sites=σ.sites:=by
 induction us generalizing σ with
 |nil=>exact⟨rfl,rfl,rfl,rfl,rfl⟩
 |cons u us ih=>
  have wL:=ih (fun x hx=>h x (by simp[hx])) (σ.one u);rcases h u (by simp) with ⟨k,r,rfl⟩ | ⟨k,x,rfl⟩
  ·exact wL
  ·exact wL
theorem aiY {us:List TU}(h:N0 us)(σ QS dL:AS)(hr:∀k,look dL.rows k=(look QS.rows k).or (look σ.rows k))(hb:∀k,look dL.boxes k=(look QS.boxes k).or (look σ.boxes k)):
  (∀k,look (dL.app us).rows k=(look (QS.app us).rows k).or (look σ.rows k))∧∀k,look (dL.app us).boxes k=(look (QS.app us).boxes k).or (look σ.boxes k):=by
 induction us generalizing QS dL with
 |nil=>exact⟨hr,hb⟩
 |cons u us ih=>
  refine ih (fun x hx=>h x (by simp[hx])) (QS.one u) (dL.one u) (fun k=> ?_) (fun k=> ?_)
  ·rcases h u (by simp) with ⟨j,r,rfl⟩ | ⟨j,x,rfl⟩
   ·show look (put _ _ _) k=(look (put _ _ _) k).or _;rw[aH,aH];split
    ·rfl
    ·exact hr k
   ·exact hr k
  ·rcases h u (by simp) with ⟨j,r,rfl⟩ | ⟨j,x,rfl⟩
   ·exact hb k
   ·show look (put _ _ _) k=(look (put _ _ _) k).or _;rw[aH,aH];split
    ·rfl
    ·exact hb k
theorem AB {us:List TU}(h:N0 us)(σ:AS)(k:Nat):(∀r,look (σ.app us).rows k=some r→look σ.rows k=some r∨TU.row k r∈us)∧∀x,look (σ.app us).boxes k=some x→look σ.boxes k=some x∨TU.box k x∈us:=by
 induction us generalizing σ with
 |nil=>exact⟨fun r h=> .inl h,fun r h=> .inl h⟩
 |cons u us ih=>
  obtain⟨h1,h2⟩:=ih (fun x hx=>h x (by simp[hx])) (σ.one u);rcases h u (by simp) with ⟨j,r0,rfl⟩ | ⟨j,x0,rfl⟩
  ·refine⟨fun r hr=> ?_,fun x hx=>(h2 x hx).imp id (fun h=>by simp[h])⟩;rcases h1 r hr with h3 |h3
   ·have h3':look (put σ.rows j r0) k=some r:=h3;rw[aH] at h3';split at h3'
    ·rename_i e;subst e;simp only[Option.some.injEq] at h3';subst h3';exact .inr (by simp)
    ·exact .inl h3'
   ·exact .inr (by simp[h3])
  ·refine⟨fun r hr=>(h1 r hr).imp id (fun h=>by simp[h]),fun x hx=> ?_⟩;rcases h2 x hx with h3 |h3
   ·have h3':look (put σ.boxes j x0) k=some x:=h3;rw[aH] at h3';split at h3'
    ·rename_i e;subst e;simp only[Option.some.injEq] at h3';subst h3';exact .inr (by simp)
    ·exact .inl h3'
   ·exact .inr (by simp[h3])
theorem aeR (wr:List Nat):∀(hs:List Nat) (x:FZ T hs) (l l':List aQ) (h:Nat),h∈hs→h<l.length→h<l'.length→(rR T wr hs x l)[h]? =(rR T wr hs x l')[h]?
 | [],_,_,_,h,hm,_,_=>by simp at hm
 | [i],x,l,l',h,hm,h1,h2=>by simp only[List.mem_singleton] at hm;subst hm;simp only[rR,uh];rw[List.getElem?_set_self h1,List.getElem?_set_self h2]
 |i::j::r,x,l,l',h,hm,h1,h2=>by
  by_cases hm2:h∈j::r
  ·simp only[rR];exact aeR wr (j::r) x.2 _ _ h hm2 (by simpa [uh] using h1) (by simpa [uh] using h2)
  ·have:h=i:=by
    rcases List.mem_cons.1 hm with e |e
    ·exact e
    ·exact absurd e hm2
   subst this;simp only[rR];rw[lb wr _ _ _ h hm2,lb wr _ _ _ h hm2];simp only[uh];rw[List.getElem?_set_self h1,List.getElem?_set_self h2]
def YY (T:dc)(V:View):Prop:=∀i x,look T.ano i=some x→∃g cs,i=gk g∧x= .qA cs∧rW V cs (.pointer (some ⟨g,0,none⟩))
def N1 (T:dc)(E:Env):Prop:=NX E∧YY T (fun key v=>∃ad:Addr,key= .cell ad∧ad.block<E.w0.heap.size∧E.V0 (.cell ad) v)
def lj:CV→(Nat→Prop)→World→Prop:=fun tr _ _=>tr=⟨.unit,()⟩
def Left (T:dc)(E:Env)(v:Nat)(xh:CS T v)(yh:wN T v)(d:Nat)(e:Ending)(w':World):Prop:=
 ∃r aN,e= .returned r∧St E (yy T v d xh yh) ⟨#[],[]⟩ w' aN (fun _=>False)∧ak (view E (yy T v d xh yh) aN (fun _=>False) w') (yy T v d xh yh) aN E.Y (aaT d (T.sig v) (wJ _ yh)) r
structure Callee (T:dc) (E:Env) (v:Nat) (xh:CS T v):Prop where
 j:E.J=lj
 m:∀r,¬E.M r
 om:∀k,¬E.Om k
 acc:∀tr,E.acc tr
 hx:∀i k,i∉(T.sig v).hin→¬E.XH i k
 ro:∀i,E.ro i=bif (T.sig v).hin.any (Nat.beq i)&& !((T.sig v).hout.any (Nat.beq i)) then (aO T v xh)[i]? else none
def aaU (P:Program)(T:dc)(Φ:cj T):Prop:=∀v xh yh,Φ v xh=some yh→(T.sig v).gen=none→(∃fn,P.funcs[T.real v]? =some fn∧fn.body.isSome=true∧(fn.name== "runtime.NumGoroutine")=false)∧
 ∀(E:Env) (ν:Nm→Value) (args:Array Value) (d:Nat),aI E→N1 T E→Callee T E v xh→St E (aK (aO T v xh)) ⟨#[],[]⟩ E.w0 ν (fun _=>False)→
  nZ (view E (aK (aO T v xh)) ν (fun _=>False) E.w0) (T.sig v).args (wJ _ xh) args.toList→Calls P (T.real v) args E.w0 (Left T E v xh yh d)
end
open Go.RowKit Go.Lib
theorem Ii {w:World}{a:Addr}{v:Value}(h:w.cell? a=some v):a.block<w.heap.size:=by
 unfold World.cell? at h;cases hb:w.heap[a.block]? with
 |none=>simp[hb] at h
 |some o=>exact(Array.getElem?_eq_some_iff.1 hb).1
theorem lO {l:List Nat}{h:Nat}:l.any (Nat.beq h)=true↔h∈l:=by rw[List.any_eq_true];exact⟨fun⟨x,hx,e⟩=>by rw[(beq_iff _ _).1 e];exact hx,fun hx=>⟨h,hx,beq_refl h⟩⟩
theorem aaV {T:dc}{A:Type}{x:A}:∀{hs:List Nat} {h:FZ T hs} {y:Pk T A hs},J2 x hs (some h)=some y→wJ hs y=x∧F0 hs y=h
 | [],h,y,e=>by simp only[J2,Option.some.injEq] at e;exact⟨e.symm,rfl⟩
 |_::_,h,y,e=>by simp only[J2,Option.some.injEq] at e;subst e;exact⟨rfl,rfl⟩
section
variable {P:Program}{T:dc}{E:Env}{σ ah:AS}{a:Act}{w w':World}{ν aN:Nm→Value}{O:Nat→Prop}{Φ:cj T}{V V':View}{Y:Value}
def aaf (T:dc)(E:Env)(σ:AS)(ν:Nm→Value)(O:Nat→Prop)(w:World)(v:Nat)(xh:CS T v)(dY:Bool):Env where
 V0:=fun key u=>∃ad:Addr,key= .cell ad∧(view E σ ν O w (.cell ad) u∨(dY=true∧w.cell? ad=some u∧¬XOf σ ν (T.sig v).hout ad.block))
 w0:=w
 X:=XOf σ ν (T.sig v).hout
 J:=lj
 XS:=E.XS
 Y:= .nilFunc
 ro:=fun i=>bif (T.sig v).hin.any (Nat.beq i)&& !((T.sig v).hout.any (Nat.beq i)) then (aO T v xh)[i]? else none
 h0:=aO T v xh
 n0:=fun h n=>ν (.hp h n)
 M:=fun _=>False
 base:=w
 CB:=XOf σ ν (T.sig v).hout
 Om:=fun _=>False
 acc:=fun _=>True
 XH:=fun i k=>i∈(T.sig v).hin∧∃n,Own σ ν (.hp i n) k
def CH (T:dc)(σ:AS)(v:Nat)(xh:CS T v):Prop:=∀h∈(T.sig v).hin,aqu T σ (T.sig v).hout (rR T (T.sig v).hout (T.sig v).hin (F0 _ xh)) h
theorem L0 {v:Nat}{xh:CS T v}(hI:CH T σ v xh){i:Nat}{hr':aQ}(e:(aO T v xh)[i]? =some hr'):
  (i∈(T.sig v).hin∧∃hr,σ.af[i]? =some hr∧hr'=⟨hr.e,hr.t,hr.k,(T.sig v).hout.any (Nat.beq i),hr.xs⟩∧((T.sig v).hout.any (Nat.beq i)=true→hr.w=true)∧hr.t=(T.ht i).t)∨(i∉(T.sig v).hin∧hr'.xs=[]):=by
 by_cases hi:i∈(T.sig v).hin
 ·left;obtain⟨hr,h1,h2,h3,h4,h5,h6⟩:=hI i hi;have hlt:i<(c8 T).length:=by have:=(List.getElem?_eq_some_iff.1 e).1;unfold aO at this;rwa [Az] at this
  have h7:=h6 (c8 T) hlt;unfold aO at e;rw[e] at h7;simp only[Option.some.injEq] at h7;exact⟨hi,hr,h1,h7,h2,h5⟩
 ·right;unfold aO at e;rw[lb _ _ _ _ _ hi] at e;exact⟨hi,zh i hr' e⟩
theorem Xs {v:Nat}{xh:CS T v}(hI:CH T σ v xh){i n:Nat}{o:Obj}(e:pj (aO T v xh) i n=some o):i∈(T.sig v).hin∧pj σ.af i n=some o:=by
 cases n with
 |zero=>cases e
 |succ m=>
  simp only[pj] at e;split at e
  ·rename_i hr' hh;rcases L0 hI hh with ⟨h1,hr,h2,rfl,_⟩ | ⟨_,h1⟩
   ·refine⟨h1, ?_⟩;simp only[pj,h2];exact e
   ·rw[h1] at e;simp[I9] at e
  ·cases e
theorem agh (hE:aI E)(h:St E σ a w ν O){hout:List Nat}(hw:∀i,hout.any (Nat.beq i)=true→∃hr,σ.af[i]? =some hr∧hr.w=true){ad:Addr}{u:Value}(hv:view E σ ν O w (.cell ad) u):¬XOf σ ν hout ad.block:=fun⟨i,n,h1,h2⟩=>by
 rcases hv with ⟨hlt,hv⟩ | ⟨hge,hn,_⟩
 ·rcases (h.Aw _ _ h2).1 with h3 |h3 | ⟨j,m,hr',e,h3⟩
  ·omega
  ·exact(hE.cell _ _ hv).2 h3
  ·injection e with e1 e2
   subst e1;obtain⟨hr,h4,h5⟩:=hw i h1;obtain⟨h6,h7⟩:=h.ro i hr' h3;rw[h4] at h6;obtain rfl:hr=hr':=by simpa using h6
   rw[h5] at h7;cases h7
 ·exact hn ⟨_,h2⟩
theorem ade {v:Nat}{xh:CS T v}(hI:CH T σ v xh)(i:Nat)(hi:(T.sig v).hout.any (Nat.beq i)=true):∃hr,σ.af[i]? =some hr∧hr.w=true:=by
 have hm:i∈(T.sig v).hin:=by have:=lO.1 hi;simp only[JZ.hout,JZ.hin,List.mem_map,List.mem_filter] at this ⊢;obtain⟨p,⟨hp,_⟩,e⟩:=this;exact⟨p,hp,e⟩
 obtain⟨hr,h1,h2,_⟩:=hI i hm;exact⟨hr,h1,h2 hi⟩
theorem adf (hE:aI E)(h:St E σ a w ν O){v:Nat}{xh:CS T v}(hI:CH T σ v xh)(dY:Bool):aI (aaf T E σ ν O w v xh dY):=by
 refine⟨fun ad u hv=> ?_,fun _ _ _ _ _ h _ _=>h⟩;obtain⟨Q3,e,hv⟩:=hv;injection e with e
 subst e;rcases hv with hv | ⟨_,h1,h2⟩
 ·exact⟨za hE h.keep hv,agh hE h (ade hI) hv⟩
 ·exact⟨h1,h2⟩
theorem rW.of {V V':View}(hV:∀a v,V a v→V' a v){cs:List CV}{v:Value}(h:rW V cs v):rW V' cs v:=rW.mono hV h
theorem aaW (hG:N1 T E)(hE:aI E)(h:St E σ a w ν O){v:Nat}{xh:CS T v}(dY:Bool):N1 T (aaf T E σ ν O w v xh dY):=by refine⟨hG.1,fun i x hx=> ?_⟩;obtain⟨g,cs,h1,h2,h3⟩:=hG.2 i x hx;refine⟨g,cs,h1,h2,h3.of fun key u ⟨ad,e,hlt,hv⟩=>⟨ad,e,Nat.lt_of_lt_of_le hlt h.keep.size,ad,rfl, .inl (.inl ⟨hlt,hv⟩)⟩⟩
theorem Sq (hE:aI E)(h:St E σ a w ν O){v:Nat}{xh:CS T v}(hI:CH T σ v xh)(C5:σ.af.length=T.af.length)(dY:Bool):
  WD (view E σ ν O w) (view (aaf T E σ ν O w v xh dY) (aK (aO T v xh)) ν (fun _=>False) w) σ ν w (T.sig v).hin (T.sig v).hout dY:=by
 refine⟨fun ad u hv=> .inl ⟨Ii (za hE h.keep hv),ad,rfl, .inl hv⟩,fun k hk n u hv=> ?_,fun hl ad u hc hx=> .inl ⟨Ii hc,ad,rfl, .inr ⟨hl,hc,hx⟩⟩⟩;obtain⟨h1,h2,h3⟩:=hv;refine⟨h1, ?_,h3⟩;obtain⟨hr,g1,g2,g3,g4,g5,g6⟩:=hI k (lO.1 hk);have hlt:k<(c8 T).length:=by rw[rY, ←C5];exact(List.getElem?_eq_some_iff.1 g1).1
 show n≤hlen (aO T v xh) k;rw[LS g1] at h2;rw[LS (af:=aO T v xh) (g6 (c8 T) hlt)];exact h2
theorem YZ (hE:aI E)(h:St E σ a w ν O){v:Nat}{xh:CS T v}(hI:CH T σ v xh)(C5:σ.af.length=T.af.length)(hs:I7 T (T.sig v)=true)(dY:Bool):
  St (aaf T E σ ν O w v xh dY) (aK (aO T v xh)) ⟨#[],[]⟩ w ν (fun _=>False):=by
 have hl:=Sq hE h hI C5 dY;have hown:∀m k,Own (aK (aO T v xh)) ν m k→∃i n,m= .hp i n∧i∈(T.sig v).hin∧Own σ ν m k:=fun m k hm=>by
  obtain⟨h1,h2⟩:=hm;cases m with
  |row r=>simp[AS.obj,aK,look] at h1
  |box r=>simp[AS.obj,aK,look] at h1
  |hp i n=>obtain⟨o,ho⟩:=Option.isSome_iff_exists.1 h1;obtain⟨h3,h4⟩:=Xs hI ho;exact⟨i,n,rfl,h3,br (show σ.obj (.hp i n)=some o from h4),h2⟩
 have aqw:∀m k,Own (aK (aO T v xh)) ν m k→(aaf T E σ ν O w v xh dY).yq m∨XOf σ ν (T.sig v).hout k:=fun m k hm=>by
  obtain⟨i,n,rfl,h3,h4⟩:=hown m k hm;by_cases ho:(T.sig v).hout.any (Nat.beq i)=true
  ·exact .inr ⟨i,n,ho,h4⟩
  ·have ho':(T.sig v).hout.any (Nat.beq i)=false:=eq_false_of_ne_true ho;obtain⟨hr,g1,g2,g3,g4,g5,g6⟩:=hI i h3;have hlt:i<(c8 T).length:=by rw[rY, ←C5];exact(List.getElem?_eq_some_iff.1 g1).1
   refine .inl ⟨i,n,⟨hr.e,hr.t,hr.k,(T.sig v).hout.any (Nat.beq i),hr.xs⟩,rfl, ?_⟩;show (bif _ then _ else _)=_;have g7:=g6 (c8 T) hlt;rw[ho'] at g7;rw[lO.2 h3,ho'];exact g7
 refine⟨Grow.refl _ _,(fun d hd=>by cases hd),⟨rfl,(fun i x e=>by cases e),(fun i x e=>by cases e)⟩,fun m o ho=> ?_,fun m m' k h1 h2=> ?_,fun m k hm=> ?_,fun r k hk=> ?_,⟨rfl,fun k hk=>hk.elim⟩,fun i hr n e h1 h2=> ?_,fun i hr e=> ?_,⟨rfl,fun i hr e=>⟨hr,e,BN.refl _,Nat.le_refl _⟩,fun _ _ _ _=>rfl⟩,fun _ hf=>hf.elim,Grow.refl _ _,fun m k hm=> ?_,fun _ hf=>hf,List.nodup_nil⟩
 ·cases m with
  |row r=>simp[AS.obj,aK,look] at ho
  |box r=>simp[AS.obj,aK,look] at ho
  |hp i n=>
   have ho':pj (aO T v xh) i n=some o:=ho;obtain⟨h3,h4⟩:=Xs hI ho';obtain⟨k,row,rfl⟩:=Py ho';have cS:BM (view E σ ν O w) w k (ν (.hp i n)) row:=h.CF (.hp i n) _ h4;have hrt:fw (T.sig v).hin row.t=true:=by
    obtain⟨hr,g1,g2,g3,g4,g5,g6⟩:=hI i h3;have:row.t=hr.t:=by
     cases n with
     |zero=>cases h4
     |succ m=>
      simp only[pj,g1,I9] at h4;split at h4
      ·simp only[Option.some.injEq,Obj.hp.injEq] at h4;rw[←h4.2]
      ·cases h4
    rw[this,g5];simp only[I7,Bool.and_eq_true] at hs;exact List.all_eq_true.1 hs.1.2 i h3
   have htr:=fun x cs=>Rel.tr hl.cell hl.ref row.t x cs hrt;show BM _ w k _ row
   match k,cS with
   |0,⟨h5,bG,h6,h7⟩=>exact⟨h5,bG,h6,h7.mono htr⟩
   |1,⟨g,cur,ys,x,h5,h6,h7,h8,h9⟩=>exact⟨g,cur,ys,x,h5,h6,h7,h8,htr _ _ h9⟩
 ·obtain⟨_,_,_,_,h3⟩:=hown m k h1;obtain⟨_,_,_,_,h4⟩:=hown m' k h2;exact h.inj m m' k h3 h4
 ·obtain⟨i,n,rfl,h3,h4⟩:=hown m k hm;exact⟨(aqw _ k hm).elim (fun e=> .inr (.inr e)) (fun e=> .inr (.inl e)),(h.Aw _ k h4).2.1,fun hf=>hf⟩
 ·obtain⟨i,n,e,h3,h4⟩:=hown _ k hk;subst e;exact .inr ⟨h3,n,h4⟩
 ·rcases L0 hI e with ⟨_,Ja,g1,rfl,_⟩ | ⟨_,g1⟩
  ·exact h.nn i Ja n g1 h1 h2
  ·rw[g1] at h2;simp at h2;omega
 ·have e':(bif (T.sig v).hin.any (Nat.beq i)&& !((T.sig v).hout.any (Nat.beq i)) then (aO T v xh)[i]? else none)=some hr:=e;cases hb:((T.sig v).hin.any (Nat.beq i)&& !((T.sig v).hout.any (Nat.beq i))) with
  |false=>rw[hb] at e';cases e'
  |true=>
   rw[hb,cond_true] at e';refine⟨e', ?_⟩;simp only[Bool.and_eq_true,Bool.not_eq_true'] at hb;rcases L0 hI e' with ⟨_,Ja,g1,rfl,_⟩ | ⟨g1,_⟩
   ·exact hb.2
   ·exact absurd (lO.1 hb.1) g1
 ·exact(aqw m k hm).imp id .inl
end
open Go.RowKit Go.Lib
theorem L3:∀{t:Ty} {x:t.den},F1 t=true→∀c∈flat t x,F1 c.1=true
 | .unit,_,_,c,hc=>by simp[flat] at hc
 | .pair a b,x,h,c,hc=>by
   simp only[F1,Bool.and_eq_true] at h;simp only[flat,List.mem_append] at hc;rcases hc with hc |hc
   ·exact L3 h.1 c hc
   ·exact L3 h.2 c hc
 | .st t,x,h,c,hc=>L3 (t:=t) h c hc
 | .int k,x,h,c,hc=>by simp only[flat,List.mem_singleton] at hc;subst hc;rfl
 | .bool,x,h,c,hc=>by simp only[flat,List.mem_singleton] at hc;subst hc;rfl
 | .str,x,h,c,hc=>by simp only[flat,List.mem_singleton] at hc;subst hc;rfl
 | .slice t,x,h,c,hc=>by cases h
 | .qG t,x,h,c,hc=>by cases h
 | .ref k,x,h,c,hc=>by simp only[flat,List.mem_singleton] at hc;subst hc;rfl
 | .ptr k,x,h,c,hc=>by simp only[flat,List.mem_singleton] at hc;subst hc;rfl
 | .mp k,x,h,c,hc=>by simp only[flat,List.mem_singleton] at hc;subst hc;rfl
 | .fn,x,h,c,hc=>by simp only[flat,List.mem_singleton] at hc;subst hc;rfl
theorem Xt {t:Ty}{e:TypeId}{x:t.den}{row:Row}(h:ownRow t e x=some row):t= .slice row.t:=by
 unfold ownRow at h;split at h
 ·simp only[Option.some.injEq] at h;subst h;rfl
 ·cases h
theorem zj:∀(ts:List NP) (d:Nat) (y:tw (ts.map (·.1))) (u:TU),u∈lh d ts y→∃k row t e,u= .row k row∧(t,some e)∈ts∧t= .slice row.t
 | [],d,y,u,h=>by simp[lh] at h
 | [(t,none)],d,y,u,h=>by simp[lh] at h
 | [(t,some e)],d,y,u,h=>by
   simp only[lh] at h;split at h
   ·rename_i row hr;simp only[List.mem_singleton] at h;exact⟨d,row,t,e,h,by simp,Xt hr⟩
   ·simp at h
 | (t,none)::p::ts,d,y,u,h=>by simp only[lh] at h;obtain⟨k,row,t',e,h1,h2,h3⟩:=zj (p::ts) _ _ _ h;exact⟨k,row,t',e,h1,List.mem_cons_of_mem _ h2,h3⟩
 | (t,some e)::p::ts,d,y,u,h=>by
   simp only[lh] at h;split at h
   ·rename_i row hr;rcases List.mem_cons.1 h with h |h
    ·exact⟨d,row,t,e,h,List.mem_cons_self,Xt hr⟩
    ·obtain⟨k,row,t',e,h1,h2,h3⟩:=zj (p::ts) _ _ _ h;exact⟨k,row,t',e,h1,List.mem_cons_of_mem _ h2,h3⟩
   ·obtain⟨k,row,t',e,h1,h2,h3⟩:=zj (p::ts) _ _ _ h;exact⟨k,row,t',e,h1,List.mem_cons_of_mem _ h2,h3⟩
def RvT (t:Ty):RV→Prop
 | .cv c=>c.1=t
 | .agg cs=>∃(u:Ty) (y:u.den),t= .st u∧cs=flat u y
 | .own _=>False
theorem Re:∀(ts:List NP) (d:Nat) (y:tw (ts.map (·.1))) (x:RV),x∈BL d ts y→(∃q,x= .own q)∨∃t,(t,none)∈ts∧RvT t x
 | [],d,y,x,h=>by simp[BL] at h
 | [(t,some e)],d,y,x,h=>by
   have:x∈[RV.own d]:=by cases t<;>exact h
   simp only[List.mem_singleton] at this;exact .inl ⟨d,this⟩
 | [(t,none)],d,y,x,h=>by
   refine .inr ⟨t,by simp, ?_⟩;cases t<;>(simp only[BL,List.mem_singleton] at h;subst h;first |rfl |exact⟨_,_,rfl,rfl⟩)
 | (t,some e)::p::ts,d,y,x,h=>by
   have:x∈RV.own d::BL (d+1) (p::ts) y.2:=by cases t<;>exact h
   rcases List.mem_cons.1 this with h |h
   ·exact .inl ⟨d,h⟩
   ·exact(Re (p::ts) _ _ _ h).imp id (fun⟨t,h1,h2⟩=>⟨t,List.mem_cons_of_mem _ h1,h2⟩)
 | (t,none)::p::ts,d,y,x,h=>by
   have:RvT t x∨x∈BL (d+1) (p::ts) y.2:=by
    cases t<;>(simp only[BL,List.mem_cons] at h;exact h.imp (fun h=>by subst h;first |rfl |exact⟨_,_,rfl,rfl⟩) id)
   rcases this with h |h
   ·exact .inr ⟨t,List.mem_cons_self,h⟩
   ·exact(Re (p::ts) _ _ _ h).imp id (fun⟨t,h1,h2⟩=>⟨t,List.mem_cons_of_mem _ h1,h2⟩)
section
variable {P:Program}{T:dc}{E:Env}{σ ah:AS}{a:Act}{w w':World}{ν aN:Nm→Value}{O:Nat→Prop}{Φ:cj T}{V V':View}{Y:Value}
def Y0 (e:AS)(hout:List Nat):Nm→Bool
 | .row k=>(look e.rows k).isSome
 | .box k=>(look e.boxes k).isSome
 | .hp i _=>hout.any (Nat.beq i)
def Xu (e:AS)(hout:List Nat)(ν aN:Nm→Value)(m:Nm):Value:=bif Y0 e hout m then aN m else ν m
def Ko (T:dc)(σ:AS)(v d:Nat)(yh:wN T v):AS:=(σ.app (Bk T (T.sig v).hout (F0 _ yh))).app (Mq d (T.sig v) (wJ _ yh))
structure aiZ (Pf es σ:AS) (hout:List Nat):Prop where
 tmps:Pf.tmps=σ.tmps
 trace:Pf.trace=σ.trace
 num:Pf.af.length=σ.af.length
 rows:∀k,look Pf.rows k=(look es.rows k).or (look σ.rows k)
 boxes:∀k,look Pf.boxes k=(look es.boxes k).or (look σ.boxes k)
 fr:∀k,(look es.rows k).isSome=true→look σ.rows k=none
 fb:∀k,(look es.boxes k).isSome=true→look σ.boxes k=none
 hin:∀i,hout.any (Nat.beq i)=true→Pf.af[i]? =es.af[i]?
 hout:∀i,hout.any (Nat.beq i)=false→Pf.af[i]? =σ.af[i]?
theorem ai0 (C5:σ.af.length=T.af.length){v d:Nat}{xh:CS T v}{yh:wN T v}(hI:CH T σ v xh)(hf:yz σ (Mq d (T.sig v) (wJ _ yh))):aiZ (Ko T σ v d yh) (yy T v d xh yh) σ (T.sig v).hout:=by
 have ho:=hf.only;have e1:σ.app (Bk T (T.sig v).hout (F0 _ yh))={σ with af:=rR T (T.sig v).hout (T.sig v).hout (F0 _ yh) σ.af}:=UE (T.sig v).hout _ _ σ (fun h hm=>lO.2 hm);obtain⟨a1,a2,a3,_,_⟩:=UF ho (σ.app (Bk T (T.sig v).hout (F0 _ yh)));obtain⟨_,b2,_,_,_⟩:=UF ho (aK (rZ T v xh yh));have hh:(Ko T σ v d yh).af=rR T (T.sig v).hout (T.sig v).hout (F0 _ yh) σ.af:=by unfold Ko;rw[a2,e1]
 have hh2:(yy T v d xh yh).af=rZ T v xh yh:=b2;obtain⟨r1,r2⟩:=aiY ho σ (aK (rZ T v xh yh)) (σ.app (Bk T (T.sig v).hout (F0 _ yh))) (fun k=>by rw[e1];rfl) (fun k=>by rw[e1];rfl);have hl:(c8 T).length=σ.af.length:=by rw[rY,C5]
 refine⟨by unfold Ko;rw[a1,e1],by unfold Ko;rw[a3,e1],by rw[hh,Az],r1,r2,fun k hk=> ?_,fun k hk=> ?_,fun i hi=> ?_,fun i hi=> ?_⟩
 ·obtain⟨r,hr⟩:=Option.isSome_iff_exists.1 hk;rcases (AB ho (aK (rZ T v xh yh)) k).1 r hr with h1 |h1
  ·cases h1
  ·exact hf _ h1
 ·obtain⟨r,hr⟩:=Option.isSome_iff_exists.1 hk;rcases (AB ho (aK (rZ T v xh yh)) k).2 r hr with h1 |h1
  ·cases h1
  ·exact hf _ h1
 ·obtain⟨hr,h1,_⟩:=ade hI i hi;have hlt:=(List.getElem?_eq_some_iff.1 h1).1;rw[hh,hh2];unfold rZ;exact aeR _ _ _ _ _ i (lO.1 hi) hlt (by unfold aO;rw[Az,hl];exact hlt)
 ·rw[hh];exact lb _ _ _ _ i (fun hm=>by rw[lO.2 hm] at hi;cases hi)
theorem ai1 {Pf es:AS}{hout:List Nat}(hc:aiZ Pf es σ hout)(m:Nm):(Y0 es hout m=true→Pf.obj m=es.obj m)∧(Y0 es hout m=false→Pf.obj m=σ.obj m):=by
 cases m with
 |row k=>
  simp only[Y0,AS.obj,hc.rows k];refine⟨fun h=> ?_,fun h=> ?_⟩
  ·obtain⟨r,hr⟩:=Option.isSome_iff_exists.1 h;rw[hr];rfl
  ·cases hr:look es.rows k with
   |none=>rfl
   |some r=>rw[hr] at h;cases h
 |box k=>
  simp only[Y0,AS.obj,hc.boxes k];refine⟨fun h=> ?_,fun h=> ?_⟩
  ·obtain⟨r,hr⟩:=Option.isSome_iff_exists.1 h;rw[hr];rfl
  ·cases hr:look es.boxes k with
   |none=>rfl
   |some r=>rw[hr] at h;cases h
 |hp i n=>
  refine⟨fun h=> ?_,fun h=> ?_⟩
  ·cases n with
   |zero=>rfl
   |succ n=>simp only[AS.obj,pj];rw[hc.hin i h]
  ·cases n with
   |zero=>rfl
   |succ n=>simp only[AS.obj,pj];rw[hc.hout i h]
end
open Go.RowKit Go.Lib
section
variable {P:Program}{T:dc}{E:Env}{σ ah:AS}{a:Act}{w w':World}{ν aN:Nm→Value}{O:Nat→Prop}{Φ:cj T}{V V':View}{Y:Value}
theorem agi {h0:List aQ}{n0:Nat→Nat→Value}{hs:List aQ}(hk:HK h0 n0 hs ν){i:Nat}{hr:aQ}(h:h0[i]? =some hr):∃hr',hs[i]? =some hr'∧BN hr hr'∧hr.xs.length≤hr'.xs.length∧∀n,1≤n→n≤hr.xs.length→ν (.hp i n)=n0 i n:=by obtain⟨hr',h1,h2,h3⟩:=hk.row i hr h;exact⟨hr',h1,h2,h3,fun n h4 h5=>hk.nm i n h4 (by rw[LS h];exact h5)⟩
theorem PF {s:JZ}{i:Nat}(hi:s.hout.any (Nat.beq i)=true):i∈s.hin:=by have:=lO.1 hi;simp only[JZ.hout,JZ.hin,List.mem_map,List.mem_filter] at this ⊢;obtain⟨p,⟨hp,_⟩,e⟩:=this;exact⟨p,hp,e⟩
theorem aaX {v d:Nat}{xh:CS T v}{yh:wN T v}(hf:yz σ (Mq d (T.sig v) (wJ _ yh))):(yy T v d xh yh).af=rZ T v xh yh:=(UF hf.only (aK (rZ T v xh yh))).2.1
theorem L4 {s:JZ}(h:k9 T s=true)(hg:s.gen=none):s.clo=none∧(∀i∈s.hout,F1 (T.ht i).t=true)∧∀t o,(t,o)∈s.res→(o=none→F1 t=true)∧∀u e,t= .slice u→o=some e→F1 u=true:=by
 unfold k9 at h;rw[hg] at h;simp only[Bool.and_eq_true,Option.isNone_iff_eq_none,List.all_eq_true] at h;refine⟨h.1.1,h.1.2,fun t o hm=> ?_⟩;have h1:=h.2 (t,o) hm;refine⟨fun e=> ?_,fun u e e1 e2=> ?_⟩
 ·subst e;cases t<;>first |exact h1 |rfl
 ·subst e1 e2;exact h1
theorem aeS {d:Nat}{s:JZ}{y:NQ s}(hl:k9 T s=true){u:TU}(h:u∈Mq d s y):∃k row,u= .row k row∧F1 row.t=true:=by
 unfold Mq at h;split at h
 ·rename_i args res hps y;obtain⟨k,row,t,e,rfl,h2,h3⟩:=zj _ _ _ _ h;obtain⟨_,_,h4⟩:=L4 hl rfl;exact⟨k,row,rfl,(h4 _ _ h2).2 _ _ h3 rfl⟩
 ·obtain⟨h4,_⟩:=L4 hl rfl;cases h4
 ·simp at h
theorem St.called (hE:aI E)(h:St E σ a w ν O)(C5:σ.af.length=T.af.length){v d:Nat}{xh:CS T v}{yh:wN T v}{dY:Bool}(aaY:dY=true→k9 T (T.sig v)=true)(hI:CH T σ v xh)(C6:(T.sig v).gen=none)
  (hf:yz σ (Mq d (T.sig v) (wJ _ yh))) (hend:St (aaf T E σ ν O w v xh dY) (yy T v d xh yh) ⟨#[],[]⟩ w' aN (fun _=>False)):
  St E (Ko T σ v d yh) a w' (Xu (yy T v d xh yh) (T.sig v).hout ν aN) O∧
   ∀t,(dY=true→F1 t=true)→∀x cs,Rel (view (aaf T E σ ν O w v xh dY) (yy T v d xh yh) aN (fun _=>False) w') t x cs→Rel (view E (Ko T σ v d yh) (Xu (yy T v d xh yh) (T.sig v).hout ν aN) O w') t x cs:=by
 have hc:=ai0 (xh:=xh) C5 hI hf;have heh:=aaX (xh:=xh) hf;generalize hes:yy T v d xh yh=es at hc hend heh ⊢;generalize hsn:Ko T σ v d yh=Pf at hc ⊢;have hob:=fun m=>ai1 hc m;have hw:∀i,(T.sig v).hout.any (Nat.beq i)=true→∃hr,σ.af[i]? =some hr∧hr.w=true:=fun i hi=>ade hI i hi;have af6:∀i n,(T.sig v).hout.any (Nat.beq i)=true→¬E.yq (.hp i n):=fun i n hi ⟨j,m,hr',e,h3⟩=>by
  injection e with e1 e2
  subst e1;obtain⟨hr,h4,h5⟩:=hw i hi;obtain⟨h6,h7⟩:=h.ro i hr' h3;rw[h4] at h6;obtain rfl:hr=hr':=by simpa using h6
  rw[h5] at h7;cases h7
 have agj:∀m,Y0 es (T.sig v).hout m=true→Xu es (T.sig v).hout ν aN m=aN m:=fun m hm=>by unfold Xu;rw[hm];rfl
 have adg:∀m,Y0 es (T.sig v).hout m=false→Xu es (T.sig v).hout ν aN m=ν m:=fun m hm=>by unfold Xu;rw[hm];rfl
 -- C7 aqx af
 have hstart:∀i hr,σ.af[i]? =some hr→i∈(T.sig v).hin→(aO T v xh)[i]? =some ⟨hr.e,hr.t,hr.k,(T.sig v).hout.any (Nat.beq i),hr.xs⟩∧hr.t=(T.ht i).t:=fun i hr h1 h2=>by
  obtain⟨hr',g1,g2,g3,g4,g5,g6⟩:=hI i h2;rw[h1] at g1;obtain rfl:hr=hr':=by simpa using g1
  have hlt:i<(c8 T).length:=by rw[rY, ←C5];exact(List.getElem?_eq_some_iff.1 h1).1
  have:=g6 (c8 T) hlt;refine⟨?_,g5⟩;unfold aO;exact this
 have aeU:∀i hr,σ.af[i]? =some hr→i∈(T.sig v).hin→∃hr',es.af[i]? =some hr'∧hr'.e=hr.e∧hr'.t=hr.t∧hr'.k=hr.k∧hr'.w=(T.sig v).hout.any (Nat.beq i)∧hr.xs.length≤hr'.xs.length∧∀n,1≤n→n≤hr.xs.length→aN (.hp i n)=ν (.hp i n):=fun i hr h1 h2=>by obtain⟨hr',k1,k2,k3,k4⟩:=agi hend.kept (hstart i hr h1 h2).1;exact⟨hr',k1,k2.e,k2.t,k2.k,k2.w,k3,k4⟩
 -- what is owned
 have hown:∀m k,Own Pf (Xu es (T.sig v).hout ν aN) m k→(Y0 es (T.sig v).hout m=true∧Own es aN m k)∨(Y0 es (T.sig v).hout m=false∧Own σ ν m k):=fun m k ⟨h1,h2⟩=>by
  cases hm:Y0 es (T.sig v).hout m with
  |true=>rw[(hob m).1 hm] at h1;rw[agj m hm] at h2;exact .inl ⟨rfl,h1,h2⟩
  |false=>rw[(hob m).2 hm] at h1;rw[adg m hm] at h2;exact .inr ⟨rfl,h1,h2⟩
 have ai2:∀m k,Y0 es (T.sig v).hout m=true→Own es aN m k→w.heap.size≤k∨XOf σ ν (T.sig v).hout k:=fun m k hm ho=>by
  rcases (hend.Aw m k ho).1 with h1 |h1 | ⟨i,n,hr,e,h1⟩
  ·exact .inl h1
  ·right;exact h1
  ·subst e;have hm':(T.sig v).hout.any (Nat.beq i)=true:=hm;have h1':(bif (T.sig v).hin.any (Nat.beq i)&& !((T.sig v).hout.any (Nat.beq i)) then (aO T v xh)[i]? else none)=some hr:=h1;rw[hm'] at h1';simp at h1'
 have ant:∀m k,Y0 es (T.sig v).hout m=false→Own σ ν m k→¬XOf σ ν (T.sig v).hout k:=fun m k hm ho ⟨i,n,h1,h2⟩=>by have:=h.inj m _ k ho h2;subst this;have hm':(T.sig v).hout.any (Nat.beq i)=false:=hm;rw[h1] at hm';cases hm'
 have hgr:Grow (XOf σ ν (T.sig v).hout) w w':=hend.keep
 -- C7 af
 have hsub:HSub σ ν Pf (Xu es (T.sig v).hout ν aN):=by
  refine⟨hc.num,fun i hr e=> ?_,fun i n h1 h2=> ?_⟩
  ·cases hi:(T.sig v).hout.any (Nat.beq i) with
   |true=>
    obtain⟨hr',k1,k2,k3,k4,k5,k6,_⟩:=aeU i hr e (PF (s:=T.sig v) hi);obtain⟨Ja,h3,h4⟩:=hw i hi;rw[e] at h3;obtain rfl:hr=Ja:=by simpa using h3
    exact⟨hr',by rw[hc.hin i hi];exact k1,⟨k2,k3,k4,by rw[k5,hi,h4]⟩,k6⟩
   |false=>exact⟨hr,by rw[hc.hout i hi];exact e,BN.refl _,Nat.le_refl _⟩
  ·cases hi:(T.sig v).hout.any (Nat.beq i) with
   |true=>rw[agj (.hp i n) hi];obtain⟨hr,e,h3⟩:=Ki h1 h2;obtain⟨hr',_,_,_,_,_,_,k7⟩:=aeU i hr e (PF (s:=T.sig v) hi);exact k7 n h1 h3
   |false=>exact adg (.hp i n) hi
 -- what can be seen
 have aoq:dY=false→∀(ad:Addr) u,view (aaf T E σ ν O w v xh dY) es aN (fun _=>False) w' (.cell ad) u→(∀key u,view E σ ν O w key u→view E Pf (Xu es (T.sig v).hout ν aN) O w' key u)→view E Pf (Xu es (T.sig v).hout ν aN) O w' (.cell ad) u:=fun hl ad u hv hV=>by
  rcases hv with ⟨hlt,Q3,e,hv⟩ | ⟨hge,hn,_,hcell⟩
  ·injection e with e
   subst e;rcases hv with hv | ⟨h1,_⟩
   ·exact hV _ _ hv
   ·rw[hl] at h1;cases h1
  ·have as8:w.heap.size≤ad.block:=hge;refine .inr ⟨Nat.le_trans h.keep.size as8,fun⟨m,hm⟩=> ?_,fun ho=> ?_,hcell⟩
   ·rcases hown m _ hm with ⟨_,h1⟩ | ⟨_,h1⟩
    ·exact hn ⟨m,h1⟩
    ·exact absurd (h.Aw _ _ h1).2.1 (by omega)
   ·exact absurd (h.out.2 _ ho).1 (by omega)
 have ai3:∀(i n:Nat) u,view (aaf T E σ ν O w v xh dY) es aN (fun _=>False) w' (.ref i n) u→view E Pf (Xu es (T.sig v).hout ν aN) O w' (.ref i n) u:=fun i n u ⟨h1,h2,h3⟩=>by
  cases hi:(T.sig v).hout.any (Nat.beq i) with
  |true=>refine⟨h1, ?_,by rw[agj (.hp i n) hi];exact h3⟩;unfold hlen at h2 ⊢;rw[hc.hin i hi];exact h2
  |false=>
   obtain⟨hr',e',h4⟩:=Ki h1 h2;have hil:i<(aO T v xh).length:=by have h9:es.af.length=(aO T v xh).length:=hend.kept.num;rw[←h9];exact(List.getElem?_eq_some_iff.1 e').1
   have hro:es.af[i]? =(aO T v xh)[i]? :=by rw[heh];unfold rZ;exact lb _ _ _ _ i (fun hm=>by rw[lO.2 hm] at hi;cases hi)
   rw[e'] at hro;rcases L0 hI hro.symm with ⟨g1,hr,g2,g3,_,_⟩ | ⟨_,g1⟩
   ·have hlen:n≤hr.xs.length:=by rw[g3] at h4;exact h4
    obtain⟨_,_,_,_,_,_,_,k7⟩:=aeU i hr g2 g1;refine⟨h1, ?_,by rw[adg (.hp i n) hi, ←k7 n h1 hlen];exact h3⟩;unfold Abs.hlen;rw[hc.hout i hi,g2];exact hlen
   ·rw[g1] at h4;simp at h4;omega
 have htr:(∀key u,view E σ ν O w key u→view E Pf (Xu es (T.sig v).hout ν aN) O w' key u)→∀t,(dY=true→F1 t=true)→∀x cs,Rel (view (aaf T E σ ν O w v xh dY) es aN (fun _=>False) w') t x cs→Rel (view E Pf (Xu es (T.sig v).hout ν aN) O w') t x cs:=fun hV t ht x cs hr=>by
  cases hl:dY with
  |true=>rw[hl] at hr ai3;exact Rel.trN ai3 t x cs (ht hl) hr
  |false=>
   refine Rel.mono (fun key u hu=> ?_) t x cs hr;cases key with
   |cell ad=>exact aoq hl ad u hu hV
   |ref i n=>exact ai3 i n u hu
 -- no as9 in what comes out of a al0 call
 have aqy:∀k row,look es.rows k=some row→dY=true→F1 row.t=true:=fun k row hk hl=>by
  have hld:=aaY hl;rw[←hes] at hk;rcases (AB hf.only (aK (rZ T v xh yh)) k).1 row hk with h1 |h1
  ·cases h1
  ·obtain⟨k',row',e,hn⟩:=aeS hld h1;injection e with _ e
   subst e;exact hn
 have ata:∀(i n:Nat) kk (row:Row),(T.sig v).hout.any (Nat.beq i)=true→pj es.af i n=some (.hp kk row)→dY=true→F1 row.t=true:=fun i n kk row hi e hl=>by
  obtain⟨hr,h1,_⟩:=hw i hi;have hin:=PF hi;obtain⟨Ja,k1,k2,k3,_⟩:=aeU i hr h1 hin
  have:row.t=Ja.t:=by
   cases n with
   |zero=>cases e
   |succ n=>
    simp only[pj,k1,I9] at e;split at e
    ·simp only[Option.some.injEq,Obj.hp.injEq] at e;rw[←e.2]
    ·cases e
  rw[this,k3,(hstart i hr h1 hin).2];exact(L4 (aaY hl) C6).2.1 i (lO.1 hi)
 have aqz:∀k x,look es.boxes k=some x→dY=true→False:=fun k x hk hl=>by
  rw[←hes] at hk;rcases (AB hf.only (aK (rZ T v xh yh)) k).2 x hk with h1 |h1
  ·cases h1
  ·obtain⟨k',row',e,hn⟩:=aeS (aaY hl) h1;cases e
 have hV:∀key u,view E σ ν O w key u→view E Pf (Xu es (T.sig v).hout ν aN) O w' key u:=fun key u hu=>GF hgr hsub (fun k h1 h2 h3 h4=>⟨fun⟨m,hm⟩=>by
   rcases hown m k hm with ⟨hm1,h5⟩ | ⟨_,h5⟩
   ·rcases ai2 m k hm1 h5 with h6 | ⟨i,n,_,h6⟩
    ·omega
    ·exact h3 ⟨_,h6⟩
   ·exact h3 ⟨_,h5⟩,h4,fun⟨i,n,_,h6⟩=>h3 ⟨_,h6⟩⟩) hu
 have hTr:=htr hV;have anu:∀r,(look es.rows r).isSome=true→Xu es (T.sig v).hout ν aN (.row r)=aN (.row r)∧(look Pf.rows r).isSome=true:=fun r hr=>by refine⟨agj (.row r) hr, ?_⟩;obtain⟨row,e⟩:=Option.isSome_iff_exists.1 hr;rw[hc.rows r,e];rfl
 have ai4:∀r row,look σ.rows r=some row→Xu es (T.sig v).hout ν aN (.row r)=ν (.row r)∧look Pf.rows r=some row:=fun r row hr=>by
  have hn:look es.rows r=none:=by
   cases e:look es.rows r with
   |none=>rfl
   |some x=>have:=hc.fr r (by rw[e];rfl);rw[hr] at this;cases this
  exact⟨adg (.row r) (by simp only[Y0];rw[hn];rfl),by rw[hc.rows r,hn];exact hr⟩
 have aqA:∀b,(look σ.boxes b).isSome=true→Xu es (T.sig v).hout ν aN (.box b)=ν (.box b)∧(look Pf.boxes b).isSome=true:=fun b hb=>by
  have hn:look es.boxes b=none:=by
   cases e:look es.boxes b with
   |none=>rfl
   |some x=>have:=hc.fb b (by rw[e];rfl);rw[this] at hb;cases hb
  exact⟨adg (.box b) (by simp only[Y0];rw[hn];rfl),by rw[hc.boxes b,hn];exact hb⟩
 have anv:∀m m' k,Y0 es (T.sig v).hout m=true→Own es aN m k→Y0 es (T.sig v).hout m'=false→Own σ ν m' k→False:=fun m m' k h1 h2 h3 h4=>by
  rcases ai2 m k h1 h2 with h5 |h5
  ·exact absurd (h.Aw _ _ h4).2.1 (by omega)
  ·exact ant m' k h3 h4 h5
 refine⟨h.step hE hgr (fun k ⟨i,n,h1,h2⟩=>⟨_,h2,af6 i n h1⟩) hsub (fun m k hm=> ?_) (fun m k hm=> ?_) (fun m m' k h1 h2=> ?_) (fun q k hk=> ?_) hc.trace rfl (fun i hr n e h1 h2=> ?_) (fun i hr e=> ?_) (fun _ m o ho=> ?_) (fun _=> ?_),hTr⟩
 ·rcases hown m k hm with ⟨hm1,h5⟩ | ⟨_,h5⟩
  ·rcases ai2 m k hm1 h5 with h6 | ⟨i,n,h7,h6⟩
   ·exact .inr h6
   ·exact .inl ⟨_,h6,fun e=>absurd e (af6 i n h7)⟩
  ·exact .inl ⟨_,h5,id⟩
 ·rcases hown m k hm with ⟨hm1,h5⟩ | ⟨_,h5⟩
  ·exact(hend.Aw _ _ h5).2.1
  ·exact Nat.lt_of_lt_of_le (h.Aw _ _ h5).2.1 hgr.size
 ·rcases hown m k h1 with ⟨hm1,h5⟩ | ⟨hm1,h5⟩<;>rcases hown m' k h2 with ⟨hm2,h6⟩ | ⟨hm2,h6⟩
  ·exact hend.inj m m' k h5 h6
  ·exact(anv m m' k hm1 h5 hm2 h6).elim
  ·exact(anv m' m k hm2 h6 hm1 h5).elim
  ·exact h.inj m m' k h5 h6
 ·rcases hown _ k hk with ⟨hm1,h5⟩ | ⟨_,h5⟩
  ·rcases hend.new q k h5 with h6 |h6
   ·exact .inl (Nat.le_trans h.keep.size h6)
   ·cases q with
    |row q=>exact h6.elim
    |box q=>exact .inr trivial
    |hp i n=>obtain⟨_,n',h7⟩:=h6;exact h.new (.hp i n') k h7
  ·exact h.new q k h5
 ·cases hi:(T.sig v).hout.any (Nat.beq i) with
  |true=>rw[agj (.hp i n) hi];rw[hc.hin i hi] at e;exact hend.nn i hr n e h1 h2
  |false=>rw[adg (.hp i n) hi];rw[hc.hout i hi] at e;exact h.nn i hr n e h1 h2
 ·obtain⟨h1,h2⟩:=h.ro i hr e;cases hi:(T.sig v).hout.any (Nat.beq i) with
  |true=>
   obtain⟨Ja,h3,h4⟩:=hw i hi;rw[h1] at h3;obtain rfl:hr=Ja:=by simpa using h3
   rw[h2] at h4;cases h4
  |false=>rw[hc.hout i hi];exact h1
 ·cases hm:Y0 es (T.sig v).hout m with
  |true=>
   rw[(hob m).1 hm] at ho;rw[agj m hm];have cS:=hend.CF m o ho;cases m with
   |row k=>simp only[AS.obj,Option.map_eq_some_iff] at ho;obtain⟨row,e,rfl⟩:=ho;obtain⟨bG,h1,h2⟩:=cS;exact⟨bG,h1,h2.mono (hTr row.t (aqy k row e))⟩
   |box k=>
    simp only[AS.obj,Option.map_eq_some_iff] at ho;obtain⟨x,e,rfl⟩:=ho;obtain⟨g,h1,h2⟩:=cS;refine⟨g,h1, ?_⟩;cases x with
    |cells cs=>obtain⟨cur,e1,h3,h4⟩:=h2;exact⟨cur,e1,h3,h4.mono (fun c u hu=>hTr c.1 (fun hl=>(aqz k _ e hl).elim) _ _ hu)⟩
    |own r=>obtain⟨e1,h3,h4⟩:=h2;exact⟨e1,by rw[(anu r h4).1];exact h3,(anu r h4).2⟩
    |nil=>exact h2
   |hp i n=>
    have ho':pj es.af i n=some o:=ho;obtain⟨kk,row,rfl⟩:=Py ho';have hN:=ata i n kk row hm ho';have aqB:BM _ w' kk (aN (.hp i n)) row:=cS;show BM _ w' kk (aN (.hp i n)) row
    match kk,aqB with
    |0,⟨h5,bG,h6,h7⟩=>exact⟨h5,bG,h6,h7.mono (hTr row.t hN)⟩
    |1,⟨g,cur,ys,x,h5,h6,h7,h8,h9⟩=>exact⟨g,cur,ys,x,h5,h6,h7,h8,hTr row.t hN _ _ h9⟩
  |false=>
   rw[(hob m).2 hm] at ho;rw[adg m hm];exact h.old hgr ho (fun k hk hx=>ant m k hm ⟨br ho,hk⟩ hx) hV (fun r _ hr=>by
    obtain⟨row,e⟩:=Option.isSome_iff_exists.1 hr;obtain⟨h1,h2⟩:=ai4 r row e;exact⟨h1,by rw[h2];rfl⟩)
 ·rw[hc.tmps];exact h.slots.mono (ak.mono hV {hsub with rows:=fun r row hr=>⟨(ai4 r row hr).1,row,(ai4 r row hr).2,rfl⟩,boxes:=fun b hb=>aqA b hb})
end
open Go.RowKit Go.Lib
def UG (T:dc):Prop:=∀v,I7 T (T.sig v)=true
theorem UH {P:Program}{r:Option Nat}{n:Nat}{f:FuncId}{args:Array Value}{w:World}{R:Ending→World→Prop}(h:Calls P f args w R):CallsIn (FW r) n P f args w R:=
 ⟨trivial,fun cs _=>let ⟨e,w',fr,q,s,x⟩:=h cs;⟨e,w',fr,q,(comesIn_wide (P:=P)).2 s,x⟩⟩
section
variable {P:Program}{T:dc}{E:Env}{σ ah:AS}{a:Act}{w w':World}{ν aN:Nm→Value}{O:Nat→Prop}{Φ:cj T}{V V':View}{Y:Value}
theorem al1 {Pf es:AS}{Vn Ve:View}{s:JZ}{d:Nat}{y:NQ s}{dY:Bool}{Y':Value}{agk:Nm→Value}(aaY:dY=true→k9 T s=true)(C6:s.gen=none)
  (hTr:∀t,(dY=true→F1 t=true)→∀x cs,Rel Ve t x cs→Rel Vn t x cs) (hrow:∀r,(look es.rows r).isSome=true→agk (.row r)=aN (.row r)∧(look Pf.rows r).isSome=true)
  (aoh:∀r,(look es.boxes r).isSome=true→agk (.box r)=aN (.box r)∧(look Pf.boxes r).isSome=true) {v:Value} (h:ak Ve es aN Y' (aaT d s y) v):ak Vn Pf agk Y (aaT d s y) v:=by
 unfold aaT at h ⊢;split at h
 ·rename_i args res hps y;have hrv:∀x∈BL d res y,∀u,tp Ve es aN x u→tp Vn Pf agk x u:=fun x hx u hu=>by
   rcases Re _ _ _ _ hx with ⟨q,rfl⟩ | ⟨t,h1,h2⟩
   ·obtain⟨h3,h4⟩:=hrow q hu.2;exact⟨by rw[h3];exact hu.1,h4⟩
   ·have hno:dY=true→F1 t=true:=fun hl=>((L4 (aaY hl) rfl).2.2 _ _ h1).1 rfl;cases x with
    |own q=>exact h2.elim
    |cv c=>obtain⟨ct,cx⟩:=c;have h2:ct=t:=h2;subst h2;exact hTr _ hno _ _ hu
    |agg cs=>obtain⟨u',z,rfl,rfl⟩:=h2;obtain⟨vs,e1,e2⟩:=hu;refine⟨vs,e1,C3 (fun c hc u hu=>hTr c.1 (fun hl=>L3 (hno hl) c hc) _ _ hu) e2⟩
  have key:∀(l:List RV),(∀x∈l,∀u,tp Ve es aN x u→tp Vn Pf agk x u)→ak Ve es aN Y' (aan l) v→ak Vn Pf agk Y (aan l) v:=fun l hl h=>by
   match l,hl,h with
   | [],_,⟨vs,e1,e2⟩=>exact⟨vs,e1,by cases vs with
     |nil=>trivial
     |cons _ _=>exact e2.elim⟩
   | [x],hl,h=>exact hl x (by simp) v h
   |x::z::l,hl,⟨vs,e1,e2⟩=>exact⟨vs,e1,C3 hl e2⟩
  exact key _ hrv h
 ·rename_i args res f ts hps y;obtain⟨vs,e1,e2⟩:=h;refine⟨vs,e1,C3 (fun c hc u hu=> ?_) e2⟩;have:∃b,c= .box b:=by
   have hb:∀(ts:List Ty) (d:Nat),∀c∈Sp d ts,∃b,c= .box b:=by
    intro ts;induction ts with
    |nil=>intro d c hc;simp[Sp] at hc
    |cons t ts ih=>
     intro d c hc;cases ts with
     |nil=>simp only[Sp,List.mem_singleton] at hc;exact⟨_,hc⟩
     |cons t2 ts=>
      simp only[Sp] at hc;rcases List.mem_cons.1 hc with e |hc
      ·exact⟨_,e⟩
      ·exact ih _ c hc
   exact hb ts d c hc
  obtain⟨b,rfl⟩:=this;obtain⟨h1,g,h2,h3⟩:=hu;obtain⟨h4,h5⟩:=aoh b h1;exact⟨h5,g,by rw[h4];exact h2,h3⟩
 ·exact h
theorem adh {st:Option Site}{f:FuncId}{avs:List AV}{v:Nat}(h:T9 T st f avs=some v):T.real v=f:=by
 unfold T9 at h;split at h
 ·cases hb:Nat.beq (T.real _) f with
  |true=>rw[hb] at h;simp only[cond_true,Option.some.injEq] at h;subst h;exact(beq_iff _ _).1 hb
  |false=>rw[hb] at h;cases h
 ·split at h
  ·cases hb:Nat.beq (T.real _) f with
   |true=>rw[hb] at h;simp only[cond_true,Option.some.injEq] at h;subst h;exact(beq_iff _ _).1 hb
   |false=>rw[hb] at h;cases h
  ·cases h
theorem UI (rL:∀x,ak V σ ν Y (σ.av x) (a.eval x)):∀(xs:List Operand),aF (ak V σ ν Y) (xs.map σ.av) (xs.map a.eval)
 | []=>trivial
 |x::xs=>⟨rL x,UI rL xs⟩
theorem Rf:∀{aX:List I5} {vs:List Value},aF (tC V σ ν) aX vs→aF (ak V σ ν Y) (aX.map W7) vs
 | [],[],_=>trivial
 | .box b::cs,v::vs,h=>⟨h.1,Rf h.2⟩
 | .qA l::cs,v::vs,h=>⟨h.1,Rf h.2⟩
 | [],_::_,h=>h.elim
 |_::_,[],h=>h.elim
theorem EW.mono {V V':View}(hV:∀a v,V a v→V' a v):∀{ts:List Ty} {x:tw ts} {vs:List Value},EW V ts x vs→EW V' ts x vs
 | [],_,_,h=>h
 | [t],x,_,⟨v,e,h⟩=>⟨v,e,h.of hV⟩
 |t::u::ts,x,_,⟨v,r,e,h,h2⟩=>⟨v,r,e,h.of hV,EW.mono hV h2⟩
theorem ArgRel.mono {V V':View}(hV:∀a v,V a v→V' a v):∀{p:ph} {x:p.den} {v:Value},ArgRel V p x v→ArgRel V' p x v
 | .v t,x,v,h=>yr.mono hV h
 | .fn f ts,x,v,⟨vs,e,h⟩=>⟨vs,e,h.mono hV⟩
 | .c cs,_,v,⟨vs,e,h⟩=>⟨vs,e,h.mono (cg.mono hV)⟩
 | .rp t,x,v,h=>rW.of hV h
 | .bx _,_,_,h=>h
 | .Na,_,_,h=>h
theorem nZ.mono {V V':View}(hV:∀a v,V a v→V' a v):∀{ps:List ph} {x:HN ps} {vs:List Value},nZ V ps x vs→nZ V' ps x vs
 | [],_,_,h=>h
 | [p],x,_,⟨v,e,h⟩=>⟨v,e,h.mono hV⟩
 |p::q::ps,x,_,⟨v,r,e,h,h2⟩=>⟨v,r,e,h.mono hV,nZ.mono hV h2⟩
def anw (E:Env)(σ:AS)(ν:Nm→Value)(O:Nat→Prop)(w:World)(hin hout:List Nat)(dY:Bool):View:=fun key u=>match key with
 | .cell ad=>view E σ ν O w (.cell ad) u∨(dY=true∧w.cell? ad=some u∧¬XOf σ ν hout ad.block)
 | .ref i n=>hin.any (Nat.beq i)=true∧view E σ ν O w (.ref i n) u
theorem adi (hin hout:List Nat)(dY:Bool):WD (view E σ ν O w) (anw E σ ν O w hin hout dY) σ ν w hin hout dY:=
 ⟨fun ad u hv=> .inl hv,fun i hi n u hv=>⟨hi,hv⟩,fun hl ad u h1 h2=> .inr ⟨hl,h1,h2⟩⟩
theorem adj {hs hout:List Nat}{dY:Bool}(hl:WD (view E σ ν O w) V' σ ν w hs hout dY)(key:Key)(u:Value)(h:anw E σ ν O w hs hout dY key u):V' key u:=by
 cases key with
 |cell ad=>
  rcases h with h | ⟨h1,h2,h3⟩
  ·exact hl.cell _ _ h
  ·exact hl.all h1 _ _ h2 h3
 |ref i n=>exact hl.ref i h.1 n u h.2
theorem UJ (hE:aI E)(hG:N1 T E)(hS:UG T)(PG:aaU P T Φ)(C5:σ.af.length=T.af.length)(h:St E σ a w ν O){o:Oper}{f:Operand}{args:Array Operand}{ats:Array TypeId}(ho:o.op= .call {callee:= .value f,args:=args,argTypes:=ats})
  {g:FuncId} {aX:List I5} {cvs:List Value} (hf:a.eval f= .func (.func g) #[] cvs.toArray) (TS:aF (tC (view E σ ν O w) σ ν) aX cvs) {st:Option Site} {r:cP} (he:(J8 T σ.av st o.dst g aX args.toList).val Φ σ=some r):
  ∃us,r.2= .nu us∧mv P o a w (To E ((σ.app us).jX o.dst r.1)):=by
 unfold J8 at he;dsimp only at he;split at he
 ·rename_i v hv;have aqC:=adh hv;have hal:=hS v;have atb:=hal;simp only[I7,Bool.and_eq_true] at hal;have hargs:=aF.append (UI (h.av hG.1) args.toList) (Rf (Y:=E.Y) TS);obtain⟨x,he,hx⟩:=Xr h (adi (T.sig v).hin (T.sig v).hout (k9 T (T.sig v))) hal.1.1 hargs he;obtain⟨hh,he,hI⟩:=Xp _ _ _ _ he;rw[cE] at he;obtain⟨xh,hxh,he⟩:=he;obtain⟨ex,eh⟩:=aaV hxh;rw[Pt] at he;obtain⟨yh,hy,he⟩:=he;obtain⟨rfl,hfree,C6⟩:=aiX he;have hIn:CH T σ v xh:=fun i hi=>by rw[eh];exact hI i hi
  obtain⟨⟨fn,hfn,hbody,hname⟩,Xv⟩:=PG v xh yh hy C6;have hE':=adf hE h hIn (k9 T (T.sig v));have hG':=aaW (v:=v) (xh:=xh) hG hE h (k9 T (T.sig v));have hst:=YZ hE h hIn C5 atb (k9 T (T.sig v));have hl':=Sq hE h hIn C5 (k9 T (T.sig v));rw[aqC] at hfn Xv;have hc:=Xv _ ν (args.map a.eval++cvs.toArray) (Pl o.dst) hE' hG' ⟨rfl,fun _ h=>h,fun _ h=>h,fun _=>trivial,fun _ _ h1 h2=>h1 h2.1,fun _=>rfl⟩ hst (by
   rw[ex];have:(args.map a.eval++cvs.toArray).toList=args.toList.map a.eval++cvs:=by simp
   rw[this];exact hx.mono (adj hl'))
  refine⟨_,rfl,fun rr next Q hn=> ?_⟩;have hrun:(execOp a.eval o).run P w= .ok (.enter g (args.map a.eval++cvs.toArray)) w:=by
   have hb:fn.body.isNone=false:=by cases hfb:fn.body<;>simp_all
   have hn1:¬fn.name= "runtime.NumGoroutine" :=by simpa using hname
   have hb1:¬fn.body=none:=by intro e;rw[e] at hb;cases hb
   simp[execOp,ho,resolve,hf,Deferred.ofValue,invoke,callFunc,hfn,hn1,hb1]
  refine⟨fun _ _=>trivial, ?_⟩;rw[Oper.semAt_eq _ _ _ (by rw[ho];intro c e;cases e),hrun,Oper.uponIn_enter];refine⟨fun e=>(by cases e),UH (Calls.mono hc ?_)⟩;rintro e w' ⟨rv,aN,rfl,hend,hres⟩;obtain⟨s1,hTr⟩:=h.called hE C5 (fun hl=>hl) hIn C6 hfree hend;have hcs:=ai0 (xh:=xh) C5 hIn hfree;refine hn _ _ ⟨Xu (yy T v (Pl o.dst) xh yh) (T.sig v).hout ν aN,O, ?_⟩;show St E (((σ.app (Bk T (T.sig v).hout (F0 (T.sig v).hout yh)++Mq (Pl o.dst) (T.sig v) (wJ (T.sig v).hout yh)))).jX o.dst (aaT (Pl o.dst) (T.sig v) (wJ (T.sig v).hout yh))) _ _ _ _;rw[adb];refine s1.slot (al1 (es:=yy T v (Pl o.dst) xh yh) (fun hl=>hl) C6 hTr (fun k hk=>⟨?_, ?_⟩) (fun k hk=>⟨?_, ?_⟩) hres)
  ·unfold Xu;simp only[Y0];rw[hk];rfl
  ·obtain⟨row,e⟩:=Option.isSome_iff_exists.1 hk;rw[hcs.rows k,e];rfl
  ·unfold Xu;simp only[Y0];rw[hk];rfl
  ·obtain⟨row,e⟩:=Option.isSome_iff_exists.1 hk;rw[hcs.boxes k,e];rfl
 ·cases he
theorem agl (q:Nat)(c:CV)(hc:∀n,c≠⟨.fn,n⟩)(x:AV):QW (x.uX q c)=QW x:=by
 cases x with
 |rv x=>cases x with
  |own k=>
   simp only[AV.uX,RV.uX];cases Nat.beq k q with
   |true=>obtain⟨t,z⟩:=c;cases t<;>first |rfl |exact absurd rfl (hc z)
   |false=>rfl
  |_=>rfl
 |Pj k sz i off=>simp only[AV.uX];cases Nat.beq k q<;>rfl
 |_=>rfl
theorem aaZ (q:Nat)(x:Operand):QW ((σ.freeze q).av x)=QW (σ.av x):=by
 cases hq:look σ.rows q with
 |none=>unfold AS.freeze;rw[hq]
 |some row=>rw[LV hq];exact agl q _ (fun n e=>by injection e with e;cases e) _
theorem Xw (x:Operand):∀(xs:List Operand) (σ:AS),QW ((σ.wK xs).av x)=QW (σ.av x)
 | [],σ=>rfl
 |y::ys,σ=>by
  show QW (((σ.frz y).wK ys).av x)=_;rw[Xw x ys];unfold AS.frz;split
  ·exact aaZ _ _
  ·rfl
theorem UK:∀(xs:List Operand) (σ:AS),(σ.wK xs).af=σ.af
 | [],σ=>rfl
 |y::ys,σ=>by
  show ((σ.frz y).wK ys).af=_;rw[UK ys];unfold AS.frz;split
  ·unfold AS.freeze;split<;>rfl
  ·rfl
end
open Go.RowKit Go.Lib
theorem Rel.Ni {V V':View}:∀(t:Ty) (x:t.den) (cs:List Value),I6 t=true→Rel V t x cs→Rel V' t x cs
 | .int k,x,cs,_,h=>h
 | .bool,x,cs,_,h=>h
 | .str,x,cs,_,h=>h
 | .slice t,xs,cs,hi,_=>by cases hi
 | .unit,_,cs,_,h=>h
 | .pair a b,x,cs,hi,⟨c1,c2,e,h1,h2⟩=>by simp only[I6,Bool.and_eq_true] at hi;exact⟨c1,c2,e,Rel.Ni a _ _ hi.1 h1,Rel.Ni b _ _ hi.2 h2⟩
 | .st t,x,cs,hi,h=>Rel.Ni t x cs hi h
 | .ref _,_,_,hi,_=>by cases hi
 | .ptr _,_,_,hi,_=>by cases hi
 | .mp _,_,_,hi,_=>by cases hi
 | .fn,_,_,_,h=>h
 | .qG t,_,cs,hi,_=>by cases hi
theorem yr.Ni {V V':View}{t:Ty}{x:t.den}{v:Value}(hi:I6 t=true)(h:yr V t x v):yr V' t x v:=by
 cases t with
 |st t=>obtain⟨cs,h1,h2⟩:=h;exact⟨cs,h1,Rel.Ni _ _ _ hi h2⟩
 |_=>exact Rel.Ni (V:=V) _ _ _ hi h
def WE (V:View):(t:Ty)→t.den→List Value→Prop
 | .unit,_,vs=>vs=[]
 | .pair a b,x,vs=>∃v r,vs=v::r∧yr V a x.1 v∧WE V b x.2 r
 |_,_,_=>False
theorem WE.Ni {V V':View}:∀{t:Ty} {x:t.den} {vs:List Value},I6 t=true→WE V t x vs→WE V' t x vs
 | .unit,x,vs,_,h=>h
 | .pair a b,x,vs,hi,⟨v,r,e,h1,h2⟩=>by simp only[I6,Bool.and_eq_true] at hi;exact⟨v,r,e,yr.Ni hi.1 h1,WE.Ni hi.2 h2⟩
 | .int _,_,_,_,h=>h.elim
 | .bool,_,_,_,h=>h.elim
 | .str,_,_,_,h=>h.elim
 | .slice _,_,_,_,h=>h.elim
 | .st _,_,_,_,h=>h.elim
 | .ref _,_,_,_,h=>h.elim
 | .ptr _,_,_,_,h=>h.elim
 | .mp _,_,_,_,h=>h.elim
 | .fn,_,_,_,h=>h.elim
 | .qG _,_,_,_,h=>h.elim
section
variable {P:Program}{T:dc}{E:Env}{σ ah:AS}{a:Act}{w w':World}{ν aN:Nm→Value}{O O':Nat→Prop}{Φ:cj T}{V V':View}{Y:Value}
theorem UL:∀{t:Ty} {avs:List AV} {x:t.den} {vs:List Value},rV t avs=some x→aF (ak V σ ν Y) avs vs→WE V t x vs
 | .unit,[],x,[],_,_=>rfl
 | .pair a b,av::r,x,v::vs,h,hr=>by
   simp only[rV] at h;split at h
   ·rename_i y hy;split at h
    ·rename_i z hz;simp only[Option.some.injEq] at h;subst h;exact⟨v,vs,rfl,Ia hy hr.1,UL hz hr.2⟩
    ·cases h
   ·cases h
 | .unit,[],_,_::_,_,hr=>hr.elim
 | .unit,_::_,_,_,h,_=>by simp[rV] at h
 | .pair _ _,[],_,_,h,_=>by simp[rV] at h
 | .pair _ _,_::_,_,[],_,hr=>hr.elim
 | .int _,_,_,_,h,_=>by simp[rV] at h
 | .bool,_,_,_,h,_=>by simp[rV] at h
 | .str,_,_,_,h,_=>by simp[rV] at h
 | .slice _,_,_,_,h,_=>by simp[rV] at h
 | .st _,_,_,_,h,_=>by simp[rV] at h
 | .ref _,_,_,_,h,_=>by simp[rV] at h
 | .ptr _,_,_,_,h,_=>by simp[rV] at h
 | .mp _,_,_,_,h,_=>by simp[rV] at h
 | .fn,_,_,_,h,_=>by simp[rV] at h
 | .qG _,_,_,_,h,_=>by simp[rV] at h
def Ij (P:Program)(E:Env):Prop:=∀(r:Option Nat) (t:Ty) (xs:List t.den) (x:t.den) (vs:List Value) (O:Nat→Prop) (w:World),E.J ⟨.slice t,xs⟩ O w→E.acc ⟨.slice t,xs++[x]⟩→(∀V,WE V t x vs)→
 (E.base=E.w0∧∀k,E.X k→E.CB k)∧∃(l:Nat) (f:FuncId) (tmps:Array Value) (Tl body:Code),E.Y= .func (.yield l) #[] #[]∧(Instr.yield l vs.toArray).run P w= .ok (.round l f tmps Tl body) w∧
   RoundIn (FW r) 0 P l f tmps Tl body w fun e w'=>e= .returned (.bool true)∧∃O',E.J ⟨.slice t,xs++[x]⟩ O' w'∧Grow O w w'∧(∀k,O k→O' k)∧∀k,O' k→O k∨(w.heap.size≤k∧k<w'.heap.size)
theorem F2 (h:E.J=lj):Ij P E:=fun r t xs x vs O w hJ=>by
 rw[h] at hJ;have:(⟨.slice t,xs⟩:CV)=⟨.unit,()⟩:=hJ;injection this with e
 cases e
theorem St.yielded (hE:aI E)(h:St E σ a w ν O){tr:CV}(hJ:E.J tr O' w')(hg:Grow O w w')(hO:∀k,O k→O' k)(hO':∀k,O' k→O k∨(w.heap.size≤k∧k<w'.heap.size))(hb:E.base=E.w0∧∀k,E.X k→E.CB k):
  St E {σ with trace:=tr} a w' ν O':=by
 have hs:Mp {σ with trace:=tr} {σ with trace:=tr}:=⟨rfl,rfl,rfl,rfl⟩
 have hob:({σ with trace:=tr}:AS).obj=σ.obj:=by funext m;cases m<;>rfl
 have hown:∀m k,Own {σ with trace:=tr} ν m k→Own σ ν m k:=fun m k hm=>by unfold Own at hm ⊢;rw[hob] at hm;exact hm
 have hV:∀key u,view E σ ν O w key u→view E {σ with trace:=tr} ν O' w' key u:=fun key u hu=>GF hg (HSub.of_eq rfl (fun _ _=>rfl)) (fun k h1 h2 h3 h4=>⟨fun⟨m,hm⟩=>h3 ⟨m,hown m k hm⟩,fun h5=>by
  rcases hO' k h5 with h6 |h6
  ·exact h4 h6
  ·omega,h4⟩) hu
 have hblk:∀r o,w.heap[r]? =some o→¬O r→w'.heap[r]? =some o∧¬O' r:=fun r o h1 h2=>by
  have hlt:=(Array.getElem?_eq_some_iff.1 h1).1;refine⟨by rw[hg.block r hlt h2];exact h1,fun h3=> ?_⟩;rcases hO' r h3 with h4 |h4
  ·exact h2 h4
  ·omega
 refine⟨h.keep.trans hg (fun k hk ho=>(h.out.2 k ho).2 hk),fun d hd=> ?_,h.slots.mono (ak.mono hV ⟨HSub.of_eq rfl (fun _ _=>rfl),fun r row hr=>⟨rfl,row,hr,rfl⟩,fun b hb=>⟨rfl,hb⟩⟩),fun m o ho=> ?_,fun m m' k h1 h2=>h.inj m m' k (hown _ _ h1) (hown _ _ h2),fun m k hm=> ?_,fun r k hk=>h.new r k (hown _ _ hk),⟨hJ,fun k hk=> ?_⟩,h.nn,h.ro,h.kept,fun r hr=> ?_,h.wS.trans hg (fun k hk ho=> ?_),fun m k hm=>h.yx m k (hown _ _ hm),fun k hk=>hO k (h.Pp k hk),h.nd⟩
 ·obtain⟨r,h1,h2,h3,h4⟩:=h.marks d hd;obtain⟨h5,h6⟩:=hblk r _ h3 h4;exact⟨r,h1,h2,h5,h6⟩
 ·rw[hob] at ho;exact(h.CF m o ho).mono hV (fun k hk=>hg.block k (h.Aw m k ⟨br ho,hk⟩).2.1 (h.Aw m k ⟨br ho,hk⟩).2.2) (fun r _ hr=>⟨rfl,hr⟩)
 ·obtain⟨h1,h2,h3⟩:=h.Aw m k (hown _ _ hm);refine⟨h1,Nat.lt_of_lt_of_le h2 hg.size,fun h4=> ?_⟩;rcases hO' k h4 with h5 |h5
  ·exact h3 h5
  ·omega
 ·rcases hO' k hk with h5 |h5
  ·exact⟨Nat.lt_of_lt_of_le (h.out.2 k h5).1 hg.size,(h.out.2 k h5).2⟩
  ·exact⟨h5.2,fun h6=>by have:=h.keep.size;omega⟩
 ·obtain⟨h1,h2⟩:=h.waits r hr;exact hblk r _ h1 h2
 ·rw[hb.1] at hk;exact hb.2 k ((h.out.2 k ho).2 hk)
structure Ctx (P:Program) (T:dc) (Φ:cj T) (E:Env):Prop where
 env:aI E
 Tu:N1 T E
 tab:jO P T.rows
 hps:EU P T
 eqs:aiB P T
 sigs:UG T
 fns:aaU P T Φ
 num:E.h0.length=T.af.length
 aor:Ij P E
 jj:∀O w,E.J ⟨.unit,()⟩ O w→E.J=lj
theorem ai5 (C:Ctx P T Φ E)(h:St E σ a w ν O){o:Oper}{r:cP}{f:Operand}{args:Array Operand}{ats:Array TypeId}(ho:o.op= .call {callee:= .value f,args:=args,argTypes:=ats})
  (he:(EN T σ.av σ.sites o).val Φ σ=some r) (hacc:E.acc (bo σ o.dst r).trace):mv P o a w (To E (bo σ o.dst r)):=by
 have C5:σ.af.length=T.af.length:=by rw[h.kept.num,C.num]
 have hd:∀c,o.op≠ .defer c:=by rw[ho];intro c e;cases e
 have hf:=h.av C.Tu.1 f;unfold EN at he;simp only[ho] at he;generalize o.dst.bind (look σ.sites)=st at he;split at he
 ·rename_i hfy;rw[hfy] at hf;have hf':a.eval f=E.Y:=hf;rw[nY] at he;split at he
  ·rename_i t xs htr;rw[aD,cE] at he;obtain⟨QQ,x,hx,he⟩:=he;rw[iL] at he;subst he;have hJ:=h.out.1;rw[htr] at hJ;have hvs:=UL hx (UI (h.av C.Tu.1) args.toList);have aqE:E.acc ⟨.slice t,xs++[x]⟩:=by
    have:(bo σ o.dst (AV.rv (.cv ⟨.bool,true⟩),Eff.set {σ with trace:=⟨.slice t,xs++[x]⟩})).trace=⟨.slice t,xs++[x]⟩:=by unfold bo;dsimp only;cases o.dst<;>rfl
    rw[this] at hacc;exact hacc
   intro rr next Q hn
   obtain⟨hb,l,f',tmps,Tl,body,hY,hrun,aos⟩:=C.aor rr t xs x _ O w hJ aqE (fun V=>WE.Ni QQ hvs);refine⟨fun _ _=>trivial, ?_⟩;have hev:(execOp a.eval o).run P w= .ok (.round l f' tmps Tl body) w:=by
    have e1:(args.map a.eval)=(args.toList.map a.eval).toArray:=by rw[←Array.toList_map]
    rw[←e1] at hrun;simp[execOp,ho,resolve,hf',hY,Deferred.ofValue,invoke,hrun]
   rw[Oper.semAt_eq _ _ _ hd,hev,Oper.uponIn_round];refine⟨fun e=>(by cases e),RoundIn.mono aos ?_⟩;rintro e w' ⟨rfl,O',h1,h2,h3,h4⟩;exact hn _ _ ⟨ν,O',(h.yielded C.env h1 h2 h3 h4 hb).slot (x:= .rv (.cv ⟨.bool,true⟩)) zf⟩
  ·cases he
 ·rename_i hny;split at he
  ·rename_i g aX hg;cases hb:((args.toList.any fun x=>yv (σ.av x))&& !(k9 T (T.sig ((T9 T st g (args.toList.map σ.av++aX.map W7)).getD 0)))) with
   |true=>rw[hb,cond_true,nY,TQ] at he;obtain⟨y,he,rfl⟩:=he;rw[Ui] at he;have s1:=h.wK C.env args.toList;have hf1:=s1.av C.Tu.1 f;obtain⟨vs,e1,e2⟩:=UD hf1 (by rw[Xw];exact hg);obtain⟨us,e3,hx⟩:=UJ C.env C.Tu C.sigs C.fns (by rw[UK];exact C5) s1 ho e1 e2 he;unfold bo;dsimp only;rw[e3];exact hx
   |false=>rw[hb,cond_false] at he;obtain⟨vs,e1,e2⟩:=UD hf hg;obtain⟨us,e3,hx⟩:=UJ C.env C.Tu C.sigs C.fns C5 h ho e1 e2 he;unfold bo;rw[e3];exact hx
  ·cases he
theorem ai6 (C:Ctx P T Φ E)(h:St E σ a w ν O){o:Oper}{r:cP}(he:(EN T σ.av σ.sites o).val Φ σ=some r)(hacc:E.acc (bo σ o.dst r).trace):mv P o a w (To E (bo σ o.dst r)):=by
 have C5:σ.af.length=T.af.length:=by rw[h.kept.num,C.num]
 have hE:=C.env;have hG:=C.Tu.1;have hT:=C.tab;have bad:∀{op:Op},o.op=op→(∀(he:(EN T σ.av σ.sites {o with op:=op}).val Φ σ=some r),False)→False:=fun {op} e hb=>by subst e;exact hb he
 cases ho:o.op with
 |move x=>exact oA hE hG hT C.eqs h (.inl ⟨_,ho⟩) he
 |pick c x y=>exact oA hE hG hT C.eqs h (.inr (.inl ⟨_,_,_,ho⟩)) he
 |nilCheck x=>exact oA hE hG hT C.eqs h (.inr (.inr (.inl ⟨_,ho⟩))) he
 |load t x=>exact oA hE hG hT C.eqs h (.inr (.inr (.inr (.inl ⟨_,_,ho⟩)))) he
 |binOp b t x y u=>exact oA hE hG hT C.eqs h (.inr (.inr (.inr (.inr (.inl ⟨_,_,_,_,_,ho⟩))))) he
 |unOp b t x=>exact oA hE hG hT C.eqs h (.inr (.inr (.inr (.inr (.inr (.inl ⟨_,_,_,ho⟩)))))) he
 |convert s d x=>exact oA hE hG hT C.eqs h (.inr (.inr (.inr (.inr (.inr (.inr (.inl ⟨_,_,_,ho⟩))))))) he
 |fieldAddr s x f=>exact oA hE hG hT C.eqs h (.inr (.inr (.inr (.inr (.inr (.inr (.inr (.inl ⟨_,_,_,ho⟩)))))))) he
 |indexAddr t x i=>exact oA hE hG hT C.eqs h (.inr (.inr (.inr (.inr (.inr (.inr (.inr (.inr (.inl ⟨_,_,_,ho⟩))))))))) he
 |index t x i=>exact oA hE hG hT C.eqs h (.inr (.inr (.inr (.inr (.inr (.inr (.inr (.inr (.inr (.inl ⟨_,_,_,ho⟩)))))))))) he
 |extract x i=>exact oA hE hG hT C.eqs h (.inr (.inr (.inr (.inr (.inr (.inr (.inr (.inr (.inr (.inr ⟨_,_,ho⟩)))))))))) he
 |assign x=>exact af7 hE hG hT h ho he
 |store t x v=>exact aiR hE hG hT h ho he
 |alloc t=>exact aiS hE hG hT C.hps C5 h ho he
 |box t v=>exact aom hE hG hT h ho he
 |build t ps=>exact aiU hE hG hT h ho he
 |buildSlice t l ps=>exact WA hE hG hT C.hps C5 h ho he
 |makeSlice t l c=>exact YW hE hG hT C.hps C5 h ho he
 |slice t x l u m=>exact aiV hE hG hT h ho he
 |makeFunc f fs cs=>exact aaL hE hG h ho he
 |call c=>
  obtain⟨callee,args,ats⟩:=c;cases callee with
  |value f=>exact ai5 C h ho he hacc
  |builtin b=>
   cases b with
   |len=>exact aok hE hG hT h ho he
   |max=>exact Xk hE hG h (.inl rfl) ho he
   |min=>exact Xk hE hG h (.inr rfl) ho he
   |append=>exact agc hE hG hT h ho he
   |_=>unfold EN at he;simp only[ho] at he;cases he
  |invoke x n=>unfold EN at he;simp only[ho] at he;cases he
 |_=>unfold EN at he;simp only[ho] at he;cases he
end
open Go.RowKit Go.Lib
section
variable {T:dc}{α:Type}
def Q.ok (p:α→Prop):AS→Q T α→Prop
 |_, .ret a=>p a
 |_, .fail=>True
 |σ, .opt o k=>∀y,o=some y→(k y).ok p σ
 |σ, .gr b k=>k.ok p σ
 |σ, .ite b x y=>x.ok p σ∧y.ok p σ
 |σ, .row q k=>∀x,look σ.rows q=some x→(k x).ok p σ
 |σ, .len q k=>∀x,(k x).ok p σ
 |σ, .box q k=>∀x,(k x).ok p σ
 |σ, .heap q k=>∀x,(k x).ok p σ
 |σ, .rH q k=>k.ok p σ
 |σ, .rI q k=>k.ok p σ
 |σ, .call v x k=>∀y,(k y).ok p σ
 |σ, .all k=>(k σ).ok p σ
 |_, .on ah k=>k.ok p ah
theorem ai7 {p:α→Prop}{Φ:cj T}:∀{q:Q T α} {σ:AS} {r:α},q.ok p σ→q.val Φ σ=some r→p r:=by
 intro q;induction q with
 |ret a=>intro σ r h he;rw[iL] at he;subst he;exact h
 |fail=>intro σ r h he;cases he
 |opt o k ih=>intro σ r h he;rw[cE] at he;obtain⟨y,h1,h2⟩:=he;exact ih y (h y h1) h2
 |gr b k ih=>intro σ r h he;rw[aD] at he;exact ih h he.2
 |ite b x y Ml JA=>intro σ r h he;rw[Ps] at he;rcases he with ⟨_,he⟩ | ⟨_,he⟩
                   ·exact Ml h.1 he
                   ·exact JA h.2 he
 |row q k ih=>intro σ r h he;rw[rJ] at he;obtain⟨y,h1,h2⟩:=he;exact ih y (h y h1) h2
 |len q k ih=>intro σ r h he;rw[TP] at he;obtain⟨y,h1,h2⟩:=he;exact ih _ (h _) h2
 |box q k ih=>intro σ r h he;rw[EP] at he;obtain⟨y,h1,h2⟩:=he;exact ih y (h y) h2
 |heap q k ih=>intro σ r h he;rw[gG] at he;obtain⟨y,h1,h2⟩:=he;exact ih y (h y) h2
 |rH q k ih=>intro σ r h he;rw[zb] at he;exact ih h he.2
 |rI q k ih=>intro σ r h he;rw[aab] at he;exact ih h he.2
 |call v x k ih=>intro σ r h he;rw[Pt] at he;obtain⟨y,h1,h2⟩:=he;exact ih y (h y) h2
 |all k ih=>intro σ r h he;rw[nY] at he;exact ih σ h he
 |on ah k ih=>intro σ r h he;rw[Ui] at he;exact ih h he
theorem adk {β:Type}{f:α→β}{p:β→Prop}:∀{q:Q T α} {σ:AS},q.ok (fun x=>p (f x)) σ→(q.map f).ok p σ:=by
 intro q;induction q with
 |ret a=>intro σ h;exact h
 |fail=>intro σ h;trivial
 |opt o k ih=>intro σ h y hy;exact ih y (h y hy)
 |gr b k ih=>intro σ h;exact ih h
 |ite b x y Ml JA=>intro σ h;exact⟨Ml h.1,JA h.2⟩
 |row q k ih=>intro σ h y hy;exact ih y (h y hy)
 |len q k ih=>intro σ h y;exact ih y (h y)
 |box q k ih=>intro σ h y;exact ih y (h y)
 |heap q k ih=>intro σ h y;exact ih y (h y)
 |rH q k ih=>intro σ h;exact ih h
 |rI q k ih=>intro σ h;exact ih h
 |call v x k ih=>intro σ h y;exact ih y (h y)
 |all k ih=>intro σ h;exact ih σ h
 |on ah k ih=>intro σ h;exact ih (σ:=ah) h
end
def qv (a b:CV):Prop:=b=a∨∃(t:Ty) (xs ys:List t.den),a=⟨.slice t,xs⟩∧b=⟨.slice t,xs++ys⟩
theorem qv.refl (a:CV):qv a a:= .inl rfl
theorem qv.trans {a b c:CV}(h:qv a b)(g:qv b c):qv a c:=by
 rcases h with rfl | ⟨t,xs,ys,rfl,rfl⟩
 ·exact g
 ·rcases g with rfl | ⟨t',xs',ys',e,rfl⟩
  ·exact .inr ⟨t,xs,ys,rfl,rfl⟩
  ·injection e with e1 e2
   injection e1 with e1
   subst e1;simp only[heq_eq_eq] at e2;subst e2;exact .inr ⟨t,xs,ys++ys',rfl,by rw[List.append_assoc]⟩
structure Fr (σ ah:AS):Prop where
 cR:ah.cR=σ.cR
 sites:ah.sites=σ.sites
 s:ah.tmps.n=σ.tmps.n
 tr:qv σ.trace ah.trace
 ks:ah.tmps.s.map (·.1)=σ.tmps.s.map (·.1)
theorem Fr.refl (σ:AS):Fr σ σ:=⟨rfl,rfl,rfl,qv.refl _,rfl⟩
theorem Fr.trans {a b c:AS}(h:Fr a b)(g:Fr b c):Fr a c:=⟨g.cR.trans h.cR,g.sites.trans h.sites,g.s.trans h.s,h.tr.trans g.tr,g.ks.trans h.ks⟩
theorem Fr.jX {σ ah:AS}(h:Fr σ ah)(d:Option Tmp)(x:AV):Fr σ (ah.jX d x):=by
 cases d with
 |none=>exact h
 |some d=>
  refine⟨h.cR,h.sites, ?_,h.tr, ?_⟩
  ·show (ED ah.tmps d x).n=_;unfold ED;cases Nat.blt d ah.tmps.n<;>exact h.s
  ·show (ED ah.tmps d x).s.map (·.1)=_;unfold ED;cases Nat.blt d ah.tmps.n<;>exact h.ks
theorem zk (f:AV→AV)(l:List (Nat×AV)):(Wr f l).map (·.1)=l.map (·.1):=by simp[Wr]
def TU.fits (σ:AS):TU→Prop
 | .J4 q r=>(look σ.rows q).map (fun row=>row.xs.length)=some r.xs.length
 |_=>True
def TU.Rg:TU→Bool
 | .J4 _ _=>false
 |_=>true
def Fits:AS→List TU→Prop
 |_,[]=>True
 |σ,u::us=>u.fits σ∧Fits (σ.one u) us
theorem TU.agm {σ:AS}{u:TU}(h:u.Rg=true):u.fits σ:=by cases u<;>first |trivial |cases h
theorem Fits.ai8:∀{us:List TU} {σ:AS},us.all TU.Rg=true→Fits σ us
 | [],_,_=>trivial
 |u::us,σ,h=>by simp only[List.all_cons,Bool.and_eq_true] at h;exact⟨TU.agm h.1,Fits.ai8 h.2⟩
def vL (σ:AS)(r:cP):Prop:=match r.2 with
 | .nu us=>Fits σ us
 | .set ah=>Fr σ ah
section
variable {T:dc}{σ:AS}
theorem Fr.app (σ:AS):∀us,Fr σ (σ.app us):=by
 intro us;induction us generalizing σ with
 |nil=>exact Fr.refl _
 |cons u us ih=>exact Fr.trans (b:=σ.one u) (by cases u<;>exact⟨rfl,rfl,rfl,qv.refl _,rfl⟩) (ih (σ.one u))
theorem Fr.res {r:cP}(h:vL σ r)(d:Option Tmp):Fr σ (bo σ d r):=by
 unfold bo;unfold vL at h;split at h
 ·rename_i us e;first | (rw[e];exact(Fr.app σ us).jX d _) |exact(Fr.app σ us).jX d _
 ·rename_i s e;first | (rw[e];exact Fr.jX h d _) |exact Fr.jX h d _
theorem gH (r:Nat):Fr σ (σ.freeze r):=by unfold AS.freeze;split<;>first |exact⟨rfl,rfl,rfl,qv.refl _,rfl⟩ |exact⟨rfl,rfl,rfl,qv.refl _,zk _ _⟩
theorem Xx (r d:Nat):Fr σ (σ.rename r d):=by unfold AS.rename;split<;>first |exact⟨rfl,rfl,rfl,qv.refl _,rfl⟩ |exact⟨rfl,rfl,rfl,qv.refl _,zk _ _⟩
theorem adl (r:Nat):Fr σ (σ.bz r):=⟨rfl,rfl,rfl,qv.refl _,zk _ _⟩
theorem UM (r:Nat):Fr σ (σ.eV r):=⟨rfl,rfl,rfl,qv.refl _,zk _ _⟩
theorem ai9 (x:Operand):Fr σ (σ.frz x):=by unfold AS.frz;split<;>first |exact gH _ |exact Fr.refl _
theorem EX:∀(xs:List Operand) (σ:AS),Fr σ (σ.wK xs)
 | [],σ=>Fr.refl _
 |x::xs,σ=>(ai9 x).trans (EX xs _)
theorem Xy {ah:AS}(h:Fr σ ah)(rows:List (Nat×Row))(boxes:List (Nat×BX)):Fr σ {ah with rows:=rows,boxes:=boxes}:=⟨h.cR,h.sites,h.s,h.tr,h.ks⟩
def uj (r:cP):Prop:=match r.2 with
 | .nu us=>us.all TU.Rg=true
 | .set _=>False
theorem uj.eff {r:cP}(h:uj r):vL σ r:=by
 unfold uj at h;unfold vL;split at h
 ·rename_i us e;exact Fits.ai8 h
 ·exact h.elim
theorem bX {q:Q T cP}(h:q.ok uj σ):q.ok (vL σ) σ:=by
 have key:∀(q:Q T cP) (dL:AS),q.ok uj dL→q.ok (vL σ) dL:=by
  intro q;induction q with
  |ret a=>intro dL h;exact uj.eff h
  |fail=>intro dL h;trivial
  |opt o k ih=>intro dL h y hy;exact ih y dL (h y hy)
  |gr b k ih=>intro dL h;exact ih dL h
  |ite b x y Ml JA=>intro dL h;exact⟨Ml dL h.1,JA dL h.2⟩
  |row q k ih=>intro dL h y hy;exact ih y dL (h y hy)
  |len q k ih=>intro dL h y;exact ih y dL (h y)
  |box q k ih=>intro dL h y;exact ih y dL (h y)
  |heap q k ih=>intro dL h y;exact ih y dL (h y)
  |rH q k ih=>intro dL h;exact ih dL h
  |rI q k ih=>intro dL h;exact ih dL h
  |call v x k ih=>intro dL h y;exact ih y dL (h y)
  |all k ih=>intro dL h;exact ih dL dL h
  |on ah k ih=>intro dL h;exact ih ah h
 exact key q σ h
theorem wV (z:AV):(pv (T:=T) z).ok uj σ:=rfl
theorem Rh (t:Ty)(x:t.den):(EE (T:=T) t x).ok uj σ:=rfl
theorem mH {β:Type}{f:β→Q T cP}{p:cP→Prop}(hf:∀y,(f y).ok p σ)(o:Option β):(kt f o).ok p σ:=by
 cases o with
 |none=>trivial
 |some y=>exact hf y
theorem adm (op:BinOp)(b:Bool):(eqV (T:=T) op b).ok uj σ:=by unfold eqV;split<;>first |exact rfl |trivial
theorem aja (rows:List gZ)(t:TypeId)(x:AV):(W5 (T:=T) rows t x).ok uj σ:=by
 unfold W5;split
 ·trivial
 ·split
  ·intro bx;cases bx with
   |cells cs=>exact mH (fun y=>wV _) _
   |own q=>dsimp only;split<;>first |exact rfl |trivial
   |nil=>trivial
  ·intro row _;intro y hy;exact mH (fun y=>wV _) _
  ·exact mH (fun y=>wV _) _
  ·intro hr;intro l hl;intro y hy;exact mH (fun y=>wV _) _
  ·intro hr;intro l hl;intro y hy;exact mH (fun y=>wV _) _
  ·trivial
theorem UN (rows:List gZ)(ty:TypeId)(x:AV):(Nb (T:=T) rows ty x).ok uj σ:=by
 unfold Nb
 repeat' split
 all_goals first |exact rfl |trivial
theorem aeV (op:BinOp)(x y:AV):(afR (T:=T) op x y).ok uj σ:=by
 unfold afR
 repeat' split
 all_goals first |exact rfl |trivial |exact mH (fun y=>Rh _ _) _
theorem al3 (op:BinOp)(x y:AV):(afS (T:=T) op x y).ok uj σ:=by
 unfold afS
 repeat' split
 all_goals first |exact adm _ _ |trivial
theorem al4 (ty:Ty)(op:BinOp)(x y:AV):(afT (T:=T) ty op x y).ok uj σ:=by
 unfold afT
 repeat' split
 all_goals first |exact adm _ _ |trivial
theorem al5 (t:Ty)(op:BinOp)(x y:AV):(aim (T:=T) t op x y).ok uj σ:=by
 unfold aim;split
 ·exact(adm op _:Q.ok uj σ (eqV op _))
 ·trivial
theorem al6 (ty:Ty)(x:AV):(afU (T:=T) ty x).ok uj σ:=by
 unfold afU;split
 ·exact rfl
 ·exact rfl
 ·intro n;exact rfl
 ·exact rfl
 ·intro hr;intro l hl;exact rfl
 ·trivial
theorem agn (rows:List gZ)(t:TypeId)(x i:AV):(QT (T:=T) rows t x i).ok uj σ:=by
 unfold QT;split
 ·split
  ·split
   ·intro y hy;exact rfl
   ·intro row _ y hy;exact rfl
   ·intro hr l hl y hy;exact rfl
   ·split
    ·show Q.ok _ _ _;split
     ·split<;>first |exact rfl |trivial
     ·trivial
    ·trivial
   ·trivial
  ·trivial
 ·trivial
theorem ago (rows:List gZ)(s:TypeId)(x:AV)(f:Nat):(QU (T:=T) rows s x f).ok uj σ:=by
 unfold QU;split
 ·show Q.ok _ _ _;split
  ·split<;>first |exact rfl |trivial
  ·trivial
 ·trivial
theorem ajb (rows:List gZ)(s d:TypeId)(x:AV):(W6 (T:=T) rows s d x).ok uj σ:=by
 unfold W6;split
 ·split
  ·exact rfl
  ·exact rfl
  ·exact rfl
  ·intro row _;dsimp only;split
   ·exact rfl
   ·trivial
  ·exact rfl
  ·trivial
 ·trivial
theorem agp (rows:List gZ)(av:Operand→AV)(t:TypeId)(x:AV)(lo hi mx:Option Operand):(wP (T:=T) rows av t x lo hi mx).ok uj σ:=by
 unfold wP
 repeat' split
 all_goals first |exact rfl |trivial
theorem agq (rows:List gZ)(av:Operand→AV)(t:TypeId)(ps:List (Nat×Operand)):(CW (T:=T) rows av t ps).ok uj σ:=by
 unfold CW
 repeat' split
 all_goals first |exact mH (fun y=>wV _) _ |trivial
theorem Ri (d:Option Tmp)(row:Row):(newRow (T:=T) d row).ok uj σ:=by unfold newRow;split<;>first |exact rfl |trivial
theorem Xz (d:Option Tmp)(x:BX):(Bj (T:=T) d x).ok uj σ:=by unfold Bj;split<;>first |exact rfl |trivial
theorem GL (h:Nat)(hr:aQ)(xs:List (Option (List hr.t.den)))(l:List hr.t.den):(y8 (T:=T) h hr xs l).ok uj σ:=rfl
theorem XA (h:Nat)(hr:aQ)(x:hr.t.den):(NT (T:=T) h hr x).ok uj σ:=rfl
theorem XB (h n i off:Nat)(vs:List CV):(QV (T:=T) h n i off vs).ok uj σ:=fun hr l hl y hy y' hy'=>rfl
theorem XC (x:AV)(vs:List CV):(J6 (T:=T) x vs).ok (vL σ) σ:=by
 unfold J6;split
 ·exact bX (q:= .box _ _) (by intro bx;dsimp only;split<;>exact rfl)
 ·intro row hrow y hy y' hy';refine show vL σ (AV.nil,Eff.nu _) from ?_
  refine⟨?_,trivial⟩;show (look σ.rows _).map _=_;rw[hrow];simp
 ·exact bX (XB _ _ _ _ _)
 ·exact bX (XB _ _ _ _ _)
 ·trivial
theorem EY {p:cP→Prop}(t:Ty)(x:AV)(k:List t.den→Q T cP)(hk:∀l,(k l).ok p σ):(appended t x k).ok p σ:=by
 unfold appended;split
 ·intro hr l hl y hy;exact hk _
 ·intro y hy;exact hk _
 ·intro row _ y hy;exact hk _
 ·exact hk _
 ·trivial
theorem L5 {p:cP→Prop}(t:Ty)(k:t.den→Q T cP)(hk:∀l,(k l).ok p σ)(c:I5):(J7 t k c).ok p σ:=by
 unfold J7;split
 ·intro bx;dsimp only;split
  ·intro y hy;exact hk _
  ·intro row _ y hy;exact hk _
  ·trivial
 ·intro y hy;exact hk _
theorem UO {p:cP→Prop}:∀(ts:List Ty) (cs:List I5) (k:tw ts→Q T cP),(∀l,(k l).ok p σ)→(zQ ts cs k).ok p σ
 | [],[],k,hk=>hk ()
 | [t],[c],k,hk=>L5 t k hk c
 |t::u::ts,c::cs,k,hk=>L5 t _ (fun x=>UO (u::ts) cs _ fun y=>hk (x,y)) c
 | [],_::_,k,hk=>trivial
 | [_],[],k,hk=>trivial
 | [_],_::_::_,k,hk=>trivial
 |_::_::_,[],k,hk=>trivial
theorem PH {p:cP→Prop}:∀(hs:List Nat) (acc:List aQ) (k:List aQ→Q T cP),(∀l,(k l).ok p σ)→(CN hs acc k).ok p σ
 | [],acc,k,hk=>hk _
 |h::hs,acc,k,hk=>fun hr=>PH hs _ k hk
theorem aeW {q:cP→Prop}(dY:Bool)(nh:Nat)(hout:List Nat)(p:ph)(a:AV)(k:p.den→Q T cP)(hk:∀l,(k l).ok q σ):(afV dY nh hout p a k).ok q σ:=by
 unfold afV;split
 ·rename_i t k;split
  ·intro row _ y hy;exact hk _
  ·cases (QX a&& !(acX t)&&dY) with
   |true=>exact PH _ _ _ (fun l y hy=>hk _)
   |false=>intro y hy;exact hk _
 ·split
  ·exact UO _ _ _ hk
  ·trivial
 ·exact hk ()
 ·split
  ·exact L5 _ _ hk _
  ·exact L5 _ _ hk _
  ·trivial
 ·trivial
 ·trivial
theorem aa0 {q:cP→Prop}(dY:Bool)(nh:Nat)(hout:List Nat):∀(ps:List ph) (as:List AV) (k:HN ps→Q T cP),(∀l,(k l).ok q σ)→(Nf dY nh hout ps as k).ok q σ
 | [],[],k,hk=>hk ()
 | [p],[a],k,hk=>aeW dY nh hout p a k hk
 |p::p'::ps,a::as,k,hk=>aeW dY nh hout p a _ (fun x=>aa0 dY nh hout (p'::ps) as _ fun y=>hk (x,y))
 | [],_::_,k,hk=>trivial
 | [_],[],k,hk=>trivial
 | [_],_::_::_,k,hk=>trivial
 |_::_::_,[],k,hk=>trivial
theorem aa1 {q:cP→Prop}(wr:List Nat):∀(hs:List Nat) (k:FZ T hs→Q T cP),(∀l,(k l).ok q σ)→(Ua T wr hs k).ok q σ
 | [],k,hk=>hk ()
 | [h],k,hk=>fun hr=>by
   show Q.ok q σ (if e:hr.t=(T.ht h).t then k (Sd e hr.xs) else .fail);split
   ·exact hk _
   ·trivial
 |h::i::r,k,hk=>fun hr=>by
  show Q.ok q σ (if e:hr.t=(T.ht h).t then Ua T wr (i::r) fun y=>k (Sd e hr.xs,y) else .fail);split
  ·exact aa1 wr (i::r) _ fun y=>hk _
  ·trivial
theorem Kp {q:cP→Prop}:∀(ts:List NP) (d:Nat) (y:tw (ts.map (·.1))) (k:List TU→Q T cP),(∀l,l.all TU.Rg=true→(k l).ok q σ)→(aae d ts y k).ok q σ
 | [],d,y,k,hk=>hk _ rfl
 | [(t,none)],d,y,k,hk=>hk _ rfl
 | [(t,some e)],d,y,k,hk=>by
   simp only[aae];split
   ·exact hk _ rfl
   ·trivial
 | (t,none)::u::ts,d,y,k,hk=>Kp (u::ts) (d+1) y.2 k hk
 | (t,some e)::u::ts,d,y,k,hk=>by
   simp only[aae];split
   ·exact Kp (u::ts) (d+1) y.2 _ fun l hl=>hk _ (by simp only[List.all_cons,TU.Rg,Bool.true_and];exact hl)
   ·trivial
theorem PI {q:cP→Prop}:∀(ts:List Ty) (d:Nat) (y:tw ts) (k:List TU→List I5→Q T cP),(∀l m,l.all TU.Rg=true→(k l m).ok q σ)→(GD d ts y k).ok q σ
 | [],d,y,k,hk=>hk _ _ rfl
 | [t],d,y,k,hk=>hk _ _ rfl
 |t::u::ts,d,y,k,hk=>PI (u::ts) (d+1) y.2 _ fun l m hl=>hk _ _ (by simp only[List.all_cons,TU.Rg,Bool.true_and];exact hl)
theorem agr:∀(ts:List NP) (d:Nat) (y:tw (ts.map (·.1))),(lh d ts y).all TU.Rg=true:=fun ts d y=>by rw[List.all_eq_true];intro u hu;obtain⟨k,row,_,_,rfl,_⟩:=zj ts d y u hu;rfl
theorem UP:∀(hs:List Nat) (x:FZ T hs),(Bk T hs x).all TU.Rg=true
 | [],_=>rfl
 | [h],_=>rfl
 |h::i::r,x=>by simp only[Bk,List.all_cons,TU.Rg,Bool.true_and];exact UP (i::r) _
theorem al7 (d:Nat)(s:JZ)(y:NQ s)(us:List TU)(hu:us.all TU.Rg=true):(aip T d s y us).ok uj σ:=by
 unfold aip;have key:∀(x:AV) (vs:List TU),vs.all TU.Rg=true→uj (x, .nu (us++vs)):=fun x vs hv=>by show (us++vs).all TU.Rg=true;rw[List.all_append,hu,hv];rfl
 split
 ·rename_i a res hps y;have:=agr res d y;exact Kp _ _ _ _ (fun l hl=>key _ _ hl)
 ·exact PI _ _ _ _ fun l m hl=>key _ _ hl
 ·trivial
theorem aa2 (av:Operand→AV)(st:Option Site)(dst:Option Tmp)(f:FuncId)(aX:List I5)(args:List Operand):(J8 T av st dst f aX args).ok uj σ:=by
 unfold J8;dsimp only;split
 ·exact aa0 _ _ _ _ _ _ fun x=>aa1 _ _ _ fun h xh hxh yh=>al7 _ _ _ _ (UP _ _)
 ·trivial
end
open Go.RowKit Go.Lib
section
variable {T:dc}{σ:AS}
theorem cG {p:cP→Prop}{k:AS→Q T cP}(h:(k σ).ok p σ):(Q.all k).ok p σ:=h
theorem cH {p:cP→Prop}{b:Bool}{k:Q T cP}(h:k.ok p σ):(Q.gr b k).ok p σ:=h
theorem cI {p:cP→Prop}{q:Nat}{k:Row→Q T cP}(h:∀x,(k x).ok p σ):(Q.row q k).ok p σ:=fun x _=>h x
theorem bu {p:cP→Prop}{q:Nat}{k:aQ→Q T cP}(h:∀x,(k x).ok p σ):(Q.heap q k).ok p σ:=h
theorem cJ {p:cP→Prop}{q:Nat}{k:BX→Q T cP}(h:∀x,(k x).ok p σ):(Q.box q k).ok p σ:=h
theorem cK {p:cP→Prop}{β:Type}{q:Option β}{k:β→Q T cP}(h:∀x,(k x).ok p σ):(Q.opt q k).ok p σ:=fun y _=>h y
theorem aag {p:cP→Prop}{r:cP}(h:p r):(Q.ret (T:=T) r).ok p σ:=h
theorem Q.aeX {p p':cP→Prop}(hp:∀r,p r→p' r):∀{q:Q T cP} {σ:AS},q.ok p σ→q.ok p' σ:=by
 intro q;induction q with
 |ret a=>intro σ h;exact hp _ h
 |fail=>intro σ h;trivial
 |opt o k ih=>intro σ h y hy;exact ih y (h y hy)
 |gr b k ih=>intro σ h;exact ih h
 |ite b x y Ml JA=>intro σ h;exact⟨Ml h.1,JA h.2⟩
 |row q k ih=>intro σ h y hy;exact ih y (h y hy)
 |len q k ih=>intro σ h y;exact ih y (h y)
 |box q k ih=>intro σ h y;exact ih y (h y)
 |heap q k ih=>intro σ h y;exact ih y (h y)
 |rH q k ih=>intro σ h;exact ih h
 |rI q k ih=>intro σ h;exact ih h
 |call v x k ih=>intro σ h y;exact ih y (h y)
 |all k ih=>intro σ h;exact ih σ h
 |on ah k ih=>intro σ h;exact ih (σ:=ah) h
theorem kT {z:AV}{ah:AS}(h:Fr σ ah):vL σ (z, .set ah):=h
theorem XD {q:Q T cP}{ah:AS}(h:Fr σ ah):(q.map fun p=>(p.1,Eff.set ah)).ok (vL σ) σ:=by
 refine adk (p:=vL σ) ?_;have key:∀(q:Q T cP) (dL:AS),q.ok (fun x=>vL σ (x.1,Eff.set ah)) dL:=by
  intro q;induction q with
  |ret a=>intro dL;exact h
  |fail=>intro dL;trivial
  |opt o k ih=>intro dL y hy;exact ih y dL
  |gr b k ih=>intro dL;exact ih dL
  |ite b x y Ml JA=>intro dL;exact⟨Ml dL,JA dL⟩
  |row q k ih=>intro dL y hy;exact ih y dL
  |len q k ih=>intro dL y;exact ih y dL
  |box q k ih=>intro dL y;exact ih y dL
  |heap q k ih=>intro dL y;exact ih y dL
  |rH q k ih=>intro dL;exact ih dL
  |rI q k ih=>intro dL;exact ih dL
  |call v x k ih=>intro dL y;exact ih y dL
  |all k ih=>intro dL;exact ih dL dL
  |on ah k ih=>intro dL;exact ih ah
 exact key q σ
theorem anx (av:Operand→AV)(sites:List (Nat×Site))(o:Oper):(EN T av sites o).ok (vL σ) σ:=by
 unfold EN;dsimp only;generalize o.dst.bind (look sites)=st;cases ho:o.op with
 |move x=>exact bX (UN _ _ _)
 |assign x=>
  dsimp only;split
  ·((repeat (first |refine cG ?_ |refine cH ?_ |refine cI fun _=> ?_ |refine bu fun _=> ?_ |refine cJ fun _=> ?_ |refine cK fun _=> ?_))<;>(try dsimp only))
   refine aag (kT ?_);cases Nat.beq _ _ with
   |true=>exact Fr.refl _
   |false=>exact(gH _).trans (Xx _ _)
  ·split
   ·exact bX (wV _)
   ·split
    ·((repeat (first |refine cG ?_ |refine cH ?_ |refine cI fun _=> ?_ |refine bu fun _=> ?_ |refine cJ fun _=> ?_ |refine cK fun _=> ?_))<;>(try dsimp only))
     exact aag (kT ⟨(gH _).cR,(gH _).sites,(gH _).s,(gH _).tr,(gH _).ks⟩)
    ·exact bX (UN _ _ _)
  ·exact bX (UN _ _ _)
 |pick c x y=>
  dsimp only;split
  ·exact⟨bX (wV (T:=T) (σ:=σ) _),bX (wV (T:=T) (σ:=σ) _)⟩
  ·trivial
 |nilCheck x=>
  dsimp only;split
  ·((repeat (first |refine cG ?_ |refine cH ?_ |refine cI fun _=> ?_ |refine bu fun _=> ?_ |refine cJ fun _=> ?_ |refine cK fun _=> ?_))<;>(try dsimp only));exact bX (wV (T:=T) (σ:=σ) _)
  ·exact bX (wV (T:=T) (σ:=σ) _)
  ·exact bX (wV (T:=T) (σ:=σ) _)
  ·exact bX (wV (T:=T) (σ:=σ) _)
  ·exact bX (wV (T:=T) (σ:=σ) _)
  ·trivial
 |load t x=>exact bX (aja _ _ _)
 |binOp b t x y u=>
  dsimp only;split
  ·split
   ·exact bX (al3 _ _ _)
   ·exact bX (aeV _ _ _)
   ·exact bX (aeV _ _ _)
   ·((repeat (first |refine cG ?_ |refine cH ?_ |refine cI fun _=> ?_ |refine bu fun _=> ?_ |refine cJ fun _=> ?_ |refine cK fun _=> ?_))<;>(try dsimp only));exact bX (al5 _ _ _ _)
   ·exact bX (al4 _ _ _ _)
  ·trivial
 |unOp b t x=>
  dsimp only;split
  ·exact bX (Rh (T:=T) (σ:=σ) _ _)
  ·exact bX (Rh (T:=T) (σ:=σ) _ _)
  ·trivial
 |convert s d x=>exact bX (ajb _ _ _ _)
 |fieldAddr s x f=>exact bX (ago _ _ _ _)
 |indexAddr t x i=>exact bX (agn _ _ _ _)
 |index t x i=>
  dsimp only;split
  ·split
   ·((repeat (first |refine cG ?_ |refine cH ?_ |refine cI fun _=> ?_ |refine bu fun _=> ?_ |refine cJ fun _=> ?_ |refine cK fun _=> ?_))<;>(try dsimp only));exact bX (Rh (T:=T) (σ:=σ) _ _)
   ·trivial
  ·trivial
 |extract x i=>
  dsimp only;split
  ·exact bX (mH (fun y=>wV _) _)
  ·trivial
 |makeFunc f fs cs=>
  cases f with
  |func g=>
   dsimp only;split
   ·exact bX (mH (fun y=>wV _) _)
   ·trivial
  |_=>trivial
 |slice t x l u m=>
  dsimp only;split
  ·split
   ·split
    ·((repeat (first |refine cG ?_ |refine cH ?_ |refine cI fun _=> ?_ |refine bu fun _=> ?_ |refine cJ fun _=> ?_ |refine cK fun _=> ?_))<;>(try dsimp only))
     split
     ·((repeat (first |refine cG ?_ |refine cH ?_ |refine cI fun _=> ?_ |refine bu fun _=> ?_ |refine cJ fun _=> ?_ |refine cK fun _=> ?_))<;>(try dsimp only))
      split
      ·exact aag (kT ⟨rfl,rfl,rfl,qv.refl _,by first |rfl |exact zk _ _⟩)
      ·trivial
     ·trivial
    ·trivial
   ·((repeat (first |refine cG ?_ |refine cH ?_ |refine cI fun _=> ?_ |refine bu fun _=> ?_ |refine cJ fun _=> ?_ |refine cK fun _=> ?_))<;>(try dsimp only))
    exact XD (gH _)
  ·split
   ·split
    ·((repeat (first |refine cG ?_ |refine cH ?_ |refine cI fun _=> ?_ |refine bu fun _=> ?_ |refine cJ fun _=> ?_ |refine cK fun _=> ?_))<;>(try dsimp only))
     exact⟨bX (wV (T:=T) (σ:=σ) _),bX (GL (T:=T) (σ:=σ) _ _ _ _)⟩
    ·trivial
   ·trivial
  ·exact bX (agp _ _ _ _ _ _ _)
 |build t ps=>
  dsimp only;cases ((ps.toList.map (·.2)).any fun x=>yv (av x)) with
  |true=>exact XD (EX _ _)
  |false=>exact bX (agq _ _ _ _)
 |buildSlice t len ps=>
  dsimp only;split
  ·split
   ·((repeat (first |refine cG ?_ |refine cH ?_ |refine cI fun _=> ?_ |refine bu fun _=> ?_ |refine cJ fun _=> ?_ |refine cK fun _=> ?_))<;>(try dsimp only))
    exact bX (GL (T:=T) (σ:=σ) _ _ _ _)
   ·((repeat (first |refine cG ?_ |refine cH ?_ |refine cI fun _=> ?_ |refine bu fun _=> ?_ |refine cJ fun _=> ?_ |refine cK fun _=> ?_))<;>(try dsimp only))
    cases ((ps.toList.map (·.2)).any fun x=>yv (av x)) with
    |true=>
     ((repeat (first |refine cG ?_ |refine cH ?_ |refine cI fun _=> ?_ |refine bu fun _=> ?_ |refine cJ fun _=> ?_ |refine cK fun _=> ?_))<;>(try dsimp only))
     split
     ·split
      ·exact aag (kT ⟨(EX _ σ).cR,(EX _ σ).sites,(EX _ σ).s,(EX _ σ).tr,(EX _ σ).ks⟩)
      ·trivial
     ·trivial
    |false=>((repeat (first |refine cG ?_ |refine cH ?_ |refine cI fun _=> ?_ |refine bu fun _=> ?_ |refine cJ fun _=> ?_ |refine cK fun _=> ?_))<;>(try dsimp only));exact bX (Ri _ _)
  ·trivial
 |makeSlice t l c=>
  dsimp only;split
  ·((repeat (first |refine cG ?_ |refine cH ?_ |refine cI fun _=> ?_ |refine bu fun _=> ?_ |refine cJ fun _=> ?_ |refine cK fun _=> ?_))<;>(try dsimp only))
   split
   ·((repeat (first |refine cG ?_ |refine cH ?_ |refine cI fun _=> ?_ |refine bu fun _=> ?_ |refine cJ fun _=> ?_ |refine cK fun _=> ?_))<;>(try dsimp only));exact bX (GL (T:=T) (σ:=σ) _ _ _ _)
   ·exact bX (Ri _ _)
  ·trivial
 |alloc t=>
  dsimp only;split
  ·split
   ·((repeat (first |refine cG ?_ |refine cH ?_ |refine cI fun _=> ?_ |refine bu fun _=> ?_ |refine cJ fun _=> ?_ |refine cK fun _=> ?_))<;>(try dsimp only));exact bX (XA (T:=T) (σ:=σ) _ _ _)
   ·split
    ·exact bX (q:= .rI _ (.rH _ (.ret _))) rfl
    ·exact bX (Xz _ _)
  ·trivial
 |box t v=>
  dsimp only;split
  ·split
   ·((repeat (first |refine cG ?_ |refine cH ?_ |refine cI fun _=> ?_ |refine bu fun _=> ?_ |refine cJ fun _=> ?_ |refine cK fun _=> ?_))<;>(try dsimp only))
    split
    ·split
     ·exact aag (kT ⟨(gH _).cR,(gH _).sites,(gH _).s,(gH _).tr,(gH _).ks⟩)
     ·trivial
    ·trivial
   ·refine mH (fun vs=> ?_) _
    ((repeat (first |refine cG ?_ |refine cH ?_ |refine cI fun _=> ?_ |refine bu fun _=> ?_ |refine cJ fun _=> ?_ |refine cK fun _=> ?_))<;>(try dsimp only))
    split
    ·((repeat (first |refine cG ?_ |refine cH ?_ |refine cI fun _=> ?_ |refine bu fun _=> ?_ |refine cJ fun _=> ?_ |refine cK fun _=> ?_))<;>(try dsimp only));exact bX (XA (T:=T) (σ:=σ) _ _ _)
    ·exact bX (Xz _ _)
  ·trivial
 |store t x v=>
  dsimp only;split
  ·split
   ·((repeat (first |refine cG ?_ |refine cH ?_ |refine cI fun _=> ?_ |refine bu fun _=> ?_ |refine cJ fun _=> ?_ |refine cK fun _=> ?_))<;>(try dsimp only))
    cases Nat.beq _ _ with
    |true=>exact aag (kT ⟨rfl,rfl,rfl,qv.refl _,by first |rfl |exact zk _ _⟩)
    |false=>exact aag (kT (Xy ((gH _).trans (Xx _ _)) _ _))
   ·rename_i q hnb e1
    ((repeat (first |refine cG ?_ |refine cH ?_ |refine cI fun _=> ?_ |refine bu fun _=> ?_ |refine cJ fun _=> ?_ |refine cK fun _=> ?_))<;>(try dsimp only))
    refine adk (p:=vL σ) ?_;refine Q.aeX (σ:=σ.freeze q) (p:=vL (σ.freeze q)) (fun r hr=> ?_) (mH (fun vs=>by ((repeat (first |refine cG ?_ |refine cH ?_ |refine cI fun _=> ?_ |refine bu fun _=> ?_ |refine cJ fun _=> ?_ |refine cK fun _=> ?_))<;>(try dsimp only));exact XC _ _) _);show vL σ _;unfold vL at hr;split at hr
    ·rename_i us e;rw[e];exact kT ((gH _).trans (Fr.app _ us))
    ·rename_i s e;rw[e];exact kT ((gH _).trans hr)
   ·split
    ·((repeat (first |refine cG ?_ |refine cH ?_ |refine cI fun _=> ?_ |refine bu fun _=> ?_ |refine cJ fun _=> ?_ |refine cK fun _=> ?_))<;>(try dsimp only))
     exact aag (kT (Xy (gH _) _ _))
    ·trivial
   ·exact mH (fun vs=>by ((repeat (first |refine cG ?_ |refine cH ?_ |refine cI fun _=> ?_ |refine bu fun _=> ?_ |refine cJ fun _=> ?_ |refine cK fun _=> ?_))<;>(try dsimp only));exact XC _ _) _
  ·trivial
 |call c=>
  obtain⟨callee,args,ats⟩:=c;cases callee with
  |value f=>
   dsimp only;split
   ·((repeat (first |refine cG ?_ |refine cH ?_ |refine cI fun _=> ?_ |refine bu fun _=> ?_ |refine cJ fun _=> ?_ |refine cK fun _=> ?_))<;>(try dsimp only))
    split
    ·rename_i t xs htr
     ((repeat (first |refine cG ?_ |refine cH ?_ |refine cI fun _=> ?_ |refine bu fun _=> ?_ |refine cJ fun _=> ?_ |refine cK fun _=> ?_))<;>(try dsimp only))
     refine aag (kT ⟨rfl,rfl,rfl, .inr ⟨t,xs,[_],htr,rfl⟩,rfl⟩)
    ·trivial
   ·split
    ·cases ((args.toList.any fun x=>yv (av x))&& !(k9 T (T.sig ((T9 T st _ (args.toList.map av++List.map W7 _)).getD 0)))) with
     |true=>
      ((repeat (first |refine cG ?_ |refine cH ?_ |refine cI fun _=> ?_ |refine bu fun _=> ?_ |refine cJ fun _=> ?_ |refine cK fun _=> ?_))<;>(try dsimp only))
      refine adk (p:=vL σ) ?_;refine Q.aeX (σ:=σ.wK args.toList) (p:=uj) (fun r hr=> ?_) (aa2 _ _ _ _ _ _);show vL σ _;unfold uj at hr;split at hr
      ·rename_i us e;rw[e];exact kT ((EX _ σ).trans (Fr.app _ us))
      ·exact hr.elim
     |false=>exact bX (aa2 _ _ _ _ _ _)
    ·trivial
  |builtin b=>
   cases b with
   |len=>
    dsimp only;split
    ·split
     ·exact bX (al6 _ _)
     ·trivial
    ·trivial
   |max=>
    dsimp only;split
    ·split
     ·exact bX (Rh (T:=T) (σ:=σ) _ _)
     ·trivial
    ·trivial
   |min=>
    dsimp only;split
    ·split
     ·exact bX (Rh (T:=T) (σ:=σ) _ _)
     ·trivial
    ·trivial
   |append=>
    dsimp only;split
    ·((repeat (first |refine cG ?_ |refine cH ?_ |refine cI fun _=> ?_ |refine bu fun _=> ?_ |refine cJ fun _=> ?_ |refine cK fun _=> ?_))<;>(try dsimp only))
     split
     ·split
      ·((repeat (first |refine cG ?_ |refine cH ?_ |refine cI fun _=> ?_ |refine bu fun _=> ?_ |refine cJ fun _=> ?_ |refine cK fun _=> ?_))<;>(try dsimp only))
       refine EY _ _ _ fun ys=> ?_
       ((repeat (first |refine cG ?_ |refine cH ?_ |refine cI fun _=> ?_ |refine bu fun _=> ?_ |refine cJ fun _=> ?_ |refine cK fun _=> ?_))<;>(try dsimp only))
       split
       ·((repeat (first |refine cG ?_ |refine cH ?_ |refine cI fun _=> ?_ |refine bu fun _=> ?_ |refine cJ fun _=> ?_ |refine cK fun _=> ?_))<;>(try dsimp only))
        split
        ·exact aag (kT ⟨rfl,rfl,rfl,qv.refl _,by first |rfl |exact zk _ _⟩)
        ·trivial
       ·trivial
      ·((repeat (first |refine cG ?_ |refine cH ?_ |refine cI fun _=> ?_ |refine bu fun _=> ?_ |refine cJ fun _=> ?_ |refine cK fun _=> ?_))<;>(try dsimp only))
       refine EY _ _ _ fun ys=> ?_
       ((repeat (first |refine cG ?_ |refine cH ?_ |refine cI fun _=> ?_ |refine bu fun _=> ?_ |refine cJ fun _=> ?_ |refine cK fun _=> ?_))<;>(try dsimp only));exact⟨bX (wV (T:=T) (σ:=σ) _),bX (GL (T:=T) (σ:=σ) _ _ _ _)⟩
      ·split
       ·((repeat (first |refine cG ?_ |refine cH ?_ |refine cI fun _=> ?_ |refine bu fun _=> ?_ |refine cJ fun _=> ?_ |refine cK fun _=> ?_))<;>(try dsimp only))
        refine EY _ _ _ fun ys=> ?_
        ((repeat (first |refine cG ?_ |refine cH ?_ |refine cI fun _=> ?_ |refine bu fun _=> ?_ |refine cJ fun _=> ?_ |refine cK fun _=> ?_))<;>(try dsimp only));exact⟨bX (wV (T:=T) (σ:=σ) _),bX (GL (T:=T) (σ:=σ) _ _ _ _)⟩
       ·refine EY _ _ _ fun ys=> ?_
        ((repeat (first |refine cG ?_ |refine cH ?_ |refine cI fun _=> ?_ |refine bu fun _=> ?_ |refine cJ fun _=> ?_ |refine cK fun _=> ?_))<;>(try dsimp only));exact bX (Ri _ _)
      ·trivial
     ·trivial
    ·trivial
   |_=>trivial
  |invoke x n=>trivial
 |_=>trivial
end
open Go.RowKit Go.Lib
def oB (σ nv:AS)(k:Nat):Prop:=(∀r,k=4*r→look nv.rows r=look σ.rows r)∧(∀b,k=2*b+1→look nv.boxes b=look σ.boxes b)∧
 (∀r,k=4*r+2→(look nv.rows r).map (fun row=>row.xs.length)=(look σ.rows r).map (fun row=>row.xs.length))∧∀h,k=hk h→nv.af[h]? =σ.af[h]?
def ajc:nx→List Nat
 | .M r _=>r
 |_=>[]
def Y1:nx→List Nat
 | .M _ w=>w
 |_=>[]
theorem oB.refl (σ:AS)(k:Nat):oB σ σ k:=⟨fun _ _=>rfl,fun _ _=>rfl,fun _ _=>rfl,fun _ _=>rfl⟩
theorem oB.trans {σ dL nv:AS}{k:Nat}(h1:oB σ dL k)(h2:oB dL nv k):oB σ nv k:=
 ⟨fun r e=>(h2.1 r e).trans (h1.1 r e),fun b e=>(h2.2.1 b e).trans (h1.2.1 b e),fun r e=>(h2.2.2.1 r e).trans (h1.2.2.1 r e),fun r e=>(h2.2.2.2 r e).trans (h1.2.2.2 r e)⟩
theorem oB.symm {σ dL:AS}{k:Nat}(h1:oB σ dL k):oB dL σ k:=⟨fun r e=>(h1.1 r e).symm,fun b e=>(h1.2.1 b e).symm,fun r e=>(h1.2.2.1 r e).symm,fun r e=>(h1.2.2.2 r e).symm⟩
section
variable {T:dc}{Φ:cj T}{α:Type}
abbrev Q.go (Φ:cj T)(σ:AS)(q:Q T α)(c:nx):Option (nx×α):=q.run Φ σ c fun c a=>some (c,a)
theorem TX {R:Type}{k:nx→α→Option R}:∀(q:Q T α) (σ:AS) (c:nx),q.run Φ σ c k=(q.go Φ σ c).bind fun p=>k p.1 p.2:=by
 intro q;induction q with
 |ret a=>intro σ c;rfl
 |fail=>intro σ c;rfl
 |opt o q ih=>intro σ c;cases o with
  |none=>rfl
  |some y=>exact ih y σ c
 |gr b q ih=>intro σ c;cases b
             ·rfl
             ·exact ih σ c
 |ite b x y Ml JA=>intro σ c;cases b
                   ·exact JA σ c
                   ·exact Ml σ c
 |row r q ih=>intro σ c;simp only[Q.go,Q.run];split
              ·exact ih _ σ _
              ·rfl
 |len r q ih=>intro σ c;simp only[Q.go,Q.run];split
              ·exact ih _ σ _
              ·rfl
 |box r q ih=>intro σ c;simp only[Q.go,Q.run];split
              ·exact ih _ σ _
              ·rfl
 |heap r q ih=>intro σ c;simp only[Q.go,Q.run];split
               ·exact ih _ σ _
               ·rfl
 |rH r q ih=>intro σ c;simp only[Q.go,Q.run];split
             ·exact ih σ _
             ·rfl
 |rI r q ih=>intro σ c;simp only[Q.go,Q.run];split
             ·exact ih σ _
             ·rfl
 |call v x q ih=>intro σ c;simp only[Q.go,Q.run];cases Φ v x with
  |none=>rfl
  |some y=>exact ih y σ c
 |all q ih=>intro σ c;exact ih σ σ .X
 |on ah q ih=>intro σ c;exact ih ah .X
theorem aqF:∀(q:Q T α) (σ:AS) (c':nx) (r:α),q.go Φ σ .X=some (c',r)→c'= .X:=by
 intro q;induction q with
 |ret a=>intro σ c' r h;simp only[Q.go,Q.run,Option.some.injEq,Prod.mk.injEq] at h;exact h.1.symm
 |fail=>intro σ c' r h;cases h
 |opt o q ih=>intro σ c' r h;cases o with
  |none=>cases h
  |some y=>exact ih y σ c' r h
 |gr b q ih=>intro σ c' r h;cases b
             ·cases h
             ·exact ih σ c' r h
 |ite b x y Ml JA=>intro σ c' r h;cases b
                   ·exact JA σ c' r h
                   ·exact Ml σ c' r h
 |row q k ih=>intro σ c' r h;simp only[Q.go,Q.run] at h;split at h
              ·exact ih _ σ c' r h
              ·cases h
 |len q k ih=>intro σ c' r h;simp only[Q.go,Q.run] at h;split at h
              ·exact ih _ σ c' r h
              ·cases h
 |box q k ih=>intro σ c' r h;simp only[Q.go,Q.run] at h;split at h
              ·exact ih _ σ c' r h
              ·cases h
 |heap q k ih=>intro σ c' r h;simp only[Q.go,Q.run] at h;split at h
               ·exact ih _ σ c' r h
               ·cases h
 |rH q k ih=>intro σ c' r h;simp only[Q.go,Q.run] at h;split at h
             ·exact ih σ c' r h
             ·cases h
 |rI q k ih=>intro σ c' r h;simp only[Q.go,Q.run] at h;split at h
             ·exact ih σ c' r h
             ·cases h
 |call v x q ih=>intro σ c' r h;simp only[Q.go,Q.run,Option.bind_eq_some_iff] at h;obtain⟨y,_,h⟩:=h;exact ih y σ c' r h
 |all q ih=>intro σ c' r h;exact ih σ σ c' r h
 |on ah q ih=>intro σ c' r h;exact ih ah c' r h
theorem al8:∀(q:Q T α) (σ:AS) (rd wr:List Nat) (c':nx) (r:α),q.go Φ σ (.M rd wr)=some (c',r)→c'≠ .X→
  ∃l,c'= .M (l++rd) wr∧∀nv,(∀k∈l,oB σ nv k)→q.go Φ nv (.M rd wr)=some (c',r):=by
 intro q;induction q with
 |ret a=>intro σ rd wr c' r h hc;simp only[Q.go,Q.run,Option.some.injEq,Prod.mk.injEq] at h;obtain⟨rfl,rfl⟩:=h;exact⟨[],rfl,fun nv _=>rfl⟩
 |fail=>intro σ rd wr c' r h hc;cases h
 |opt o q ih=>intro σ rd wr c' r h hc;cases o with
  |none=>cases h
  |some y=>exact ih y σ rd wr c' r h hc
 |gr b q ih=>intro σ rd wr c' r h hc;cases b
             ·cases h
             ·exact ih σ rd wr c' r h hc
 |ite b x y Ml JA=>intro σ rd wr c' r h hc;cases b
                   ·exact JA σ rd wr c' r h hc
                   ·exact Ml σ rd wr c' r h hc
 |row q k ih=>
  intro σ rd wr c' r h hc;simp only[Q.go,Q.run] at h;split at h
  ·rename_i x hx;obtain⟨l,h1,h2⟩:=ih x σ (4*q::rd) wr c' r h hc;refine⟨l++[4*q],by rw[h1];simp,fun nv hs=> ?_⟩;have:=(hs (4*q) (by simp)).1 q rfl;simp only[Q.go,Q.run,this,hx];exact h2 nv (fun k hk=>hs k (by simp[hk]))
  ·cases h
 |len q k ih=>
  intro σ rd wr c' r h hc;simp only[Q.go,Q.run] at h;split at h
  ·rename_i x hx;obtain⟨l,h1,h2⟩:=ih _ σ ((4*q+2)::rd) wr c' r h hc;refine⟨l++[4*q+2],by rw[h1];simp,fun nv hs=> ?_⟩;have:=(hs (4*q+2) (by simp)).2.2.1 q rfl;rw[hx] at this;obtain⟨x2,hx2,hl⟩:=Option.map_eq_some_iff.1 this;simp only[Q.go,Q.run,hx2,hl];exact h2 nv (fun k hk=>hs k (by simp[hk]))
  ·cases h
 |box q k ih=>
  intro σ rd wr c' r h hc;simp only[Q.go,Q.run] at h;split at h
  ·rename_i x hx;obtain⟨l,h1,h2⟩:=ih x σ ((2*q+1)::rd) wr c' r h hc;refine⟨l++[2*q+1],by rw[h1];simp,fun nv hs=> ?_⟩;have:=(hs (2*q+1) (by simp)).2.1 q rfl;simp only[Q.go,Q.run,this,hx];exact h2 nv (fun k hk=>hs k (by simp[hk]))
  ·cases h
 |heap q k ih=>
  intro σ rd wr c' r h hc;simp only[Q.go,Q.run] at h;split at h
  ·rename_i x hx;obtain⟨l,h1,h2⟩:=ih x σ (hk q::rd) wr c' r h hc;refine⟨l++[hk q],by rw[h1];simp,fun nv hs=> ?_⟩;have:=(hs (hk q) (by simp)).2.2.2 q rfl;simp only[Q.go,Q.run,this,hx];exact h2 nv (fun k hk=>hs k (by simp[hk]))
  ·cases h
 |rH q k ih=>
  intro σ rd wr c' r h hc;simp only[Q.go,Q.run] at h;split at h
  ·rename_i hx;obtain⟨l,h1,h2⟩:=ih σ (4*q::rd) wr c' r h hc;refine⟨l++[4*q],by rw[h1];simp,fun nv hs=> ?_⟩;have:=(hs (4*q) (by simp)).1 q rfl;simp only[Q.go,Q.run,this,hx];exact h2 nv (fun k hk=>hs k (by simp[hk]))
  ·cases h
 |rI q k ih=>
  intro σ rd wr c' r h hc;simp only[Q.go,Q.run] at h;split at h
  ·rename_i hx;obtain⟨l,h1,h2⟩:=ih σ ((2*q+1)::rd) wr c' r h hc;refine⟨l++[2*q+1],by rw[h1];simp,fun nv hs=> ?_⟩;have:=(hs (2*q+1) (by simp)).2.1 q rfl;simp only[Q.go,Q.run,this,hx];exact h2 nv (fun k hk=>hs k (by simp[hk]))
  ·cases h
 |call v x q ih=>intro σ rd wr c' r h hc;simp only[Q.go,Q.run,Option.bind_eq_some_iff] at h;obtain⟨y,hy,h⟩:=h;obtain⟨l,h1,h2⟩:=ih y σ rd wr c' r h hc;exact⟨l,h1,fun nv hs=>by simp only[Q.go,Q.run,hy,Option.bind_some];exact h2 nv hs⟩
 |all q ih=>intro σ rd wr c' r h hc;exact absurd (aqF (q σ) σ c' r h) hc
 |on ah q ih=>intro σ rd wr c' r h hc;exact absurd (aqF q ah c' r h) hc
end
section
variable {T:dc}{av Rb:Operand→AV}
theorem Ik {d:Int}{x:Option Operand}(h:∀y,x=some y→Rb y=av y):jM Rb d x=jM av d x:=by
 cases x with
 |none=>rfl
 |some y=>simp only[jM,h y rfl]
theorem Nj {rU:List (Nat×Nat)}:∀(parts:List (Nat×Operand)) (cs:List CV),(∀p∈parts,Rb p.2=av p.2)→partsOf Rb rU parts cs=partsOf av rU parts cs
 | [],cs,h=>rfl
 | (i,x)::r,cs,h=>by have hx:=h (i,x) (by simp);simp only at hx;have ih:=fun cs=>Nj (rU:=rU) r cs (fun p hp=>h p (by simp[hp]));simp only[partsOf,hx,ih]
theorem Ss {t:Ty}:∀(parts:List (Nat×Operand)) (xs:List t.den),(∀p∈parts,Rb p.2=av p.2)→elems Rb t parts xs=elems av t parts xs
 | [],cs,h=>rfl
 | (i,x)::r,cs,h=>by have hx:=h (i,x) (by simp);simp only at hx;have ih:=fun cs=>Ss (t:=t) r cs (fun p hp=>h p (by simp[hp]));simp only[elems,hx,ih]
theorem Y2 {xs:List Operand}(h:∀x∈xs,Rb x=av x):xs.any (fun x=>yv (Rb x))=xs.any (fun x=>yv (av x)):=by
 induction xs with
 |nil=>rfl
 |cons x xs ih=>simp only[List.any_cons];rw[h x (by simp),ih (fun y hy=>h y (by simp[hy]))]
theorem Nk {α β:Type}{f g:α→Option β}:∀{xs:List α},(∀x∈xs,f x=g x)→mO f xs=mO g xs
 | [],_=>rfl
 |x::xs,h=>by simp only[mO,h x (by simp),Nk (xs:=xs) (fun y hy=>h y (by simp[hy]))]
theorem XE {xs:List Operand}(h:∀x∈xs,Rb x=av x):xs.map Rb=xs.map av:=List.map_congr_left h
theorem aa3 {st:Option Site}{dst:Option Tmp}{f:FuncId}{aX:List I5}{args:List Operand}(h:∀x∈args,Rb x=av x):J8 T Rb st dst f aX args=J8 T av st dst f aX args:=by unfold J8;rw[XE h]
theorem ags {sites:List (Nat×Site)}{o:Oper}(h:∀x∈o.op.operands,Rb x=av x):EN T Rb sites o=EN T av sites o:=by
 unfold EN;dsimp only;generalize o.dst.bind (look sites)=st;cases ho:o.op with
 |move x=>have hx:=h x (by simp[ho,Op.operands]);simp only[hx]
 |assign x=>have hx:=h x (by simp[ho,Op.operands]);simp only[hx]
 |pick c x y=>have h1:=h c (by simp[ho,Op.operands]);have h2:=h x (by simp[ho,Op.operands]);have h3:=h y (by simp[ho,Op.operands]);simp only[h1,h2,h3]
 |nilCheck x=>have hx:=h x (by simp[ho,Op.operands]);simp only[hx]
 |load t x=>have hx:=h x (by simp[ho,Op.operands]);simp only[hx]
 |binOp b t x y u=>have h1:=h x (by simp[ho,Op.operands]);have h2:=h y (by simp[ho,Op.operands]);simp only[h1,h2]
 |unOp b t x=>have hx:=h x (by simp[ho,Op.operands]);simp only[hx]
 |convert s d x=>have hx:=h x (by simp[ho,Op.operands]);simp only[hx]
 |fieldAddr s x f=>have hx:=h x (by simp[ho,Op.operands]);simp only[hx]
 |indexAddr t x i=>have h1:=h x (by simp[ho,Op.operands]);have h2:=h i (by simp[ho,Op.operands]);simp only[h1,h2]
 |index t x i=>have h1:=h x (by simp[ho,Op.operands]);have h2:=h i (by simp[ho,Op.operands]);simp only[h1,h2]
 |extract x i=>have hx:=h x (by simp[ho,Op.operands]);simp only[hx]
 |makeFunc f fs cs=>
  cases f with
  |func g=>
   dsimp only;split
   ·exact congrArg (kt _) (Nk fun x hx=>by
     have:=h x (by simp only[ho,Op.operands,Array.mem_append];exact .inr (by simpa using hx));rw[this])
   ·rfl
  |_=>rfl
 |slice t x l u m=>
  have hx:=h x (by simp[ho,Op.operands]);have hl:∀d,jM Rb d l=jM av d l:=fun d=>Ik (fun y e=>h y (by subst e;simp[ho,Op.operands]));have hu:∀d,jM Rb d u=jM av d u:=fun d=>Ik (fun y e=>h y (by subst e;simp[ho,Op.operands]));have hm:∀d,jM Rb d m=jM av d m:=fun d=>Ik (fun y e=>h y (by subst e;simp[ho,Op.operands]));have hs:∀z,wP (T:=T) T.rows Rb t z l u m=wP T.rows av t z l u m:=fun z=>by
   unfold wP;simp only[hl,hu];cases m with
   |none=>rfl
   |some mm=>cases u with
    |none=>rfl
    |some uu=>have e1:=hu 0;have e2:=hm 0;simp only[e1,e2]
  simp only[hx,hs];cases u with
  |none=>cases l<;>cases m<;>rfl
  |some uu=>have e1:=h uu (by simp[ho,Op.operands]);cases l<;>cases m<;>first |rfl |simp only[e1]
 |build t ps=>
  have hp:∀p∈ps.toList,Rb p.2=av p.2:=fun p hp=>h p.2 (by simp only[ho,Op.operands,List.mem_toArray,List.mem_map];exact⟨p,hp,rfl⟩);have ha:=Y2 (xs:=ps.toList.map (·.2)) (fun x hx=>by obtain⟨p,h1,rfl⟩:=List.mem_map.1 hx;exact hp p h1);have hb:CW (T:=T) T.rows Rb t ps.toList=CW T.rows av t ps.toList:=by unfold CW;simp only[Nj _ _ hp]
  simp only[ha,hb]
 |buildSlice t len ps=>have hp:∀p∈ps.toList,Rb p.2=av p.2:=fun p hp=>h p.2 (by simp only[ho,Op.operands,List.mem_toArray,List.mem_map];exact⟨p,hp,rfl⟩);have ha:=Y2 (xs:=ps.toList.map (·.2)) (fun x hx=>by obtain⟨p,h1,rfl⟩:=List.mem_map.1 hx;exact hp p h1);have he:∀(u:Ty) (l:List u.den),elems Rb u ps.toList l=elems av u ps.toList l:=fun u l=>Ss _ _ hp;simp only[ha,he]
 |makeSlice t l c=>have h1:=h l (by simp[ho,Op.operands]);have h2:=h c (by simp[ho,Op.operands]);simp only[h1,h2]
 |alloc t=>rfl
 |box t v=>have hx:=h v (by simp[ho,Op.operands]);simp only[hx]
 |store t x v=>have h1:=h x (by simp[ho,Op.operands]);have h2:=h v (by simp[ho,Op.operands]);simp only[h1,h2]
 |call c=>
  obtain⟨callee,args,ats⟩:=c;have hargs:∀x∈args.toList,Rb x=av x:=fun x hx=>h x (by simp only[ho,Op.operands,Call.operands];cases callee<;>simp<;>(try right)<;>simpa using hx);cases callee with
  |value f=>have hf:=h f (by simp[ho,Op.operands,Call.operands]);simp only[hf,XE hargs,Y2 hargs,aa3 hargs]
  |builtin b=>
   cases b with
   |len=>
    dsimp only;split
    ·rename_i x t hx ht;have h1:=hargs x (by rw[hx];simp);simp only[h1]
    ·rfl
   |max=>
    dsimp only;split
    ·rename_i x y hx;have h1:=hargs x (by rw[hx];simp);have h2:=hargs y (by rw[hx];simp);simp only[h1,h2]
    ·rfl
   |min=>
    dsimp only;split
    ·rename_i x y hx;have h1:=hargs x (by rw[hx];simp);have h2:=hargs y (by rw[hx];simp);simp only[h1,h2]
    ·rfl
   |append=>
    dsimp only;split
    ·rename_i s x t tx hx ht;have h1:=hargs s (by rw[hx];simp);have h2:=hargs x (by rw[hx];simp);simp only[h1,h2]
    ·rfl
   |_=>rfl
  |invoke x n=>rfl
 |_=>rfl
end
open Go.RowKit Go.Lib
section
variable {P:Program}{T:dc}{E:Env}{σ dL nv:AS}{Φ:cj T}{ops:Array Oper}
theorem ajd (u:TU):(σ.one u).tmps=σ.tmps:=by cases u<;>rfl
theorem agt (u:TU):(σ.one u).sites=σ.sites:=by cases u<;>rfl
theorem Kq:∀(us:List TU) (σ:AS),(σ.app us).tmps=σ.tmps
 | [],σ=>rfl
 |u::us,σ=>by rw[AS.app,Kq us,ajd]
theorem Rj:∀(us:List TU) (σ:AS),(σ.app us).sites=σ.sites
 | [],σ=>rfl
 |u::us,σ=>by rw[AS.app,Rj us,agt]
theorem UQ (d:Option Tmp)(v:AV):(σ.jX d v).sites=σ.sites:=by cases d<;>rfl
theorem aje (d:Option Tmp)(v:AV):(σ.jX d v).tmps.s=σ.tmps.s:=by
 cases d with
 |none=>rfl
 |some d=>simp only[AS.jX,ED];cases Nat.blt d σ.tmps.n<;>rfl
theorem aa4 (d:Option Tmp)(v:AV):(σ.jX d v).rows=σ.rows∧(σ.jX d v).boxes=σ.boxes∧(σ.jX d v).af=σ.af:=by cases d<;>exact⟨rfl,rfl,rfl⟩
theorem ajf {R:Type}(o:Oper)(k:nx→AS→Option R):Mm T Φ σ o k=(Mm T Φ σ o (fun c s=>some (c,s))).bind fun p=>k p.1 p.2:=by
 rw[LN,LN];rw[TX]
 conv=>rhs;rw[TX]
 cases (EN T σ.av σ.sites o).go Φ σ (.M [] []) with
 |none=>rfl
 |some p=>obtain⟨c,r1,r2⟩:=p;cases r2<;>rfl
theorem aa5 {o:Oper}{c:nx}{ah:AS}(he:Mm T Φ σ o (fun c s=>some (c,s))=some (c,ah)):∃r,(EN T σ.av σ.sites o).val Φ σ=some r∧ah=bo σ o.dst r:=by
 rw[LN] at he;obtain⟨c',r,h1,h2⟩:=aeG _ _ he;refine⟨r,h1, ?_⟩;unfold bo;split at h2
 ·rename_i us e;first | (rw[e];simp only[Option.some.injEq,Prod.mk.injEq] at h2;exact h2.2.symm) | (simp only[Option.some.injEq,Prod.mk.injEq] at h2;exact h2.2.symm)
 ·rename_i s e;first | (rw[e];simp only[Option.some.injEq,Prod.mk.injEq] at h2;exact h2.2.symm) | (simp only[Option.some.injEq,Prod.mk.injEq] at h2;exact h2.2.symm)
theorem al9 {nv:AS}{xs:Array Operand}(hs:nv.tmps.s=σ.tmps.s)(h:∀t, .tmp t∈xs→nth nv.tmps t=nth σ.tmps t):∀x∈xs,nv.av x=σ.av x:=by
 intro x hx;cases x with
 |tmp t=>exact h t hx
 |const v=>rfl
 |global g=>simp only[AS.av,gh.av,hs]
 |func f=>rfl
def Local (T:dc)(Φ:cj T)(σ:AS)(o:Oper)(c:nx)(ah:AS):Prop:=
 ∃v us,ah=(σ.app us).jX o.dst v∧(∀u∈us,∀k∈u.keys,k∈Y1 c)∧Fits σ us∧∀nv:AS,nv.sites=σ.sites→(∀x∈o.op.operands,nv.av x=σ.av x)→(∀k,k∈ajc c∨k∈Y1 c→oB σ nv k)→
  Mm T Φ nv o (fun c s=>some (c,s))=some (c,(nv.app us).jX o.dst v)
theorem ajg {o:Oper}{c:nx}{ah:AS}(he:Mm T Φ σ o (fun c s=>some (c,s))=some (c,ah))(hc:c≠ .X):Local T Φ σ o c ah:=by
 have he0:=he;rw[LN] at he;rw[TX,Option.bind_eq_some_iff] at he;obtain⟨⟨c',r⟩,h1,h2⟩:=he;have hv:(EN T σ.av σ.sites o).val Φ σ=some r:=by obtain⟨c2,r2,h3,h4⟩:=aeG _ _ h1;simp only[Option.some.injEq,Prod.mk.injEq] at h4;rw[←h4.2];exact h3
 have hok:=ai7 (anx σ.av σ.sites o) hv;dsimp only at h2;unfold vL at hok;split at h2
 ·rename_i us e;rw[e] at hok;simp only[Option.some.injEq,Prod.mk.injEq] at h2;obtain⟨rfl,rfl⟩:=h2;have hc':c'≠ .X:=fun e'=>hc (by rw[e'];rfl);obtain⟨l,rfl,hl⟩:=al8 _ _ _ _ _ _ h1 hc';refine⟨r.1,us,rfl,fun u hu k hk=> ?_,hok,fun nv hs rL hk=> ?_⟩
  ·show k∈aal us++[]
   rw[List.append_nil];exact List.mem_flatMap.2 ⟨u,hu,hk⟩
  ·rw[LN];rw[ags (av:=σ.av) rL,hs,TX];rw[hl nv (fun k hk'=>hk k (.inl (by show k∈l++[];simpa using hk')))];simp only[Option.bind_some,e]
 ·simp only[Option.some.injEq,Prod.mk.injEq] at h2;exact absurd h2.1.symm hc
theorem aa6 (l:gh)(t d:Nat)(v:AV)(h:t≠d):nth (ED l d v) t=nth l t:=by
 unfold ED;cases Nat.blt d l.n with
 |true=>simp only[cond_true,nth,W9,if_neg (Ne.symm h)]
 |false=>rfl
theorem agu {α:Type}(l:List (Nat×α)){i j:Nat}(u v:α)(h:i≠j):NS (NS l i u) j v=NS (NS l j v) i u:=by
 have Se:∀{a b:Nat},a<b→Nat.blt a b=true:=fun h=>(uO _ _).2 h;have Sf:∀{a b:Nat},¬a<b→Nat.blt a b=false:=fun h=>by
  cases hb:Nat.blt _ _
  ·rfl
  ·exact absurd ((uO _ _).1 hb) h
 induction l with
 |nil=>
  rcases Nat.lt_or_gt_of_ne h with h1 |h1
  ·simp[NS,Se h1,Sf (show ¬j<i by omega),ny (Ne.symm h)]
  ·simp[NS,Se h1,Sf (show ¬i<j by omega),ny h]
 |cons p r ih=>
  obtain⟨k,x⟩:=p;rcases Nat.lt_trichotomy k i with h1 |h1 |h1<;>rcases Nat.lt_trichotomy k j with h2 |h2 |h2<;>rcases Nat.lt_or_gt_of_ne h with h3 |h3<;>
   first
   |omega
   | (try subst h1
      try subst h2
      simp (disch:=omega) [NS,Se,Sf,ny,beq_refl,ih])
theorem agv (l:gh)(i j:Nat)(u v:AV)(h:i≠j):ED (ED l i u) j v=ED (ED l j v) i u:=by unfold ED;cases hi:Nat.blt i l.n<;>cases hj:Nat.blt j l.n<;>simp[hi,hj];exact agu _ _ _ h
theorem aeY {α:Type}:∀{l:List (Nat×α)} {t:Nat} {x:α},look l t=some x→alG l t x=l
 | [],_,_,h=>by cases h
 | (k,u)::r,t,x,h=>by
   simp only[look] at h;simp only[alG];cases hb:Nat.beq k t with
   |true=>rw[hb] at h;have e:u=x:=by simpa using h
          subst e;rfl
   |false=>rw[hb] at h;simp only[cond_false];rw[aeY h]
theorem Y3 {t:Nat}{b:Bool}(h:nth σ.tmps t= .rv (.cv ⟨.bool,b⟩)):σ.NU t b=σ:=by
 unfold AS.NU;have:look σ.tmps.l t=some (.rv (.cv ⟨.bool,b⟩)):=by
  unfold nth at h;split at h
  ·rename_i x hx;rw[hx,h]
  ·cases h
 obtain⟨⟨n,l,sv⟩,rows,boxes,af,trace,cR,sites⟩:=σ;simp only at this ⊢;rw[aeY this]
theorem agw {R:Type}{o:Oper}(hg:o.guard=none)(k:nx→AS→Option R):J9 T Φ ops σ o k=Mm T Φ σ o k:=by unfold J9;rw[hg]
theorem agx {R:Type}{o:Oper}{j t:Nat}{want b:Bool}(hg:o.guard=some (j,want))(ht:(ops[j]?).bind (·.dst)=some t)(hb:nth σ.tmps t= .rv (.cv ⟨.bool,b⟩))(k:nx→AS→Option R):
  J9 T Φ ops σ o k=if b=want then Mm T Φ σ o k else k (.M [] []) (σ.jX o.dst (.lit undef)):=by
 unfold J9;simp only[hg,ht,hb];cases b<;>cases want<;>simp[Y3 hb,Ud]
theorem ajh {R:Type}{o:Oper}{j t:Nat}{want:Bool}{vs:Array Value}(hg:o.guard=some (j,want))(ht:(ops[j]?).bind (·.dst)=some t)(hb:nth σ.tmps t= .lit (.tuple vs))(k:nx→AS→Option R):
  J9 T Φ ops σ o k=k (.M [] []) (σ.jX o.dst (.lit undef)):=by
 unfold J9;simp only[hg,ht,hb,Ud]
theorem adn {R:Type}{o:Oper}{j:Nat}{want:Bool}(hg:o.guard=some (j,want))(h:∀t,(ops[j]?).bind (·.dst)=some t→(∀b,nth σ.tmps t≠ .rv (.cv ⟨.bool,b⟩))∧∀vs,nth σ.tmps t≠ .lit (.tuple vs))(k:nx→AS→Option R):
  J9 T Φ ops σ o k=none:=by
 unfold J9;rw[hg];simp only;split
 ·rename_i t ht;obtain⟨h1,h2⟩:=h t ht;split
  ·rename_i b hb;exact absurd hb (h1 b)
  ·rename_i vs hb;exact absurd hb (h2 vs)
  ·rfl
 ·rfl
def Way (ops:Array Oper)(o:Oper)(σ:AS)(run:Bool):Prop:=
 match o.guard with
 |none=>run=true
 |some (j,want)=>∃t,(ops[j]?).bind (·.dst)=some t∧((∃b,nth σ.tmps t= .rv (.cv ⟨.bool,b⟩)∧run=(b==want))∨(∃vs,nth σ.tmps t= .lit (.tuple vs)∧run=false))
theorem aot {R:Type}{o:Oper}{run:Bool}(h:Way ops o σ run)(k:nx→AS→Option R):J9 T Φ ops σ o k=if run then Mm T Φ σ o k else k (.M [] []) (σ.jX o.dst (.lit undef)):=by
 unfold Way at h;split at h
 ·rename_i hg;subst h;rw[agw hg];rfl
 ·rename_i j want hg;obtain⟨t,ht,⟨b,hb,rfl⟩ | ⟨vs,hb,rfl⟩⟩:=h
  ·rw[agx hg ht hb];cases b<;>cases want<;>rfl
  ·rw[ajh hg ht hb];rfl
theorem aou {R:Type}{o:Oper}{k:nx→AS→Option R}{r:R}(h:J9 T Φ ops σ o k=some r):∃run,Way ops o σ run:=by
 cases hg:o.guard with
 |none=>exact⟨true,by unfold Way;rw[hg]⟩
 |some p=>
  obtain⟨j,want⟩:=p;by_cases hx:∃t,(ops[j]?).bind (·.dst)=some t∧((∃b,nth σ.tmps t= .rv (.cv ⟨.bool,b⟩))∨∃vs,nth σ.tmps t= .lit (.tuple vs))
  ·obtain⟨t,ht,⟨b,hb⟩ | ⟨vs,hb⟩⟩:=hx
   ·exact⟨b==want,by unfold Way;rw[hg];exact⟨t,ht, .inl ⟨b,hb,rfl⟩⟩⟩
   ·exact⟨false,by unfold Way;rw[hg];exact⟨t,ht, .inr ⟨vs,hb,rfl⟩⟩⟩
  ·rw[adn hg (fun t ht=>⟨fun b hb=>hx ⟨t,ht, .inl ⟨b,hb⟩⟩,fun vs hb=>hx ⟨t,ht, .inr ⟨vs,hb⟩⟩⟩)] at h;cases h
def Tr (T:dc)(Φ:cj T)(ops:Array Oper)(o:Oper)(σ:AS)(c:nx)(ah:AS):Prop:=
 ∃run,Way ops o σ run∧(if run then Mm T Φ σ o (fun c s=>some (c,s))=some (c,ah) else c= .M [] []∧ah=σ.jX o.dst (.lit undef))
theorem ama {R:Type}{o:Oper}{k:nx→AS→Option R}{r:R}(h:J9 T Φ ops σ o k=some r):∃c ah,Tr T Φ ops o σ c ah∧k c ah=some r:=by
 obtain⟨run,hw⟩:=aou h;rw[aot hw] at h;cases run with
 |true=>simp only[if_true] at h;rw[ajf] at h;obtain⟨p,hp,h2⟩:=Option.bind_eq_some_iff.1 h;exact⟨p.1,p.2,⟨true,hw,by simpa using hp⟩,h2⟩
 |false=>exact⟨.M [] [],_,⟨false,hw,rfl,rfl⟩,h⟩
theorem aqG {o:Oper}{c:nx}{ah:AS}(h:Tr T Φ ops o σ c ah):Fr σ ah:=by
 obtain⟨run,hw,h⟩:=h;cases run with
 |true=>simp only[if_true] at h;obtain⟨r,h1,rfl⟩:=aa5 h;exact Fr.res (ai7 (anx σ.av σ.sites o) h1) _
 |false=>obtain⟨_,rfl⟩:=h;exact(Fr.refl σ).jX _ _
theorem aa7 {o:Oper}{c:nx}{ah:AS}(h:Tr T Φ ops o σ c ah)(hc:c≠ .X):∃v us,ah=(σ.app us).jX o.dst v∧(∀u∈us,∀k∈u.keys,k∈Y1 c)∧Fits σ us∧
  ∀nv:AS,nv.sites=σ.sites→nv.tmps.s=σ.tmps.s→(∀t∈o.looksAt ops,nth nv.tmps t=nth σ.tmps t)→(∀k,k∈ajc c∨k∈Y1 c→oB σ nv k)→Tr T Φ ops o nv c ((nv.app us).jX o.dst v):=by
 obtain⟨run,hw,h⟩:=h;have aqH:∀nv:AS,(∀t∈o.looksAt ops,nth nv.tmps t=nth σ.tmps t)→Way ops o nv run:=fun nv hs=>by
  unfold Way at hw ⊢;cases hg:o.guard with
  |none=>simp only[hg] at hw;exact hw
  |some p=>obtain⟨j,want⟩:=p;simp only[hg] at hw;obtain⟨t,ht,hor⟩:=hw;have:=hs t (by simp[Oper.looksAt,hg,ht]);exact⟨t,ht,by rw[this];exact hor⟩
 cases run with
 |true=>simp only[if_true] at h;obtain⟨v,us,h1,h2,h3,h4⟩:=ajg h hc;refine⟨v,us,h1,h2,h3,fun nv hsi hss hs hk=> ?_⟩;have hop:∀x∈o.op.operands,nv.av x=σ.av x:=al9 hss (fun t ht=>hs t (by simp only[Oper.looksAt,List.mem_append,List.mem_filterMap];exact .inl ⟨.tmp t,by simpa using ht,rfl⟩));exact⟨true,aqH nv hs,by simpa using h4 nv hsi hop hk⟩
 |false=>obtain⟨rfl,rfl⟩:=h;exact⟨.lit undef,[],rfl,(fun u hu=>by cases hu),trivial,fun nv _ _ hs hk=>⟨false,aqH nv hs,rfl,rfl⟩⟩
theorem UR:∀(us:List TU) (σ:AS) (d:Option Tmp) (v:AV),(σ.jX d v).app us=(σ.app us).jX d v
 | [],σ,d,v=>rfl
 |u::us,σ,d,v=>by
  have:(σ.jX d v).one u=(σ.one u).jX d v:=by cases u<;>cases d<;>rfl
  rw[AS.app,this,UR us];rfl
theorem aji {u:TU}{k:Nat}(h:k∉u.keys)(hf:u.fits σ):oB σ (σ.one u) k:=by
 cases u with
 |row q r=>
  simp only[TU.keys,List.mem_cons,List.not_mem_nil,or_false,not_or] at h;refine⟨fun r' e=> ?_,fun b e=>rfl,fun r' e=> ?_,fun _ _=>rfl⟩
  ·simp only[AS.one,aH];rw[if_neg];intro e';exact h.1 (by rw[e,e'])
  ·simp only[AS.one,aH];rw[if_neg];intro e';exact h.2 (by rw[e,e'])
 |J4 q r=>
  simp only[TU.keys,List.mem_cons,List.not_mem_nil,or_false] at h;refine⟨fun r' e=> ?_,fun b e=>rfl,fun r' e=> ?_,fun _ _=>rfl⟩
  ·simp only[AS.one,aH];rw[if_neg];intro e';exact h (by rw[e,e'])
  ·simp only[AS.one,aH];split
   ·rename_i e';subst e';exact hf.symm
   ·rfl
 |box q x=>simp only[TU.keys,List.mem_cons,List.not_mem_nil,or_false] at h;refine⟨fun r' e=>rfl,fun b e=> ?_,fun r' e=>rfl,fun _ _=>rfl⟩;simp only[AS.one,aH];rw[if_neg];intro e';exact h (by rw[e,e'])
 |heap q x=>simp only[TU.keys,List.mem_cons,List.not_mem_nil,or_false] at h;refine⟨fun r' e=>rfl,fun b e=>rfl,fun r' e=>rfl,fun h' e=> ?_⟩;simp only[AS.one];rw[List.getElem?_set_ne];intro e';exact h (by rw[e,e'])
theorem US:∀(us:List TU) (σ:AS) (k:Nat),(∀u∈us,k∉u.keys)→Fits σ us→oB σ (σ.app us) k
 | [],σ,k,h,hf=>oB.refl _ _
 |u::us,σ,k,h,hf=>(aji (h u (by simp)) hf.1).trans (US us (σ.one u) k (fun v hv=>h v (by simp[hv])) hf.2)
theorem ado {u:TU}{k:Nat}(h:oB σ nv k):oB (σ.one u) (nv.one u) k:=by
 cases u with
 |row q r=>
  refine⟨fun r' e=> ?_,h.2.1,fun r' e=> ?_,h.2.2.2⟩
  ·simp only[AS.one,aH];split
   ·rfl
   ·exact h.1 r' e
  ·simp only[AS.one,aH];split
   ·rfl
   ·exact h.2.2.1 r' e
 |J4 q r=>
  refine⟨fun r' e=> ?_,h.2.1,fun r' e=> ?_,h.2.2.2⟩
  ·simp only[AS.one,aH];split
   ·rfl
   ·exact h.1 r' e
  ·simp only[AS.one,aH];split
   ·rfl
   ·exact h.2.2.1 r' e
 |box q x=>
  refine⟨h.1,fun r' e=> ?_,h.2.2.1,h.2.2.2⟩;simp only[AS.one,aH];split
  ·rfl
  ·exact h.2.1 r' e
 |heap q x=>
  refine⟨h.1,h.2.1,h.2.2.1,fun h' e=> ?_⟩;have h0:=h.2.2.2 h' e;simp only[AS.one];by_cases e':q=h'
  ·subst e';by_cases hl:q<σ.af.length
   ·have hl2:q<nv.af.length:=by have:=List.getElem?_eq_getElem hl;rw[←h0] at this;exact(List.getElem?_eq_some_iff.1 this).1
    rw[List.getElem?_set_self hl,List.getElem?_set_self hl2]
   ·have hl2:¬q<nv.af.length:=fun hl2=>by have:=List.getElem?_eq_getElem hl2;rw[h0] at this;exact hl (List.getElem?_eq_some_iff.1 this).1
    rw[List.getElem?_eq_none (by simp;omega),List.getElem?_eq_none (by simp;omega)]
  ·rw[List.getElem?_set_ne e',List.getElem?_set_ne e'];exact h0
theorem XF:∀{us:List TU} {σ nv:AS},Fits σ us→(∀u∈us,∀k∈u.keys,oB σ nv k)→Fits nv us
 | [],_,_,_,_=>trivial
 |u::us,σ,nv,h,hs=>by
  refine⟨?_,XF h.2 (fun v hv k hk=>ado (hs v (by simp[hv]) k hk))⟩;have h1:=h.1;cases u with
  |J4 q r=>have:=(hs (.J4 q r) (by simp) (4*q) (by simp[TU.keys])).1 q rfl;show (look nv.rows q).map _=_;rw[this];exact h1
  |_=>trivial
theorem ajj {u v:TU}(h:∀k∈u.keys,k∉v.keys):(σ.one u).one v=(σ.one v).one u:=by
 have rr:∀(q q':Nat) (r r':Row),q≠q'→put (put σ.rows q r) q' r'=put (put σ.rows q' r') q r:=fun q q' r r' e=>put_comm _ _ _ e;cases u with
 |row q r=>cases v with
  |row q' r'=>simp only[AS.one];rw[rr];intro e;exact h (4*q) (by simp[TU.keys]) (by simp[TU.keys,e])
  |J4 q' r'=>simp only[AS.one];rw[rr];intro e;exact h (4*q) (by simp[TU.keys]) (by simp[TU.keys,e])
  |_=>rfl
 |J4 q r=>cases v with
  |row q' r'=>simp only[AS.one];rw[rr];intro e;exact h (4*q) (by simp[TU.keys]) (by simp[TU.keys,e])
  |J4 q' r'=>simp only[AS.one];rw[rr];intro e;exact h (4*q) (by simp[TU.keys]) (by simp[TU.keys,e])
  |_=>rfl
 |box q x=>cases v with
  |box q' x'=>simp only[AS.one];rw[put_comm];intro e;exact h (2*q+1) (by simp[TU.keys]) (by simp[TU.keys,e])
  |_=>rfl
 |heap q x=>cases v with
  |heap q' x'=>simp only[AS.one];rw[List.set_comm];intro e;exact h (hk q) (by simp[TU.keys]) (by simp[TU.keys,e])
  |_=>rfl
theorem aeZ:∀(us:List TU) (σ:AS) (u:TU),(∀v∈us,∀k∈u.keys,k∉v.keys)→(σ.one u).app us=(σ.app us).one u
 | [],σ,u,h=>rfl
 |v::us,σ,u,h=>by rw[AS.app,ajj (h v (by simp)),aeZ us (σ.one v) u (fun x hx=>h x (by simp[hx]))];rfl
theorem aa8:∀(us vs:List TU) (σ:AS),(∀u∈us,∀v∈vs,∀k∈u.keys,k∉v.keys)→(σ.app us).app vs=(σ.app vs).app us
 | [],vs,σ,h=>rfl
 |u::us,vs,σ,h=>by rw[AS.app,aa8 us vs (σ.one u) (fun x hx v hv=>h x (by simp[hx]) v hv),aeZ vs σ u (fun v hv=>h u (by simp) v hv)];rfl
theorem agy {σ:AS}{d d':Option Tmp}{u v:AV}(h:∀x,d=some x→d'≠some x):(σ.jX d u).jX d' v=(σ.jX d' v).jX d u:=by
 cases d with
 |none=>cases d'<;>rfl
 |some x=>
  cases d' with
  |none=>rfl
  |some y=>simp only[AS.jX];rw[agv _ _ _ _ _ (fun e=>h x rfl (by rw[e]))]
theorem EZ {a b:List Nat}(h:meets a b=false):∀x∈a,∀y∈b,x≠y:=by
 intro x hx y hy e;have:meets a b=true:=by unfold meets;rw[List.any_eq_true];exact⟨x,hx,by rw[List.any_eq_true];exact⟨y,hy,(beq_iff _ _).2 e⟩⟩
 rw[this] at h;cases h
theorem aa9 {c1 c2:nx}(h:HQ c1 c2=true):c1≠ .X∧c2≠ .X∧(∀x∈Y1 c1,∀y,y∈ajc c2∨y∈Y1 c2→x≠y)∧(∀x∈Y1 c2,∀y,y∈ajc c1∨y∈Y1 c1→x≠y):=by
 cases c1 with
 |X=>simp[HQ] at h
 |M r w=>
  cases c2 with
  |X=>simp[HQ] at h
  |M r' w'=>
   simp only[HQ,Bool.not_eq_true',Bool.or_eq_false_iff] at h;obtain⟨⟨h1,h2⟩,h3⟩:=h;refine⟨by simp,by simp,fun x hx y hy=> ?_,fun x hx y hy=> ?_⟩
   ·rcases hy with hy |hy
    ·exact EZ h1 x hx y hy
    ·exact EZ h2 x hx y hy
   ·rcases hy with hy |hy
    ·exact fun e=>EZ h3 y hy x hx e.symm
    ·exact fun e=>EZ h2 y hy x hx e.symm
theorem aba {σ:AS}{d:Option Tmp}{v:AV}{t:Nat}(h:d≠some t):nth (σ.jX d v).tmps t=nth σ.tmps t:=by
 cases d with
 |none=>rfl
 |some d=>exact aa6 _ _ _ _ (fun e=>h (by rw[e]))
theorem XG {d:Option Tmp}{v:AV}(k:Nat):oB σ (σ.jX d v) k:=by obtain⟨h1,h2,h3⟩:=aa4 (σ:=σ) d v;exact⟨fun _ _=>by rw[h1],fun _ _=>by rw[h2],fun _ _=>by rw[h1],fun _ _=>by rw[h3]⟩
theorem amb {o1 o2:Oper}{c1 c2:nx}(h1:Tr T Φ ops o1 σ c1 dL)(h2:Tr T Φ ops o2 dL c2 nv)(ha:o1.apart ops o2=true)(hn:HQ c1 c2=true):
  ∃amc,Tr T Φ ops o2 σ c2 amc∧Tr T Φ ops o1 amc c1 nv:=by
 obtain⟨n1,n2,n3,n4⟩:=aa9 hn;obtain⟨v1,us1,rfl,k1,f1,l1⟩:=aa7 h1 n1;obtain⟨v2,us2,rfl,k2,f2,l2⟩:=aa7 h2 n2;obtain⟨p1,p2,p3⟩:=Oper.apart_spec ha;have sa:∀k,k∈ajc c2∨k∈Y1 c2→oB σ ((σ.app us1).jX o1.dst v1) k:=fun k hk=>
  (US us1 σ k (fun u hu hm=>n3 k (k1 u hu k hm) k hk rfl) f1).trans (XG k)
 have e2:=l2 σ (by rw[UQ,Rj]) (by rw[aje,Kq]) (fun t ht=>by
   rw[aba (fun e=>p1 t e ht),Kq]) (fun k hk=>(sa k hk).symm)
 have f2':Fits σ us2:=XF f2 (fun u hu k hk=>(sa k (.inr (k2 u hu k hk))).symm);refine⟨_,e2, ?_⟩;have e1:=l1 ((σ.app us2).jX o2.dst v2) (by rw[UQ,Rj]) (by rw[aje,Kq]) (fun t ht=>by
   rw[aba (fun e=>p3 t e ht),Kq]) (fun k hk=>(US us2 σ k (fun u hu hm=>n4 k (k2 u hu k hm) k hk rfl) f2').trans (XG k))
 rw[UR,aa8 us2 us1 σ (fun u hu v hv k hk hk'=>n4 k (k2 u hu k hk) k (.inr (k1 v hv k hk')) rfl)] at e1;rw[UR,agy (fun x e=>p2 x e)];exact e1
end
open Go.RowKit Go.Lib
def aah (E:Env):Prop:=∀tr tr',qv tr tr'→E.acc tr'→E.acc tr
section
variable {P:Program}{T:dc}{E:Env}{σ dL nv JD:AS}{a:Act}{w w':World}{ν aN:Nm→Value}{O:Nat→Prop}{Φ:cj T}{ops:Array Oper}{Q:Exit→Act→World→Prop}{rr:Option Nat}
theorem getD_some {l:Array Value}{t:Nat}{v:Value}(h:l.toList.getD t undef=v)(hv:v≠undef):l[t]? =some v:=by
 simp only[List.getD_eq_getElem?_getD,Array.getElem?_toList] at h;cases hl:l[t]? with
 |none=>rw[hl] at h;exact absurd h.symm hv
 |some u=>rw[hl] at h;simpa using h
theorem adp (h:St E σ a w ν O){o:Oper}{run:Bool}(hw:Way ops o σ run):Region.wanted o (yielded ops a.tmps)=run:=by
 unfold Way at hw;unfold Region.wanted;cases hg:o.guard with
 |none=>simp only[hg] at hw ⊢;exact hw.symm
 |some p=>
  obtain⟨j,want⟩:=p;simp only[hg] at hw ⊢;obtain⟨t,ht,⟨b,hb,rfl⟩ | ⟨vs,hb,rfl⟩⟩:=hw
  ·have hr:=Pq (fun v=>by trivial) h.slots t;rw[hb] at hr;have h1:a.tmps.toList.getD t undef= .bool b:=Xc (V:=view E σ ν O w) hr;have h2:=getD_some h1 (by intro e;cases e);unfold yielded;rw[ht];simp[h2]
  ·have hr:=Pq (fun v=>by trivial) h.slots t;rw[hb] at hr;have h1:a.tmps.toList.getD t undef= .tuple vs:=hr;unfold yielded;rw[ht];simp only[Option.bind_some];cases hl:a.tmps[t]? with
   |none=>rfl
   |some u=>
    have:u= .tuple vs:=by simp only[List.getD_eq_getElem?_getD,Array.getElem?_toList,hl] at h1;simpa using h1
    subst this;rfl
theorem abb (C:Ctx P T Φ E)(h:St E σ a w ν O){i:Nat}{o:Oper}(ho:ops[i]? =some o){c:nx}{ah:AS}(ht:Tr T Φ ops o σ c ah)(hacc:E.acc ah.trace)
  {K:Act→World→Prop} (hK:∀a' w',To E ah a' w'→K a' w'):wpOpIn (FW rr) 0 P ops Q i K a w:=by
 obtain⟨run,hw,ht⟩:=ht;unfold wpOpIn;rw[ho];simp only[adp h hw];cases run with
 |true=>simp only[if_true] at ht ⊢;obtain⟨r,h1,rfl⟩:=aa5 ht;exact ai6 C h h1 hacc rr K Q hK
 |false=>obtain⟨rfl,rfl⟩:=ht;exact⟨fun _ _=>trivial,hK _ _ ⟨ν,O,h.slot (x:= .lit undef) rfl⟩⟩
def adq (T:dc)(Φ:cj T)(ops:Array Oper):List (Nat×Oper×nx)→AS→AS→Prop
 | [],σ,JD=>JD=σ
 | (_,o,c)::r,σ,JD=>∃dL,Tr T Φ ops o σ c dL∧adq T Φ ops r dL JD
theorem UT:∀{L:List (Nat×Oper×nx)} {σ:AS},adq T Φ ops L σ JD→Fr σ JD
 | [],σ,h=>by have:JD=σ:=h;subst this;exact Fr.refl _
 | (_,o,c)::r,σ,⟨dL,h1,h2⟩=>(aqG h1).trans (UT h2)
def C8:Nat→List Oper→List nx→List (Nat×Oper×nx)
 |i,o::l,c::cs=>(i,o,c)::C8 (i+1) l cs
 |_,_,_=>[]
theorem Rk {R:Type}:∀(l:List Oper) (i:Nat) (σ:AS) (cs:List nx) (k:List nx→AS→Option R) (r:R),W8 T Φ ops l σ cs k=some r→
  ∃(t:List nx) (JD:AS),t.length=l.length∧adq T Φ ops (C8 i l t) σ JD∧k (t.reverse++cs) JD=some r
 | [],i,σ,cs,k,r,h=>⟨[],σ,rfl,rfl,h⟩
 |o::l,i,σ,cs,k,r,h=>by obtain⟨c,dL,h1,h2⟩:=ama h;obtain⟨t,JD,h3,h4,h5⟩:=Rk l (i+1) dL (c::cs) k r h2;exact⟨c::t,JD,by simp[h3],⟨dL,h1,h4⟩,by simpa using h5⟩
theorem PJ:∀(l:List Oper) (i:Nat) (t:List nx) (x:Nat×Oper×nx),x∈C8 i l t→i≤x.1∧l[x.1 - i]? =some x.2.1∧t[x.1 - i]? =some x.2.2
 | [],i,t,x,h=>by simp[C8] at h
 |o::l,i,[],x,h=>by simp[C8] at h
 |o::l,i,c::t,x,h=>by
  simp only[C8,List.mem_cons] at h;rcases h with rfl |h
  ·exact⟨Nat.le_refl _,by simp,by simp⟩
  ·obtain⟨h1,h2,h3⟩:=PJ l (i+1) t x h;have:x.1 - i=(x.1 - (i+1))+1:=by omega
   exact⟨by omega,by rw[this];simpa using h2,by rw[this];simpa using h3⟩
theorem abc:∀(l:List Oper) (i:Nat) (t:List nx),t.length=l.length→∀p o,l[p]? =some o→∃c,(i+p,o,c)∈C8 i l t
 | [],i,t,ht,p,o,h=>by simp at h
 |o'::l,i,[],ht,p,o,h=>by simp at ht
 |o'::l,i,c::t,ht,0,o,h=>by simp at h;subst h;exact⟨c,by simp[C8]⟩
 |o'::l,i,c::t,ht,p+1,o,h=>by
  obtain⟨c',h1⟩:=abc l (i+1) t (by simpa using ht) p o (by simpa using h);refine⟨c', ?_⟩;simp only[C8,List.mem_cons];right;have:i+(p+1)=i+1+p:=by omega
  rw[this];exact h1
theorem abd:∀(l:List Oper) (i:Nat) (t:List nx),(C8 i l t).length≤l.length
 | [],i,t=>by simp[C8]
 |o::l,i,[]=>by simp[C8]
 |o::l,i,c::t=>by simp[C8,abd l (i+1) t]
theorem Su:∀(l:List Oper) (i:Nat) (t:List nx),(C8 i l t).Pairwise fun x y=>x.1<y.1
 | [],i,t=>by simp[C8]
 |o::l,i,[]=>by simp[C8]
 |o::l,i,c::t=>by simp only[C8,List.pairwise_cons];exact⟨fun y hy=>by have:=(PJ l (i+1) t y hy).1;show i<y.1;omega,Su l (i+1) t⟩
theorem abe (C:Ctx P T Φ E)(hD:aah E)(hacc:E.acc JD.trace):∀(l pre:List Oper) (t:List nx) (σ:AS) (a:Act) (w:World) (ν:Nm→Value) (O:Nat→Prop),ops.toList=pre++l→t.length=l.length→
  St E σ a w ν O→adq T Φ ops (C8 pre.length l t) σ JD→(∀a' w',To E JD a' w'→Q .normal a' w')→wpOpsIn (FW rr) 0 P ops Q (List.range' pre.length l.length) a w
 | [],pre,t,σ,a,w,ν,O,hop,ht,h,hr,hQ=>by
   have:JD=σ:=by cases t<;>exact hr
   subst this;exact hQ _ _ ⟨ν,O,h⟩
 |o::l,pre,[],σ,a,w,ν,O,hop,ht,h,hr,hQ=>by simp at ht
 |o::l,pre,c::t,σ,a,w,ν,O,hop,ht,h,hr,hQ=>by
  obtain⟨dL,h1,h2⟩:=hr;rw[List.length_cons,List.range'_succ,wpOpsIn_cons];have ho:ops[pre.length]? =some o:=by rw[←Array.getElem?_toList,hop];simp
  refine abb C h ho h1 (hD _ _ (UT h2).tr hacc) (fun a' w' ⟨aN,O',h'⟩=> ?_);have:=abe C hD hacc l (pre++[o]) t dL a' w' aN O' (by rw[hop];simp) (by simpa using ht) h' (by simpa using h2) hQ;simpa using this
theorem XI:∀(L1 L2:List (Nat×Oper×nx)) (x:Nat×Oper×nx) (σ:AS),adq T Φ ops (L1++x::L2) σ JD→(∀y∈L1,y.2.1.apart ops x.2.1=true∧HQ y.2.2 x.2.2=true)→
  ∃dL,Tr T Φ ops x.2.1 σ x.2.2 dL∧adq T Φ ops (L1++L2) dL JD
 | [],L2,x,σ,h,_=>h
 |y::L1,L2,x,σ,h,hy=>by obtain⟨dL,h1,h2⟩:=h;obtain⟨nv,h3,h4⟩:=XI L1 L2 x dL h2 (fun z hz=>hy z (by simp[hz]));obtain⟨p1,p2⟩:=hy y (by simp);obtain⟨amc,h5,h6⟩:=amb h1 h3 p1 p2;exact⟨amc,h5,nv,h6,h4⟩
theorem amd (C:Ctx P T Φ E)(hD:aah E)(hacc:E.acc JD.trace){A:Nat→Nat}(hQ:∀a' w',To E JD a' w'→Q .normal a' w')
  (aqI:∀j o,ops[j]? =some o→∀e∈o.after,Region.binds .any e=true→e.on<j)
  (ate:∀j o i,ops[j]? =some o→(A j).testBit i=true→∃e∈o.after,Region.binds .any e=true∧(i=e.on∨(A e.on).testBit i=true)):
  ∀(fuel:Nat) (L:List (Nat×Oper×nx)) (listed:Array Bool) (σ:AS) (a:Act) (w:World) (ν:Nm→Value) (O:Nat→Prop),
   (∀x∈L,ops[x.1]? =some x.2.1)→(∀i,i<ops.size→(listed.getD i true=false↔∃x∈L,x.1=i))→listed.size=ops.size→
   (∀m om,listed.getD m false=true→ops[m]? =some om→∀e∈om.after,Region.binds .any e=true→listed.getD e.on false=true)→
   L.Pairwise (fun x y=>x.1<y.1)→L.Pairwise (fun x y=>(A y.1).testBit x.1=true∨(x.2.1.apart ops y.2.1=true∧HQ x.2.2 y.2.2=true))→
   adq T Φ ops L σ JD→St E σ a w ν O→L.length≤fuel→wpAnyIn (FW rr) 0 P .any ops Q fuel listed a w:=by
 intro fuel;induction fuel with
 |zero=>intro L listed σ a w ν O hL UU hsz Uy hsort ajk hrun h hf;have hL0:L=[]:=List.eq_nil_of_length_eq_zero (by omega);subst hL0;have hr:JD=σ:=hrun;subst hr;refine⟨?_,hQ _ _ ⟨ν,O,h⟩⟩;apply List.eq_nil_iff_forall_not_mem.2;intro i hi;obtain⟨h1,o,ho,_⟩:=mem_ready.1 hi;obtain⟨x,hx,_⟩:=(UU i (Array.getElem?_eq_some_iff.1 ho).1).1 h1;cases hx
 |succ fuel ih=>
  intro L listed σ a w ν O hL UU hsz Uy hsort ajk hrun h hf;have ajl:∀i,i<ops.size→listed.getD i true=listed.getD i false:=fun i hi=>by simp[Array.getD,hsz,hi]
  refine⟨fun atf=> ?_,fun i hi=> ?_⟩
  ·cases L with
   |nil=>have hr:JD=σ:=hrun;subst hr;exact hQ _ _ ⟨ν,O,h⟩
   |cons x L=>
    exfalso;have hox:=hL x (by simp);have hlt:=(Array.getElem?_eq_some_iff.1 hox).1;have:x.1∈Region.ready .any ops listed:=by
     refine mem_ready.2 ⟨(UU x.1 hlt).2 ⟨x,by simp,rfl⟩,x.2.1,hox,fun e he hb=> ?_⟩;have h1:=aqI x.1 x.2.1 hox e he hb;have h2:¬listed.getD e.on true=false:=fun hf'=>by
      obtain⟨y,hy,hye⟩:=(UU e.on (by omega)).1 hf';rcases List.mem_cons.1 hy with rfl |hy
      ·omega
      ·have:=(List.pairwise_cons.1 hsort).1 y hy;omega
     rw[←ajl e.on (by omega)];cases hb':listed.getD e.on true
     ·exact absurd hb' h2
     ·rfl
    rw[atf] at this;cases this
  ·obtain⟨h1,o,ho,hall⟩:=mem_ready.1 hi;have hlt:=(Array.getElem?_eq_some_iff.1 ho).1;obtain⟨x,hx,rfl⟩:=(UU i hlt).1 h1;obtain⟨L1,L2,rfl⟩:=List.append_of_mem hx;have hox:=hL x hx;rw[ho] at hox;have hoe:o=x.2.1:=by simpa using hox
   -- what atg before x is done
   have aqJ:∀j,j≤x.1→∀oj,ops[j]? =some oj→(∀e∈oj.after,Region.binds .any e=true→listed.getD e.on false=true)→∀i,(A j).testBit i=true→listed.getD i false=true:=by
    intro j;induction j using Nat.strongRecOn with
    |_ j ihj=>
     intro hj oj hoj aqK i hi';obtain⟨e,he,hb,h2⟩:=ate j oj i hoj hi';have hd:=aqK e he hb;rcases h2 with rfl |h2
     ·exact hd
     ·have ati:=aqI j oj hoj e he hb;have hlt3:e.on<ops.size:=by have:=(Array.getElem?_eq_some_iff.1 hoj).1;omega
      exact ihj e.on ati (by omega) ops[e.on] (Array.getElem?_eq_getElem hlt3) (Uy e.on _ hd (Array.getElem?_eq_getElem hlt3)) i h2
   have hfree:∀y∈L1,y.2.1.apart ops x.2.1=true∧HQ y.2.2 x.2.2=true:=fun y hy=>by
    have h2:=(List.pairwise_append.1 ajk).2.2 y hy x (by simp);rcases h2 with h2 |h2
    ·exfalso;have h3:=aqJ x.1 (Nat.le_refl _) o ho hall y.1 h2;have hylt:=(Array.getElem?_eq_some_iff.1 (hL y (by simp[hy]))).1;have h4:=(UU y.1 hylt).2 ⟨y,by simp[hy],rfl⟩;rw[ajl y.1 hylt,h3] at h4;cases h4
    ·exact h2
   obtain⟨dL,ht,anz⟩:=XI L1 L2 x σ hrun hfree;rw[←hoe] at ht;refine abb C h ho ht (hD _ _ (UT anz).tr hacc) (fun a' w' ⟨aN,O',h'⟩=> ?_);have hne:∀y,y∈L1++L2→y.1≠x.1:=fun y hy=>by
    rcases List.mem_append.1 hy with hy |hy
    ·have:=(List.pairwise_append.1 hsort).2.2 y hy x (by simp);omega
    ·have:=(List.pairwise_cons.1 (List.pairwise_append.1 hsort).2.1).1 y hy;omega
   have hsub:(L1++L2).Sublist (L1++x::L2):=(List.Sublist.refl L1).append (List.sublist_cons_self x L2);refine ih (L1++L2) _ dL a' w' aN O' (fun y hy=>hL y (hsub.subset hy)) (fun i hi'=> ?_) (by simpa using hsz) (fun m om hm hom e he hb=> ?_) (hsort.sublist hsub) (ajk.sublist hsub) anz h' (by simp at hf ⊢;omega)
   ·by_cases hix:x.1=i
    ·subst hix;constructor
     ·intro hf';have h5:listed.getD x.1 false=false:=by rw[←ajl x.1 hlt];exact h1
      have h6:x.1<listed.size:=by omega
      simp[Array.getD,h6] at hf'
     ·rintro ⟨y,hy,hye⟩;exact absurd hye (hne y hy)
    ·rw[getD_set_ne true hix,UU i hi'];constructor
     ·rintro ⟨y,hy,hye⟩;refine⟨y, ?_,hye⟩;rcases List.mem_append.1 hy with hy |hy
      ·exact List.mem_append.2 (.inl hy)
      ·rcases List.mem_cons.1 hy with rfl |hy
       ·exact absurd hye hix
       ·exact List.mem_append.2 (.inr hy)
     ·rintro ⟨y,hy,hye⟩;exact⟨y,hsub.subset hy,hye⟩
   ·by_cases hmx:x.1=m
    ·subst hmx;rw[ho] at hom;obtain rfl:o=om:=by simpa using hom
     exact getD_set_true (hall e he hb)
    ·rw[getD_set_ne false hmx] at hm;exact getD_set_true (Uy m om hm hom e he hb)
theorem Sw:∀(l:List Oper) (i:Nat),Kb i l=true→∀p o,l[p]? =some o→∀e∈o.after,Region.binds .any e=true→e.on<i+p
 | [],i,h,p,o,hp,e,he,hb=>by simp at hp
 |o'::l,i,h,0,o,hp,e,he,hb=>by
  simp at hp;subst hp;simp only[Kb,Bool.and_eq_true,List.all_eq_true] at h;have:=h.1 e (by simpa using he);rw[hb] at this;have:Nat.blt e.on i=true:=by simpa using this
  have:=Nat.le_of_ble_eq_true this;omega
 |o'::l,i,h,p+1,o,hp,e,he,hb=>by simp only[Kb,Bool.and_eq_true] at h;have:=Sw l (i+1) h.2 p o (by simpa using hp) e he hb;omega
theorem SA:∀(l:List Oper) (acc:List Nat),∃r,Mn l acc=acc++r∧r.length=l.length
 | [],acc=>⟨[],by simp[Mn]⟩
 |o::l,acc=>by obtain⟨r,h1,h2⟩:=SA l (acc++[Ng acc o]);exact⟨Ng acc o::r,by simp[Mn,h1],by simp[h2]⟩
theorem agz {acc:List Nat}{o:Oper}{i:Nat}(h:(Ng acc o).testBit i=true):∃e∈o.after,Region.binds .any e=true∧(i=e.on∨((acc[e.on]?).getD 0).testBit i=true):=by
 unfold Ng at h;have key:∀l:List Edge,(l.foldr (fun e s=>bif Region.binds .any e then (s|||2^e.on)||| (acc[e.on]?).getD 0 else s) 0).testBit i=true→
   ∃e∈l,Region.binds .any e=true∧(i=e.on∨((acc[e.on]?).getD 0).testBit i=true):=by
  intro l;induction l with
  |nil=>intro h;simp at h
  |cons e l ih=>
   intro h;simp only[List.foldr_cons] at h;cases hb:Region.binds .any e with
   |false=>rw[hb] at h;obtain⟨e',h1,h2⟩:=ih h;exact⟨e',by simp[h1],h2⟩
   |true=>
    rw[hb] at h;simp only[cond_true,Nat.testBit_or,Bool.or_eq_true] at h;rcases h with (h |h) |h
    ·obtain⟨e',h1,h2⟩:=ih h;exact⟨e',by simp[h1],h2⟩
    ·refine⟨e,by simp,hb, .inl ?_⟩;rw[Nat.testBit_two_pow] at h;simpa using (of_decide_eq_true h).symm
    ·exact⟨e,by simp,hb, .inr h⟩
 obtain⟨e,h1,h2⟩:=key _ h;exact⟨e,by simpa using h1,h2⟩
theorem abf:∀(l:List Oper) (acc:List Nat) (p:Nat) (o:Oper),l[p]? =some o→(Mn l acc)[acc.length+p]? =some (Ng ((Mn l acc).take (acc.length+p)) o)
 | [],acc,p,o,h=>by simp at h
 |o'::l,acc,0,o,h=>by simp at h;subst h;obtain⟨r,h1,h2⟩:=SA l (acc++[Ng acc o']);simp[Mn,h1]
 |o'::l,acc,p+1,o,h=>by
  have:=abf l (acc++[Ng acc o']) p o (by simpa using h);simp only[Mn];have e:acc.length+(p+1)=(acc++[Ng acc o']).length+p:=by simp;omega
  rw[e];exact this
theorem SB:∀(r:List (Oper×nx)) (ms:List Nat) (i:Nat) (a:Oper×nx),Ue ops i a r ms=true→∀(p:Nat) (b:Oper×nx) (m:Nat),r[p]? =some b→ms[p]? =some m→YI ops i a m b=true
 | [],ms,i,a,h,p,b,m,hb,hm=>by simp at hb
 |b'::r,m'::ms,i,a,h,0,b,m,hb,hm=>by simp at hb hm;subst hb hm;simp only[Ue,Bool.and_eq_true] at h;exact h.1
 |b'::r,m'::ms,i,a,h,p+1,b,m,hb,hm=>by simp only[Ue,Bool.and_eq_true] at h;exact SB r ms i a h.2 p b m (by simpa using hb) (by simpa using hm)
 |b'::r,[],i,a,h,p,b,m,hb,hm=>by simp at hm
theorem SC:∀(l:List (Oper×nx)) (ms:List Nat) (i:Nat),Ka ops i l ms=true→∀(p q:Nat) (a b:Oper×nx) (m:Nat),p<q→l[p]? =some a→l[q]? =some b→ms[q]? =some m→YI ops (i+p) a m b=true
 | [],ms,i,h,p,q,a,b,m,hpq,ha,hb,hm=>by simp at ha
 |x::l,[],i,h,p,q,a,b,m,hpq,ha,hb,hm=>by simp at hm
 |x::l,m'::ms,i,h,0,q,a,b,m,hpq,ha,hb,hm=>by
  simp at ha;subst ha;simp only[Ka,Bool.and_eq_true] at h;cases q with
  |zero=>omega
  |succ q=>exact SB l ms i x h.1 q b m (by simpa using hb) (by simpa using hm)
 |x::l,m'::ms,i,h,p+1,q,a,b,m,hpq,ha,hb,hm=>by
  simp only[Ka,Bool.and_eq_true] at h;cases q with
  |zero=>omega
  |succ q=>
   have:=SC l ms (i+1) h.2 p q a b m (by omega) (by simpa using ha) (by simpa using hb) (by simpa using hm);have e:i+(p+1)=i+1+p:=by omega
   rw[e];exact this
theorem UW (R:(Nat×Oper×nx)→(Nat×Oper×nx)→Prop):∀(l:List Oper) (i:Nat) (t:List nx),
  (∀p q o1 c1 o2 c2,p<q→l[p]? =some o1→t[p]? =some c1→l[q]? =some o2→t[q]? =some c2→R (i+p,o1,c1) (i+q,o2,c2))→(C8 i l t).Pairwise R
 | [],i,t,h=>by simp[C8]
 |o::l,i,[],h=>by simp[C8]
 |o::l,i,c::t,h=>by
  simp only[C8,List.pairwise_cons];refine⟨fun y hy=> ?_,UW R l (i+1) t (fun p q o1 c1 o2 c2 hpq h1 h2 h3 h4=> ?_)⟩
  ·obtain⟨h1,h2,h3⟩:=PJ l (i+1) t y hy;have:=h 0 (y.1 - i) o c y.2.1 y.2.2 (by omega) (by simp) (by simp) (by
    have e:y.1 - i=(y.1 - (i+1))+1:=by omega
    rw[e];simpa using h2) (by
    have e:y.1 - i=(y.1 - (i+1))+1:=by omega
    rw[e];simpa using h3)
   have e:i+(y.1 - i)=y.1:=by omega
   rw[e] at this;exact this
  ·have:=h (p+1) (q+1) o1 c1 o2 c2 (by omega) (by simpa using h1) (by simpa using h2) (by simpa using h3) (by simpa using h4);have e1:i+(p+1)=i+1+p:=by omega
   have e2:i+(q+1)=i+1+q:=by omega
   rw[e1,e2] at this;exact this
theorem abg (hE:aI E)(h:St E σ a w ν O)(d:Nat):St E (σ.aar d) a w ν O:=by
 unfold AS.aar;split
 ·exact h
 ·exact h.bz hE d
theorem abh (hE:aI E)(h:St E σ a w ν O)(d:Nat):St E (σ.aas d) a w ν O:=by
 unfold AS.aas;split
 ·exact h
 ·exact h.eV hE d
theorem PK (hE:aI E):∀(ds:List Nat) (σ:AS),St E σ a w ν O→St E (σ.QY ds) a w ν O
 | [],σ,h=>h
 |d::ds,σ,h=>by
  simp only[AS.QY];split
  ·exact h
  ·exact PK hE ds _ (abg hE h d)
theorem PL (hE:aI E):∀(ds:List Nat) (σ:AS),St E σ a w ν O→St E (σ.QZ ds) a w ν O
 | [],σ,h=>h
 |d::ds,σ,h=>by
  simp only[AS.QZ];split
  ·exact h
  ·exact PL hE ds _ (abh hE h d)
theorem adr (hE:aI E)(l:List Oper)(σ:AS)(h:St E σ a w ν O):St E (AS.alP σ l) a w ν O:=PL hE _ _ (PK hE _ _ h)
theorem ajm (d:Nat):Fr σ (σ.aar d):=by
 unfold AS.aar;split
 ·exact Fr.refl _
 ·exact adl d
theorem ajn (d:Nat):Fr σ (σ.aas d):=by
 unfold AS.aas;split
 ·exact Fr.refl _
 ·exact UM d
theorem XJ:∀(ds:List Nat) (σ:AS),Fr σ (σ.QY ds)
 | [],σ=>Fr.refl _
 |d::ds,σ=>by
  simp only[AS.QY];split
  ·exact Fr.refl _
  ·exact(ajm d).trans (XJ ds _)
theorem XK:∀(ds:List Nat) (σ:AS),Fr σ (σ.QZ ds)
 | [],σ=>Fr.refl _
 |d::ds,σ=>by
  simp only[AS.QZ];split
  ·exact Fr.refl _
  ·exact(ajn d).trans (XK ds _)
theorem UX:∀(ds:List Nat) (σ:AS),Fr σ (σ.kM ds)
 | [],σ=>Fr.refl _
 |d::ds,σ=>(UM d).trans (UX ds _)
theorem ae0 (l:List Oper)(σ:AS):Fr σ (AS.alP σ l):=(XJ _ _).trans (XK _ _)
theorem ads {R:Type}{draw:Bool}{k:AS→Option R}{r:R}(he:wQ T Φ ops draw σ k=some r):∃ah,k ah=some r∧Fr σ ah:=by
 unfold wQ at he;obtain⟨t,JD,h1,h2,h3⟩:=Rk (ops:=ops) ops.toList 0 _ [] _ r he;have hf:=(ae0 ops.toList σ).trans (UT h2);cases draw with
 |false=>exact⟨JD,by simpa using h3,hf⟩
 |true=>
  simp only[cond_true,List.append_nil,List.reverse_reverse] at h3;cases hok:(Kb 0 ops.toList&&Ka ops 0 (ops.toList.zip t) (Mn ops.toList [])) with
  |false=>simp[hok] at h3
  |true=>exact⟨JD,by simpa [hok] using h3,hf⟩
theorem Y4 {R:Type}(C:Ctx P T Φ E)(hD:aah E)(hm:P.follows .mixedOrders=true)(h:St E σ a w ν O){id:Nat}{draw:Bool}{k:AS→Option R}{r:R}
  (he:wQ T Φ ops draw σ k=some r) (hk:∀ah,k ah=some r→Fr σ ah→E.acc ah.trace) (hQ:∀ah a' w',k ah=some r→Fr σ ah→To E ah a' w'→Q .normal a' w'):(Code.region id ops draw).wpIn (FW rr) 0 P Q a w:=by
 unfold wQ at he;obtain⟨t,JD,h1,h2,h3⟩:=Rk (ops:=ops) ops.toList 0 _ [] _ r he;have hp:=adr C.env ops.toList σ h;have hf:=(ae0 ops.toList σ).trans (UT h2);cases draw with
 |false=>simp only[cond_false] at h3;have:=abe (rr:=rr) C hD (hk JD (by simpa using h3) hf) ops.toList [] t _ a w ν O rfl h1 hp h2 (fun a' w'=>hQ JD a' w' (by simpa using h3) hf);refine wpIn_region ?_;rw[List.range_eq_range'];simpa using this
 |true=>
  simp only[cond_true,List.append_nil,List.reverse_reverse] at h3;cases hok:(Kb 0 ops.toList&&Ka ops 0 (ops.toList.zip t) (Mn ops.toList [])) with
  |false=>simp[hok] at h3
  |true=>
   simp only[hok,cond_true] at h3;rw[Bool.and_eq_true] at hok;obtain⟨hd,hok⟩:=hok;have hw:St E (AS.alP σ ops.toList) a {w with drawn:=w.drawn+1} ν O:=hp.grow C.env ⟨rfl,rfl,rfl,Nat.le_refl _,fun _ _=>rfl⟩;refine wpIn_region_any hm ?_;have ag:∀j o,ops[j]? =some o→(Mn ops.toList [])[j]? =some (Ng ((Mn ops.toList []).take j) o):=fun j o ho=>by have:=abf ops.toList [] j o (by rw[Array.getElem?_toList];exact ho);simpa using this
   refine amd C hD (hk JD h3 hf) (A:=fun j=>((Mn ops.toList [])[j]?).getD 0) (fun a' w'=>hQ JD a' w' h3 hf) (fun j o ho e he' hb=>by
     have:=Sw ops.toList 0 hd j o (by rw[Array.getElem?_toList];exact ho) e he' hb;omega) (fun j o i ho hi=> ?_) ops.size (C8 0 ops.toList t) _ _ a _ ν O (fun x hx=> ?_) (fun i hi=> ?_) (by simp) (fun m om hmm=> ?_) (Su _ _ _) (UW _ _ _ _ fun p q o1 c1 o2 c2 hpq e1 e2 e3 e4=> ?_) h2 hw ?_
   ·simp only[ag j o ho,Option.getD_some] at hi;obtain⟨e,h4,h5,h6⟩:=agz hi;refine⟨e,h4,h5,h6.imp (fun h7=>h7) fun h7=> ?_⟩;cases hh:((Mn ops.toList []).take j)[e.on]? with
    |none=>rw[hh] at h7;simp at h7
    |some v=>
     rw[hh] at h7;rw[List.getElem?_take] at hh;split at hh
     ·simp only[hh];exact h7
     ·cases hh
   ·obtain⟨_,h4,_⟩:=PJ _ _ _ x hx;rw[←Array.getElem?_toList];simpa using h4
   ·constructor
    ·intro _;obtain⟨c,hc⟩:=abc ops.toList 0 t h1 i ops[i] (by simp[hi]);exact⟨_,hc,by simp⟩
    ·intro _;simp[hi]
   ·exfalso;by_cases hlt:m<ops.size
    ·simp[hlt] at hmm
    ·simp[hlt] at hmm
   ·have hz1:(ops.toList.zip t)[p]? =some (o1,c1):=by rw[List.getElem?_zip_eq_some];exact⟨e1,e2⟩
    have hz2:(ops.toList.zip t)[q]? =some (o2,c2):=by rw[List.getElem?_zip_eq_some];exact⟨e3,e4⟩
    have hg:=ag q o2 (by rw[←Array.getElem?_toList];exact e3);have:=SC (ops.toList.zip t) _ 0 hok p q _ _ _ hpq hz1 hz2 hg;simp only[YI,Bool.or_eq_true,Bool.and_eq_true,Nat.zero_add] at this ⊢;rw[hg];exact this
   ·have:=abd ops.toList 0 t;simpa using this
end
open Go.RowKit Go.Lib
section
variable {P:Program}{T:dc}{E:Env}{σ dL nv JD:AS}{a:Act}{w w':World}{ν aN:Nm→Value}{O:Nat→Prop}{Φ:cj T}
theorem UY:∀(h:List (Nat×Bool)) (σ:AS),Fr σ (σ.share h)
 | [],σ=>Fr.refl _
 | (j,true)::h,σ=>(ai9 _).trans (UY h _)
 | (j,false)::h,σ=>UY h σ
theorem oC (h:List (Nat×Bool))(σ:AS):Fr σ (σ.forget h):=by refine(UY h σ).trans ?_;unfold AS.forget;exact⟨rfl,rfl,rfl,qv.refl _,rfl⟩
structure FrX (QS σ:AS):Prop where
 cR:∃x,σ.cR=[x]
 sites:σ.sites=QS.sites
 s:σ.tmps.n=QS.tmps.n
 tr:qv QS.trace σ.trace
 ks:∃ls:List Nat,σ.tmps.s.map (·.1)=ls++QS.tmps.s.map (·.1)∧∀i∈ls,lN 1 i=true
theorem FrX.fr {QS σ ah:AS}(h:FrX QS σ)(g:Fr σ ah):FrX QS ah:=⟨by rw[g.cR];exact h.cR,g.sites.trans h.sites,g.s.trans h.s,h.tr.trans g.tr,by rw[g.ks];exact h.ks⟩
theorem abi {l:List (Nat×AV)}{ls ms:List Nat}(h:l.map (·.1)=ls++ms)(h1:∀i∈ls,lN 1 i=true)(h2:∀i∈ms,lN 1 i=false):(l.filter fun p=> !(lN 1 p.1)).map (·.1)=ms:=by
 have:(l.filter fun p=> !(lN 1 p.1)).map (·.1)=(l.map (·.1)).filter fun i=> !(lN 1 i):=by rw[List.filter_map];rfl
 rw[this,h,List.filter_append,List.filter_eq_nil_iff.2 (fun i hi=>by rw[h1 i hi];simp),List.filter_eq_self.2 (fun i hi=>by rw[h2 i hi];rfl)];rfl
theorem XL {QS:AS}(h:FrX QS σ)(h0:∀i∈QS.tmps.s.map (·.1),lN 1 i=false):(σ.CT).tmps.s.map (·.1)=QS.tmps.s.map (·.1):=by obtain⟨x,hx⟩:=h.cR;obtain⟨ls,h1,h2⟩:=h.ks;unfold AS.CT;rw[hx];exact abi h1 h2 h0
theorem L6 {R:Type}{r:R}{h:List (Nat×Bool)}{body:AS→(Ex→AS→Option R)→Option R}{k:Ex→AS→Option R}{I:AS→Prop}(hf:∀σ,I σ→I (σ.forget h))
  (hb:∀σ k',I σ→body σ k'=some r→∃e ah,k' e ah=some r∧I ah):∀(n:Nat) (σ:AS),I σ→mQ h body k n σ=some r→∃e ah,k e ah=some r∧I ah
 |0,σ,hi,he=>by cases he
 |n+1,σ,hi,he=>by
  simp only[mQ] at he;obtain⟨e,ah,h1,h2⟩:=hb σ _ hi he;cases e with
  |normal=>exact L6 hf hb n _ (hf _ h2) h1
  |exit i=>exact⟨_,_,h1,h2⟩
  |ret=>exact⟨_,_,h1,h2⟩
theorem aow (s:gh)(i:Nat)(x:AV):(ED s i x).n=s.n:=by unfold ED;cases Nat.blt i s.n<;>rfl
theorem aox (s:gh)(i:Nat)(x:AV):(ED s i x).s=s.s:=by unfold ED;cases Nat.blt i s.n<;>rfl
theorem L7:∀{ps:List Tmp} {ts:List Ty} {s s':gh} {x:(kL ts).den},I8 s ps ts x=some s'→s'.n=s.n∧s'.s=s.s
 | [],[],s,s',x,h=>by simp only[I8,Option.some.injEq] at h;subst h;exact⟨rfl,rfl⟩
 |p::ps,t::ts,s,s',x,h=>by simp only[I8] at h;obtain⟨h1,h2⟩:=L7 h;exact⟨h1.trans (aow _ _ _),h2.trans (aox _ _ _)⟩
 | [],_::_,_,_,_,h=>by simp[I8] at h
 |_::_,[],_,_,_,h=>by simp[I8] at h
theorem Y5 {f:AV}{R:Type}{k:Rng→List Nat→Option R}{r:R}(h:wR T Φ σ f k=some r):∃g bs,k g bs=some r:=by
 unfold wR at h
 repeat' split at h
 all_goals first | (cases h;done) |skip
 simp only[Option.bind_eq_some_iff] at h;obtain⟨yh,_,h⟩:=h;cases hb:(yw (bA _)&&(T.sig _).af.isEmpty&&Nat.beq (T.real _) _) with
 |false=>rw[hb] at h;cases h
 |true=>
  rw[hb,cond_true] at h;split at h
  ·exact⟨_,_,h⟩
  ·cases h
theorem UZ {R:Type}{n:Nat}{r:R}:∀(c:Code) (hs:List (List (Nat×Bool))) (σ:AS) (k:Ex→AS→Option R),aM T Φ n c hs σ k=some r→∃e ah,k e ah=some r∧Fr σ ah:=by
 intro c;induction c with
 |skip=>intro hs σ k he;exact⟨_,σ,he,Fr.refl _⟩
 |region id ops draw=>intro hs σ k he;obtain⟨ah,h1,h2⟩:=ads he;exact⟨_,ah,h1,h2⟩
 |seq x y Ml JA=>
  intro hs σ k he;simp only[aM] at he;obtain⟨e,ah,h1,h2⟩:=Ml _ _ _ he;cases e with
  |normal=>obtain⟨e,adt,h3,h4⟩:=JA _ _ _ h1;exact⟨e,adt,h3,h2.trans h4⟩
  |exit i=>exact⟨_,_,h1,h2⟩
  |ret=>exact⟨_,_,h1,h2⟩
 |cond x y z JA ihz=>
  intro hs σ k he;simp only[aM] at he;have ef:∀t b,Fr σ (σ.NU t b):=fun t b=>⟨rfl,rfl,rfl,qv.refl _,rfl⟩
  split at he
  ·split at he
   ·rename_i t _ b hb;have main:∀b:Bool,(bif b then aM T Φ n y hs (σ.NU t true) k else aM T Φ n z (hs.drop (loops y)) (σ.NU t false) k)=some r→∃e ah,k e ah=some r∧Fr σ ah:=fun b he=>by
     cases b
     ·obtain⟨e,ah,h1,h2⟩:=ihz _ _ _ he;exact⟨e,ah,h1,(ef _ _).trans h2⟩
     ·obtain⟨e,ah,h1,h2⟩:=JA _ _ _ he;exact⟨e,ah,h1,(ef _ _).trans h2⟩
    exact main b he
   ·cases he
  ·rename_i b;cases b
   ·exact ihz _ _ _ he
   ·exact JA _ _ _ he
  ·cases he
 |block id c ih=>
  intro hs σ k he;simp only[aM] at he;obtain⟨e,ah,h1,h2⟩:=ih _ _ _ he;cases e with
  |normal=>exact⟨_,_,h1,h2⟩
  |exit i=>
   cases hb:Nat.beq i id with
   |true=>simp only[hb,cond_true] at h1;exact⟨_,_,h1,h2⟩
   |false=>simp only[hb,cond_false] at h1;exact⟨_,_,h1,h2⟩
  |ret=>exact⟨_,_,h1,h2⟩
 |loop c ih=>
  intro hs σ k he;simp only[aM] at he;split at he
  ·rename_i hd hs';exact L6 (I:=Fr σ) (fun ah h=>h.trans (oC hd ah)) (fun ah k' hi hb=>by
    obtain⟨e,adt,h1,h2⟩:=ih _ _ _ hb;exact⟨e,adt,h1,hi.trans h2⟩) n _ (oC hd σ) he
  ·cases he
 |rangeFunc f ps x y Ml JA=>
  intro hs σ k he;simp only[aM] at he;split at he
  ·rename_i hd hs' u hrn htr;obtain⟨g,bs,h1⟩:=Y5 he;cases hok:y9 ((σ.kM bs).forget hd) with
   |false=>rw[hok] at h1;cases h1
   |true=>
    rw[hok,cond_true] at h1;have f1:Fr σ ((σ.kM bs).forget hd):=(UX bs σ).trans (oC hd _);have abj:=hok;simp only[y9,Bool.and_eq_true,List.all_eq_true] at abj;have h0:FrX σ ({((σ.kM bs).forget hd) with cR:=[g]}:AS).save:=⟨⟨g,rfl⟩,f1.sites,f1.s,f1.tr,by
     refine⟨((σ.kM bs).forget hd).tmps.l.map fun p=>p.1+10000, ?_,fun i hi=> ?_⟩
     ·show (List.map _ _++_).map _=_;rw[List.map_append,List.map_map, ←f1.ks];rfl
     ·obtain⟨p,hp,rfl⟩:=List.mem_map.1 hi;have:=abj.1 p hp;rw[uO] at this;simp only[lN,Bool.and_eq_true,Nat.ble_eq,uO];omega⟩
    obtain⟨e,ah,h2,h3⟩:=L6 (r:=r) (h:=hd) (k:=gF k) (body:=jN ps.toList (fun σ k'=>aM T Φ n x hs' σ k') (fun σ k'=>aM T Φ n y (hs'.drop (loops x)) σ k')) (I:=FrX σ) (fun ah h=>h.fr (oC hd ah)) (fun ah k' hi hb=>by
     unfold jN at hb;obtain⟨x0,hx0⟩:=hi.cR;rw[hx0] at hb;obtain⟨ts,xs⟩:=x0;cases xs with
     |nil=>exact⟨_,_,hb,hi⟩
     |cons x1 xs=>
      dsimp only at hb;split at hb
      ·rename_i s hs;obtain⟨e,dL,h4,h5⟩:=Ml _ _ _ hb;cases e with
       |normal=>
        dsimp only at h4;obtain⟨e,nv,h6,h7⟩:=JA _ _ _ h4;cases e with
        |normal=>
         refine⟨_,_,h6, ?_⟩;have f2:=h5.trans h7;exact⟨⟨_,f2.cR⟩,f2.sites.trans hi.sites,(show nv.tmps.n=_ from (f2.s.trans (L7 hs).1).trans hi.s),hi.tr.trans f2.tr,by
          show ∃ls:List Nat,nv.tmps.s.map (·.1)=_∧_;rw[f2.ks];show ∃ls:List Nat,s.s.map (·.1)=_∧_;rw[(L7 hs).2];exact hi.ks⟩
        |_=>cases h6
       |_=>cases h4
      ·cases hb) n _ h0 h1
    unfold gF at h2;split at h2
    ·refine⟨_,_,h2, ?_,h3.sites,h3.s,h3.tr,XL h3 (fun i hi=>by
      rw[←f1.ks] at hi;obtain⟨p,hp,rfl⟩:=List.mem_map.1 hi;have:=abj.2 p hp;rw[Nat.ble_eq] at this;simp only[lN,Bool.and_eq_false_iff];exact .inr (by cases hb:Nat.blt p.1 (10000*(1+1)) with
       |false=>rfl
       |true=>rw[uO] at hb;omega))⟩
     obtain⟨x,hx⟩:=h3.cR;show ah.cR.tail=_;rw[hx,hrn];rfl
    ·cases h2
  ·cases he
 |exit i=>intro hs σ k he;exact⟨_,σ,he,Fr.refl _⟩
 |ret=>intro hs σ k he;exact⟨_,σ,he,Fr.refl _⟩
 |_=>intros;rename_i he;cases he
end
end Go.Abs
