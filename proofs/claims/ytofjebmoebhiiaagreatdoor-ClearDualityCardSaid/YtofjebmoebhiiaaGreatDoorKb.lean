/- YtofjebmoebhiiaaGreatDoorKb: a part of the proof (AbsO6, AbsO7, AbsO8 ..). No condition. -/
import Derived.Test.YtofjebmoebhiiaaGreatDoorKa
import Derived.OrdersIn
set_option linter.unusedVariables false
set_option linter.unusedSimpArgs false
set_option maxRecDepth 100000
set_option exponentiation.threshold 2000
namespace Go.Abs
open Go.RowKit Go.Lib
section
variable {P:Program}{T:cm}{E:Env}{σ σ':AS}{a:Act}{w w':World}{ν ν':Nm→Value}{O:Nat→Prop}{Φ:bF T}{V:View}{Y:Value}
theorem made_eq (z:Array Value)(n:Nat):madeCells z (n*z.size)=((List.replicate n z.toList).flatten).toArray:=by
 apply Array.ext
 ·simp[madeCells]
 ·intro i h1 h2
  have h3:i<n*z.size:=by simpa [madeCells] using h1
  have hz:0<z.size:=by
   rcases Nat.eq_zero_or_pos z.size with h |h
   ·rw[h] at h3;omega
   ·exact h
  have hm:i % z.size<z.size:=Nat.mod_lt _ hz
  have key:∀(n i:Nat),i<n*z.size→(List.replicate n z.toList).flatten[i]? =some (z[i % z.size]'(Nat.mod_lt _ hz)):=by
   intro n
   induction n with
   |zero=>intro i hi;omega
   |succ n ih=>
    intro i hi
    rw[List.replicate_succ,List.flatten_cons]
    by_cases hlt:i<z.size
    ·rw[List.getElem?_append_left (by simpa using hlt)]
     simp[hlt,Nat.mod_eq_of_lt hlt]
    ·rw[List.getElem?_append_right (by simpa using Nat.not_lt.1 hlt)]
     rw[Nat.succ_mul] at hi
     have:=ih (i - z.size) (by omega)
     simp only[Array.length_toList]
     rw[this]
     congr 2
     conv=>rhs;rw[←Nat.sub_add_cancel (Nat.not_lt.1 hlt)]
     simp
  have:=key n i h3
  have h4:madeCells z (n*z.size)=(Array.range (n*z.size)).map (z[· % z.size]!):=rfl
  simp only[h4,Array.getElem_map,Array.getElem_range,List.getElem_toArray]
  have h5:i<(List.replicate n z.toList).flatten.length:=by simpa using h2
  rw[List.getElem?_eq_getElem h5] at this
  rw[Option.some.inj this]
  simp[hm]
theorem UT {V:View}{t:Ty}{av:Operand→AV}(pW:∀x,ah V σ ν Y (av x) (a.eval x)):∀(parts:List (Nat×Operand)) (xs xs':List t.den) (bm:List (List Value)),
  elems av t parts xs=some xs'→aA (Rel V t) xs bm→
  ∃R3,Instr.fill (fun i=>some (i*t.size,t.size)) bm.flatten.toArray (parts.map fun(i,x)=>(i,a.eval x))=some R3.flatten.toArray∧aA (Rel V t) xs' R3
 | [],xs,xs',bm,h,hr=>by simp only[elems,Option.some.injEq] at h;subst h;exact⟨bm,rfl,hr⟩
 | (i,x)::parts,xs,xs',bm,h,hr=>by
   simp only[elems] at h
   split at h
   ·rename_i v hv
    cases hb:Nat.blt i xs.length with
    |false=>simp[hb] at h
    |true=>
     simp only[hb,cond_true] at h
     have hlt:i+1≤xs.length:=Nat.le_of_ble_eq_true hb
     have hvr:=(Ga hv (pW x)).cells
     have hvl:=Rel.length hvr
     obtain⟨ys,hy1,hy2,hy3⟩:=Bi hr i (xs[i]'(by omega)) (List.getElem?_eq_getElem (by omega))
     have hyl:=Rel.length hy2
     have hsp:=Bl (bm:=bm) i ys (a.eval x).cells.toList 0 (Gc hr) hy1 (by rw[hvl];omega)
     rw[hvl] at hsp
     simp only[Nat.zero_add,List.take_zero,List.nil_append,Nat.add_zero] at hsp
     have hd:ys.drop t.size=[]:=List.drop_eq_nil_of_le (by omega)
     rw[hd,List.append_nil] at hsp
     obtain⟨R3,h1,h2⟩:=UT pW parts (xs.set i v) xs' (bm.set i (a.eval x).cells.toList) h (hr.set hvr)
     refine⟨R3, ?_,h2⟩
     have hsz:(a.eval x).cells.size=t.size:=by simpa using hvl
     have OF:=fI hr
     have hmul:i*t.size+t.size≤xs.length*t.size:=by rw[←Nat.succ_mul];exact Nat.mul_le_mul_right _ hlt
     simp only[List.map_cons,Instr.fill]
     rw[if_neg (by simp[hsz,OF];omega)]
     have hfo:=Iu (a.eval x).cells.toList 0 (i*t.size) bm.flatten.toArray (by simp[OF,hsz];omega)
     have e:((a.eval x).cells.zipIdx.foldl (fun cs (p:Value×Nat)=>cs.setIfInBounds (i*t.size+p.2) p.1) bm.flatten.toArray)=(bm.set i (a.eval x).cells.toList).flatten.toArray:=by
      apply Array.ext'
      rw[←Array.foldl_toList,Array.toList_zipIdx]
      rw[hsp]
      simpa [hsz] using hfo
     rw[←h1]
     congr 1
   ·cases h
theorem Np {t:Ty}{av:Operand→AV}:∀(parts:List (Nat×Operand)) (xs xs':List t.den),elems av t parts xs=some xs'→xs'.length=xs.length
 | [],xs,xs',h=>by simp only[elems,Option.some.injEq] at h;rw[h]
 | (i,x)::parts,xs,xs',h=>by
   simp only[elems] at h
   split at h
   ·cases hb:Nat.blt i xs.length with
    |false=>simp[hb] at h
    |true=>
     simp only[hb,cond_true] at h
     rw[Np parts _ xs' h];simp
   ·cases h
theorem OX {V:View}{t:Ty}{zs:List Value}(h:Rel V t t.zero zs)(n:Nat):aA (Rel V t) (List.replicate n t.zero) (List.replicate n zs):=aA.replicate h n
theorem P2 {w:World}{B:Nat}{e:TypeId}{size n cap:Nat}{cs:Array Value}{xs:List Value}(hB:B≤w.heap.size)(hn:n≤cap)(hm:cap≤maxLen)(hs:cs.size=cap*size)(hx:cs.toList.take (n*size)=xs)(hl:xs.length=n*size):
  (w.alloc (.cells cs e)).ownsRow B e size (.slice (some ⟨w.heap.size,0,none⟩) n cap) n xs:=
 ⟨hl, .inr ⟨w.heap.size,cap,cs,rfl,hB,heap_alloc_new w _,hn,hm,hs,hx⟩⟩
theorem Below.R5 {w:World}{o:Go.Obj}:Below w.heap.size w (w.alloc o):=⟨rfl,rfl,rfl,by simp,fun k hk=>heap_alloc_old w _ k hk⟩
theorem Nq (hE:aC E)(h:St E σ a w ν O){i n1:Nat}{hr:aT}{l':List hr.t.den}{v0:Value}{C:Nat→Prop}(hh:σ.ae[i]? =some hr)(hn1:n1≤hr.xs.length)(hC:∀k,C k→Own σ ν (.hp i n1) k)(hg:Grow C w w')
  (hblk:∀k,cD v0=some k→Own σ ν (.hp i n1) k∨(w.heap.size≤k∧k<w'.heap.size)) (hv0:∃g n c,v0= .slice (some ⟨g,0,none⟩) n c) (b8:∀V',(∀key v,view E σ ν O w key v→V' key v)→iT V' w' v0 ⟨hr.e,hr.t,l'⟩)
  {r:b6} (he:(xf (T:=T) i hr (dA hr.xs n1) l').val Φ σ=some r):
  ∃us n,r=(.rv (.cv ⟨.ref i,n⟩), .mh us)∧∃ν',St E (σ.app us) a w' ν' O∧bC (view E (σ.app us) ν' O w') ⟨.ref i,n⟩ v0:=by
 unfold xf at he
 rw[az,gr] at he
 obtain⟨hc,rfl⟩:=he
 simp only[Bool.and_eq_true,beq_iff] at hc
 obtain⟨hw,hk⟩:=hc
 have XQ:afA v0:=by obtain⟨g,n,c,e⟩:=hv0;exact⟨_,_,_,e⟩
 obtain⟨h1,h2⟩:=h.akd hE (n1:=n1) (l':=l') hh hw hn1 hC hg hblk (.inl ⟨hk,hv0⟩) (fun V' hV=>by rw[hk];exact⟨XQ,b8 V' hV⟩)
 rw[nB]
 exact⟨_,_,rfl,_,h1,aiQ (by omega) XQ h2⟩
theorem Wy (hE:aC E)(h:St E σ a w ν O){d:Option Tmp}{row:Row}{v':Value}(hg:Below w.heap.size w w')(EJ:∀k,cD v'=some k→w.heap.size≤k∧k<w'.heap.size)
  (b8:∀V',(∀key v,view E σ ν O w key v→V' key v)→iT V' w' v' row) {r:b6} (he:(newRow (T:=T) d row).val Φ σ=some r):
  ∃q us,r=(.rv (.own q), .mh us)∧∃ν',St E (σ.app us) a w' ν' O∧rh (view E (σ.app us) ν' O w') (σ.app us) ν' (.own q) v':=by
 unfold newRow at he
 split at he
 ·rename_i d
  rw[xj,gr] at he
  obtain⟨hd,rfl⟩:=he
  refine⟨_,_,rfl,_,h.newRow hE (row':=row) hd hg EJ (fun hV=>b8 _ hV), ?_, ?_⟩
  ·rw[mE]
  ·show (look (put _ _ _) _).isSome=true
   rw[aB,if_pos rfl];rfl
 ·cases he
theorem Yn {o:Oper}{t:TypeId}{l cc:Operand}(ho:o.op= .makeSlice t l cc){e:TypeId}{i:TypeInfo}{z:Value}{size bytes:Nat}(hu:P.underlying t=some (.slice e))(i1:P.info? e=some i)(i4:i.zero=some z)(i2:i.size=size)
  (hzs:z.cells.size=size) (i3:i.bytes=bytes) (hb:0<bytes) {k k':IntKind} {n m:Int} (el:a.eval l= .int k n) (ec:a.eval cc= .int k' m) (hok:iS bytes n m=true):
  (execOp a.eval o).run P w= .ok (.value (.slice (some ⟨w.heap.size,0,none⟩) n.toNat m.toNat)) (w.alloc (.cells (List.replicate m.toNat z.cells.toList).flatten.toArray e))∧
  (w.alloc (.cells (List.replicate m.toNat z.cells.toList).flatten.toArray e)).ownsRow 0 e size (.slice (some ⟨w.heap.size,0,none⟩) n.toNat m.toNat) n.toNat (List.replicate n.toNat z.cells.toList).flatten:=by
 simp only[iS,Bool.and_eq_true,decide_eq_true_eq] at hok
 obtain⟨⟨h0,h1⟩,h2⟩:=hok
 have hm0:0≤m:=Int.le_trans h0 h1
 have hmb:m≤(bytes:Int)*m:=by
  have:1*m≤(bytes:Int)*m:=Int.mul_le_mul_of_nonneg_right (by omega) hm0
  rwa [Int.one_mul] at this
 have hb2:(i.bytes:Int)*m≤281474976710656:=by rw[i3];omega
 have hrun:=run_make (P:=P) w t e i z hu i1 i4 k k' n m h0 h1 hb2 (by omega)
 have his:i.size=z.cells.size:=by rw[i2,hzs]
 rw[his,made_eq] at hrun
 have hnm:n.toNat≤m.toNat:=by omega
 have hsz:((List.replicate m.toNat z.cells.toList).flatten.toArray).size=m.toNat*size:=by simp[hzs]
 have OF:(List.replicate n.toNat z.cells.toList).flatten.length=n.toNat*size:=by simp[hzs]
 refine⟨by simp[execOp,ho,el,ec,hrun],P2 (Nat.zero_le _) hnm ?_ hsz ?_ OF⟩
 ·simp only[maxLen];omega
 ·have e1:m.toNat=n.toNat+(m.toNat - n.toNat):=by omega
  rw[e1, ←List.replicate_append_replicate,List.flatten_append]
  show List.take _ (_++_)=_
  rw[←OF,List.take_left]
theorem EM {w:World}{n c:Nat}{o:Go.Obj}(k:Nat)(hk:cD (.slice (some ⟨w.heap.size,0,none⟩) n c)=some k):w.heap.size≤k∧k<(w.alloc o).heap.size:=by
 simp only[cD,Option.some.injEq] at hk;subst hk;exact⟨Nat.le_refl _,by simp⟩
theorem Wz (hE:aC E)(hG:LV E)(hT:iu P T.rows)(hH:Db P T)(hl:σ.ae.length=T.ae.length)(h:St E σ a w ν O){o:Oper}{r:b6}{t:TypeId}{l cc:Operand}(ho:o.op= .makeSlice t l cc)
  (he:(C5 T σ.av σ.sites o).val Φ σ=some r):kP P o a w (To E (aU σ o.dst r)):=by
 have hd:∀c,o.op≠ .defer c:=by rw[ho];intro c e;cases e
 unfold C5 at he
 simp only[ho] at he
 split at he
 ·rename_i u e bytes k n k' m hel hl1 hc1
  obtain⟨re,hu,QW,T1,pV,hby,hpos⟩:=uW hT hel
  have el:=h.av hG l;rw[hl1] at el
  have ec:=h.av hG cc;rw[hc1] at ec
  have el:=xl el rfl
  have ec:=xl ec rfl
  rw[az] at he
  obtain⟨hok,he⟩:=he
  split at he
  ·rename_i hp hhp
   rw[fk] at he
   obtain⟨hr,hh,he⟩:=he
   rw[az] at he
   obtain⟨hc,he⟩:=he
   simp only[Bool.and_eq_true,beq_iff] at hc
   obtain⟨e1,hc⟩:=hc
   obtain⟨j,z,j1,j2,j3,j4⟩:=OW hH hc (by rw[←hl];exact(List.getElem?_eq_some_iff.1 hh).1)
   obtain⟨i,z',i1,i2,i3,i4,_⟩:=R2 (V:=view E σ ν O w) QW
   rw[T1,e1,j1] at i1
   obtain rfl:j=i:=by simpa using i1
   have hzs:z.cells.size=hr.t.size:=by simpa using Rel.length (j4 (fun _ _=>False))
   obtain⟨hrun,hown⟩:=Yn (P:=P) (w:=w) ho hu (by rw[e1];exact j1) j3 j2 hzs (by rw[i3,hby]) hpos el ec hok
   rw[e1] at hrun hown
   obtain⟨us,n',rfl,ν',hs,hv⟩:=Nq hE h (n1:=0) (C:=fun _=>False) (v0:= .slice (some ⟨w.heap.size,0,none⟩) n.toNat m.toNat) hh (Nat.zero_le _) (fun _ hk=>hk.elim) (Grow.Bh Below.R5) (fun k hk=> .inr (EM k hk)) ⟨_,_,_,rfl⟩
    (fun V' hV=>⟨_,by simpa using hown,OX (j4 V') _⟩) he
   exact bZ hd hrun ⟨ν',O,hs.slot hv⟩
  ·obtain⟨i,z,i1,i2,i3,i4,i5⟩:=Yi QW (o.dst.bind (look σ.sites))
   rw[T1] at i1
   rw[pV] at i2 i5
   have hzs:z.cells.size=u.size:=by have:=Rel.length (i5 (fun _ _=>False));rw[LZ] at this;simpa using this
   obtain⟨hrun,hown⟩:=Yn (P:=P) (w:=w) ho hu i1 i4 i2 hzs (by rw[i3,hby]) hpos el ec hok
   obtain⟨q,us,rfl,ν',hs,hv⟩:=Wy hE h (v':= .slice (some ⟨w.heap.size,0,none⟩) n.toNat m.toNat) Below.R5 (fun k hk=>EM k hk)
    (fun V' hV=>⟨_,by rw[LZ];simpa using hown,OX (i5 V') _⟩) he
   exact bZ hd hrun ⟨ν',O,hs.slot (x:= .rv (.own q)) hv⟩
 ·cases he
theorem OY {o:Oper}{t:TypeId}{len:Nat}{parts:Array (Nat×Operand)}(ho:o.op= .buildSlice t len parts){e:TypeId}{i:TypeInfo}{z:Value}{u:Ty}(hu:P.underlying t=some (.slice e))(i1:P.info? e=some i)(i4:i.zero=some z)(i2:i.size=u.size)
  (i5:Rel V u u.zero z.cells.toList) {av:Operand→AV} (pW:∀x,ah V σ ν Y (av x) (a.eval x)) {xs:List u.den} (hxs:elems av u parts.toList (List.replicate len u.zero)=some xs) (hle:len*u.size≤16777216) (hlen:len≤16777216):
  ∃bm,(execOp a.eval o).run P w= .ok (.value (.slice (some ⟨w.heap.size,0,none⟩) len len)) (w.alloc (.cells bm.flatten.toArray e))∧aA (Rel V u) xs bm∧xs.length=len∧
   (w.alloc (.cells bm.flatten.toArray e)).ownsRow 0 e u.size (.slice (some ⟨w.heap.size,0,none⟩) len len) len bm.flatten:=by
 have hzs:z.cells.size=u.size:=by simpa using Rel.length i5
 obtain⟨bm,f1,f2⟩:=UT pW parts.toList _ xs (List.replicate len z.cells.toList) hxs (OX i5 len)
 have am5:(Array.range (len*u.size)).map (z.cells[· % z.cells.size]!)=(List.replicate len z.cells.toList).flatten.toArray:=by
  rw[←made_eq,hzs];unfold madeCells;rw[hzs]
 have hxl:xs.length=len:=by rw[Np _ _ _ hxs];simp
 have hsz:i.size=u.size:=i2
 have OF:=fI f2
 have hrun:(execOp a.eval o).run P w= .ok (.value (.slice (some ⟨w.heap.size,0,none⟩) len len)) (w.alloc (.cells bm.flatten.toArray e)):=by
  have hn:¬len*u.size>16777216:=by omega
  have f1':Instr.fill (fun i=>some (i*u.size,u.size)) (List.replicate len z.cells.toList).flatten.toArray (List.map (fun x=>(x.fst,a.eval x.snd)) parts.toList)=some bm.flatten.toArray:=f1
  have Yo:Array.map (fun x=>(default:Value)) (Array.range 0)= #[]:=by simp
  by_cases hz:len*u.size=0
  ·have he:(List.replicate len z.cells.toList).flatten=[]:=by
    apply List.eq_nil_of_length_eq_zero
    simp[hzs,hz]
   rw[he] at f1'
   simp[execOp,ho,Instr.buildSlice,run_underlying hu,sizeOf,typeInfo,i1,hsz,hn,hz,Yo,f1',Go.newRow]
  ·simp[execOp,ho,Instr.buildSlice,run_underlying hu,sizeOf,typeInfo,zeroValue,i1,i4,hsz,hn,hz,am5,f1',Go.newRow]
 have hlm:len≤maxLen:=by simp only[maxLen];omega
 refine⟨bm,hrun,f2,hxl,P2 (Nat.zero_le _) (Nat.le_refl _) hlm (by simp[OF,hxl]) (by show List.take (len*u.size) bm.flatten=_;rw[←hxl, ←OF,List.take_length]) (by rw[OF,hxl])⟩
theorem Uc (hE:aC E)(hG:LV E)(hT:iu P T.rows)(hH:Db P T)(hl:σ.ae.length=T.ae.length)(h:St E σ a w ν O){o:Oper}{r:b6}{t:TypeId}{len:Nat}{parts:Array (Nat×Operand)}(ho:o.op= .buildSlice t len parts)
  (he:(C5 T σ.av σ.sites o).val Φ σ=some r):kP P o a w (To E (aU σ o.dst r)):=by
 have hd:∀c,o.op≠ .defer c:=by rw[ho];intro c e;cases e
 unfold C5 at he
 simp only[ho] at he
 generalize o.dst.bind (look σ.sites)=st at he
 split at he
 ·rename_i u e bytes hel
  obtain⟨re,hu,QW,T1,pV,hby,hpos⟩:=uW hT hel
  split at he
  ·rename_i hp hhp
   rw[fk] at he
   obtain⟨hr,hh,he⟩:=he
   rw[az,bR] at he
   obtain⟨hc,ys,hys,he⟩:=he
   simp only[Bool.and_eq_true,beq_iff] at hc
   obtain⟨⟨⟨e1,hc⟩,hb1⟩,hb2⟩:=hc
   obtain⟨j,z,j1,j2,j3,j4⟩:=OW hH hc (by rw[←hl];exact(List.getElem?_eq_some_iff.1 hh).1)
   obtain⟨bm,hrun,f2,f3,hown⟩:=OY (P:=P) (w:=w) ho hu (by rw[e1];exact j1) j3 j2 (j4 _) (h.av hG) hys (Nat.le_of_ble_eq_true hb1) (Nat.le_of_ble_eq_true hb2)
   rw[e1] at hrun hown
   obtain⟨us,n',rfl,ν',hs,hv⟩:=Nq hE h (n1:=0) (C:=fun _=>False) (v0:= .slice (some ⟨w.heap.size,0,none⟩) len len) hh (Nat.zero_le _) (fun _ hk=>hk.elim) (Grow.Bh Below.R5) (fun k hk=> .inr (EM k hk)) ⟨_,_,_,rfl⟩
    (fun V' hV=>⟨bm,by rw[f3];exact hown,f2.mono (Rel.mono hV _)⟩) he
   exact bZ hd hrun ⟨ν',O,hs.slot hv⟩
  ·rw[az] at he
   obtain⟨hc,he⟩:=he
   simp only[Bool.and_eq_true] at hc
   obtain⟨hb1,hb2⟩:=hc
   obtain⟨i,z,i1,i2,i3,i4,i5⟩:=Yi QW st
   rw[T1] at i1
   rw[pV] at i2 i5
   have i2':i.size=(K6 st u).size:=by rw[LZ];exact i2
   cases hb:(List.map (fun x=>x.2) parts.toList).any fun x=>wD (σ.av x) with
   |true=>
    rw[hb,cond_true,mn,bR] at he
    obtain⟨ys,hys,he⟩:=he
    have s1:=h.uP hE (parts.toList.map (·.2))
    split at he
    ·rename_i d OU
     split at he
     ·rename_i hfree
      rw[gr] at he
      subst he
      obtain⟨bm,hrun,f2,f3,hown⟩:=OY (P:=P) (w:=w) ho hu i1 i4 i2' (i5 _) (s1.av hG) hys (Nat.le_of_ble_eq_true hb1) (Nat.le_of_ble_eq_true hb2)
      refine bZ hd hrun ⟨s8 ν d (.slice (some ⟨w.heap.size,0,none⟩) len len),O, ?_⟩
      simp only[aU,OU]
      have s2:=s1.newRow hE (w':=w.alloc (.cells bm.flatten.toArray e)) (row':=⟨e,K6 st u,ys⟩) (v':= .slice (some ⟨w.heap.size,0,none⟩) len len) hfree Below.R5 (fun k hk=>EM k hk) (fun hV=>⟨bm,by rw[f3];exact hown,f2.mono (Rel.mono hV _)⟩)
      refine s2.slot (x:= .rv (.own d)) ⟨?_, ?_⟩
      ·rw[mE]
      ·show (look (put _ _ _) _).isSome=true
       rw[aB,if_pos rfl];rfl
     ·cases he
    ·cases he
   |false=>
    rw[hb,cond_false,bR] at he
    obtain⟨ys,hys,he⟩:=he
    obtain⟨bm,hrun,f2,f3,hown⟩:=OY (P:=P) (w:=w) ho hu i1 i4 i2' (i5 _) (h.av hG) hys (Nat.le_of_ble_eq_true hb1) (Nat.le_of_ble_eq_true hb2)
    obtain⟨q,us,rfl,ν',hs,hv⟩:=Wy hE h (v':= .slice (some ⟨w.heap.size,0,none⟩) len len) Below.R5 (fun k hk=>EM k hk) (fun V' hV=>⟨bm,by rw[f3];exact hown,f2.mono (Rel.mono hV _)⟩) he
    exact bZ hd hrun ⟨ν',O,hs.slot (x:= .rv (.own q)) hv⟩
 ·cases he
end
end Go.Abs
namespace Go.Abs
open Go.RowKit Go.Lib
section
variable {P:Program}{T:cm}{E:Env}{σ σ':AS}{a:Act}{w w':World}{ν ν':Nm→Value}{O:Nat→Prop}{Φ:bF T}{V:View}{Y:Value}
theorem Ge (base:Nat)(t ty e:TypeId)(i:TypeInfo)(z:Value)(size bytes:Nat)(ht:P.underlying t=some (.slice e))(hi:P.info? e=some i)(hz:i.zero=some z)
  (hsize:i.size=size) (hby:i.bytes=bytes) (hzs:z.cells.size=size) (hsz:0<size) (hb0:0<bytes)
  (v:Value) (n:Nat) (xs:List Value) (hown:w.ownsRow base e size v n xs)
  (A:Option Addr) (m c:Nat) (news:List Value) (hl:news.length=m*size) (hmc:m≤c) (hA:A=none→c=0) (hnews:∀j u,news[j]? =some u→∃ad,A=some ad∧w.cell? (ad.add j)=some u) (h1:∀u∈news,u.oneCell'=true)
  (hbytes:(n+m)*bytes≤140737488355328) (hbase:base≤w.heap.size):
  ∃v' w',(Builtin.append_ #[t,t] ty #[v, .slice A m c]).run P w= .ok v' w'∧w'.ownsRow base e size v' (n+m) (xs++news)∧w.grownBy w' v.ownBlock∧
   (∀k,v'.ownBlock=some k→v.ownBlock=some k∨w.heap.size≤k):=by
 cases A with
 |none=>
  have hc:=hA rfl
  subst hc
  obtain rfl:m=0:=by omega
  have:news=[]:=List.eq_nil_of_length_eq_zero (by simpa using hl)
  subst this
  have hrun:=run_append_owned_none (P:=P) (w:=w) base t ty e i size ht hi v n xs hown
  exact⟨v,w,hrun,by simpa using hown,⟨rfl,rfl,rfl,Nat.le_refl _,fun _ _ _=>rfl⟩,fun k hk=> .inl hk⟩
 |some ad=>
  have hn':∀j u,news[j]? =some u→w.cell? (ad.add j)=some u:=fun j u hj=>by
   obtain⟨OR,e',h⟩:=hnews j u hj
   obtain rfl:ad=OR:=by simpa using e'
   exact h
  have hle:n+m≤(n+m)*bytes:=Nat.le_mul_of_pos_right _ hb0
  have h63:n+m≤maxLen:=by simp only[maxLen];omega
  obtain⟨v',w',hr,h2,h3,h4⟩:=run_append_own (P:=P) w base t ty e i z size bytes ht hi hz hsize hby hzs hsz v n xs hown ad m c news hl hn' h1 h63 hbytes hbase
  refine⟨v',w',hr,h2,h3,fun k hk=> ?_⟩
  subst hsize hby
  rcases hown.2 with ⟨rfl,rfl⟩ | ⟨g,cap,cur,rfl,hbg,hg,hnc,hcm,hcs,G9⟩
  ·by_cases hm:m=0
   ·have:=h4.2 ⟨rfl,hm⟩
    rw[this] at hk;cases hk
   ·have G7:=run_append_nil (P:=P) w t ty e i z ht hi hz ad m c news hl hn' (by omega) (by omega) (by simp only[Nat.zero_add] at hbytes;omega)
    rw[G7] at hr
    injection hr with OE hr3
    rw[←OE] at hk
    simp[Value.ownBlock] at hk
    exact .inr (by omega)
  ·by_cases hroom:n+m≤cap
   ·have hfit:n*i.size+news.length≤cur.size:=by rw[hl,hcs, ←Nat.add_mul];exact Nat.mul_le_mul_right _ hroom
    have G7:=run_append_room (P:=P) w t ty e i ht hi g n cap cur hg ad m c news hl hn' h1 hroom hfit
    rw[G7] at hr
    injection hr with OE hr3
    rw[←OE] at hk
    exact .inl hk
   ·have holds:∀j u,xs[j]? =some u→w.cell? ((⟨g,0,none⟩:Addr).add j)=some u:=hown.cells (g:=g) rfl
    have G7:=run_append_grow (P:=P) w t ty e i z ht hi hz ⟨g,0,none⟩ n cap xs hown.1 holds ad m c news hl hn' (by omega) (by omega) (growslice_fits (by omega) hbytes)
    rw[G7] at hr
    injection hr with OE hr3
    rw[←OE] at hk
    simp[Value.ownBlock] at hk
    exact .inr (by omega)
theorem Nr {V:View}{t:Ty}{xs:List t.den}{bm:List (List Value)}(h:aA (Rel V t) xs bm):∀u∈bm.flatten,u.oneCell'=true:=by
 intro u hu
 obtain⟨l,hl,hul⟩:=List.mem_flatten.1 hu
 obtain⟨i,hi⟩:=List.getElem?_of_mem hl
 obtain⟨x,_,hr⟩:=h.get' i l hi
 obtain⟨j,hj⟩:=List.getElem?_of_mem hul
 obtain⟨c,_,hc⟩:=(il hr).get' j u hj
 exact RA hc
theorem Grow.of_grownBy {g:Option Nat}(h:w.grownBy w' g):Grow (fun k=>g=some k) w w':=⟨h.os,h.tape,h.output,h.size,fun k hk hn=>h.block k hk fun e=>hn e.symm⟩
theorem P3 (base:Nat)(t ty e:TypeId)(i:TypeInfo)(size:Nat)(ht:P.underlying t=some (.slice e))(hi:P.info? e=some i)
  (v:Value) (n:Nat) (xs:List Value) (hown:w.ownsRow base e size v n xs) (A:Option Addr) (c:Nat) (hA:A=none→c=0):
  (Builtin.append_ #[t,t] ty #[v, .slice A 0 c]).run P w= .ok v w:=by
 cases A with
 |none=>rw[hA rfl];exact run_append_owned_none (P:=P) (w:=w) base t ty e i size ht hi v n xs hown
 |some ad=>
  rcases hown.2 with ⟨rfl,rfl⟩ | ⟨g,cap,cur,rfl,_,_,hnc,_⟩
  ·simp[Builtin.append_,run_underlying ht,sizeOf,typeInfo,hi,Builtin.lenOf,Builtin.firstCells,loadCells,loadCellsFrom]
  ·simp[Builtin.append_,run_underlying ht,sizeOf,typeInfo,hi,Builtin.lenOf,Builtin.firstCells,hnc,storeCells,loadCells,loadCellsFrom]
theorem Dc {v:Value}{A:Option Addr}{n c:Nat}(h:v= .slice A n c):cD v=v.ownBlock:=by subst h;cases A<;>rfl
theorem oS {e:TypeId}{B size n:Nat}{v:Value}{xs:List Value}(h:w.ownsRow B e size v n xs):∃A c,v= .slice A n c:=by
 rcases h.2 with ⟨rfl,rfl⟩ | ⟨g,cap,cur,rfl,_⟩
 ·exact⟨_,_,rfl⟩
 ·exact⟨_,_,rfl⟩
theorem Gf {e:TypeId}{B size n:Nat}{v:Value}{xs:List Value}(h:w.ownsRow B e size v n xs){k:Nat}(hk:v.ownBlock=some k):k<w.heap.size:=by
 rcases h.2 with ⟨rfl,rfl⟩ | ⟨g,cap,cur,rfl,_,hg,_⟩
 ·cases hk
 ·simp[Value.ownBlock] at hk;subst hk;exact(Array.getElem?_eq_some_iff.1 hg).1
theorem St.JZ (h:St E σ a w ν O){i n:Nat}{hr:aT}{l:List hr.t.den}{v:Value}(hh:σ.ae[i]? =some hr)(hl:ag hr.xs n=some l)(hv:bC (view E σ ν O w) ⟨.ref i,n⟩ v):
  iT (view E σ ν O w) w v ⟨hr.e,hr.t,l⟩∧(∀k,cD v=some k→Own σ ν (.hp i n) k)∧((n=0∧v= .slice none 0 0∧l=[])∨(1≤n∧hr.k=0∧v=ν (.hp i n))):=by
 rcases Ir hv with ⟨rfl,rfl⟩ | ⟨h1,hs,_,h2,h3⟩
 ·simp only[ag,Option.some.injEq] at hl
  subst hl
  exact⟨⟨[],Gb,trivial⟩,(fun k hk=>by cases hk), .inl ⟨rfl,rfl,rfl⟩⟩
 ·have b8:=h.hp hh h1 hl
  have hk:hr.k=0:=by
   rcases h.nn i hr n hh h1 (JV hl) with ⟨e,_⟩ | ⟨_,g,e⟩
   ·exact e
   ·obtain⟨A,m,c,e2⟩:=hs
    rw[h3,e] at e2;cases e2
  rw[hk] at b8
  rw[←h3] at b8
  exact⟨b8.2,fun k hk=>⟨aX (aau hh h1 hl),by rw[←h3];exact hk⟩, .inr ⟨h1,hk,h3⟩⟩
theorem Rm {v:Value}{row:Row}(h:iT V w v row):∃(A:Option Addr) (c:Nat) (bm:List (List Value)),v= .slice A row.xs.length c∧row.xs.length≤c∧aA (Rel V row.t) row.xs bm∧(A=none→c=0)∧
  ∀j u,bm.flatten[j]? =some u→∃ad,A=some ad∧w.cell? (ad.add j)=some u:=by
 obtain⟨bm,⟨e1,e2⟩,hall⟩:=h
 rcases e2 with ⟨e2,e3⟩ | ⟨g,cap,cur,e2,_,hg,hn,hm,hcs,G9⟩
 ·have:row.xs=[]:=List.eq_nil_of_length_eq_zero e3
  have hy:=fI hall
  rw[e3,Nat.zero_mul] at hy
  refine⟨none,0,bm,by rw[e2,e3],by omega,hall,fun _=>rfl,fun j u hj=> ?_⟩
  rw[List.eq_nil_of_length_eq_zero hy] at hj;simp at hj
 ·refine⟨some ⟨g,0,none⟩,cap,bm,e2,hn,hall,(fun e=>by cases e),fun j u hj=>⟨_,rfl, ?_⟩⟩
  rw[G8,cell_of_row w g j cur row.e (0,0) hg]
  rw[←G9] at hj
  simpa using Ip hj
theorem AU (hE:aC E)(h:St E σ a w ν O){t:Ty}{x:AV}{u:Value}(hx:ah (view E σ ν O w) σ ν E.Y x u){k:List t.den→Q T b6}{r:b6}(he:(appended t x k).val Φ σ=some r):
  ∃ys:List t.den,(k ys).val Φ σ=some r∧∃(A:Option Addr) (c:Nat) (bm:List (List Value)),u= .slice A ys.length c∧ys.length≤c∧aA (Rel (view E σ ν O w) t) ys bm∧(A=none→c=0)∧
   ∀j u,bm.flatten[j]? =some u→∃ad,A=some ad∧w.cell? (ad.add j)=some u:=by
 have hc:=RO hx
 have cast:∀{e0:TypeId} {t':Ty} {l:List t'.den} {ys:List t.den},(cC (.slice t) [⟨.slice t',l⟩]).map (·.1)=some ys→iT (view E σ ν O w) w u ⟨e0,t',l⟩→∃(A:Option Addr) (c:Nat) (bm:List (List Value)),u= .slice A ys.length c∧ys.length≤c∧aA (Rel (view E σ ν O w) t) ys bm∧(A=none→c=0)∧
   ∀j u,bm.flatten[j]? =some u→∃ad,A=some ad∧w.cell? (ad.add j)=some u:=fun {e0 t' l ys} h1 h2=>by
  have:=C9 h1
  injection this with e1 e2
  injection e1 with e1
  subst e1
  simp only[heq_eq_eq] at e2
  subst e2
  exact Rm h2
 unfold appended at he
 split at he
 ·rename_i i n hxx
  rw[hxx] at hc
  rw[fk] at he
  obtain⟨hr,hh,he⟩:=he
  rw[bR] at he
  obtain⟨l,hl,he⟩:=he
  rw[bR] at he
  obtain⟨ys,hys,he⟩:=he
  refine⟨ys,he, ?_⟩
  obtain⟨h1,_⟩:=h.JZ hh hl hc
  exact cast hys h1
 ·rename_i c hxx
  rw[hxx] at hc
  rw[bR] at he
  obtain⟨ys,hys,he⟩:=he
  refine⟨ys,he, ?_⟩
  have:=C9 hys
  subst this
  obtain⟨A,cc,bm,e1,e2,e3,e4,e5⟩:=qd hc
  exact⟨A,cc,bm,e1,e2,e3,e4,fun j u hj=>by
   obtain⟨ad,e,hv⟩:=e5 j u hj
   exact⟨ad,e,xi hE h.keep hv⟩⟩
 ·rename_i q hxx
  rw[hxx] at hc
  rw[pU] at he
  obtain⟨row,hrow,he⟩:=he
  rw[bR] at he
  obtain⟨ys,hys,he⟩:=he
  refine⟨ys,he, ?_⟩
  have h1:=h.row hrow
  rw[←hc.1] at h1
  exact cast hys h1
 ·rename_i hxx
  rw[hxx] at hc
  exact⟨[],he,none,0,[],hc,Nat.le_refl _,trivial,fun _=>rfl,fun j u hj=>by simp at hj⟩
 ·cases he
theorem adF {t tx ty e e2:TypeId}{i:TypeInfo}(ht:P.underlying t=some (.slice e))(hi:P.info? e=some i)(hx:P.underlying tx=some (.slice e2))(v x:Value):(Builtin.append_ #[t,tx] ty #[v,x]).run P w=(Builtin.append_ #[t,t] ty #[v,x]).run P w:=by
 cases v<;>simp[Builtin.append_,run_underlying ht,run_underlying hx,sizeOf,typeInfo,hi]
theorem adG (hE:aC E)(hG:LV E)(hT:iu P T.rows)(h:St E σ a w ν O){o:Oper}{r:b6}{args:Array Operand}{ats:Array TypeId}(ho:o.op= .call {callee:= .builtin .append,args:=args,argTypes:=ats})
  (he:(C5 T σ.av σ.sites o).val Φ σ=some r):kP P o a w (To E (aU σ o.dst r)):=by
 have hd:∀c,o.op≠ .defer c:=by rw[ho];intro c e;cases e
 unfold C5 at he
 simp only[ho] at he
 generalize o.dst.bind (look σ.sites)=st at he
 split at he
 ·rename_i s x t tx hargs am6
  have hx':args= #[s,x]:=by cases args;simp at hargs;subst hargs;rfl
  have ht':ats= #[t,tx]:=by cases ats;simp at am6;subst am6;rfl
  subst hx' ht'
  rw[az] at he
  obtain⟨htt,he⟩:=he
  split at he
  ·rename_i u e bytes hel
   obtain⟨re,hu,QW,T1,pV,hby,hpos⟩:=uW hT hel
   obtain⟨i,z,i1,i2,i3,i4,i5⟩:=R2 (V:=view E σ ν O w) QW
   rw[T1] at i1
   rw[pV] at i5 i2
   rw[hby] at i3
   have hzs:z.cells.size=u.size:=by simpa using Rel.length i5
   have htx:∀(v x:Value),(Builtin.append_ #[t,tx] o.type #[v,x]).run P w=(Builtin.append_ #[t,t] o.type #[v,x]).run P w:=by
    rw[Bool.or_eq_true] at htt
    rcases htt with htt |htt
    ·have:=(beq_iff _ _).1 htt
     subst this
     exact fun _ _=>rfl
    ·obtain⟨⟨u2,e2,b2⟩,apk⟩:=Option.isSome_iff_exists.1 htt
     obtain⟨re2,hu2,_⟩:=uW hT apk
     exact fun v x=>adF hu i1 hu2 v x
   have UU:∀(v':Value) (w':World),(Builtin.append_ #[t,t] o.type #[a.eval s,a.eval x]).run P w= .ok v' w'→(execOp a.eval o).run P w= .ok (.value v') w':=fun v' w' hv=>by
    rw[←htx] at hv
    simp[execOp,ho,resolve,invoke,builtin,hv]
   have hs:=h.av hG s
   have hx:=h.av hG x
   split at he
   ·rename_i q hq
    rw[hq] at hs
    rw[pU] at he
    obtain⟨row,hrow,he⟩:=he
    rw[az] at he
    obtain⟨_,he⟩:=he
    obtain⟨ys,he,A,cc,bm,ex,f1,f2,f3,f4⟩:=AU hE h hx he
    rw[az] at he
    obtain⟨hc,he⟩:=he
    simp only[Bool.and_eq_true,aE,beq_iff] at hc
    obtain⟨⟨c1,c2⟩,c3,c4⟩:=hc
    have c3':0<u.size:=Nat.le_of_ble_eq_true c3
    have c4':=Nat.le_of_ble_eq_true c4
    split at he
    ·rename_i d OU
     rw[mn] at he
     split at he
     ·rename_i hfree
      rw[gr] at he
      subst he
      obtain⟨zss,hown,hall⟩:=h.row hrow
      rw[c1,c2] at hown
      obtain⟨v',w',hrun,g1,g2,g3⟩:=Ge (P:=P) 0 t o.type e i z u.size bytes hu i1 i4 i2 i3 hzs c3' hpos (ν (.row q)) row.xs.length zss.flatten hown A ys.length cc bm.flatten (by rw[fI f2,c2]) f1 f3 f4 (Nr f2) c4' (Nat.zero_le _)
      refine bZ hd (UU v' w' (by rw[hs.1,ex];exact hrun)) ?_
      simp only[aU,OU]
      obtain⟨A1,k1,Wx⟩:=oS hown
      obtain⟨A2,k2,Ud⟩:=oS g1
      refine⟨s8 ν d v',O,(h.ab8 hE (d:=d) (row':=⟨e,row.t,row.xs++ys⟩) hfree ((Grow.of_grownBy g2).mono fun k _ hk=>Wu hrow (by rw[Dc Wx];exact hk)) (fun k hk=> ?_) (fun hV=> ?_)).slot (x:= .rv (.own d)) ⟨?_, ?_⟩⟩
      ·rw[Dc Ud] at hk
       rcases g3 k hk with h1 |h1
       ·exact .inl (Wu hrow (by rw[Dc Wx];exact h1))
       ·exact .inr ⟨h1,Gf g1 hk⟩
      ·refine⟨zss++bm, ?_,(hall.mono (Rel.mono hV _)).append (f2.mono (Rel.mono hV _))⟩
       rw[List.flatten_append,c2,List.length_append];exact g1
      ·rw[mE]
      ·show (look (put _ _ _) _).isSome=true
       rw[aB,if_pos rfl];rfl
     ·cases he
    ·cases he
   ·rename_i hp n hq
    rw[hq] at hs
    rw[fk] at he
    obtain⟨hr,hh,he⟩:=he
    rw[bR] at he
    obtain⟨l,hl,he⟩:=he
    rw[az] at he
    obtain⟨hc,he⟩:=he
    simp only[Bool.and_eq_true,beq_iff] at hc
    obtain⟨c1,c2⟩:=hc
    obtain⟨ys,he,A,cc,bm,ex,f1,f2,f3,f4⟩:=AU hE h hx he
    rw[az] at he
    obtain⟨hc,he⟩:=he
    simp only[Bool.and_eq_true,aE] at hc
    obtain⟨c3,c4⟩:=hc
    have c3':0<hr.t.size:=Nat.le_of_ble_eq_true c3
    have c4':=Nat.le_of_ble_eq_true c4
    obtain⟨hrow,hblk,EN⟩:=h.JZ hh hl hs
    obtain⟨zss,hown,hall⟩:=hrow
    rw[←c1] at hown
    dsimp only at hown hall
    rw[Nf] at he
    rcases he with ⟨hem,he⟩ | ⟨hne,he⟩
    ·have hys:ys=[]:=by cases ys with
      |nil=>rfl
      |cons _ _=>cases hem
     subst hys
     rw[gm] at he
     subst he
     have hrun:=P3 (P:=P) 0 t o.type e i hr.t.size hu i1 (a.eval s) l.length zss.flatten hown A cc f3
     exact b4 hE hd h rfl (UU _ _ (by rw[ex];exact hrun)) hs
    ·obtain⟨v',w',hrun,g1,g2,g3⟩:=Ge (P:=P) 0 t o.type e i z hr.t.size bytes hu i1 i4 (by rw[i2,c2]) i3 (by rw[hzs,c2]) c3' hpos (a.eval s) l.length zss.flatten hown A ys.length cc bm.flatten (fI f2) f1 f3 f4 (Nr f2) c4' (Nat.zero_le _)
     obtain⟨A1,k1,Wx⟩:=oS hown
     obtain⟨A2,k2,Ud⟩:=oS g1
     have am8:0<ys.length:=by cases ys with
      |nil=>cases hne
      |cons _ _=>simp
     obtain⟨us,n',rfl,ν',s1,hv⟩:=Nq hE h (n1:=n) (C:=fun k=>cD (a.eval s)=some k) (v0:=v') (w':=w') (l':=l++ys) hh (JV hl) hblk ((Grow.of_grownBy g2).mono fun k _ hk=>by rw[Dc Wx];exact hk) (fun k hk=>by
       rw[Dc Ud] at hk
       rcases g3 k hk with h1 |h1
       ·exact .inl (hblk k (by rw[Dc Wx];exact h1))
       ·exact .inr ⟨h1,Gf g1 hk⟩) (by
       rcases g1.2 with ⟨_,e0⟩ | ⟨g,cap,cur,e0,_⟩
       ·omega
       ·exact⟨_,_,_,e0⟩)
      (fun V' hV=>⟨zss++bm,by rw[List.flatten_append, ←c1,List.length_append];exact g1,(hall.mono (Rel.mono hV _)).append (f2.mono (Rel.mono hV _))⟩) he
     exact bZ hd (UU v' w' (by rw[ex];exact hrun)) ⟨ν',O,s1.slot hv⟩
   ·rename_i hq
    rw[hq] at hs
    have es:a.eval s= .slice none 0 0:=hs
    split at he
    ·rename_i hp hhp
     rw[fk] at he
     obtain⟨hr,hh,he⟩:=he
     rw[az] at he
     obtain⟨hc,he⟩:=he
     simp only[Bool.and_eq_true,beq_iff] at hc
     obtain⟨c1,c2⟩:=hc
     obtain⟨ys,he,A,cc,bm,ex,f1,f2,f3,f4⟩:=AU hE h hx he
     rw[az] at he
     obtain⟨hc,he⟩:=he
     simp only[Bool.and_eq_true,aE] at hc
     obtain⟨c3,c4⟩:=hc
     have c3':0<hr.t.size:=Nat.le_of_ble_eq_true c3
     have c4':=Nat.le_of_ble_eq_true c4
     rw[Nf] at he
     rcases he with ⟨hem,he⟩ | ⟨hne,he⟩
     ·have hys:ys=[]:=by cases ys with
       |nil=>rfl
       |cons _ _=>cases hem
      subst hys
      rw[gm] at he
      subst he
      have hrun:=P3 (P:=P) 0 t o.type e i hr.t.size hu i1 (.slice none 0 0) 0 [] (World.ownsRow_nil w 0 e hr.t.size) A cc f3
      exact b4 hE hd h rfl (UU _ _ (by rw[es,ex];exact hrun)) rfl
     ·obtain⟨v',w',hrun,g1,g2,g3⟩:=Ge (P:=P) 0 t o.type e i z hr.t.size bytes hu i1 i4 (by rw[i2,c2]) i3 (by rw[hzs,c2]) c3' hpos (.slice none 0 0) 0 [] (World.ownsRow_nil w 0 e hr.t.size) A ys.length cc bm.flatten (fI f2) f1 f3 f4 (Nr f2) c4' (Nat.zero_le _)
      obtain⟨A2,k2,Ud⟩:=oS g1
      have am8:0<ys.length:=by cases ys with
       |nil=>cases hne
       |cons _ _=>simp
      obtain⟨us,n',rfl,ν',s1,hv⟩:=Nq hE h (n1:=0) (C:=fun _=>False) (v0:=v') (w':=w') (l':=ys) hh (Nat.zero_le _) (fun _ hk=>hk.elim) ((Grow.of_grownBy g2).mono fun k _ hk=>by cases hk) (fun k hk=>by
        rw[Dc Ud] at hk
        rcases g3 k hk with h1 |h1
        ·cases h1
        ·exact .inr ⟨h1,Gf g1 hk⟩) (by
        rcases g1.2 with ⟨_,e0⟩ | ⟨g,cap,cur,e0,_⟩
        ·omega
        ·exact⟨_,_,_,e0⟩)
       (fun V' hV=>⟨bm,by rw[←c1];simpa using g1,f2.mono (Rel.mono hV _)⟩) he
      exact bZ hd (UU v' w' (by rw[es,ex];exact hrun)) ⟨ν',O,s1.slot hv⟩
    ·obtain⟨ys,he,A,cc,bm,ex,f1,f2,f3,f4⟩:=AU hE h hx he
     rw[az] at he
     obtain⟨hc,he⟩:=he
     simp only[Bool.and_eq_true,aE] at hc
     obtain⟨c3,c4⟩:=hc
     have c3':0<u.size:=Nat.le_of_ble_eq_true c3
     have c4':=Nat.le_of_ble_eq_true c4
     obtain⟨v',w',hrun,g1,g2,g3⟩:=Ge (P:=P) 0 t o.type e i z u.size bytes hu i1 i4 i2 i3 hzs c3' hpos (.slice none 0 0) 0 [] (World.ownsRow_nil w 0 e u.size) A ys.length cc bm.flatten (fI f2) f1 f3 f4 (Nr f2) c4' (Nat.zero_le _)
     obtain⟨A2,k2,Ud⟩:=oS g1
     have apm:Below w.heap.size w w':=(((Grow.of_grownBy g2).mono fun k _ hk=>by cases hk):Grow (fun _=>False) w w').below
     obtain⟨q,us,rfl,ν',s1,hv⟩:=Wy hE h (v':=v') (w':=w') apm (fun k hk=>by
       rw[Dc Ud] at hk
       rcases g3 k hk with h1 |h1
       ·cases h1
       ·exact⟨h1,Gf g1 hk⟩) (fun V' hV=>⟨bm,by simpa using g1,f2.mono (Rel.mono hV _)⟩) he
     exact bZ hd (UU v' w' (by rw[es,ex];exact hrun)) ⟨ν',O,s1.slot (x:= .rv (.own q)) hv⟩
   ·cases he
  ·cases he
 ·cases he
end
end Go.Abs
namespace Go.Abs
open Go.RowKit Go.Lib
section
variable {P:Program}{T:cm}{E:Env}{σ σ':AS}{a:Act}{w w':World}{ν ν':Nm→Value}{O:Nat→Prop}{Φ:bF T}{V:View}{Y:Value}
theorem R6 (hT:iu P T.rows){o:Oper}{t:TypeId}{x hi:Operand}(ho:o.op= .slice t x none (some hi) none){u:Ty}{e:TypeId}{bytes:Nat}(hel:gq T.rows t=some (u,e,bytes)){A:Option Addr}{len cap:Nat}{k:IntKind}{n:Int}
  (ex:a.eval x= .slice A len cap) (en:a.eval hi= .int k n) (h0:0≤n) (h1:n≤len) (hlen:len≤cap) (hn:A=none→cap=0):(execOp a.eval o).run P w= .ok (.value (.slice A n.toNat cap)) w:=by
 obtain⟨re,hu,QW,T1,pV,hby,hpos⟩:=uW hT hel
 have hsz:(sizeOf e).run P w= .ok u.size w:=by rw[←T1, ←pV];exact Bj QW w
 have hb:=fun code=>tQ (P:=P) (w:=w) (y:=cap) (code:=code) en h0 (by omega)
 have hA:(if cap=0 then A else A.map (·.add (0*u.size)))=A:=by
  split
  ·rfl
  ·cases A with
   |none=>rfl
   |some ad=>simp[Addr.add]
 have hb':(Instr.sliceBounds true len cap none (some (a.eval hi)) none).run P w= .ok (0,n.toNat,cap) w:=by
  simp[Instr.sliceBounds,hb]
 have hs:(Instr.slice t (.slice A len cap) none (some (a.eval hi)) none).run P w= .ok (.slice A n.toNat cap) w:=by
  simp only[Instr.slice,Sem.run_bind,run_underlying hu,Result.andThen_ok,hb',hsz,Sem.run_pure,hA,Nat.sub_zero]
 simp only[execOp,ho,Instr.sliceAt,Sem.run_bind,run_underlying hu,Result.andThen_ok,ex,Option.map_none,Option.map_some,hs,Sem.run_pure]
theorem Yp {A:Option Addr}{cap:Nat}{row:Row}(h:iT V w (.slice A row.xs.length cap) row){n:Nat}(hn:n≤row.xs.length):iT V w (.slice A n cap) ⟨row.e,row.t,row.xs.take n⟩:=by
 obtain⟨bm,⟨e1,e2⟩,hall⟩:=h
 have hft:=F7 n hall
 have OF:=fI hall
 have hmul:n*row.t.size≤row.xs.length*row.t.size:=Nat.mul_le_mul_right _ hn
 have hln:(row.xs.take n).length=n:=by rw[List.length_take];omega
 refine⟨bm.take n, ?_,hall.take _⟩
 show w.ownsRow 0 row.e row.t.size _ (row.xs.take n).length _
 rw[hln,hft]
 refine⟨by rw[List.length_take,OF];omega, ?_⟩
 rcases e2 with ⟨e2,e3⟩ | ⟨g,cap',cur,e2,f1,f2,f3,f4,f5,f6⟩
 ·injection e2 with e4 e5 e6
  left
  have:n=0:=by omega
  rw[this,e4,e6]
  exact⟨rfl,rfl⟩
 ·injection e2 with e4 e5 e6
  subst e4 e6
  exact .inr ⟨g,cap,cur,rfl,f1,f2,by omega,f4,f5,by rw[←f6,List.take_take,Nat.min_eq_left hmul]⟩
theorem Ue {q:Nat}{row:Row}(hq:look σ.rows q=some row)(d:Int)(x:Option Operand):iq (σ.freeze q).av d x=iq σ.av d x:=by
 cases x with
 |none=>rfl
 |some x=>
  simp only[iq]
  rw[JY hq]
  cases σ.av x with
  |rv x=>cases x with
   |own k=>simp only[AV.s7,RV.s7];cases Nat.beq k q<;>rfl
   |_=>rfl
  |M5 k sz i off=>simp only[AV.s7];cases Nat.beq k q<;>rfl
  |_=>rfl
theorem WA {rows:List fE}{av OZ:Operand→AV}(h:∀d x,iq av d x=iq OZ d x)(t:TypeId)(x:AV)(lo hi mx:Option Operand):uR (T:=T) rows av t x lo hi mx=uR rows OZ t x lo hi mx:=by
 unfold uR
 simp only[h]
theorem agb (hE:aC E)(hG:LV E)(hT:iu P T.rows)(h:St E σ a w ν O){o:Oper}{r:b6}{t:TypeId}{x:Operand}{lo hi mx:Option Operand}(ho:o.op= .slice t x lo hi mx)
  (he:(C5 T σ.av σ.sites o).val Φ σ=some r):kP P o a w (To E (aU σ o.dst r)):=by
 have hd:∀c,o.op≠ .defer c:=by rw[ho];intro c e;cases e
 have hx:=h.av hG x
 unfold C5 at he
 simp only[ho] at he
 split at he
 ·rename_i q hq
  rw[hq] at hx
  split at he
  ·rename_i hi'
   split at he
   ·rename_i u e bytes k n hel hn
    rw[pU] at he
    obtain⟨row,hrow,he⟩:=he
    rw[az] at he
    obtain⟨hc,he⟩:=he
    rw[Bool.and_eq_true] at hc
    obtain⟨c1,c2,c3⟩:=xo.1 hc.2
    split at he
    ·rename_i d OU
     rw[mn] at he
     split at he
     ·rename_i hfree
      rw[gr] at he
      subst he
      have en:=h.av hG hi'
      rw[hn] at en
      have b8:=h.row hrow
      obtain⟨A,cap,er,hlen,hnone,_⟩:=C8 b8
      have hrun:=R6 (P:=P) (w:=w) hT ho hel (by rw[hx.1,er]) (xl en rfl) c2 c3 hlen hnone
      refine bZ hd hrun ?_
      simp only[aU,OU]
      refine⟨s8 ν d (.slice A n.toNat cap),O,(h.ab8 hE (w':=w) (d:=d) (row':=⟨row.e,row.t,row.xs.take n.toNat⟩) hfree (Grow.refl _ _) (fun k hk=> .inl (Wu hrow ?_)) (fun hV=> ?_)).slot (x:= .rv (.own d)) ⟨?_, ?_⟩⟩
      ·rw[er];cases A<;>exact hk
      ·rw[er] at b8
       exact iT.mono hV (fun _ _=>rfl) (Yp b8 (by omega))
      ·rw[mE]
      ·show (look (put _ _ _) _).isSome=true
       rw[aB,if_pos rfl];rfl
     ·cases he
    ·cases he
   ·cases he
  ·rw[pU] at he
   obtain⟨row,hrow,he⟩:=he
   rw[mn,Ri] at he
   obtain⟨y,he,rfl⟩:=he
   have s1:=h.freeze hE q
   have hx1:=s1.av hG x
   rw[JY hrow,hq] at hx1
   simp only[AV.s7,RV.s7,beq_refl,cond_true] at hx1
   rw[WA (OZ:=(σ.freeze q).av) (fun d x=>(Ue hrow d x).symm)] at he
   obtain⟨e1,v,h2,h3⟩:=RW (P:=P) (w:=w) hT (s1.av hG) hx1 he
   exact bZ hd (v:=v) (by simp[execOp,ho,h2]) ⟨ν,O,s1.slot h3⟩
 ·rename_i i n hq
  rw[hq] at hx
  split at he
  ·rename_i y
   split at he
   ·rename_i ue k m hel hm
    obtain⟨u,e,bytes⟩:=ue
    rw[fk] at he
    obtain⟨hr,hh,he⟩:=he
    rw[bR] at he
    obtain⟨l,hl,he⟩:=he
    rw[az,Nf] at he
    obtain⟨hc,he⟩:=he
    obtain⟨_,c2,c3⟩:=xo.1 hc
    have en:=h.av hG y
    rw[hm] at en
    obtain⟨b8,hblk,EN⟩:=h.JZ hh hl hx
    obtain⟨A,cap,er,hlen,hnone,_⟩:=C8 b8
    dsimp only at er hlen
    have hrun:=R6 (P:=P) (w:=w) hT ho hel er (xl en rfl) c2 c3 hlen hnone
    rcases he with ⟨h0,he⟩ | ⟨h0,he⟩
    ·have:=(beq_iff _ _).1 h0
     subst this
     rw[gm] at he
     subst he
     rcases EN with ⟨_,hv,hl0⟩ | ⟨h1,_⟩
     ·rw[er] at hv
      injection hv with v1 v2 v3
      subst v1 v3
      subst hl0
      have:m.toNat=0:=by simp at c3;omega
      rw[this] at hrun
      exact b4 hE hd h rfl hrun rfl
     ·omega
    ·have hn0:=rD.1 h0
     rcases EN with ⟨h1,_⟩ | ⟨h1,hk,hv⟩
     ·exact absurd h1 hn0
     ·have hhv:=h.nn i hr n hh h1 (JV hl)
      rw[hk, ←hv,er] at hhv
      rcases hhv with ⟨_,g,n',c',e9⟩ | ⟨e9,_⟩
      ·injection e9 with v1 v2 v3
       subst v1
       have hb:cD (.slice (some ⟨g,0,none⟩) m.toNat cap)=cD (a.eval x):=by rw[er];rfl
       rw[er] at b8
       obtain⟨us,n2,rfl,ν',s1,Ud⟩:=Nq hE h (n1:=n) (C:=fun _=>False) (v0:= .slice (some ⟨g,0,none⟩) m.toNat cap) (w':=w) (l':=l.take m.toNat) hh (JV hl) (fun _ hk=>hk.elim) (Grow.refl _ _) (fun k hk=> .inl (hblk k (by rw[←hb];exact hk))) ⟨_,_,_,rfl⟩
        (fun V' hV=>iT.mono hV (fun _ _=>rfl) (Yp b8 (by dsimp only;omega))) he
       exact bZ hd hrun ⟨ν',O,s1.slot Ud⟩
      ·cases e9
   ·cases he
  ·cases he
 ·obtain⟨e1,v,h2,h3⟩:=RW (P:=P) (w:=w) hT (h.av hG) hx he
  exact b4 hE hd h e1 (v:=v) (by simp[execOp,ho,h2]) h3
end
end Go.Abs
namespace Go.Abs
open Go.RowKit Go.Lib
theorem Rel.tr {hs:List Nat}{V V':View}(hc:∀(a:Addr) v,V (.cell a) v→V' (.cell a) v)(hr:∀h,hs.any (Nat.beq h)=true→∀n v,V (.ref h n) v→V' (.ref h n) v):
  ∀(t:Ty) (x:t.den) (cs:List Value),dZ hs t=true→Rel V t x cs→Rel V' t x cs
 | .int k,x,cs,_,h=>h
 | .bool,x,cs,_,h=>h
 | .str,x,cs,_,h=>h
 | .slice t,xs,cs,hi,⟨A,c,bm,h1,h2,h3,h5,h4⟩=>⟨A,c,bm,h1,h2,h3.mono (fun x y=>Rel.tr hc hr t x y hi),h5,fun j u hj=>let ⟨ad,e,hv⟩:=h4 j u hj;⟨ad,e,hc _ _ hv⟩⟩
 | .unit,_,cs,_,h=>h
 | .pair a b,x,cs,hi,⟨c1,c2,e,h1,h2⟩=>by
   simp only[dZ,Bool.and_eq_true] at hi
   exact⟨c1,c2,e,Rel.tr hc hr a _ _ hi.1 h1,Rel.tr hc hr b _ _ hi.2 h2⟩
 | .st t,x,cs,hi,h=>Rel.tr hc hr t x cs hi h
 | .ref _,0,_,_,h=>h
 | .ref k,_+1,_,hi,⟨v,e,hs,hv⟩=>⟨v,e,hs,hr k hi _ _ hv⟩
 | .ptr _,0,_,_,h=>h
 | .ptr k,_+1,_,hi,⟨v,e,hs,hv⟩=>⟨v,e,hs,hr k hi _ _ hv⟩
 | .mp _,0,_,_,h=>h
 | .mp k,_+1,_,hi,⟨v,e,hs,hv⟩=>⟨v,e,hs,hr k hi _ _ hv⟩
 | .fn,_,_,_,h=>h
 | .o6 t,none,cs,_,h=>h
 | .o6 t,some xs,cs,hi,⟨ad,c,bm,h1,h2,h3,h4⟩=>⟨ad,c,bm,h1,h2,h3.mono (fun x y=>Rel.tr hc hr t x y hi),fun j u hj=>hc _ _ (h4 j u hj)⟩
theorem Rel.trN {V V':View}(hr:∀h n v,V (.ref h n) v→V' (.ref h n) v):
  ∀(t:Ty) (x:t.den) (cs:List Value),D6 t=true→Rel V t x cs→Rel V' t x cs
 | .int k,x,cs,_,h=>h
 | .bool,x,cs,_,h=>h
 | .str,x,cs,_,h=>h
 | .slice t,xs,cs,hi,_=>by cases hi
 | .unit,_,cs,_,h=>h
 | .pair a b,x,cs,hi,⟨c1,c2,e,h1,h2⟩=>by
   simp only[D6,Bool.and_eq_true] at hi
   exact⟨c1,c2,e,Rel.trN hr a _ _ hi.1 h1,Rel.trN hr b _ _ hi.2 h2⟩
 | .st t,x,cs,hi,h=>Rel.trN hr t x cs hi h
 | .ref _,0,_,_,h=>h
 | .ref k,_+1,_,hi,⟨v,e,hs,hv⟩=>⟨v,e,hs,hr _ _ _ hv⟩
 | .ptr _,0,_,_,h=>h
 | .ptr k,_+1,_,hi,⟨v,e,hs,hv⟩=>⟨v,e,hs,hr _ _ _ hv⟩
 | .mp _,0,_,_,h=>h
 | .mp k,_+1,_,hi,⟨v,e,hs,hv⟩=>⟨v,e,hs,hr _ _ _ hv⟩
 | .fn,_,_,_,h=>h
 | .o6 t,_,cs,hi,_=>by cases hi
theorem wB.O0 {V:View}{t:Ty}{x:t.den}{v:Value}(h:∀u,t≠ .st u)(hr:Rel V t x [v]):wB V t x v:=by
 cases t with
 |st u=>exact absurd rfl (h u)
 |_=>exact hr
theorem wB.tr {hs:List Nat}{V V':View}(hc:∀(a:Addr) v,V (.cell a) v→V' (.cell a) v)(hr:∀h,hs.any (Nat.beq h)=true→∀n v,V (.ref h n) v→V' (.ref h n) v){t:Ty}{x:t.den}{v:Value}(hi:dZ hs t=true)(h:wB V t x v):wB V' t x v:=by
 cases t with
 |st t=>obtain⟨cs,h1,h2⟩:=h;exact⟨cs,h1,Rel.tr hc hr _ _ _ hi h2⟩
 |_=>exact Rel.tr hc hr _ _ _ hi h
def Dd (V:View):(ts:List Ty)→rB ts→List Value→Prop
 | [],_,vs=>vs=[]
 | [t],x,vs=>∃v,vs=[v]∧qc V (flat t x) v
 |t::u::ts,x,vs=>∃v r,vs=v::r∧qc V (flat t x.1) v∧Dd V (u::ts) x.2 r
def ArgRel (V:View):(p:nr)→p.den→Value→Prop
 | .v t,x,v=>wB V t x v
 | .fn f ts,x,v=>∃vs:List Value,v= .func (.func f) #[] vs.toArray∧Dd V ts x vs
 | .c cs,_,v=>∃vs:List Value,v= .agg vs.toArray∧aA (bC V) cs vs
 | .rp t,x,v=>qc V (flat t x) v
 | .bx _,_,_=>False
 | .K4,_,_=>False
def mo (V:View):(ps:List nr)→F0 ps→List Value→Prop
 | [],_,vs=>vs=[]
 | [p],x,vs=>∃v,vs=[v]∧ArgRel V p x v
 |p::q::ps,x,vs=>∃v r,vs=v::r∧ArgRel V p x.1 v∧mo V (q::ps) x.2 r
section heaps
variable {T:cm}{σ:AS}{Φ:bF T}
theorem yI (wr:List Nat):∀(hs:List Nat) (x:D4 T hs) (ae:List aT),(p8 T wr hs x ae).length=ae.length
 | [],_,ae=>rfl
 | [h],x,ae=>by simp[p8,sj]
 |h::i::r,x,ae=>by simp only[p8];rw[yI wr (i::r)];simp[sj]
theorem jV (wr:List Nat):∀(hs:List Nat) (x:D4 T hs) (ae:List aT) (k:Nat),k∉hs→(p8 T wr hs x ae)[k]? =ae[k]?
 | [],_,ae,k,_=>rfl
 | [h],x,ae,k,hk=>by
   simp only[p8,sj]
   rw[List.getElem?_set_ne (by simp at hk;omega)]
 |h::i::r,x,ae,k,hk=>by
  simp only[List.mem_cons,not_or] at hk
  simp only[p8]
  rw[jV wr (i::r) _ _ k (by simp only[List.mem_cons,not_or];exact hk.2)]
  simp only[sj]
  rw[List.getElem?_set_ne (by omega)]
theorem UW (e:TypeId)(k:Nat)(w:Bool){s t:Ty}(h:s=t)(xs:List (Option (List s.den))):(⟨e,t,k,w,PX h xs⟩:aT)=⟨e,s,k,w,xs⟩:=by subst h;rfl
theorem Yq {w:Bool}{ae:List aT}{h:Nat}{hr:aT}(e1:hr.e=(T.ht h).e)(e2:hr.k=(T.ht h).k)(e3:hr.t=(T.ht h).t):sj T w ae h (PX e3 hr.xs)=ae.set h ⟨hr.e,hr.t,hr.k,w,hr.xs⟩:=by
 unfold sj
 rw[UW, ←e1, ←e2]
def am9 (T:cm)(σ:AS)(wr:List Nat)(put:List aT→List aT)(h:Nat):Prop:=∃hr:aT,σ.ae[h]? =some hr∧(wr.any (Nat.beq h)=true→hr.w=true)∧hr.e=(T.ht h).e∧hr.k=(T.ht h).k∧hr.t=(T.ht h).t∧
 ∀R7:List aT,h<R7.length→(put R7)[h]? =some ⟨hr.e,hr.t,hr.k,wr.any (Nat.beq h),hr.xs⟩
theorem UX (wr:List Nat):∀(hs:List Nat) (k:D4 T hs→Q T b6) (r:b6),(RD T wr hs k).val Φ σ=some r→∃x,(k x).val Φ σ=some r∧∀h∈hs,am9 T σ wr (p8 T wr hs x) h
 | [],k,r,h=>⟨(),h,fun h hh=>by simp at hh⟩
 | [h],k,r,he=>by
   simp only[RD] at he
   rw[fk] at he
   obtain⟨hr,hh,he⟩:=he
   rw[az] at he
   obtain⟨hc,he⟩:=he
   simp only[Bool.and_eq_true,beq_iff,Bool.or_eq_true,Bool.not_eq_true'] at hc
   obtain⟨⟨hw,e1⟩,e2⟩:=hc
   split at he
   ·rename_i e3
    refine⟨_,he,fun h' hm=> ?_⟩
    simp only[List.mem_singleton] at hm
    subst hm
    refine⟨hr,hh,fun ha=> ?_,e1,e2,e3,fun R7 hlt=> ?_⟩
    ·rcases hw with hw |hw
     ·exact hw
     ·rw[ha] at hw;cases hw
    ·simp only[p8]
     rw[Yq e1 e2 e3,List.getElem?_set_self hlt]
   ·cases he
 |h::i::rs,k,r,he=>by
  simp only[RD] at he
  rw[fk] at he
  obtain⟨hr,hh,he⟩:=he
  rw[az] at he
  obtain⟨hc,he⟩:=he
  simp only[Bool.and_eq_true,beq_iff,Bool.or_eq_true,Bool.not_eq_true'] at hc
  obtain⟨⟨hw,e1⟩,e2⟩:=hc
  split at he
  ·rename_i e3
   obtain⟨x,hx,R1⟩:=UX wr (i::rs) _ r he
   refine⟨_,hx,fun h' hm=> ?_⟩
   by_cases hm2:h'∈i::rs
   ·obtain⟨hr',g1,g2,g3,g4,g5,g6⟩:=R1 h' hm2
    refine⟨hr',g1,g2,g3,g4,g5,fun R7 hlt=> ?_⟩
    simp only[p8]
    exact g6 _ (by simpa [sj] using hlt)
   ·have:h'=h:=by
     rcases List.mem_cons.1 hm with e |e
     ·exact e
     ·exact absurd e hm2
    subst this
    refine⟨hr,hh,fun ha=> ?_,e1,e2,e3,fun R7 hlt=> ?_⟩
    ·rcases hw with hw |hw
     ·exact hw
     ·rw[ha] at hw;cases hw
    ·simp only[p8]
     rw[jV wr (i::rs) _ _ h' hm2,Yq e1 e2 e3,List.getElem?_set_self hlt]
  ·cases he
theorem xp (h:Nat)(hr:aT)(e:(cj T)[h]? =some hr):hr.xs=[]:=by
 unfold cj at e
 rw[List.getElem?_map,Option.map_eq_some_iff] at e
 obtain⟨g,_,rfl⟩:=e
 rfl
theorem qe:(cj T).length=T.ae.length:=by simp[cj]
end heaps
end Go.Abs
namespace Go.Abs
open Go.RowKit Go.Lib
section
variable {P:Program}{T:cm}{E:Env}{σ σ':AS}{a:Act}{w w':World}{ν ν':Nm→Value}{O:Nat→Prop}{Φ:bF T}{V V':View}{Y:Value}{ae:List aT}{hs:List Nat}
def Src (V V':View)(t:Ty)(l:List t.den)(v:Value):Prop:=∃(A:Option Addr) (c:Nat) (bm:List (List Value)),v= .slice A l.length c∧l.length≤c∧aA (Rel V t) l bm∧(A=none→c=0)∧
 ∀j u,bm.flatten[j]? =some u→∃ad,A=some ad∧V' (.cell (ad.add j)) u
theorem P4 {α β γ:Type}{R:α→γ→Prop}{S:β→γ→Prop}{f:α→Option β}(hf:∀x y c,f x=some y→R x c→S y c):∀{xs:List α} {ys:List β} {cs:List γ},ll f xs=some ys→aA R xs cs→aA S ys cs
 | [],ys,[],h,_=>by simp only[ll,Option.some.injEq] at h;subst h;trivial
 |x::xs,ys,c::cs,h,hr=>by
  simp only[ll] at h
  split at h
  ·rename_i y hy
   split at h
   ·rename_i l hl
    simp only[Option.some.injEq] at h
    subst h
    exact⟨hf _ _ _ hy hr.1,P4 hf hl hr.2⟩
   ·cases h
  ·cases h
 | [],ys,_::_,_,hr=>hr.elim
 |_::_,ys,[],_,hr=>hr.elim
theorem Src.tr {t:Ty}{l:List t.den}{v:Value}(hc:∀(a:Addr) v,V (.cell a) v→V' (.cell a) v)(hr:∀h,hs.any (Nat.beq h)=true→∀n v,V (.ref h n) v→V' (.ref h n) v)(hi:dZ hs t=true)(h:Src V V' t l v):bC V' ⟨.slice t,l⟩ v:=by
 obtain⟨A,c,bm,h1,h2,h3,h4,h5⟩:=h
 exact⟨A,c,bm,by rw[h1],h2,h3.mono (fun x y=>Rel.tr hc hr t x y hi),h4,h5⟩
theorem Iw (hc:∀(a:Addr) v,V (.cell a) v→V' (.cell a) v)(hr:∀h,hs.any (Nat.beq h)=true→∀n v,V (.ref h n) v→V' (.ref h n) v)
  (hsrc:∀(i n:Nat) (hr:aT) (l:List hr.t.den) (v:Value),ae[i]? =some hr→ag hr.xs n=some l→bC V ⟨.ref i,n⟩ v→Src V V' hr.t l v):
  ∀{t:Ty} {l:List CV} {x:t.den} {r:List CV} {vs:List Value},dZ hs t=true→snap ae t l=some (x,r)→aA (bC V) l vs→∃v1 v2,vs=v1++v2∧Rel V' t x v1∧aA (bC V) r v2
 | .unit,l,x,r,vs,_,h,hl=>by simp only[snap,Option.some.injEq,Prod.mk.injEq] at h;obtain⟨_,rfl⟩:=h;exact⟨[],vs,rfl,rfl,hl⟩
 | .pair a b,l,x,r,vs,hi,h,hl=>by
   simp only[dZ,Bool.and_eq_true] at hi
   simp only[snap] at h
   split at h
   ·rename_i y l' h1
    split at h
    ·rename_i z l'' h2
     simp only[Option.some.injEq,Prod.mk.injEq] at h
     obtain⟨rfl,rfl⟩:=h
     obtain⟨v1,v2,rfl,r1,r2⟩:=Iw hc hr hsrc hi.1 h1 hl
     obtain⟨v3,v4,rfl,r3,r4⟩:=Iw hc hr hsrc hi.2 h2 r2
     exact⟨v1++v3,v4,by rw[List.append_assoc],⟨v1,v3,rfl,r1,r3⟩,r4⟩
    ·cases h
   ·cases h
 | .st t,l,x,r,vs,hi,h,hl=>Iw (t:=t) hc hr hsrc hi h hl
 | .slice t,l,x,r,vs,hi,h,hl=>by
   have hi':dZ hs t=true:=hi
   simp only[snap] at h
   unfold F1 at h
   split at h
   ·rename_i i n l'
    cases vs with
    |nil=>exact hl.elim
    |cons v vs=>
     cases hb:Nat.beq n 0 with
     |true=>
      rw[hb,cond_true] at h
      simp only[Option.some.injEq,Prod.mk.injEq] at h
      obtain⟨rfl,rfl⟩:=h
      have:=(beq_iff _ _).1 hb
      subst this
      exact⟨[v],vs,rfl,UN hl.1,hl.2⟩
     |false=>
     rw[hb,cond_false] at h
     split at h
     ·rename_i Yo hh
      simp only[Option.bind_eq_some_iff,Option.some.injEq,Prod.mk.injEq] at h
      obtain⟨ys,hys,xs,hxs,rfl,rfl⟩:=h
      obtain⟨A,c,bm,e1,e2,e3,e4,e5⟩:=hsrc i n Yo ys v hh hys hl.1
      have hall:aA (Rel V' t) xs bm:=P4 (R:=Rel V Yo.t) (fun y z cs hy b8=>by
       split at hy
       ·rename_i x' hsn
        simp only[Option.some.injEq] at hy
        subst hy
        obtain⟨v1,v2,rfl,h1,h2⟩:=Iw hc hr hsrc hi' hsn (il b8)
        cases v2 with
        |nil=>simpa using h1
        |cons _ _=>exact h2.elim
       ·cases hy) hxs e3
      have hlen:xs.length=ys.length:=by rw[hall.length,e3.length]
      exact⟨[v],vs,rfl,⟨A,c,bm,by rw[e1,hlen],by rw[hlen];exact e2,hall,e4,e5⟩,hl.2⟩
     ·cases h
   ·rename_i t' o l'
    cases vs with
    |nil=>exact hl.elim
    |cons v vs=>
     simp only[Option.map_eq_some_iff,Prod.mk.injEq] at h
     obtain⟨⟨y,r'⟩,h1,h2,h3⟩:=h
     simp only at h2 h3
     subst h2 h3
     have he:=bM h1
     simp only[List.cons.injEq] at he
     have h4:bC V ⟨.slice t',lst o⟩ v:=RN hl.1
     rw[he.1] at h4
     exact⟨[v],vs,rfl,Rel.tr hc hr _ _ _ hi h4,by
      have:=he.2;subst this;exact hl.2⟩
   ·rw[bM h] at hl
    cases vs with
    |nil=>exact hl.elim
    |cons v vs=>exact⟨[v],vs,rfl,Rel.tr hc hr _ _ _ hi hl.1,hl.2⟩
 | .o6 t,l,x,r,vs,hi,h,hl=>by
   simp only[snap] at h
   unfold We at h
   split at h
   ·rename_i t' xs l'
    cases vs with
    |nil=>exact hl.elim
    |cons v vs=>
     cases xs with
     |nil=>cases h
     |cons x0 xs=>
      simp only[Option.map_eq_some_iff,Prod.mk.injEq] at h
      obtain⟨⟨y,r'⟩,h1,h2,h3⟩:=h
      simp only at h2 h3
      subst h2 h3
      have he:=bM h1
      simp only[List.cons.injEq] at he
      obtain⟨A,c,bm,e1,e2,e3,e4,e5⟩:=qd hl.1
      have h4:bC V ⟨.o6 t',(some (x0::xs):Option (List t'.den))⟩ v:=by
       cases A with
       |none=>have:=e4 rfl;simp at e2;omega
       |some ad=>
        refine⟨ad,c,bm,by rw[e1],e2,e3,fun j u hj=> ?_⟩
        obtain⟨OR,h5,h6⟩:=e5 j u hj
        obtain rfl:ad=OR:=by simpa using h5
        exact h6
      rw[he.1] at h4
      exact⟨[v],vs,rfl,Rel.tr hc hr _ _ _ hi h4,by
       have:=he.2;subst this;exact hl.2⟩
   ·rw[bM h] at hl
    cases vs with
    |nil=>exact hl.elim
    |cons v vs=>exact⟨[v],vs,rfl,Rel.tr hc hr _ _ _ hi hl.1,hl.2⟩
 | .int k,l,x,r,vs,hi,h,hl=>leaf hi h hl
 | .bool,l,x,r,vs,hi,h,hl=>leaf hi h hl
 | .str,l,x,r,vs,hi,h,hl=>leaf hi h hl
 | .ref k,l,x,r,vs,hi,h,hl=>by
   simp only[snap] at h
   unfold Wf at h
   split at h
   ·rename_i h' n l'
    cases hc:Nat.beq k h' with
    |true=>rw[hc,cond_true] at h;exact leaf hi h hl
    |false=>
    rw[hc,cond_false] at h
    cases hb:Nat.beq n 0 with
    |false=>rw[hb] at h;cases h
    |true=>
     rw[hb] at h
     have e1:some ((0:Nat),l')=some (x,r):=h
     simp only[Option.some.injEq,Prod.mk.injEq] at e1
     obtain⟨rfl,rfl⟩:=e1
     obtain rfl:n=0:=Nat.eq_of_beq_eq_true hb
     cases vs with
     |nil=>exact hl.elim
     |cons v vs=>exact⟨[v],vs,rfl,(show [v]=[Value.slice none 0 0] from hl.1),hl.2⟩
   ·exact leaf hi h hl
 | .ptr k,l,x,r,vs,hi,h,hl=>leaf hi h hl
 | .mp k,l,x,r,vs,hi,h,hl=>leaf hi h hl
 | .fn,l,x,r,vs,hi,h,hl=>leaf hi h hl
where
 leaf {t:Ty} {l:List CV} {x:t.den} {r:List CV} {vs:List Value} (hi:dZ hs t=true) (h:cC t l=some (x,r)) (hl:aA (bC V) l vs):∃v1 v2,vs=v1++v2∧Rel V' t x v1∧aA (bC V) r v2:=by
  rw[bM h] at hl
  cases vs with
  |nil=>exact hl.elim
  |cons v vs=>exact⟨[v],vs,rfl,Rel.tr hc hr _ _ _ hi hl.1,hl.2⟩
theorem J0 (hc:∀(a:Addr) v,V (.cell a) v→V' (.cell a) v)(hr:∀h,hs.any (Nat.beq h)=true→∀n v,V (.ref h n) v→V' (.ref h n) v)
  (hsrc:∀(i n:Nat) (hr:aT) (l:List hr.t.den) (v:Value),ae[i]? =some hr→ag hr.xs n=some l→bC V ⟨.ref i,n⟩ v→Src V V' hr.t l v)
  {t:Ty} {av:AV} {x:t.den} {v:Value} (hi:dZ hs t=true) (h:typed ae t av=some x) (ha:ah V σ ν Y av v):wB V' t x v:=by
 have s1:∀{t:Ty} {l:List CV} {x:t.den} {vs:List Value},dZ hs t=true→uQ ae t l=some x→aA (bC V) l vs→Rel V' t x vs:=fun {t l x vs} hi h hl=>by
  unfold uQ at h
  split at h
  ·rename_i y h1
   simp only[Option.some.injEq] at h
   subst h
   obtain⟨v1,v2,rfl,h2,h3⟩:=Iw hc hr hsrc hi h1 hl
   cases v2 with
   |nil=>simpa using h2
   |cons _ _=>exact h3.elim
  ·cases h
 unfold typed at h
 split at h
 ·rename_i cs
  obtain⟨vs,h1,h2⟩:=ha
  exact⟨vs,h1,s1 hi h h2⟩
 ·rename_i t vs
  split at h
  ·rename_i cs hl
   obtain⟨l1,h1,h2⟩:=iw (V:=V') hl
   refine⟨vs.toList, ?_,im ?_⟩
   ·have:v= .agg vs:=ha
    simpa using this
   ·rw[←p9 h,h1,List.append_nil];exact h2
  ·cases h
 ·cases h
 ·rename_i c hn
  exact wB.O0 (fun u e=>by subst e;exact hn u rfl) (s1 hi h (vs:=[v]) ⟨ha,trivial⟩)
 ·rename_i v' hn1 hn2
  split at h
  ·rename_i c hl
   obtain⟨l1,h1,h2⟩:=iw (V:=V') hl
   have h3:v=v':=ha
   rw[List.append_nil] at h1
   subst h1
   subst h3
   have:=C9 h
   subst this
   exact wB.O0 (fun u e=>by subst e;exact hn2 u rfl) h2.1
  ·cases h
 ·cases h
end
end Go.Abs
namespace Go.Abs
open Go.RowKit Go.Lib
def XOf (σ:AS)(ν:Nm→Value)(hout:List Nat)(k:Nat):Prop:=∃i n,hout.any (Nat.beq i)=true∧Own σ ν (.hp i n) k
theorem xq (ad:Addr)(j:Nat):(ad.add j).block=ad.block:=by unfold Addr.add;split<;>rfl
section
variable {P:Program}{T:cm}{E:Env}{σ σ':AS}{a:Act}{w w':World}{ν ν':Nm→Value}{O:Nat→Prop}{Φ:bF T}{V V':View}{Y:Value}{hs hout:List Nat}
structure Uf (V V':View) (σ:AS) (ν:Nm→Value) (w:World) (hin hout:List Nat) (c7:Bool):Prop where
 cell:∀(a:Addr) v,V (.cell a) v→V' (.cell a) v
 ref:∀h,hin.any (Nat.beq h)=true→∀n v,V (.ref h n) v→V' (.ref h n) v
 all:c7=true→∀(ad:Addr) u,w.cell? ad=some u→¬XOf σ ν hout ad.block→V' (.cell ad) u
theorem Uf.src {c7:Bool}(hl:Uf V V' σ ν w hs hout c7)(h1:c7=true){v:Value}{row:Row}(hr:iT V w v row)(hb:∀k,cD v=some k→¬XOf σ ν hout k):Src V V' row.t row.xs v:=by
 obtain⟨A,c,bm,e1,e2,e3,e4,e5⟩:=Rm hr
 refine⟨A,c,bm,e1,e2,e3,e4,fun j u hj=> ?_⟩
 obtain⟨ad,rfl,hc⟩:=e5 j u hj
 refine⟨ad,rfl,hl.all h1 _ _ hc ?_⟩
 rw[xq]
 exact hb _ (by rw[e1];rfl)
theorem adI (h:St E σ a w ν O){q:Nat}(hq:(look σ.rows q).isSome=true)(k:Nat)(hk:cD (ν (.row q))=some k):¬XOf σ ν hout k:=fun⟨i,n,_,ho⟩=>by
 have:=h.inj _ _ k ⟨by simpa [AS.obj] using hq,hk⟩ ho
 cases this
theorem adJ (h:St E σ a w ν O){q:Nat}(hq:(look σ.boxes q).isSome=true)(k:Nat)(hk:cD (ν (.box q))=some k):¬XOf σ ν hout k:=fun⟨i,n,_,ho⟩=>by
 have:=h.inj _ _ k ⟨by simpa [AS.obj] using hq,hk⟩ ho
 cases this
theorem K9 {k:List aT→Q T b6}{r:b6}:∀(is:List Nat) (acc:List aT),(A6 is acc k).val Φ σ=some r→∃l:List aT,(k (acc.reverse++l)).val Φ σ=some r∧aA (fun i hr=>σ.ae[i]? =some hr) is l
 | [],acc,h=>⟨[],by simpa [A6] using h,trivial⟩
 |i::is,acc,h=>by
  simp only[A6] at h
  rw[fk] at h
  obtain⟨hr,h1,h⟩:=h
  obtain⟨l,h2,h3⟩:=K9 is (hr::acc) h
  exact⟨hr::l,by simpa using h2,h1,h3⟩
theorem Yr {c7:Bool}(h:St E σ a w ν O)(hl:Uf (view E σ ν O w) V' σ ν w hs hout c7)(h1:c7=true){q:Nat}{row:Row}{t:Ty}{x:t.den}(hi:dZ hs t=true)(hrow:look σ.rows q=some row)
  (hx:(cC t [⟨.slice row.t,row.xs⟩]).map (·.1)=some x):bC V' ⟨t,x⟩ (ν (.row q))∧(∀u,t≠ .st u)∧ [(⟨.slice row.t,row.xs⟩:CV)]=flat t x:=by
 have:=C9 hx
 obtain⟨e,t',xs⟩:=row
 dsimp only at this
 injection this with e1 e2
 subst e1
 simp only[heq_eq_eq] at e2
 subst e2
 exact⟨(hl.src h1 (h.row hrow) (adI h (aX hrow))).tr hl.cell hl.ref hi,(fun u e=>by cases e),rfl⟩
theorem Gg {c7:Bool}(h:St E σ a w ν O)(hl:Uf (view E σ ν O w) V' σ ν w hs hout c7){t:Ty}(hi:dZ hs t=true){k:t.den→Q T b6}{r:b6}{c:G2}{v:Value}(hc:rE (view E σ ν O w) σ ν c v)(h1:c7=true∨∃cs,c= .oR cs)
  (he:(Ih t k c).val Φ σ=some r):∃x,(k x).val Φ σ=some r∧qc V' (flat t x) v:=by
 unfold Ih at he
 split at he
 ·rename_i b
  have h1:c7=true:=by
   rcases h1 with h1 | ⟨cs,e⟩
   ·exact h1
   ·cases e
  obtain⟨hbs,g,hbν,rfl⟩:=hc
  rw[C7] at he
  obtain⟨bx,hb,he⟩:=he
  obtain⟨g',hg',hbr⟩:=h.box hb
  obtain rfl:g=g':=by rw[hbν] at hg';simpa using hg'
  have hnx:=adJ (hout:=hout) h (aX hb) g (by rw[hbν];rfl)
  split at he
  ·rename_i cs
   obtain⟨cur,e,hg,b8⟩:=hbr
   rw[bR] at he
   obtain⟨x,hx,he⟩:=he
   have e1:=p9 hx
   subst e1
   refine⟨x,he,⟨g,0,none⟩,cur.toList,rfl,il (Rel.tr hl.cell hl.ref _ _ _ hi (im b8)),fun j u hj=>hl.all h1 _ _ ?_ (by rw[xq];exact hnx)⟩
   rw[G8,cell_of_row w g j cur e (0,0) hg]
   simpa using hj
  ·rename_i q
   obtain⟨e,hg,_⟩:=hbr
   rw[pU] at he
   obtain⟨row,hrow,he⟩:=he
   rw[bR] at he
   obtain⟨x,hx,he⟩:=he
   obtain⟨h2,_,h3⟩:=Yr h hl h1 hi hrow hx
   refine⟨x,he,⟨g,0,none⟩,[ν (.row q)],rfl, ?_,fun j u hj=>hl.all h1 _ _ ?_ (by rw[xq];exact hnx)⟩
   ·exact il h2
   ·rw[G8,cell_of_row w g j _ e (0,0) hg]
    simpa using hj
  ·cases he
 ·rename_i cs
  rw[bR] at he
  obtain⟨x,hx,he⟩:=he
  have e1:=p9 hx
  subst e1
  obtain⟨ad,vs,e2,e3,e4⟩:=hc
  exact⟨x,he,ad,vs,e2,il (Rel.tr hl.cell hl.ref _ _ _ hi (im e3)),fun j u hj=>hl.cell _ _ (e4 j u hj)⟩
theorem P5 {c7:Bool}(h:St E σ a w ν O)(hl:Uf (view E σ ν O w) V' σ ν w hs hout c7){r:b6}:∀{ts:List Ty} {aN:List G2} {vs:List Value} {k:rB ts→Q T b6},(ts.all (dZ hs))=true→aA (rE (view E σ ν O w) σ ν) aN vs→(c7=true∨aN=[])→
  (xV ts aN k).val Φ σ=some r→∃x,(k x).val Φ σ=some r∧Dd V' ts x vs
 | [],[],[],k,_,_,_,he=>⟨(),he,rfl⟩
 | [t],[c],[v],k,hi,hc,h1,he=>by
   simp only[List.all_cons,List.all_nil,Bool.and_true] at hi
   simp only[xV] at he
   obtain⟨x,h2,h3⟩:=Gg h hl hi hc.1 (.inl (h1.resolve_right (fun e=>by cases e))) he
   exact⟨x,h2,v,rfl,h3⟩
 |t::u::ts,c::cs,v::vs,k,hi,hc,h1,he=>by
  simp only[List.all_cons,Bool.and_eq_true] at hi
  simp only[xV] at he
  obtain⟨x,h2,h3⟩:=Gg h hl hi.1 hc.1 (.inl (h1.resolve_right (fun e=>by cases e))) he
  obtain⟨y,h4,h5⟩:=P5 h hl (ts:=u::ts) (by simp only[List.all_cons,Bool.and_eq_true];exact hi.2) hc.2 (.inl (h1.resolve_right (fun e=>by cases e))) h2
  exact⟨(x,y),h4,v,vs,rfl,h3,h5⟩
 | [],_::_,_,k,_,_,_,he=>by simp only[xV,yE] at he
 | [_],[],_,k,_,_,_,he=>by simp only[xV,yE] at he
 | [_],_::_::_,_,k,_,_,_,he=>by simp only[xV,yE] at he
 |_::_::_,[],_,k,_,_,_,he=>by simp only[xV,yE] at he
 | [],[],_::_,k,_,hc,_,_=>hc.elim
 | [_],[_],[],k,_,hc,_,_=>hc.elim
 | [_],[_],_::_::_,k,_,hc,_,_=>hc.2.elim
 |_::_::_,_::_,[],k,_,hc,_,_=>hc.elim
theorem agc {a b:CV}(h:afE a b=true):a=b:=by
 unfold afE at h
 split at h
 ·rename_i i x j y
  simp only[Bool.and_eq_true,decide_eq_true_eq,beq_iff_eq] at h
  obtain⟨rfl,rfl⟩:=h
  rfl
 ·rename_i x y;have:x=y:=by simpa using h
  subst this;rfl
 ·rename_i x y;have:x=y:=(beq_iff _ _).1 h
  subst this;rfl
 ·cases h
theorem UY:∀{a b:List CV},Wj a b=true→a=b
 | [],[],_=>rfl
 |a::r,b::s,h=>by
  simp only[Wj,Bool.and_eq_true] at h
  rw[agc h.1,UY h.2]
 | [],_::_,h=>by cases h
 |_::_,[],h=>by cases h
theorem R8 {av:AV}{v:Value}(ha:ah V σ ν Y av v){g:FuncId}{aN:List G2}(h:OK av=some (g,aN)):∃vs:List Value,v= .func (.func g) #[] vs.toArray∧aA (rE V σ ν) aN vs:=by
 unfold OK at h
 split at h
 ·simp only[Option.some.injEq,Prod.mk.injEq] at h
  obtain⟨rfl,rfl⟩:=h
  exact ha
 ·rename_i n
  split at h
  ·simp only[Option.some.injEq,Prod.mk.injEq] at h
   obtain⟨rfl,rfl⟩:=h
   have: [v]=[fnV _]:=ha
   simp only[List.cons.injEq,and_true] at this
   exact⟨[],this,trivial⟩
  ·cases h
 ·cases h
theorem Ys {c7:Bool}{nh:Nat}(h:St E σ a w ν O)(hl:Uf (view E σ ν O w) V' σ ν w hs hout c7){p:nr}(hi:Rg hs p=true){av:AV}{v:Value}(ha:ah (view E σ ν O w) σ ν E.Y av v){k:p.den→Q T b6}{r:b6}
  (he:(adq c7 nh hout p av k).val Φ σ=some r):∃x,(k x).val Φ σ=some r∧ArgRel V' p x v:=by
 have ana:∀(i n:Nat) (hr:aT) (l:List hr.t.den) (v:Value),([]:List aT)[i]? =some hr→ag hr.xs n=some l→bC (view E σ ν O w) ⟨.ref i,n⟩ v→Src (view E σ ν O w) V' hr.t l v:=fun i n hr l v e=>by simp at e
 unfold adq at he
 split at he
 ·rename_i t k
  split at he
  ·rename_i q
   rw[az] at he
   obtain⟨h1,he⟩:=he
   rw[pU] at he
   obtain⟨row,hrow,he⟩:=he
   rw[bR] at he
   obtain⟨x,hx,he⟩:=he
   obtain⟨h2,h3,_⟩:=Yr h hl h1 hi hrow hx
   exact⟨x,he,wB.O0 h3 (by rw[ha.1];exact h2)⟩
  ·rename_i hno
   have fin:(Q.opt (typed [] t av) k).val Φ σ=some r→∃x,(k x).val Φ σ=some r∧ArgRel V' (.v t) x v:=fun he=>by
    rw[bR] at he
    obtain⟨x,hx,he⟩:=he
    exact⟨x,he,J0 hl.cell hl.ref ana hi hx ha⟩
   cases hb:(OL av&& !(aap t)&&c7) with
   |false=>rw[hb] at he;exact fin he
   |true=>
    rw[hb,cond_true] at he
    have h1:c7=true:=by
     simp only[Bool.and_eq_true] at hb;exact hb.2
    obtain⟨l,he,hall⟩:=K9 _ _ he
    rw[bR] at he
    obtain⟨x,hx,he⟩:=he
    refine⟨x,he,J0 hl.cell hl.ref (fun i n hr l' v e hg hv=> ?_) hi hx ha⟩
    simp only[List.reverse_nil,List.nil_append,List.getElem?_map,Option.map_eq_some_iff] at e
    obtain⟨p,hp,e⟩:=e
    rw[List.getElem?_zipIdx] at hp
    simp only[Option.map_eq_some_iff,Nat.zero_add] at hp
    obtain⟨Yo,hp1,rfl⟩:=hp
    obtain⟨i',hi1,hi2⟩:=hall.get' i Yo hp1
    have hii:i'=i:=by
     obtain⟨h5,h6⟩:=List.getElem?_eq_some_iff.1 hi1
     simpa using h6.symm
    subst hii
    dsimp only at e
    cases ho:hout.any (Nat.beq i') with
    |true=>
     rw[ho,cond_true] at e
     subst e
     cases n with
     |zero=>
      simp only[ag,Option.some.injEq] at hg
      subst hg
      have: [v]=[_]:=hv
      simp only[List.cons.injEq,and_true] at this
      exact⟨none,0,[],this,Nat.le_refl _,trivial,fun _=>rfl,fun j u hj=>by simp at hj⟩
     |succ m=>simp[ag] at hg
    |false=>
     rw[ho,cond_false] at e
     subst e
     obtain⟨h2,h3,_⟩:=h.JZ hi2 hg hv
     exact hl.src h1 h2 (fun k hk ⟨i2,n2,h4,h5⟩=>by
      have:=h.inj _ _ k (h3 k hk) h5
      injection this with e1 e2
      subst e1
      rw[ho] at h4;cases h4)
 ·rename_i f ts k
  split at he
  ·rename_i g aN hg
   rw[az] at he
   obtain⟨hb,he⟩:=he
   simp only[Bool.and_eq_true,Bool.or_eq_true,beq_iff] at hb
   obtain⟨rfl,hb⟩:=hb
   obtain⟨vs,e1,e2⟩:=R8 ha hg
   obtain⟨x,h2,h3⟩:=P5 h hl hi e2 (hb.imp id (fun e=>by simpa using e)) he
   exact⟨x,h2,vs,e1,h3⟩
  ·cases he
 ·rename_i cs k
  rw[az] at he
  obtain⟨hf,he⟩:=he
  refine⟨(),he, ?_⟩
  unfold afF at hf
  split at hf
  ·rename_i e;cases e
  ·rename_i cs1 cs2 e
   injection e with e
   subst e
   obtain⟨vs,e1,e2⟩:=ha
   have:=UY hf
   subst this
   refine⟨vs,e1, ?_⟩
   have hi':∀c∈cs,dZ hs c.1=true:=by simpa [Rg] using hi
   exact Bk (fun c hc u hu=>Rel.tr hl.cell hl.ref _ _ _ (hi' c hc) hu) e2
  ·cases hf
  ·rename_i hx1 hx2 hx3 hx4
   first |exact absurd rfl (hx3 cs) |exact absurd rfl (hx4 cs) |exact(hx3 cs rfl).elim |exact(hx4 cs rfl).elim
 ·rename_i t k
  split at he
  ·rename_i b
   rw[az] at he
   obtain⟨h1,he⟩:=he
   exact Gg (c:= .box b) h hl hi ha (.inl h1) he
  ·rename_i cs
   exact Gg (c:= .oR cs) h hl hi ha (.inr ⟨cs,rfl⟩) he
  ·cases he
 ·cases he
 ·cases he
theorem UZ {c7:Bool}{nh:Nat}(h:St E σ a w ν O)(hl:Uf (view E σ ν O w) V' σ ν w hs hout c7){r:b6}:∀{ps:List nr} {avs:List AV} {vs:List Value} {k:F0 ps→Q T b6},(ps.all (Rg hs))=true→aA (ah (view E σ ν O w) σ ν E.Y) avs vs→
  (K7 c7 nh hout ps avs k).val Φ σ=some r→∃x,(k x).val Φ σ=some r∧mo V' ps x vs
 | [],[],[],k,_,_,he=>⟨(),he,rfl⟩
 | [p],[c],[v],k,hi,hc,he=>by
   simp only[List.all_cons,List.all_nil,Bool.and_true] at hi
   simp only[K7] at he
   obtain⟨x,h2,h3⟩:=Ys h hl hi hc.1 he
   exact⟨x,h2,v,rfl,h3⟩
 |t::u::ts,c::cs,v::vs,k,hi,hc,he=>by
  simp only[List.all_cons,Bool.and_eq_true] at hi
  simp only[K7] at he
  obtain⟨x,h2,h3⟩:=Ys h hl hi.1 hc.1 he
  obtain⟨y,h4,h5⟩:=UZ h hl (ps:=u::ts) (by simp only[List.all_cons,Bool.and_eq_true];exact hi.2) hc.2 h2
  exact⟨(x,y),h4,v,vs,rfl,h3,h5⟩
 | [],_::_,_,k,_,_,he=>by simp only[K7,yE] at he
 | [_],[],_,k,_,_,he=>by simp only[K7,yE] at he
 | [_],_::_::_,_,k,_,_,he=>by simp only[K7,yE] at he
 |_::_::_,[],_,k,_,_,he=>by simp only[K7,yE] at he
 | [],[],_::_,k,_,hc,_=>hc.elim
 | [_],[_],[],k,_,hc,_=>hc.elim
 | [_],[_],_::_::_,k,_,hc,_=>hc.2.elim
 |_::_::_,_::_,[],k,_,hc,_=>hc.elim
end
end Go.Abs
namespace Go.Abs
open Go.RowKit Go.Lib
def aF (ae:List aT):AS:=⟨⟨0,[],[]⟩,[],[],ae,⟨.unit,()⟩,[],[]⟩
def jW (d:Nat):(ts:List LM)→rB (ts.map (·.1))→List TU
 | [],_=>[]
 | [(t,some e)],x=>match ownRow t e x with
   |some row=>[.row d row]
   |none=>[]
 | [(t,none)],x=>[]
 | (t,some e)::u::ts,x=>match ownRow t e x.1 with
   |some row=> .row d row::jW (d+1) (u::ts) x.2
   |none=>jW (d+1) (u::ts) x.2
 | (t,none)::u::ts,x=>jW (d+1) (u::ts) x.2
def yJ (d:Nat):(ts:List Ty)→rB ts→List TU
 | [],_=>[]
 | [t],x=>[.box d (.cells (flat t x))]
 |t::u::ts,x=> .box d (.cells (flat t x.1))::yJ (d+1) (u::ts) x.2
def P6 (d:Nat):(ts:List Ty)→List G2
 | []=>[]
 | [t]=>[.box d]
 |t::u::ts=> .box d::P6 (d+1) (u::ts)
def Ko (d:Nat)(s:HY)(y:LN s):List TU:=match s,y with
 | ⟨_,res,none,_,none⟩,y=>jW d res y
 | ⟨_,_,some (f,ts),_,none⟩,y=>yJ d ts y
 |_,_=>[]
def Yt (d:Nat)(s:HY)(y:LN s):AV:=match s,y with
 | ⟨_,res,none,_,none⟩,y=>X0 (z7 d res y)
 | ⟨_,_,some (f,ts),_,none⟩,y=> .fn f (P6 d ts)
 |_,_=> .nil
def aI (T:cm)(v:Nat)(xh:A9 T v):List aT:=p8 T (T.sig v).hout (T.sig v).hin (D5 _ xh) (cj T)
def qf (T:cm)(v:Nat)(xh:A9 T v)(yh:xe T v):List aT:=p8 T (T.sig v).hout (T.sig v).hout (D5 _ yh) (aI T v xh)
def wG (T:cm)(v d:Nat)(xh:A9 T v)(yh:xe T v):AS:=(aF (qf T v xh yh)).app (Ko d (T.sig v) (uO _ yh))
def wH (σ:AS)(us:List TU):Prop:=∀u∈us,match u with
 | .row k _=>look σ.rows k=none
 | .box k _=>look σ.boxes k=none
 |_=>False
section
variable {P:Program}{T:cm}{E:Env}{σ σ':AS}{a:Act}{w w':World}{ν ν':Nm→Value}{O:Nat→Prop}{Φ:bF T}{V V':View}{Y:Value}{hs hout:List Nat}
theorem wH.cons {u:TU}{us:List TU}(h:wH σ us)(hu:match u with | .row k _=>look σ.rows k=none | .box k _=>look σ.boxes k=none |_=>False):wH σ (u::us):=fun x hx=>by
 rcases List.mem_cons.1 hx with rfl |hx
 ·exact hu
 ·exact h x hx
theorem wH.nil:wH σ []:=fun x hx=>by simp at hx
theorem Ix {r:b6}:∀(ts:List LM) (d:Nat) (y:rB (ts.map (·.1))) (k:List TU→Q T b6),(xW d ts y k).val Φ σ=some r→(k (jW d ts y)).val Φ σ=some r∧wH σ (jW d ts y)
 | [],d,y,k,h=>⟨h,wH.nil⟩
 | [(t,none)],d,y,k,h=>⟨h,wH.nil⟩
 | [(t,some e)],d,y,k,h=>by
   simp only[xW] at h
   simp only[jW]
   split at h
   ·rename_i row hrow
    rw[xj] at h
    rw[hrow]
    exact⟨h.2,wH.nil.cons h.1⟩
   ·cases h
 | (t,none)::u::ts,d,y,k,h=>by
   simp only[xW] at h
   exact Ix (u::ts) (d+1) y.2 k h
 | (t,some e)::u::ts,d,y,k,h=>by
   simp only[xW] at h
   simp only[jW]
   split at h
   ·rename_i row hrow
    rw[xj] at h
    rw[hrow]
    obtain⟨h1,h2⟩:=Ix (u::ts) (d+1) y.2 _ h.2
    exact⟨h1,h2.cons h.1⟩
   ·cases h
theorem Ns {r:b6}:∀(ts:List Ty) (d:Nat) (y:rB ts) (k:List TU→List G2→Q T b6),(EH d ts y k).val Φ σ=some r→(k (yJ d ts y) (P6 d ts)).val Φ σ=some r∧wH σ (yJ d ts y)
 | [],d,y,k,h=>⟨h,wH.nil⟩
 | [t],d,y,k,h=>by
   simp only[EH] at h
   rw[xk] at h
   exact⟨h.2,wH.nil.cons h.1⟩
 |t::u::ts,d,y,k,h=>by
  simp only[EH] at h
  rw[xk] at h
  obtain⟨h1,h2⟩:=Ns (u::ts) (d+1) y.2 _ h.2
  exact⟨h1,h2.cons h.1⟩
theorem agd {d:Nat}{s:HY}{y:LN s}{us:List TU}{r:b6}(h:(afG T d s y us).val Φ σ=some r):r=(Yt d s y, .mh (us++Ko d s y))∧wH σ (Ko d s y)∧s.gen=none:=by
 unfold afG at h
 split at h
 ·obtain⟨h1,h2⟩:=Ix _ _ _ _ h
  rw[gr] at h1
  exact⟨h1.symm,h2,rfl⟩
 ·obtain⟨h1,h2⟩:=Ns _ _ _ _ h
  rw[gr] at h1
  exact⟨h1.symm,h2,rfl⟩
 ·cases h
theorem aaF (us vs:List TU):σ.app (us++vs)=(σ.app us).app vs:=by
 induction us generalizing σ with
 |nil=>rfl
 |cons u us ih=>exact ih
theorem R9 (wr:List Nat):∀(hs:List Nat) (x:D4 T hs) (σ:AS),(∀h∈hs,wr.any (Nat.beq h)=true)→σ.app (zv T hs x)={σ with ae:=p8 T wr hs x σ.ae}
 | [],_,σ,_=>rfl
 | [h],x,σ,hw=>by
   simp only[zv,p8,sj,AS.app,AS.one]
   rw[hw h (by simp)]
 |h::i::r,x,σ,hw=>by
  simp only[zv,p8,AS.app]
  rw[R9 wr (i::r) x.2 _ (fun h' hm=>hw h' (by simp only[List.mem_cons] at hm ⊢;exact .inr hm))]
  simp only[sj,AS.one]
  rw[hw h (by simp)]
def L0 (us:List TU):Prop:=∀u∈us,(∃k r,u= .row k r)∨∃k x,u= .box k x
theorem wH.only {us:List TU}(h:wH σ us):L0 us:=fun u hu=>by
 have:=h u hu
 cases u with
 |row k r=>exact .inl ⟨k,r,rfl⟩
 |box k x=>exact .inr ⟨k,x,rfl⟩
 |_=>exact this.elim
theorem Sa {us:List TU}(h:L0 us)(σ:AS):(σ.app us).tmps=σ.tmps∧(σ.app us).ae=σ.ae∧(σ.app us).trace=σ.trace∧(σ.app us).b7=σ.b7∧(σ.app us).sites=σ.sites:=by
 induction us generalizing σ with
 |nil=>exact⟨rfl,rfl,rfl,rfl,rfl⟩
 |cons u us ih=>
  have wz:=ih (fun x hx=>h x (by simp[hx])) (σ.one u)
  rcases h u (by simp) with ⟨k,r,rfl⟩ | ⟨k,x,rfl⟩
  ·exact wz
  ·exact wz
theorem age {us:List TU}(h:L0 us)(σ σ0 σ1:AS)(hr:∀k,look σ1.rows k=(look σ0.rows k).or (look σ.rows k))(hb:∀k,look σ1.boxes k=(look σ0.boxes k).or (look σ.boxes k)):
  (∀k,look (σ1.app us).rows k=(look (σ0.app us).rows k).or (look σ.rows k))∧∀k,look (σ1.app us).boxes k=(look (σ0.app us).boxes k).or (look σ.boxes k):=by
 induction us generalizing σ0 σ1 with
 |nil=>exact⟨hr,hb⟩
 |cons u us ih=>
  refine ih (fun x hx=>h x (by simp[hx])) (σ0.one u) (σ1.one u) (fun k=> ?_) (fun k=> ?_)
  ·rcases h u (by simp) with ⟨j,r,rfl⟩ | ⟨j,x,rfl⟩
   ·show look (put _ _ _) k=(look (put _ _ _) k).or _
    rw[aB,aB]
    split
    ·rfl
    ·exact hr k
   ·exact hr k
  ·rcases h u (by simp) with ⟨j,r,rfl⟩ | ⟨j,x,rfl⟩
   ·exact hb k
   ·show look (put _ _ _) k=(look (put _ _ _) k).or _
    rw[aB,aB]
    split
    ·rfl
    ·exact hb k
theorem yK {us:List TU}(h:L0 us)(σ:AS)(k:Nat):(∀r,look (σ.app us).rows k=some r→look σ.rows k=some r∨TU.row k r∈us)∧∀x,look (σ.app us).boxes k=some x→look σ.boxes k=some x∨TU.box k x∈us:=by
 induction us generalizing σ with
 |nil=>exact⟨fun r h=> .inl h,fun r h=> .inl h⟩
 |cons u us ih=>
  obtain⟨h1,h2⟩:=ih (fun x hx=>h x (by simp[hx])) (σ.one u)
  rcases h u (by simp) with ⟨j,r0,rfl⟩ | ⟨j,x0,rfl⟩
  ·refine⟨fun r hr=> ?_,fun x hx=>(h2 x hx).imp id (fun h=>by simp[h])⟩
   rcases h1 r hr with h3 |h3
   ·have h3':look (put σ.rows j r0) k=some r:=h3
    rw[aB] at h3'
    split at h3'
    ·rename_i e;subst e;simp only[Option.some.injEq] at h3';subst h3';exact .inr (by simp)
    ·exact .inl h3'
   ·exact .inr (by simp[h3])
  ·refine⟨fun r hr=>(h1 r hr).imp id (fun h=>by simp[h]),fun x hx=> ?_⟩
   rcases h2 x hx with h3 |h3
   ·have h3':look (put σ.boxes j x0) k=some x:=h3
    rw[aB] at h3'
    split at h3'
    ·rename_i e;subst e;simp only[Option.some.injEq] at h3';subst h3';exact .inr (by simp)
    ·exact .inl h3'
   ·exact .inr (by simp[h3])
theorem acg (wr:List Nat):∀(hs:List Nat) (x:D4 T hs) (l l':List aT) (h:Nat),h∈hs→h<l.length→h<l'.length→(p8 T wr hs x l)[h]? =(p8 T wr hs x l')[h]?
 | [],_,_,_,h,hm,_,_=>by simp at hm
 | [i],x,l,l',h,hm,h1,h2=>by
   simp only[List.mem_singleton] at hm
   subst hm
   simp only[p8,sj]
   rw[List.getElem?_set_self h1,List.getElem?_set_self h2]
 |i::j::r,x,l,l',h,hm,h1,h2=>by
  by_cases hm2:h∈j::r
  ·simp only[p8]
   exact acg wr (j::r) x.2 _ _ h hm2 (by simpa [sj] using h1) (by simpa [sj] using h2)
  ·have:h=i:=by
    rcases List.mem_cons.1 hm with e |e
    ·exact e
    ·exact absurd e hm2
   subst this
   simp only[p8]
   rw[jV wr _ _ _ h hm2,jV wr _ _ _ h hm2]
   simp only[sj]
   rw[List.getElem?_set_self h1,List.getElem?_set_self h2]
def WB (T:cm)(V:View):Prop:=∀i x,look T.aj8 i=some x→∃g cs,i=gk g∧x= .oR cs∧qc V cs (.pointer (some ⟨g,0,none⟩))
def L3 (T:cm)(E:Env):Prop:=LV E∧WB T (fun key v=>∃ad:Addr,key= .cell ad∧ad.block<E.w0.heap.size∧E.V0 (.cell ad) v)
def jX:CV→(Nat→Prop)→World→Prop:=fun tr _ _=>tr=⟨.unit,()⟩
def Left (T:cm)(E:Env)(v:Nat)(xh:A9 T v)(yh:xe T v)(d:Nat)(e:Ending)(w':World):Prop:=
 ∃r ν',e= .returned r∧St E (wG T v d xh yh) ⟨#[],[]⟩ w' ν' (fun _=>False)∧ah (view E (wG T v d xh yh) ν' (fun _=>False) w') (wG T v d xh yh) ν' E.Y (Yt d (T.sig v) (uO _ yh)) r
structure Callee (T:cm) (E:Env) (v:Nat) (xh:A9 T v):Prop where
 j:E.J=jX
 m:∀r,¬E.M r
 om:∀k,¬E.Om k
 acc:∀tr,E.acc tr
 hx:∀i k,i∉(T.sig v).hin→¬E.XH i k
 ro:∀i,E.ro i=bif (T.sig v).hin.any (Nat.beq i)&& !((T.sig v).hout.any (Nat.beq i)) then (aI T v xh)[i]? else none
def Yu (P:Program)(T:cm)(Φ:bF T):Prop:=∀v xh yh,Φ v xh=some yh→(T.sig v).gen=none→(∃fn,P.funcs[T.real v]? =some fn∧fn.body.isSome=true∧(fn.name== "runtime.NumGoroutine")=false)∧
 ∀(E:Env) (ν:Nm→Value) (args:Array Value) (d:Nat),aC E→L3 T E→Callee T E v xh→St E (aF (aI T v xh)) ⟨#[],[]⟩ E.w0 ν (fun _=>False)→
  mo (view E (aF (aI T v xh)) ν (fun _=>False) E.w0) (T.sig v).args (uO _ xh) args.toList→Calls P (T.real v) args E.w0 (Left T E v xh yh d)
end
end Go.Abs
namespace Go.Abs
open Go.RowKit Go.Lib
theorem Gh {w:World}{a:Addr}{v:Value}(h:w.cell? a=some v):a.block<w.heap.size:=by
 unfold World.cell? at h
 cases hb:w.heap[a.block]? with
 |none=>simp[hb] at h
 |some o=>exact(Array.getElem?_eq_some_iff.1 hb).1
theorem km {l:List Nat}{h:Nat}:l.any (Nat.beq h)=true↔h∈l:=by
 rw[List.any_eq_true]
 exact⟨fun⟨x,hx,e⟩=>by rw[(beq_iff _ _).1 e];exact hx,fun hx=>⟨h,hx,beq_refl h⟩⟩
theorem Yv {T:cm}{A:Type}{x:A}:∀{hs:List Nat} {h:D4 T hs} {y:M6 T A hs},Ia x hs (some h)=some y→uO hs y=x∧D5 hs y=h
 | [],h,y,e=>by simp only[Ia,Option.some.injEq] at e;exact⟨e.symm,rfl⟩
 |_::_,h,y,e=>by simp only[Ia,Option.some.injEq] at e;subst e;exact⟨rfl,rfl⟩
section
variable {P:Program}{T:cm}{E:Env}{σ σ':AS}{a:Act}{w w':World}{ν ν':Nm→Value}{O:Nat→Prop}{Φ:bF T}{V V':View}{Y:Value}
def xX (T:cm)(E:Env)(σ:AS)(ν:Nm→Value)(O:Nat→Prop)(w:World)(v:Nat)(xh:A9 T v)(c7:Bool):Env where
 V0:=fun key u=>∃ad:Addr,key= .cell ad∧(view E σ ν O w (.cell ad) u∨(c7=true∧w.cell? ad=some u∧¬XOf σ ν (T.sig v).hout ad.block))
 w0:=w
 X:=XOf σ ν (T.sig v).hout
 J:=jX
 XS:=E.XS
 Y:= .nilFunc
 ro:=fun i=>bif (T.sig v).hin.any (Nat.beq i)&& !((T.sig v).hout.any (Nat.beq i)) then (aI T v xh)[i]? else none
 h0:=aI T v xh
 n0:=fun h n=>ν (.hp h n)
 M:=fun _=>False
 base:=w
 CB:=XOf σ ν (T.sig v).hout
 Om:=fun _=>False
 acc:=fun _=>True
 XH:=fun i k=>i∈(T.sig v).hin∧∃n,Own σ ν (.hp i n) k
def AW (T:cm)(σ:AS)(v:Nat)(xh:A9 T v):Prop:=∀h∈(T.sig v).hin,am9 T σ (T.sig v).hout (p8 T (T.sig v).hout (T.sig v).hin (D5 _ xh)) h
theorem J1 {v:Nat}{xh:A9 T v}(hI:AW T σ v xh){i:Nat}{hr':aT}(e:(aI T v xh)[i]? =some hr'):
  (i∈(T.sig v).hin∧∃hr,σ.ae[i]? =some hr∧hr'=⟨hr.e,hr.t,hr.k,(T.sig v).hout.any (Nat.beq i),hr.xs⟩∧((T.sig v).hout.any (Nat.beq i)=true→hr.w=true)∧hr.t=(T.ht i).t)∨(i∉(T.sig v).hin∧hr'.xs=[]):=by
 by_cases hi:i∈(T.sig v).hin
 ·left
  obtain⟨hr,h1,h2,h3,h4,h5,h6⟩:=hI i hi
  have hlt:i<(cj T).length:=by
   have:=(List.getElem?_eq_some_iff.1 e).1
   unfold aI at this
   rwa [yI] at this
  have h7:=h6 (cj T) hlt
  unfold aI at e
  rw[e] at h7
  simp only[Option.some.injEq] at h7
  exact⟨hi,hr,h1,h7,h2,h5⟩
 ·right
  unfold aI at e
  rw[jV _ _ _ _ _ hi] at e
  exact⟨hi,xp i hr' e⟩
theorem U0 {v:Nat}{xh:A9 T v}(hI:AW T σ v xh){i n:Nat}{o:Obj}(e:ns (aI T v xh) i n=some o):i∈(T.sig v).hin∧ns σ.ae i n=some o:=by
 cases n with
 |zero=>cases e
 |succ m=>
  simp only[ns] at e
  split at e
  ·rename_i hr' hh
   rcases J1 hI hh with ⟨h1,hr,h2,rfl,_⟩ | ⟨_,h1⟩
   ·refine⟨h1, ?_⟩
    simp only[ns,h2]
    exact e
   ·rw[h1] at e
    simp[G6] at e
  ·cases e
theorem adK (hE:aC E)(h:St E σ a w ν O){hout:List Nat}(hw:∀i,hout.any (Nat.beq i)=true→∃hr,σ.ae[i]? =some hr∧hr.w=true){ad:Addr}{u:Value}(hv:view E σ ν O w (.cell ad) u):¬XOf σ ν hout ad.block:=fun⟨i,n,h1,h2⟩=>by
 rcases hv with ⟨hlt,hv⟩ | ⟨hge,hn,_⟩
 ·rcases (h.yD _ _ h2).1 with h3 |h3 | ⟨j,m,hr',e,h3⟩
  ·omega
  ·exact(hE.cell _ _ hv).2 h3
  ·injection e with e1 e2
   subst e1
   obtain⟨hr,h4,h5⟩:=hw i h1
   obtain⟨h6,h7⟩:=h.ro i hr' h3
   rw[h4] at h6
   obtain rfl:hr=hr':=by simpa using h6
   rw[h5] at h7;cases h7
 ·exact hn ⟨_,h2⟩
theorem aaG {v:Nat}{xh:A9 T v}(hI:AW T σ v xh)(i:Nat)(hi:(T.sig v).hout.any (Nat.beq i)=true):∃hr,σ.ae[i]? =some hr∧hr.w=true:=by
 have hm:i∈(T.sig v).hin:=by
  have:=km.1 hi
  simp only[HY.hout,HY.hin,List.mem_map,List.mem_filter] at this ⊢
  obtain⟨p,⟨hp,_⟩,e⟩:=this
  exact⟨p,hp,e⟩
 obtain⟨hr,h1,h2,_⟩:=hI i hm
 exact⟨hr,h1,h2 hi⟩
theorem aaH (hE:aC E)(h:St E σ a w ν O){v:Nat}{xh:A9 T v}(hI:AW T σ v xh)(c7:Bool):aC (xX T E σ ν O w v xh c7):=by
 refine⟨fun ad u hv=> ?_,fun _ _ _ _ _ h _ _=>h⟩
 obtain⟨OR,e,hv⟩:=hv
 injection e with e
 subst e
 rcases hv with hv | ⟨_,h1,h2⟩
 ·exact⟨xi hE h.keep hv,adK hE h (aaG hI) hv⟩
 ·exact⟨h1,h2⟩
theorem qc.of {V V':View}(hV:∀a v,V a v→V' a v){cs:List CV}{v:Value}(h:qc V cs v):qc V' cs v:=qc.mono hV h
theorem Yw (hG:L3 T E)(hE:aC E)(h:St E σ a w ν O){v:Nat}{xh:A9 T v}(c7:Bool):L3 T (xX T E σ ν O w v xh c7):=by
 refine⟨hG.1,fun i x hx=> ?_⟩
 obtain⟨g,cs,h1,h2,h3⟩:=hG.2 i x hx
 refine⟨g,cs,h1,h2,h3.of fun key u ⟨ad,e,hlt,hv⟩=>⟨ad,e,Nat.lt_of_lt_of_le hlt h.keep.size,ad,rfl, .inl (.inl ⟨hlt,hv⟩)⟩⟩
theorem P7 (hE:aC E)(h:St E σ a w ν O){v:Nat}{xh:A9 T v}(hI:AW T σ v xh)(Bm:σ.ae.length=T.ae.length)(c7:Bool):
  Uf (view E σ ν O w) (view (xX T E σ ν O w v xh c7) (aF (aI T v xh)) ν (fun _=>False) w) σ ν w (T.sig v).hin (T.sig v).hout c7:=by
 refine⟨fun ad u hv=> .inl ⟨Gh (xi hE h.keep hv),ad,rfl, .inl hv⟩,fun k hk n u hv=> ?_,fun hl ad u hc hx=> .inl ⟨Gh hc,ad,rfl, .inr ⟨hl,hc,hx⟩⟩⟩
 obtain⟨h1,h2,h3⟩:=hv
 refine⟨h1, ?_,h3⟩
 obtain⟨hr,g1,g2,g3,g4,g5,g6⟩:=hI k (km.1 hk)
 have hlt:k<(cj T).length:=by rw[qe, ←Bm];exact(List.getElem?_eq_some_iff.1 g1).1
 show n≤hlen (aI T v xh) k
 rw[JW g1] at h2
 rw[JW (ae:=aI T v xh) (g6 (cj T) hlt)]
 exact h2
theorem WC (hE:aC E)(h:St E σ a w ν O){v:Nat}{xh:A9 T v}(hI:AW T σ v xh)(Bm:σ.ae.length=T.ae.length)(hs:G4 T (T.sig v)=true)(c7:Bool):
  St (xX T E σ ν O w v xh c7) (aF (aI T v xh)) ⟨#[],[]⟩ w ν (fun _=>False):=by
 have hl:=P7 hE h hI Bm c7
 have hown:∀m k,Own (aF (aI T v xh)) ν m k→∃i n,m= .hp i n∧i∈(T.sig v).hin∧Own σ ν m k:=fun m k hm=>by
  obtain⟨h1,h2⟩:=hm
  cases m with
  |row r=>simp[AS.obj,aF,look] at h1
  |box r=>simp[AS.obj,aF,look] at h1
  |hp i n=>
   obtain⟨o,ho⟩:=Option.isSome_iff_exists.1 h1
   obtain⟨h3,h4⟩:=U0 hI ho
   exact⟨i,n,rfl,h3,aX (show σ.obj (.hp i n)=some o from h4),h2⟩
 have anb:∀m k,Own (aF (aI T v xh)) ν m k→(xX T E σ ν O w v xh c7).wA m∨XOf σ ν (T.sig v).hout k:=fun m k hm=>by
  obtain⟨i,n,rfl,h3,h4⟩:=hown m k hm
  by_cases ho:(T.sig v).hout.any (Nat.beq i)=true
  ·exact .inr ⟨i,n,ho,h4⟩
  ·have ho':(T.sig v).hout.any (Nat.beq i)=false:=eq_false_of_ne_true ho
   obtain⟨hr,g1,g2,g3,g4,g5,g6⟩:=hI i h3
   have hlt:i<(cj T).length:=by rw[qe, ←Bm];exact(List.getElem?_eq_some_iff.1 g1).1
   refine .inl ⟨i,n,⟨hr.e,hr.t,hr.k,(T.sig v).hout.any (Nat.beq i),hr.xs⟩,rfl, ?_⟩
   show (bif _ then _ else _)=_
   have g7:=g6 (cj T) hlt
   rw[ho'] at g7
   rw[km.2 h3,ho']
   exact g7
 refine⟨Grow.refl _ _,(fun d hd=>by cases hd),⟨rfl,(fun i x e=>by cases e),(fun i x e=>by cases e)⟩,fun m o ho=> ?_,fun m m' k h1 h2=> ?_,fun m k hm=> ?_,fun r k hk=> ?_,⟨rfl,fun k hk=>hk.elim⟩,fun i hr n e h1 h2=> ?_,fun i hr e=> ?_,⟨rfl,fun i hr e=>⟨hr,e,Aa.refl _,Nat.le_refl _⟩,fun _ _ _ _=>rfl⟩,fun _ hf=>hf.elim,Grow.refl _ _,fun m k hm=> ?_,fun _ hf=>hf,List.nodup_nil⟩
 ·cases m with
  |row r=>simp[AS.obj,aF,look] at ho
  |box r=>simp[AS.obj,aF,look] at ho
  |hp i n=>
   have ho':ns (aI T v xh) i n=some o:=ho
   obtain⟨h3,h4⟩:=U0 hI ho'
   obtain⟨k,row,rfl⟩:=Nl ho'
   have b8:z8 (view E σ ν O w) w k (ν (.hp i n)) row:=h.AT (.hp i n) _ h4
   have hrt:dZ (T.sig v).hin row.t=true:=by
    obtain⟨hr,g1,g2,g3,g4,g5,g6⟩:=hI i h3
    have:row.t=hr.t:=by
     cases n with
     |zero=>cases h4
     |succ m=>
      simp only[ns,g1,G6] at h4
      split at h4
      ·simp only[Option.some.injEq,Obj.hp.injEq] at h4
       rw[←h4.2]
      ·cases h4
    rw[this,g5]
    simp only[G4,Bool.and_eq_true] at hs
    exact List.all_eq_true.1 hs.1.2 i h3
   have htr:=fun x cs=>Rel.tr hl.cell hl.ref row.t x cs hrt
   show z8 _ w k _ row
   match k,b8 with
   |0,⟨h5,bm,h6,h7⟩=>exact⟨h5,bm,h6,h7.mono htr⟩
   |1,⟨g,cur,ys,x,h5,h6,h7,h8,h9⟩=>exact⟨g,cur,ys,x,h5,h6,h7,h8,htr _ _ h9⟩
 ·obtain⟨_,_,_,_,h3⟩:=hown m k h1
  obtain⟨_,_,_,_,h4⟩:=hown m' k h2
  exact h.inj m m' k h3 h4
 ·obtain⟨i,n,rfl,h3,h4⟩:=hown m k hm
  exact⟨(anb _ k hm).elim (fun e=> .inr (.inr e)) (fun e=> .inr (.inl e)),(h.yD _ k h4).2.1,fun hf=>hf⟩
 ·obtain⟨i,n,e,h3,h4⟩:=hown _ k hk
  subst e
  exact .inr ⟨h3,n,h4⟩
 ·rcases J1 hI e with ⟨_,G7,g1,rfl,_⟩ | ⟨_,g1⟩
  ·exact h.nn i G7 n g1 h1 h2
  ·rw[g1] at h2;simp at h2;omega
 ·have e':(bif (T.sig v).hin.any (Nat.beq i)&& !((T.sig v).hout.any (Nat.beq i)) then (aI T v xh)[i]? else none)=some hr:=e
  cases hb:((T.sig v).hin.any (Nat.beq i)&& !((T.sig v).hout.any (Nat.beq i))) with
  |false=>rw[hb] at e';cases e'
  |true=>
   rw[hb,cond_true] at e'
   refine⟨e', ?_⟩
   simp only[Bool.and_eq_true,Bool.not_eq_true'] at hb
   rcases J1 hI e' with ⟨_,G7,g1,rfl,_⟩ | ⟨g1,_⟩
   ·exact hb.2
   ·exact absurd (km.1 hb.1) g1
 ·exact(anb m k hm).imp id .inl
end
end Go.Abs
namespace Go.Abs
open Go.RowKit Go.Lib
theorem J2:∀{t:Ty} {x:t.den},D6 t=true→∀c∈flat t x,D6 c.1=true
 | .unit,_,_,c,hc=>by simp[flat] at hc
 | .pair a b,x,h,c,hc=>by
   simp only[D6,Bool.and_eq_true] at h
   simp only[flat,List.mem_append] at hc
   rcases hc with hc |hc
   ·exact J2 h.1 c hc
   ·exact J2 h.2 c hc
 | .st t,x,h,c,hc=>J2 (t:=t) h c hc
 | .int k,x,h,c,hc=>by simp only[flat,List.mem_singleton] at hc;subst hc;rfl
 | .bool,x,h,c,hc=>by simp only[flat,List.mem_singleton] at hc;subst hc;rfl
 | .str,x,h,c,hc=>by simp only[flat,List.mem_singleton] at hc;subst hc;rfl
 | .slice t,x,h,c,hc=>by cases h
 | .o6 t,x,h,c,hc=>by cases h
 | .ref k,x,h,c,hc=>by simp only[flat,List.mem_singleton] at hc;subst hc;rfl
 | .ptr k,x,h,c,hc=>by simp only[flat,List.mem_singleton] at hc;subst hc;rfl
 | .mp k,x,h,c,hc=>by simp only[flat,List.mem_singleton] at hc;subst hc;rfl
 | .fn,x,h,c,hc=>by simp only[flat,List.mem_singleton] at hc;subst hc;rfl
theorem U1 {t:Ty}{e:TypeId}{x:t.den}{row:Row}(h:ownRow t e x=some row):t= .slice row.t:=by
 unfold ownRow at h
 split at h
 ·simp only[Option.some.injEq] at h;subst h;rfl
 ·cases h
theorem xu:∀(ts:List LM) (d:Nat) (y:rB (ts.map (·.1))) (u:TU),u∈jW d ts y→∃k row t e,u= .row k row∧(t,some e)∈ts∧t= .slice row.t
 | [],d,y,u,h=>by simp[jW] at h
 | [(t,none)],d,y,u,h=>by simp[jW] at h
 | [(t,some e)],d,y,u,h=>by
   simp only[jW] at h
   split at h
   ·rename_i row hr
    simp only[List.mem_singleton] at h
    exact⟨d,row,t,e,h,by simp,U1 hr⟩
   ·simp at h
 | (t,none)::p::ts,d,y,u,h=>by
   simp only[jW] at h
   obtain⟨k,row,t',e,h1,h2,h3⟩:=xu (p::ts) _ _ _ h
   exact⟨k,row,t',e,h1,List.mem_cons_of_mem _ h2,h3⟩
 | (t,some e)::p::ts,d,y,u,h=>by
   simp only[jW] at h
   split at h
   ·rename_i row hr
    rcases List.mem_cons.1 h with h |h
    ·exact⟨d,row,t,e,h,List.mem_cons_self,U1 hr⟩
    ·obtain⟨k,row,t',e,h1,h2,h3⟩:=xu (p::ts) _ _ _ h
     exact⟨k,row,t',e,h1,List.mem_cons_of_mem _ h2,h3⟩
   ·obtain⟨k,row,t',e,h1,h2,h3⟩:=xu (p::ts) _ _ _ h
    exact⟨k,row,t',e,h1,List.mem_cons_of_mem _ h2,h3⟩
def RvT (t:Ty):RV→Prop
 | .cv c=>c.1=t
 | .agg cs=>∃(u:Ty) (y:u.den),t= .st u∧cs=flat u y
 | .own _=>False
theorem O4:∀(ts:List LM) (d:Nat) (y:rB (ts.map (·.1))) (x:RV),x∈z7 d ts y→(∃q,x= .own q)∨∃t,(t,none)∈ts∧RvT t x
 | [],d,y,x,h=>by simp[z7] at h
 | [(t,some e)],d,y,x,h=>by
   have:x∈[RV.own d]:=by cases t<;>exact h
   simp only[List.mem_singleton] at this
   exact .inl ⟨d,this⟩
 | [(t,none)],d,y,x,h=>by
   refine .inr ⟨t,by simp, ?_⟩
   cases t<;>(simp only[z7,List.mem_singleton] at h;subst h;first |rfl |exact⟨_,_,rfl,rfl⟩)
 | (t,some e)::p::ts,d,y,x,h=>by
   have:x∈RV.own d::z7 (d+1) (p::ts) y.2:=by cases t<;>exact h
   rcases List.mem_cons.1 this with h |h
   ·exact .inl ⟨d,h⟩
   ·exact(O4 (p::ts) _ _ _ h).imp id (fun⟨t,h1,h2⟩=>⟨t,List.mem_cons_of_mem _ h1,h2⟩)
 | (t,none)::p::ts,d,y,x,h=>by
   have:RvT t x∨x∈z7 (d+1) (p::ts) y.2:=by
    cases t<;>(simp only[z7,List.mem_cons] at h;exact h.imp (fun h=>by subst h;first |rfl |exact⟨_,_,rfl,rfl⟩) id)
   rcases this with h |h
   ·exact .inr ⟨t,List.mem_cons_self,h⟩
   ·exact(O4 (p::ts) _ _ _ h).imp id (fun⟨t,h1,h2⟩=>⟨t,List.mem_cons_of_mem _ h1,h2⟩)
section
variable {P:Program}{T:cm}{E:Env}{σ σ':AS}{a:Act}{w w':World}{ν ν':Nm→Value}{O:Nat→Prop}{Φ:bF T}{V V':View}{Y:Value}
def WD (e:AS)(hout:List Nat):Nm→Bool
 | .row k=>(look e.rows k).isSome
 | .box k=>(look e.boxes k).isSome
 | .hp i _=>hout.any (Nat.beq i)
def U2 (e:AS)(hout:List Nat)(ν ν':Nm→Value)(m:Nm):Value:=bif WD e hout m then ν' m else ν m
def Iy (T:cm)(σ:AS)(v d:Nat)(yh:xe T v):AS:=(σ.app (zv T (T.sig v).hout (D5 _ yh))).app (Ko d (T.sig v) (uO _ yh))
structure agf (σn es σ:AS) (hout:List Nat):Prop where
 tmps:σn.tmps=σ.tmps
 trace:σn.trace=σ.trace
 num:σn.ae.length=σ.ae.length
 rows:∀k,look σn.rows k=(look es.rows k).or (look σ.rows k)
 boxes:∀k,look σn.boxes k=(look es.boxes k).or (look σ.boxes k)
 fr:∀k,(look es.rows k).isSome=true→look σ.rows k=none
 fb:∀k,(look es.boxes k).isSome=true→look σ.boxes k=none
 hin:∀i,hout.any (Nat.beq i)=true→σn.ae[i]? =es.ae[i]?
 hout:∀i,hout.any (Nat.beq i)=false→σn.ae[i]? =σ.ae[i]?
theorem agh (Bm:σ.ae.length=T.ae.length){v d:Nat}{xh:A9 T v}{yh:xe T v}(hI:AW T σ v xh)(hf:wH σ (Ko d (T.sig v) (uO _ yh))):agf (Iy T σ v d yh) (wG T v d xh yh) σ (T.sig v).hout:=by
 have ho:=hf.only
 have e1:σ.app (zv T (T.sig v).hout (D5 _ yh))={σ with ae:=p8 T (T.sig v).hout (T.sig v).hout (D5 _ yh) σ.ae}:=R9 (T.sig v).hout _ _ σ (fun h hm=>km.2 hm)
 obtain⟨a1,a2,a3,_,_⟩:=Sa ho (σ.app (zv T (T.sig v).hout (D5 _ yh)))
 obtain⟨_,b2,_,_,_⟩:=Sa ho (aF (qf T v xh yh))
 have hh:(Iy T σ v d yh).ae=p8 T (T.sig v).hout (T.sig v).hout (D5 _ yh) σ.ae:=by
  unfold Iy;rw[a2,e1]
 have hh2:(wG T v d xh yh).ae=qf T v xh yh:=b2
 obtain⟨r1,r2⟩:=age ho σ (aF (qf T v xh yh)) (σ.app (zv T (T.sig v).hout (D5 _ yh))) (fun k=>by rw[e1];rfl) (fun k=>by rw[e1];rfl)
 have hl:(cj T).length=σ.ae.length:=by rw[qe,Bm]
 refine⟨by unfold Iy;rw[a1,e1],by unfold Iy;rw[a3,e1],by rw[hh,yI],r1,r2,fun k hk=> ?_,fun k hk=> ?_,fun i hi=> ?_,fun i hi=> ?_⟩
 ·obtain⟨r,hr⟩:=Option.isSome_iff_exists.1 hk
  rcases (yK ho (aF (qf T v xh yh)) k).1 r hr with h1 |h1
  ·cases h1
  ·exact hf _ h1
 ·obtain⟨r,hr⟩:=Option.isSome_iff_exists.1 hk
  rcases (yK ho (aF (qf T v xh yh)) k).2 r hr with h1 |h1
  ·cases h1
  ·exact hf _ h1
 ·obtain⟨hr,h1,_⟩:=aaG hI i hi
  have hlt:=(List.getElem?_eq_some_iff.1 h1).1
  rw[hh,hh2]
  unfold qf
  exact acg _ _ _ _ _ i (km.1 hi) hlt (by unfold aI;rw[yI,hl];exact hlt)
 ·rw[hh]
  exact jV _ _ _ _ i (fun hm=>by rw[km.2 hm] at hi;cases hi)
theorem agi {σn es:AS}{hout:List Nat}(hc:agf σn es σ hout)(m:Nm):(WD es hout m=true→σn.obj m=es.obj m)∧(WD es hout m=false→σn.obj m=σ.obj m):=by
 cases m with
 |row k=>
  simp only[WD,AS.obj,hc.rows k]
  refine⟨fun h=> ?_,fun h=> ?_⟩
  ·obtain⟨r,hr⟩:=Option.isSome_iff_exists.1 h
   rw[hr];rfl
  ·cases hr:look es.rows k with
   |none=>rfl
   |some r=>rw[hr] at h;cases h
 |box k=>
  simp only[WD,AS.obj,hc.boxes k]
  refine⟨fun h=> ?_,fun h=> ?_⟩
  ·obtain⟨r,hr⟩:=Option.isSome_iff_exists.1 h
   rw[hr];rfl
  ·cases hr:look es.boxes k with
   |none=>rfl
   |some r=>rw[hr] at h;cases h
 |hp i n=>
  refine⟨fun h=> ?_,fun h=> ?_⟩
  ·cases n with
   |zero=>rfl
   |succ n=>simp only[AS.obj,ns];rw[hc.hin i h]
  ·cases n with
   |zero=>rfl
   |succ n=>simp only[AS.obj,ns];rw[hc.hout i h]
end
end Go.Abs
namespace Go.Abs
open Go.RowKit Go.Lib
section
variable {P:Program}{T:cm}{E:Env}{σ σ':AS}{a:Act}{w w':World}{ν ν':Nm→Value}{O:Nat→Prop}{Φ:bF T}{V V':View}{Y:Value}
theorem adL {h0:List aT}{n0:Nat→Nat→Value}{hs:List aT}(hk:HK h0 n0 hs ν){i:Nat}{hr:aT}(h:h0[i]? =some hr):∃hr',hs[i]? =some hr'∧Aa hr hr'∧hr.xs.length≤hr'.xs.length∧∀n,1≤n→n≤hr.xs.length→ν (.hp i n)=n0 i n:=by
 obtain⟨hr',h1,h2,h3⟩:=hk.row i hr h
 exact⟨hr',h1,h2,h3,fun n h4 h5=>hk.nm i n h4 (by rw[JW h];exact h5)⟩
theorem Nt {s:HY}{i:Nat}(hi:s.hout.any (Nat.beq i)=true):i∈s.hin:=by
 have:=km.1 hi
 simp only[HY.hout,HY.hin,List.mem_map,List.mem_filter] at this ⊢
 obtain⟨p,⟨hp,_⟩,e⟩:=this
 exact⟨p,hp,e⟩
theorem Yx {v d:Nat}{xh:A9 T v}{yh:xe T v}(hf:wH σ (Ko d (T.sig v) (uO _ yh))):(wG T v d xh yh).ae=qf T v xh yh:=(Sa hf.only (aF (qf T v xh yh))).2.1
theorem J3 {s:HY}(h:jU T s=true)(hg:s.gen=none):s.clo=none∧(∀i∈s.hout,D6 (T.ht i).t=true)∧∀t o,(t,o)∈s.res→(o=none→D6 t=true)∧∀u e,t= .slice u→o=some e→D6 u=true:=by
 unfold jU at h
 rw[hg] at h
 simp only[Bool.and_eq_true,Option.isNone_iff_eq_none,List.all_eq_true] at h
 refine⟨h.1.1,h.1.2,fun t o hm=> ?_⟩
 have h1:=h.2 (t,o) hm
 refine⟨fun e=> ?_,fun u e e1 e2=> ?_⟩
 ·subst e
  cases t<;>first |exact h1 |rfl
 ·subst e1 e2;exact h1
theorem ach {d:Nat}{s:HY}{y:LN s}(hl:jU T s=true){u:TU}(h:u∈Ko d s y):∃k row,u= .row k row∧D6 row.t=true:=by
 unfold Ko at h
 split at h
 ·rename_i args res hps y
  obtain⟨k,row,t,e,rfl,h2,h3⟩:=xu _ _ _ _ h
  obtain⟨_,_,h4⟩:=J3 hl rfl
  exact⟨k,row,rfl,(h4 _ _ h2).2 _ _ h3 rfl⟩
 ·obtain⟨h4,_⟩:=J3 hl rfl
  cases h4
 ·simp at h
theorem St.called (hE:aC E)(h:St E σ a w ν O)(Bm:σ.ae.length=T.ae.length){v d:Nat}{xh:A9 T v}{yh:xe T v}{c7:Bool}(Yy:c7=true→jU T (T.sig v)=true)(hI:AW T σ v xh)(Bn:(T.sig v).gen=none)
  (hf:wH σ (Ko d (T.sig v) (uO _ yh))) (hend:St (xX T E σ ν O w v xh c7) (wG T v d xh yh) ⟨#[],[]⟩ w' ν' (fun _=>False)):
  St E (Iy T σ v d yh) a w' (U2 (wG T v d xh yh) (T.sig v).hout ν ν') O∧
   ∀t,(c7=true→D6 t=true)→∀x cs,Rel (view (xX T E σ ν O w v xh c7) (wG T v d xh yh) ν' (fun _=>False) w') t x cs→Rel (view E (Iy T σ v d yh) (U2 (wG T v d xh yh) (T.sig v).hout ν ν') O w') t x cs:=by
 have hc:=agh (xh:=xh) Bm hI hf
 have heh:=Yx (xh:=xh) hf
 generalize hes:wG T v d xh yh=es at hc hend heh ⊢
 generalize hsn:Iy T σ v d yh=σn at hc ⊢
 have hob:=fun m=>agi hc m
 have hw:∀i,(T.sig v).hout.any (Nat.beq i)=true→∃hr,σ.ae[i]? =some hr∧hr.w=true:=fun i hi=>aaG hI i hi
 have adA:∀i n,(T.sig v).hout.any (Nat.beq i)=true→¬E.wA (.hp i n):=fun i n hi ⟨j,m,hr',e,h3⟩=>by
  injection e with e1 e2
  subst e1
  obtain⟨hr,h4,h5⟩:=hw i hi
  obtain⟨h6,h7⟩:=h.ro i hr' h3
  rw[h4] at h6
  obtain rfl:hr=hr':=by simpa using h6
  rw[h5] at h7;cases h7
 have hν1:∀m,WD es (T.sig v).hout m=true→U2 es (T.sig v).hout ν ν' m=ν' m:=fun m hm=>by unfold U2;rw[hm];rfl
 have hν0:∀m,WD es (T.sig v).hout m=false→U2 es (T.sig v).hout ν ν' m=ν m:=fun m hm=>by unfold U2;rw[hm];rfl
 -- HZ anc ae
 have hstart:∀i hr,σ.ae[i]? =some hr→i∈(T.sig v).hin→(aI T v xh)[i]? =some ⟨hr.e,hr.t,hr.k,(T.sig v).hout.any (Nat.beq i),hr.xs⟩∧hr.t=(T.ht i).t:=fun i hr h1 h2=>by
  obtain⟨hr',g1,g2,g3,g4,g5,g6⟩:=hI i h2
  rw[h1] at g1
  obtain rfl:hr=hr':=by simpa using g1
  have hlt:i<(cj T).length:=by rw[qe, ←Bm];exact(List.getElem?_eq_some_iff.1 h1).1
  have:=g6 (cj T) hlt
  refine⟨?_,g5⟩
  unfold aI
  exact this
 have acj:∀i hr,σ.ae[i]? =some hr→i∈(T.sig v).hin→∃hr',es.ae[i]? =some hr'∧hr'.e=hr.e∧hr'.t=hr.t∧hr'.k=hr.k∧hr'.w=(T.sig v).hout.any (Nat.beq i)∧hr.xs.length≤hr'.xs.length∧∀n,1≤n→n≤hr.xs.length→ν' (.hp i n)=ν (.hp i n):=fun i hr h1 h2=>by
  obtain⟨hr',k1,k2,k3,k4⟩:=adL hend.kept (hstart i hr h1 h2).1
  exact⟨hr',k1,k2.e,k2.t,k2.k,k2.w,k3,k4⟩
 -- what is owned
 have hown:∀m k,Own σn (U2 es (T.sig v).hout ν ν') m k→(WD es (T.sig v).hout m=true∧Own es ν' m k)∨(WD es (T.sig v).hout m=false∧Own σ ν m k):=fun m k ⟨h1,h2⟩=>by
  cases hm:WD es (T.sig v).hout m with
  |true=>rw[(hob m).1 hm] at h1;rw[hν1 m hm] at h2;exact .inl ⟨rfl,h1,h2⟩
  |false=>rw[(hob m).2 hm] at h1;rw[hν0 m hm] at h2;exact .inr ⟨rfl,h1,h2⟩
 have agj:∀m k,WD es (T.sig v).hout m=true→Own es ν' m k→w.heap.size≤k∨XOf σ ν (T.sig v).hout k:=fun m k hm ho=>by
  rcases (hend.yD m k ho).1 with h1 |h1 | ⟨i,n,hr,e,h1⟩
  ·exact .inl h1
  ·right;exact h1
  ·subst e
   have hm':(T.sig v).hout.any (Nat.beq i)=true:=hm
   have h1':(bif (T.sig v).hin.any (Nat.beq i)&& !((T.sig v).hout.any (Nat.beq i)) then (aI T v xh)[i]? else none)=some hr:=h1
   rw[hm'] at h1'
   simp at h1'
 have ake:∀m k,WD es (T.sig v).hout m=false→Own σ ν m k→¬XOf σ ν (T.sig v).hout k:=fun m k hm ho ⟨i,n,h1,h2⟩=>by
  have:=h.inj m _ k ho h2
  subst this
  have hm':(T.sig v).hout.any (Nat.beq i)=false:=hm
  rw[h1] at hm';cases hm'
 have hgr:Grow (XOf σ ν (T.sig v).hout) w w':=hend.keep
 -- HZ ae
 have hsub:HSub σ ν σn (U2 es (T.sig v).hout ν ν'):=by
  refine⟨hc.num,fun i hr e=> ?_,fun i n h1 h2=> ?_⟩
  ·cases hi:(T.sig v).hout.any (Nat.beq i) with
   |true=>
    obtain⟨hr',k1,k2,k3,k4,k5,k6,_⟩:=acj i hr e (Nt (s:=T.sig v) hi)
    obtain⟨G7,h3,h4⟩:=hw i hi
    rw[e] at h3
    obtain rfl:hr=G7:=by simpa using h3
    exact⟨hr',by rw[hc.hin i hi];exact k1,⟨k2,k3,k4,by rw[k5,hi,h4]⟩,k6⟩
   |false=>exact⟨hr,by rw[hc.hout i hi];exact e,Aa.refl _,Nat.le_refl _⟩
  ·cases hi:(T.sig v).hout.any (Nat.beq i) with
   |true=>
    rw[hν1 (.hp i n) hi]
    obtain⟨hr,e,h3⟩:=Is h1 h2
    obtain⟨hr',_,_,_,_,_,_,k7⟩:=acj i hr e (Nt (s:=T.sig v) hi)
    exact k7 n h1 h3
   |false=>exact hν0 (.hp i n) hi
 -- what can be seen
 have ak8:c7=false→∀(ad:Addr) u,view (xX T E σ ν O w v xh c7) es ν' (fun _=>False) w' (.cell ad) u→(∀key u,view E σ ν O w key u→view E σn (U2 es (T.sig v).hout ν ν') O w' key u)→view E σn (U2 es (T.sig v).hout ν ν') O w' (.cell ad) u:=fun hl ad u hv hV=>by
  rcases hv with ⟨hlt,OR,e,hv⟩ | ⟨hge,hn,_,hcell⟩
  ·injection e with e
   subst e
   rcases hv with hv | ⟨h1,_⟩
   ·exact hV _ _ hv
   ·rw[hl] at h1;cases h1
  ·have apq:w.heap.size≤ad.block:=hge
   refine .inr ⟨Nat.le_trans h.keep.size apq,fun⟨m,hm⟩=> ?_,fun ho=> ?_,hcell⟩
   ·rcases hown m _ hm with ⟨_,h1⟩ | ⟨_,h1⟩
    ·exact hn ⟨m,h1⟩
    ·exact absurd (h.yD _ _ h1).2.1 (by omega)
   ·exact absurd (h.out.2 _ ho).1 (by omega)
 have agk:∀(i n:Nat) u,view (xX T E σ ν O w v xh c7) es ν' (fun _=>False) w' (.ref i n) u→view E σn (U2 es (T.sig v).hout ν ν') O w' (.ref i n) u:=fun i n u ⟨h1,h2,h3⟩=>by
  cases hi:(T.sig v).hout.any (Nat.beq i) with
  |true=>
   refine⟨h1, ?_,by rw[hν1 (.hp i n) hi];exact h3⟩
   unfold hlen at h2 ⊢
   rw[hc.hin i hi];exact h2
  |false=>
   obtain⟨hr',e',h4⟩:=Is h1 h2
   have hil:i<(aI T v xh).length:=by
    have h9:es.ae.length=(aI T v xh).length:=hend.kept.num
    rw[←h9];exact(List.getElem?_eq_some_iff.1 e').1
   have hro:es.ae[i]? =(aI T v xh)[i]? :=by
    rw[heh]
    unfold qf
    exact jV _ _ _ _ i (fun hm=>by rw[km.2 hm] at hi;cases hi)
   rw[e'] at hro
   rcases J1 hI hro.symm with ⟨g1,hr,g2,g3,_,_⟩ | ⟨_,g1⟩
   ·have hlen:n≤hr.xs.length:=by rw[g3] at h4;exact h4
    obtain⟨_,_,_,_,_,_,_,k7⟩:=acj i hr g2 g1
    refine⟨h1, ?_,by rw[hν0 (.hp i n) hi, ←k7 n h1 hlen];exact h3⟩
    unfold Abs.hlen
    rw[hc.hout i hi,g2];exact hlen
   ·rw[g1] at h4;simp at h4;omega
 have htr:(∀key u,view E σ ν O w key u→view E σn (U2 es (T.sig v).hout ν ν') O w' key u)→∀t,(c7=true→D6 t=true)→∀x cs,Rel (view (xX T E σ ν O w v xh c7) es ν' (fun _=>False) w') t x cs→Rel (view E σn (U2 es (T.sig v).hout ν ν') O w') t x cs:=fun hV t ht x cs hr=>by
  cases hl:c7 with
  |true=>rw[hl] at hr agk;exact Rel.trN agk t x cs (ht hl) hr
  |false=>
   refine Rel.mono (fun key u hu=> ?_) t x cs hr
   cases key with
   |cell ad=>exact ak8 hl ad u hu hV
   |ref i n=>exact agk i n u hu
 -- no apr in what comes out of a aiZ call
 have ane:∀k row,look es.rows k=some row→c7=true→D6 row.t=true:=fun k row hk hl=>by
  have hld:=Yy hl
  rw[←hes] at hk
  rcases (yK hf.only (aF (qf T v xh yh)) k).1 row hk with h1 |h1
  ·cases h1
  ·obtain⟨k',row',e,hn⟩:=ach hld h1
   injection e with _ e
   subst e
   exact hn
 have aps:∀(i n:Nat) kk (row:Row),(T.sig v).hout.any (Nat.beq i)=true→ns es.ae i n=some (.hp kk row)→c7=true→D6 row.t=true:=fun i n kk row hi e hl=>by
  obtain⟨hr,h1,_⟩:=hw i hi
  have hin:=Nt hi
  obtain⟨G7,k1,k2,k3,_⟩:=acj i hr h1 hin
  have:row.t=G7.t:=by
   cases n with
   |zero=>cases e
   |succ n=>
    simp only[ns,k1,G6] at e
    split at e
    ·simp only[Option.some.injEq,Obj.hp.injEq] at e
     rw[←e.2]
    ·cases e
  rw[this,k3,(hstart i hr h1 hin).2]
  exact(J3 (Yy hl) Bn).2.1 i (km.1 hi)
 have anf:∀k x,look es.boxes k=some x→c7=true→False:=fun k x hk hl=>by
  rw[←hes] at hk
  rcases (yK hf.only (aF (qf T v xh yh)) k).2 x hk with h1 |h1
  ·cases h1
  ·obtain⟨k',row',e,hn⟩:=ach (Yy hl) h1
   cases e
 have hV:∀key u,view E σ ν O w key u→view E σn (U2 es (T.sig v).hout ν ν') O w' key u:=fun key u hu=>EI hgr hsub (fun k h1 h2 h3 h4=>⟨fun⟨m,hm⟩=>by
   rcases hown m k hm with ⟨hm1,h5⟩ | ⟨_,h5⟩
   ·rcases agj m k hm1 h5 with h6 | ⟨i,n,_,h6⟩
    ·omega
    ·exact h3 ⟨_,h6⟩
   ·exact h3 ⟨_,h5⟩,h4,fun⟨i,n,_,h6⟩=>h3 ⟨_,h6⟩⟩) hu
 have hTr:=htr hV
 have akf:∀r,(look es.rows r).isSome=true→U2 es (T.sig v).hout ν ν' (.row r)=ν' (.row r)∧(look σn.rows r).isSome=true:=fun r hr=>by
  refine⟨hν1 (.row r) hr, ?_⟩
  obtain⟨row,e⟩:=Option.isSome_iff_exists.1 hr
  rw[hc.rows r,e];rfl
 have agl:∀r row,look σ.rows r=some row→U2 es (T.sig v).hout ν ν' (.row r)=ν (.row r)∧look σn.rows r=some row:=fun r row hr=>by
  have hn:look es.rows r=none:=by
   cases e:look es.rows r with
   |none=>rfl
   |some x=>have:=hc.fr r (by rw[e];rfl);rw[hr] at this;cases this
  exact⟨hν0 (.row r) (by simp only[WD];rw[hn];rfl),by rw[hc.rows r,hn];exact hr⟩
 have ang:∀b,(look σ.boxes b).isSome=true→U2 es (T.sig v).hout ν ν' (.box b)=ν (.box b)∧(look σn.boxes b).isSome=true:=fun b hb=>by
  have hn:look es.boxes b=none:=by
   cases e:look es.boxes b with
   |none=>rfl
   |some x=>have:=hc.fb b (by rw[e];rfl);rw[this] at hb;cases hb
  exact⟨hν0 (.box b) (by simp only[WD];rw[hn];rfl),by rw[hc.boxes b,hn];exact hb⟩
 have akg:∀m m' k,WD es (T.sig v).hout m=true→Own es ν' m k→WD es (T.sig v).hout m'=false→Own σ ν m' k→False:=fun m m' k h1 h2 h3 h4=>by
  rcases agj m k h1 h2 with h5 |h5
  ·exact absurd (h.yD _ _ h4).2.1 (by omega)
  ·exact ake m' k h3 h4 h5
 refine⟨h.step hE hgr (fun k ⟨i,n,h1,h2⟩=>⟨_,h2,adA i n h1⟩) hsub (fun m k hm=> ?_) (fun m k hm=> ?_) (fun m m' k h1 h2=> ?_) (fun q k hk=> ?_) hc.trace rfl (fun i hr n e h1 h2=> ?_) (fun i hr e=> ?_) (fun _ m o ho=> ?_) (fun _=> ?_),hTr⟩
 ·rcases hown m k hm with ⟨hm1,h5⟩ | ⟨_,h5⟩
  ·rcases agj m k hm1 h5 with h6 | ⟨i,n,h7,h6⟩
   ·exact .inr h6
   ·exact .inl ⟨_,h6,fun e=>absurd e (adA i n h7)⟩
  ·exact .inl ⟨_,h5,id⟩
 ·rcases hown m k hm with ⟨hm1,h5⟩ | ⟨_,h5⟩
  ·exact(hend.yD _ _ h5).2.1
  ·exact Nat.lt_of_lt_of_le (h.yD _ _ h5).2.1 hgr.size
 ·rcases hown m k h1 with ⟨hm1,h5⟩ | ⟨hm1,h5⟩<;>rcases hown m' k h2 with ⟨hm2,h6⟩ | ⟨hm2,h6⟩
  ·exact hend.inj m m' k h5 h6
  ·exact(akg m m' k hm1 h5 hm2 h6).elim
  ·exact(akg m' m k hm2 h6 hm1 h5).elim
  ·exact h.inj m m' k h5 h6
 ·rcases hown _ k hk with ⟨hm1,h5⟩ | ⟨_,h5⟩
  ·rcases hend.new q k h5 with h6 |h6
   ·exact .inl (Nat.le_trans h.keep.size h6)
   ·cases q with
    |row q=>exact h6.elim
    |box q=>exact .inr trivial
    |hp i n=>
     obtain⟨_,n',h7⟩:=h6
     exact h.new (.hp i n') k h7
  ·exact h.new q k h5
 ·cases hi:(T.sig v).hout.any (Nat.beq i) with
  |true=>
   rw[hν1 (.hp i n) hi]
   rw[hc.hin i hi] at e
   exact hend.nn i hr n e h1 h2
  |false=>
   rw[hν0 (.hp i n) hi]
   rw[hc.hout i hi] at e
   exact h.nn i hr n e h1 h2
 ·obtain⟨h1,h2⟩:=h.ro i hr e
  cases hi:(T.sig v).hout.any (Nat.beq i) with
  |true=>
   obtain⟨G7,h3,h4⟩:=hw i hi
   rw[h1] at h3
   obtain rfl:hr=G7:=by simpa using h3
   rw[h2] at h4;cases h4
  |false=>rw[hc.hout i hi];exact h1
 ·cases hm:WD es (T.sig v).hout m with
  |true=>
   rw[(hob m).1 hm] at ho
   rw[hν1 m hm]
   have b8:=hend.AT m o ho
   cases m with
   |row k=>
    simp only[AS.obj,Option.map_eq_some_iff] at ho
    obtain⟨row,e,rfl⟩:=ho
    obtain⟨bm,h1,h2⟩:=b8
    exact⟨bm,h1,h2.mono (hTr row.t (ane k row e))⟩
   |box k=>
    simp only[AS.obj,Option.map_eq_some_iff] at ho
    obtain⟨x,e,rfl⟩:=ho
    obtain⟨g,h1,h2⟩:=b8
    refine⟨g,h1, ?_⟩
    cases x with
    |cells cs=>obtain⟨cur,e1,h3,h4⟩:=h2;exact⟨cur,e1,h3,h4.mono (fun c u hu=>hTr c.1 (fun hl=>(anf k _ e hl).elim) _ _ hu)⟩
    |own r=>obtain⟨e1,h3,h4⟩:=h2;exact⟨e1,by rw[(akf r h4).1];exact h3,(akf r h4).2⟩
    |nil=>exact h2
   |hp i n=>
    have ho':ns es.ae i n=some o:=ho
    obtain⟨kk,row,rfl⟩:=Nl ho'
    have hN:=aps i n kk row hm ho'
    have anh:z8 _ w' kk (ν' (.hp i n)) row:=b8
    show z8 _ w' kk (ν' (.hp i n)) row
    match kk,anh with
    |0,⟨h5,bm,h6,h7⟩=>exact⟨h5,bm,h6,h7.mono (hTr row.t hN)⟩
    |1,⟨g,cur,ys,x,h5,h6,h7,h8,h9⟩=>exact⟨g,cur,ys,x,h5,h6,h7,h8,hTr row.t hN _ _ h9⟩
  |false=>
   rw[(hob m).2 hm] at ho
   rw[hν0 m hm]
   exact h.old hgr ho (fun k hk hx=>ake m k hm ⟨aX ho,hk⟩ hx) hV (fun r _ hr=>by
    obtain⟨row,e⟩:=Option.isSome_iff_exists.1 hr
    obtain⟨h1,h2⟩:=agl r row e
    exact⟨h1,by rw[h2];rfl⟩)
 ·rw[hc.tmps]
  exact h.slots.mono (ah.mono hV {hsub with rows:=fun r row hr=>⟨(agl r row hr).1,row,(agl r row hr).2,rfl⟩,boxes:=fun b hb=>ang b hb})
end
end Go.Abs
namespace Go.Abs
open Go.RowKit Go.Lib
def Sb (T:cm):Prop:=∀v,G4 T (T.sig v)=true
theorem Sc {P:Program}{r:Option Nat}{n:Nat}{f:FuncId}{args:Array Value}{w:World}{R:Ending→World→Prop}(h:Calls P f args w R):CallsIn (FW r) n P f args w R:=
 ⟨trivial,fun cs _=>let ⟨e,w',fr,q,s,x⟩:=h cs;⟨e,w',fr,q,(comesIn_wide (P:=P)).2 s,x⟩⟩
section
variable {P:Program}{T:cm}{E:Env}{σ σ':AS}{a:Act}{w w':World}{ν ν':Nm→Value}{O:Nat→Prop}{Φ:bF T}{V V':View}{Y:Value}
theorem ai0 {σn es:AS}{Vn Ve:View}{s:HY}{d:Nat}{y:LN s}{c7:Bool}{Y':Value}{ν'':Nm→Value}(Yy:c7=true→jU T s=true)(Bn:s.gen=none)
  (hTr:∀t,(c7=true→D6 t=true)→∀x cs,Rel Ve t x cs→Rel Vn t x cs) (hrow:∀r,(look es.rows r).isSome=true→ν'' (.row r)=ν' (.row r)∧(look σn.rows r).isSome=true)
  (akY:∀r,(look es.boxes r).isSome=true→ν'' (.box r)=ν' (.box r)∧(look σn.boxes r).isSome=true) {v:Value} (h:ah Ve es ν' Y' (Yt d s y) v):ah Vn σn ν'' Y (Yt d s y) v:=by
 unfold Yt at h ⊢
 split at h
 ·rename_i args res hps y
  have hrv:∀x∈z7 d res y,∀u,rh Ve es ν' x u→rh Vn σn ν'' x u:=fun x hx u hu=>by
   rcases O4 _ _ _ _ hx with ⟨q,rfl⟩ | ⟨t,h1,h2⟩
   ·obtain⟨h3,h4⟩:=hrow q hu.2
    exact⟨by rw[h3];exact hu.1,h4⟩
   ·have hno:c7=true→D6 t=true:=fun hl=>((J3 (Yy hl) rfl).2.2 _ _ h1).1 rfl
    cases x with
    |own q=>exact h2.elim
    |cv c=>obtain⟨ct,cx⟩:=c;have h2:ct=t:=h2;subst h2;exact hTr _ hno _ _ hu
    |agg cs=>
     obtain⟨u',z,rfl,rfl⟩:=h2
     obtain⟨vs,e1,e2⟩:=hu
     refine⟨vs,e1,Bk (fun c hc u hu=>hTr c.1 (fun hl=>J2 (hno hl) c hc) _ _ hu) e2⟩
  have key:∀(l:List RV),(∀x∈l,∀u,rh Ve es ν' x u→rh Vn σn ν'' x u)→ah Ve es ν' Y' (X0 l) v→ah Vn σn ν'' Y (X0 l) v:=fun l hl h=>by
   match l,hl,h with
   | [],_,⟨vs,e1,e2⟩=>exact⟨vs,e1,by cases vs with
     |nil=>trivial
     |cons _ _=>exact e2.elim⟩
   | [x],hl,h=>exact hl x (by simp) v h
   |x::z::l,hl,⟨vs,e1,e2⟩=>exact⟨vs,e1,Bk hl e2⟩
  exact key _ hrv h
 ·rename_i args res f ts hps y
  obtain⟨vs,e1,e2⟩:=h
  refine⟨vs,e1,Bk (fun c hc u hu=> ?_) e2⟩
  have:∃b,c= .box b:=by
   have hb:∀(ts:List Ty) (d:Nat),∀c∈P6 d ts,∃b,c= .box b:=by
    intro ts
    induction ts with
    |nil=>intro d c hc;simp[P6] at hc
    |cons t ts ih=>
     intro d c hc
     cases ts with
     |nil=>simp only[P6,List.mem_singleton] at hc;exact⟨_,hc⟩
     |cons t2 ts=>
      simp only[P6] at hc
      rcases List.mem_cons.1 hc with e |hc
      ·exact⟨_,e⟩
      ·exact ih _ c hc
   exact hb ts d c hc
  obtain⟨b,rfl⟩:=this
  obtain⟨h1,g,h2,h3⟩:=hu
  obtain⟨h4,h5⟩:=akY b h1
  exact⟨h5,g,by rw[h4];exact h2,h3⟩
 ·exact h
theorem aaI {st:Option Site}{f:FuncId}{avs:List AV}{v:Nat}(h:RC T st f avs=some v):T.real v=f:=by
 unfold RC at h
 split at h
 ·cases hb:Nat.beq (T.real _) f with
  |true=>rw[hb] at h;simp only[cond_true,Option.some.injEq] at h;subst h;exact(beq_iff _ _).1 hb
  |false=>rw[hb] at h;cases h
 ·split at h
  ·cases hb:Nat.beq (T.real _) f with
   |true=>rw[hb] at h;simp only[cond_true,Option.some.injEq] at h;subst h;exact(beq_iff _ _).1 hb
   |false=>rw[hb] at h;cases h
  ·cases h
theorem Sd (pW:∀x,ah V σ ν Y (σ.av x) (a.eval x)):∀(xs:List Operand),aA (ah V σ ν Y) (xs.map σ.av) (xs.map a.eval)
 | []=>trivial
 |x::xs=>⟨pW x,Sd pW xs⟩
theorem O5:∀{aN:List G2} {vs:List Value},aA (rE V σ ν) aN vs→aA (ah V σ ν Y) (aN.map UE) vs
 | [],[],_=>trivial
 | .box b::cs,v::vs,h=>⟨h.1,O5 h.2⟩
 | .oR l::cs,v::vs,h=>⟨h.1,O5 h.2⟩
 | [],_::_,h=>h.elim
 |_::_,[],h=>h.elim
theorem Dd.mono {V V':View}(hV:∀a v,V a v→V' a v):∀{ts:List Ty} {x:rB ts} {vs:List Value},Dd V ts x vs→Dd V' ts x vs
 | [],_,_,h=>h
 | [t],x,_,⟨v,e,h⟩=>⟨v,e,h.of hV⟩
 |t::u::ts,x,_,⟨v,r,e,h,h2⟩=>⟨v,r,e,h.of hV,Dd.mono hV h2⟩
theorem ArgRel.mono {V V':View}(hV:∀a v,V a v→V' a v):∀{p:nr} {x:p.den} {v:Value},ArgRel V p x v→ArgRel V' p x v
 | .v t,x,v,h=>wB.mono hV h
 | .fn f ts,x,v,⟨vs,e,h⟩=>⟨vs,e,h.mono hV⟩
 | .c cs,_,v,⟨vs,e,h⟩=>⟨vs,e,h.mono (bC.mono hV)⟩
 | .rp t,x,v,h=>qc.of hV h
 | .bx _,_,_,h=>h
 | .K4,_,_,h=>h
theorem mo.mono {V V':View}(hV:∀a v,V a v→V' a v):∀{ps:List nr} {x:F0 ps} {vs:List Value},mo V ps x vs→mo V' ps x vs
 | [],_,_,h=>h
 | [p],x,_,⟨v,e,h⟩=>⟨v,e,h.mono hV⟩
 |p::q::ps,x,_,⟨v,r,e,h,h2⟩=>⟨v,r,e,h.mono hV,mo.mono hV h2⟩
def akh (E:Env)(σ:AS)(ν:Nm→Value)(O:Nat→Prop)(w:World)(hin hout:List Nat)(c7:Bool):View:=fun key u=>match key with
 | .cell ad=>view E σ ν O w (.cell ad) u∨(c7=true∧w.cell? ad=some u∧¬XOf σ ν hout ad.block)
 | .ref i n=>hin.any (Nat.beq i)=true∧view E σ ν O w (.ref i n) u
theorem aaJ (hin hout:List Nat)(c7:Bool):Uf (view E σ ν O w) (akh E σ ν O w hin hout c7) σ ν w hin hout c7:=
 ⟨fun ad u hv=> .inl hv,fun i hi n u hv=>⟨hi,hv⟩,fun hl ad u h1 h2=> .inr ⟨hl,h1,h2⟩⟩
theorem aaK {hs hout:List Nat}{c7:Bool}(hl:Uf (view E σ ν O w) V' σ ν w hs hout c7)(key:Key)(u:Value)(h:akh E σ ν O w hs hout c7 key u):V' key u:=by
 cases key with
 |cell ad=>
  rcases h with h | ⟨h1,h2,h3⟩
  ·exact hl.cell _ _ h
  ·exact hl.all h1 _ _ h2 h3
 |ref i n=>exact hl.ref i h.1 n u h.2
theorem Se (hE:aC E)(hG:L3 T E)(hS:Sb T)(hΦ:Yu P T Φ)(Bm:σ.ae.length=T.ae.length)(h:St E σ a w ν O){o:Oper}{f:Operand}{args:Array Operand}{ats:Array TypeId}(ho:o.op= .call {callee:= .value f,args:=args,argTypes:=ats})
  {g:FuncId} {aN:List G2} {cvs:List Value} (hf:a.eval f= .func (.func g) #[] cvs.toArray) (Rk:aA (rE (view E σ ν O w) σ ν) aN cvs) {st:Option Site} {r:b6} (he:(Ii T σ.av st o.dst g aN args.toList).val Φ σ=some r):
  ∃us,r.2= .mh us∧kP P o a w (To E ((σ.app us).iH o.dst r.1)):=by
 unfold Ii at he
 dsimp only at he
 split at he
 ·rename_i v hv
  have ani:=aaI hv
  have hal:=hS v
  have apt:=hal
  simp only[G4,Bool.and_eq_true] at hal
  have hargs:=aA.append (Sd (h.av hG.1) args.toList) (O5 (Y:=E.Y) Rk)
  obtain⟨x,he,hx⟩:=UZ h (aaJ (T.sig v).hin (T.sig v).hout (jU T (T.sig v))) hal.1.1 hargs he
  obtain⟨hh,he,hI⟩:=UX _ _ _ _ he
  rw[bR] at he
  obtain⟨xh,hxh,he⟩:=he
  obtain⟨ex,eh⟩:=Yv hxh
  rw[Ng] at he
  obtain⟨yh,hy,he⟩:=he
  obtain⟨rfl,hfree,Bn⟩:=agd he
  have hIn:AW T σ v xh:=fun i hi=>by rw[eh];exact hI i hi
  obtain⟨⟨fn,hfn,hbody,hname⟩,U3⟩:=hΦ v xh yh hy Bn
  have hE':=aaH hE h hIn (jU T (T.sig v))
  have hG':=Yw (v:=v) (xh:=xh) hG hE h (jU T (T.sig v))
  have hst:=WC hE h hIn Bm apt (jU T (T.sig v))
  have hl':=P7 hE h hIn Bm (jU T (T.sig v))
  rw[ani] at hfn U3
  have hc:=U3 _ ν (args.map a.eval++cvs.toArray) (M7 o.dst) hE' hG' ⟨rfl,fun _ h=>h,fun _ h=>h,fun _=>trivial,fun _ _ h1 h2=>h1 h2.1,fun _=>rfl⟩ hst (by
   rw[ex]
   have:(args.map a.eval++cvs.toArray).toList=args.toList.map a.eval++cvs:=by simp
   rw[this]
   exact hx.mono (aaK hl'))
  refine⟨_,rfl,fun rr next Q hn=> ?_⟩
  have hrun:(execOp a.eval o).run P w= .ok (.enter g (args.map a.eval++cvs.toArray)) w:=by
   have hb:fn.body.isNone=false:=by cases hfb:fn.body<;>simp_all
   have hn1:¬fn.name= "runtime.NumGoroutine" :=by simpa using hname
   have hb1:¬fn.body=none:=by intro e;rw[e] at hb;cases hb
   simp[execOp,ho,resolve,hf,Deferred.ofValue,invoke,callFunc,hfn,hn1,hb1]
  refine⟨fun _ _=>trivial, ?_⟩
  rw[Oper.semAt_eq _ _ _ (by rw[ho];intro c e;cases e),hrun,Oper.uponIn_enter]
  refine⟨fun e=>(by cases e),Sc (Calls.mono hc ?_)⟩
  rintro e w' ⟨rv,ν',rfl,hend,hres⟩
  obtain⟨s1,hTr⟩:=h.called hE Bm (fun hl=>hl) hIn Bn hfree hend
  have hcs:=agh (xh:=xh) Bm hIn hfree
  refine hn _ _ ⟨U2 (wG T v (M7 o.dst) xh yh) (T.sig v).hout ν ν',O, ?_⟩
  show St E (((σ.app (zv T (T.sig v).hout (D5 (T.sig v).hout yh)++Ko (M7 o.dst) (T.sig v) (uO (T.sig v).hout yh)))).iH o.dst (Yt (M7 o.dst) (T.sig v) (uO (T.sig v).hout yh))) _ _ _ _
  rw[aaF]
  refine s1.slot (ai0 (es:=wG T v (M7 o.dst) xh yh) (fun hl=>hl) Bn hTr (fun k hk=>⟨?_, ?_⟩) (fun k hk=>⟨?_, ?_⟩) hres)
  ·unfold U2;simp only[WD];rw[hk];rfl
  ·obtain⟨row,e⟩:=Option.isSome_iff_exists.1 hk
   rw[hcs.rows k,e];rfl
  ·unfold U2;simp only[WD];rw[hk];rfl
  ·obtain⟨row,e⟩:=Option.isSome_iff_exists.1 hk
   rw[hcs.boxes k,e];rfl
 ·cases he
theorem adM (q:Nat)(c:CV)(hc:∀n,c≠⟨.fn,n⟩)(x:AV):OK (x.s7 q c)=OK x:=by
 cases x with
 |rv x=>cases x with
  |own k=>
   simp only[AV.s7,RV.s7]
   cases Nat.beq k q with
   |true=>obtain⟨t,z⟩:=c;cases t<;>first |rfl |exact absurd rfl (hc z)
   |false=>rfl
  |_=>rfl
 |M5 k sz i off=>simp only[AV.s7];cases Nat.beq k q<;>rfl
 |_=>rfl
theorem Yz (q:Nat)(x:Operand):OK ((σ.freeze q).av x)=OK (σ.av x):=by
 cases hq:look σ.rows q with
 |none=>unfold AS.freeze;rw[hq]
 |some row=>rw[JY hq];exact adM q _ (fun n e=>by injection e with e;cases e) _
theorem U4 (x:Operand):∀(xs:List Operand) (σ:AS),OK ((σ.uP xs).av x)=OK (σ.av x)
 | [],σ=>rfl
 |y::ys,σ=>by
  show OK (((σ.frz y).uP ys).av x)=_
  rw[U4 x ys]
  unfold AS.frz
  split
  ·exact Yz _ _
  ·rfl
theorem Sf:∀(xs:List Operand) (σ:AS),(σ.uP xs).ae=σ.ae
 | [],σ=>rfl
 |y::ys,σ=>by
  show ((σ.frz y).uP ys).ae=_
  rw[Sf ys]
  unfold AS.frz
  split
  ·unfold AS.freeze;split<;>rfl
  ·rfl
end
end Go.Abs
namespace Go.Abs
open Go.RowKit Go.Lib
theorem Rel.La {V V':View}:∀(t:Ty) (x:t.den) (cs:List Value),G3 t=true→Rel V t x cs→Rel V' t x cs
 | .int k,x,cs,_,h=>h
 | .bool,x,cs,_,h=>h
 | .str,x,cs,_,h=>h
 | .slice t,xs,cs,hi,_=>by cases hi
 | .unit,_,cs,_,h=>h
 | .pair a b,x,cs,hi,⟨c1,c2,e,h1,h2⟩=>by
   simp only[G3,Bool.and_eq_true] at hi
   exact⟨c1,c2,e,Rel.La a _ _ hi.1 h1,Rel.La b _ _ hi.2 h2⟩
 | .st t,x,cs,hi,h=>Rel.La t x cs hi h
 | .ref _,_,_,hi,_=>by cases hi
 | .ptr _,_,_,hi,_=>by cases hi
 | .mp _,_,_,hi,_=>by cases hi
 | .fn,_,_,_,h=>h
 | .o6 t,_,cs,hi,_=>by cases hi
theorem wB.La {V V':View}{t:Ty}{x:t.den}{v:Value}(hi:G3 t=true)(h:wB V t x v):wB V' t x v:=by
 cases t with
 |st t=>obtain⟨cs,h1,h2⟩:=h;exact⟨cs,h1,Rel.La _ _ _ hi h2⟩
 |_=>exact Rel.La (V:=V) _ _ _ hi h
def Ug (V:View):(t:Ty)→t.den→List Value→Prop
 | .unit,_,vs=>vs=[]
 | .pair a b,x,vs=>∃v r,vs=v::r∧wB V a x.1 v∧Ug V b x.2 r
 |_,_,_=>False
theorem Ug.La {V V':View}:∀{t:Ty} {x:t.den} {vs:List Value},G3 t=true→Ug V t x vs→Ug V' t x vs
 | .unit,x,vs,_,h=>h
 | .pair a b,x,vs,hi,⟨v,r,e,h1,h2⟩=>by
   simp only[G3,Bool.and_eq_true] at hi
   exact⟨v,r,e,wB.La hi.1 h1,Ug.La hi.2 h2⟩
 | .int _,_,_,_,h=>h.elim
 | .bool,_,_,_,h=>h.elim
 | .str,_,_,_,h=>h.elim
 | .slice _,_,_,_,h=>h.elim
 | .st _,_,_,_,h=>h.elim
 | .ref _,_,_,_,h=>h.elim
 | .ptr _,_,_,_,h=>h.elim
 | .mp _,_,_,_,h=>h.elim
 | .fn,_,_,_,h=>h.elim
 | .o6 _,_,_,_,h=>h.elim
section
variable {P:Program}{T:cm}{E:Env}{σ σ':AS}{a:Act}{w w':World}{ν ν':Nm→Value}{O O':Nat→Prop}{Φ:bF T}{V V':View}{Y:Value}
theorem Sg:∀{t:Ty} {avs:List AV} {x:t.den} {vs:List Value},qb t avs=some x→aA (ah V σ ν Y) avs vs→Ug V t x vs
 | .unit,[],x,[],_,_=>rfl
 | .pair a b,av::r,x,v::vs,h,hr=>by
   simp only[qb] at h
   split at h
   ·rename_i y hy
    split at h
    ·rename_i z hz
     simp only[Option.some.injEq] at h
     subst h
     exact⟨v,vs,rfl,Ga hy hr.1,Sg hz hr.2⟩
    ·cases h
   ·cases h
 | .unit,[],_,_::_,_,hr=>hr.elim
 | .unit,_::_,_,_,h,_=>by simp[qb] at h
 | .pair _ _,[],_,_,h,_=>by simp[qb] at h
 | .pair _ _,_::_,_,[],_,hr=>hr.elim
 | .int _,_,_,_,h,_=>by simp[qb] at h
 | .bool,_,_,_,h,_=>by simp[qb] at h
 | .str,_,_,_,h,_=>by simp[qb] at h
 | .slice _,_,_,_,h,_=>by simp[qb] at h
 | .st _,_,_,_,h,_=>by simp[qb] at h
 | .ref _,_,_,_,h,_=>by simp[qb] at h
 | .ptr _,_,_,_,h,_=>by simp[qb] at h
 | .mp _,_,_,_,h,_=>by simp[qb] at h
 | .fn,_,_,_,h,_=>by simp[qb] at h
 | .o6 _,_,_,_,h,_=>by simp[qb] at h
def Gi (P:Program)(E:Env):Prop:=∀(r:Option Nat) (t:Ty) (xs:List t.den) (x:t.den) (vs:List Value) (O:Nat→Prop) (w:World),E.J ⟨.slice t,xs⟩ O w→E.acc ⟨.slice t,xs++[x]⟩→(∀V,Ug V t x vs)→
 (E.base=E.w0∧∀k,E.X k→E.CB k)∧∃(l:Nat) (f:FuncId) (tmps:Array Value) (QS body:Code),E.Y= .func (.yield l) #[] #[]∧(Instr.yield l vs.toArray).run P w= .ok (.round l f tmps QS body) w∧
   RoundIn (FW r) 0 P l f tmps QS body w fun e w'=>e= .returned (.bool true)∧∃O',E.J ⟨.slice t,xs++[x]⟩ O' w'∧Grow O w w'∧(∀k,O k→O' k)∧∀k,O' k→O k∨(w.heap.size≤k∧k<w'.heap.size)
theorem D7 (h:E.J=jX):Gi P E:=fun r t xs x vs O w hJ=>by
 rw[h] at hJ
 have:(⟨.slice t,xs⟩:CV)=⟨.unit,()⟩:=hJ
 injection this with e
 cases e
theorem St.yielded (hE:aC E)(h:St E σ a w ν O){tr:CV}(hJ:E.J tr O' w')(hg:Grow O w w')(hO:∀k,O k→O' k)(hO':∀k,O' k→O k∨(w.heap.size≤k∧k<w'.heap.size))(hb:E.base=E.w0∧∀k,E.X k→E.CB k):
  St E {σ with trace:=tr} a w' ν O':=by
 have hs:Kn {σ with trace:=tr} {σ with trace:=tr}:=⟨rfl,rfl,rfl,rfl⟩
 have hob:({σ with trace:=tr}:AS).obj=σ.obj:=by funext m;cases m<;>rfl
 have hown:∀m k,Own {σ with trace:=tr} ν m k→Own σ ν m k:=fun m k hm=>by unfold Own at hm ⊢;rw[hob] at hm;exact hm
 have hV:∀key u,view E σ ν O w key u→view E {σ with trace:=tr} ν O' w' key u:=fun key u hu=>EI hg (HSub.of_eq rfl (fun _ _=>rfl)) (fun k h1 h2 h3 h4=>⟨fun⟨m,hm⟩=>h3 ⟨m,hown m k hm⟩,fun h5=>by
  rcases hO' k h5 with h6 |h6
  ·exact h4 h6
  ·omega,h4⟩) hu
 have hblk:∀r o,w.heap[r]? =some o→¬O r→w'.heap[r]? =some o∧¬O' r:=fun r o h1 h2=>by
  have hlt:=(Array.getElem?_eq_some_iff.1 h1).1
  refine⟨by rw[hg.block r hlt h2];exact h1,fun h3=> ?_⟩
  rcases hO' r h3 with h4 |h4
  ·exact h2 h4
  ·omega
 refine⟨h.keep.trans hg (fun k hk ho=>(h.out.2 k ho).2 hk),fun d hd=> ?_,h.slots.mono (ah.mono hV ⟨HSub.of_eq rfl (fun _ _=>rfl),fun r row hr=>⟨rfl,row,hr,rfl⟩,fun b hb=>⟨rfl,hb⟩⟩),fun m o ho=> ?_,fun m m' k h1 h2=>h.inj m m' k (hown _ _ h1) (hown _ _ h2),fun m k hm=> ?_,fun r k hk=>h.new r k (hown _ _ hk),⟨hJ,fun k hk=> ?_⟩,h.nn,h.ro,h.kept,fun r hr=> ?_,h.uU.trans hg (fun k hk ho=> ?_),fun m k hm=>h.wF m k (hown _ _ hm),fun k hk=>hO k (h.Nb k hk),h.nd⟩
 ·obtain⟨r,h1,h2,h3,h4⟩:=h.marks d hd
  obtain⟨h5,h6⟩:=hblk r _ h3 h4
  exact⟨r,h1,h2,h5,h6⟩
 ·rw[hob] at ho
  exact(h.AT m o ho).mono hV (fun k hk=>hg.block k (h.yD m k ⟨aX ho,hk⟩).2.1 (h.yD m k ⟨aX ho,hk⟩).2.2) (fun r _ hr=>⟨rfl,hr⟩)
 ·obtain⟨h1,h2,h3⟩:=h.yD m k (hown _ _ hm)
  refine⟨h1,Nat.lt_of_lt_of_le h2 hg.size,fun h4=> ?_⟩
  rcases hO' k h4 with h5 |h5
  ·exact h3 h5
  ·omega
 ·rcases hO' k hk with h5 |h5
  ·exact⟨Nat.lt_of_lt_of_le (h.out.2 k h5).1 hg.size,(h.out.2 k h5).2⟩
  ·exact⟨h5.2,fun h6=>by have:=h.keep.size;omega⟩
 ·obtain⟨h1,h2⟩:=h.waits r hr
  exact hblk r _ h1 h2
 ·rw[hb.1] at hk
  exact hb.2 k ((h.out.2 k ho).2 hk)
structure Ctx (P:Program) (T:cm) (Φ:bF T) (E:Env):Prop where
 env:aC E
 QX:L3 T E
 tab:iu P T.rows
 hps:Db P T
 eqs:afR P T
 sigs:Sb T
 fns:Yu P T Φ
 num:E.h0.length=T.ae.length
 ak9:Gi P E
 jj:∀O w,E.J ⟨.unit,()⟩ O w→E.J=jX
theorem agm (C:Ctx P T Φ E)(h:St E σ a w ν O){o:Oper}{r:b6}{f:Operand}{args:Array Operand}{ats:Array TypeId}(ho:o.op= .call {callee:= .value f,args:=args,argTypes:=ats})
  (he:(C5 T σ.av σ.sites o).val Φ σ=some r) (hacc:E.acc (aU σ o.dst r).trace):kP P o a w (To E (aU σ o.dst r)):=by
 have Bm:σ.ae.length=T.ae.length:=by rw[h.kept.num,C.num]
 have hd:∀c,o.op≠ .defer c:=by rw[ho];intro c e;cases e
 have hf:=h.av C.QX.1 f
 unfold C5 at he
 simp only[ho] at he
 generalize o.dst.bind (look σ.sites)=st at he
 split at he
 ·rename_i hfy
  rw[hfy] at hf
  have hf':a.eval f=E.Y:=hf
  rw[mn] at he
  split at he
  ·rename_i t xs htr
   rw[az,bR] at he
   obtain⟨OF,x,hx,he⟩:=he
   rw[gr] at he
   subst he
   have hJ:=h.out.1
   rw[htr] at hJ
   have hvs:=Sg hx (Sd (h.av C.QX.1) args.toList)
   have ank:E.acc ⟨.slice t,xs++[x]⟩:=by
    have:(aU σ o.dst (AV.rv (.cv ⟨.bool,true⟩),Eff.set {σ with trace:=⟨.slice t,xs++[x]⟩})).trace=⟨.slice t,xs++[x]⟩:=by
     unfold aU;dsimp only;cases o.dst<;>rfl
    rw[this] at hacc;exact hacc
   intro rr next Q hn
   obtain⟨hb,l,f',tmps,QS,body,hY,hrun,ala⟩:=C.ak9 rr t xs x _ O w hJ ank (fun V=>Ug.La OF hvs)
   refine⟨fun _ _=>trivial, ?_⟩
   have hev:(execOp a.eval o).run P w= .ok (.round l f' tmps QS body) w:=by
    have e1:(args.map a.eval)=(args.toList.map a.eval).toArray:=by rw[←Array.toList_map]
    rw[←e1] at hrun
    simp[execOp,ho,resolve,hf',hY,Deferred.ofValue,invoke,hrun]
   rw[Oper.semAt_eq _ _ _ hd,hev,Oper.uponIn_round]
   refine⟨fun e=>(by cases e),RoundIn.mono ala ?_⟩
   rintro e w' ⟨rfl,O',h1,h2,h3,h4⟩
   exact hn _ _ ⟨ν,O',(h.yielded C.env h1 h2 h3 h4 hb).slot (x:= .rv (.cv ⟨.bool,true⟩)) xn⟩
  ·cases he
 ·rename_i hny
  split at he
  ·rename_i g aN hg
   cases hb:((args.toList.any fun x=>wD (σ.av x))&& !(jU T (T.sig ((RC T st g (args.toList.map σ.av++aN.map UE)).getD 0)))) with
   |true=>
    rw[hb,cond_true,mn,Ri] at he
    obtain⟨y,he,rfl⟩:=he
    rw[RL] at he
    have s1:=h.uP C.env args.toList
    have hf1:=s1.av C.QX.1 f
    obtain⟨vs,e1,e2⟩:=R8 hf1 (by rw[U4];exact hg)
    obtain⟨us,e3,hx⟩:=Se C.env C.QX C.sigs C.fns (by rw[Sf];exact Bm) s1 ho e1 e2 he
    unfold aU
    dsimp only
    rw[e3]
    exact hx
   |false=>
    rw[hb,cond_false] at he
    obtain⟨vs,e1,e2⟩:=R8 hf hg
    obtain⟨us,e3,hx⟩:=Se C.env C.QX C.sigs C.fns Bm h ho e1 e2 he
    unfold aU
    rw[e3]
    exact hx
  ·cases he
theorem agn (C:Ctx P T Φ E)(h:St E σ a w ν O){o:Oper}{r:b6}(he:(C5 T σ.av σ.sites o).val Φ σ=some r)(hacc:E.acc (aU σ o.dst r).trace):kP P o a w (To E (aU σ o.dst r)):=by
 have Bm:σ.ae.length=T.ae.length:=by rw[h.kept.num,C.num]
 have hE:=C.env
 have hG:=C.QX.1
 have hT:=C.tab
 have bad:∀{op:Op},o.op=op→(∀(he:(C5 T σ.av σ.sites {o with op:=op}).val Φ σ=some r),False)→False:=fun {op} e hb=>by
  subst e;exact hb he
 cases ho:o.op with
 |move x=>exact mF hE hG hT C.eqs h (.inl ⟨_,ho⟩) he
 |pick c x y=>exact mF hE hG hT C.eqs h (.inr (.inl ⟨_,_,_,ho⟩)) he
 |nilCheck x=>exact mF hE hG hT C.eqs h (.inr (.inr (.inl ⟨_,ho⟩))) he
 |load t x=>exact mF hE hG hT C.eqs h (.inr (.inr (.inr (.inl ⟨_,_,ho⟩)))) he
 |binOp b t x y u=>exact mF hE hG hT C.eqs h (.inr (.inr (.inr (.inr (.inl ⟨_,_,_,_,_,ho⟩))))) he
 |unOp b t x=>exact mF hE hG hT C.eqs h (.inr (.inr (.inr (.inr (.inr (.inl ⟨_,_,_,ho⟩)))))) he
 |convert s d x=>exact mF hE hG hT C.eqs h (.inr (.inr (.inr (.inr (.inr (.inr (.inl ⟨_,_,_,ho⟩))))))) he
 |fieldAddr s x f=>exact mF hE hG hT C.eqs h (.inr (.inr (.inr (.inr (.inr (.inr (.inr (.inl ⟨_,_,_,ho⟩)))))))) he
 |indexAddr t x i=>exact mF hE hG hT C.eqs h (.inr (.inr (.inr (.inr (.inr (.inr (.inr (.inr (.inl ⟨_,_,_,ho⟩))))))))) he
 |index t x i=>exact mF hE hG hT C.eqs h (.inr (.inr (.inr (.inr (.inr (.inr (.inr (.inr (.inr (.inl ⟨_,_,_,ho⟩)))))))))) he
 |extract x i=>exact mF hE hG hT C.eqs h (.inr (.inr (.inr (.inr (.inr (.inr (.inr (.inr (.inr (.inr ⟨_,_,ho⟩)))))))))) he
 |assign x=>exact adB hE hG hT h ho he
 |store t x v=>exact af7 hE hG hT h ho he
 |alloc t=>exact af8 hE hG hT C.hps Bm h ho he
 |box t v=>exact ak3 hE hG hT h ho he
 |build t ps=>exact aga hE hG hT h ho he
 |buildSlice t l ps=>exact Uc hE hG hT C.hps Bm h ho he
 |makeSlice t l c=>exact Wz hE hG hT C.hps Bm h ho he
 |slice t x l u m=>exact agb hE hG hT h ho he
 |makeFunc f fs cs=>exact Ym hE hG h ho he
 |call c=>
  obtain⟨callee,args,ats⟩:=c
  cases callee with
  |value f=>exact agm C h ho he hacc
  |builtin b=>
   cases b with
   |len=>exact ak1 hE hG hT h ho he
   |max=>exact UQ hE hG h (.inl rfl) ho he
   |min=>exact UQ hE hG h (.inr rfl) ho he
   |append=>exact adG hE hG hT h ho he
   |_=>unfold C5 at he;simp only[ho] at he;cases he
  |invoke x n=>unfold C5 at he;simp only[ho] at he;cases he
 |_=>unfold C5 at he;simp only[ho] at he;cases he
end
end Go.Abs
namespace Go.Abs
open Go.RowKit Go.Lib
section
variable {T:cm}{α:Type}
def Q.ok (p:α→Prop):AS→Q T α→Prop
 |_, .ret a=>p a
 |_, .fail=>True
 |σ, .opt o k=>∀y,o=some y→(k y).ok p σ
 |σ, .fi b k=>k.ok p σ
 |σ, .ite b x y=>x.ok p σ∧y.ok p σ
 |σ, .row q k=>∀x,look σ.rows q=some x→(k x).ok p σ
 |σ, .len q k=>∀x,(k x).ok p σ
 |σ, .box q k=>∀x,(k x).ok p σ
 |σ, .heap q k=>∀x,(k x).ok p σ
 |σ, .pS q k=>k.ok p σ
 |σ, .pT q k=>k.ok p σ
 |σ, .call v x k=>∀y,(k y).ok p σ
 |σ, .all k=>(k σ).ok p σ
 |_, .on σ' k=>k.ok p σ'
theorem ago {p:α→Prop}{Φ:bF T}:∀{q:Q T α} {σ:AS} {r:α},q.ok p σ→q.val Φ σ=some r→p r:=by
 intro q
 induction q with
 |ret a=>intro σ r h he;rw[gr] at he;subst he;exact h
 |fail=>intro σ r h he;cases he
 |opt o k ih=>intro σ r h he;rw[bR] at he;obtain⟨y,h1,h2⟩:=he;exact ih y (h y h1) h2
 |fi b k ih=>intro σ r h he;rw[az] at he;exact ih h he.2
 |ite b x y Kj Hy=>intro σ r h he;rw[Nf] at he;rcases he with ⟨_,he⟩ | ⟨_,he⟩
                   ·exact Kj h.1 he
                   ·exact Hy h.2 he
 |row q k ih=>intro σ r h he;rw[pU] at he;obtain⟨y,h1,h2⟩:=he;exact ih y (h y h1) h2
 |len q k ih=>intro σ r h he;rw[Rh] at he;obtain⟨y,h1,h2⟩:=he;exact ih _ (h _) h2
 |box q k ih=>intro σ r h he;rw[C7] at he;obtain⟨y,h1,h2⟩:=he;exact ih y (h y) h2
 |heap q k ih=>intro σ r h he;rw[fk] at he;obtain⟨y,h1,h2⟩:=he;exact ih y (h y) h2
 |pS q k ih=>intro σ r h he;rw[xj] at he;exact ih h he.2
 |pT q k ih=>intro σ r h he;rw[xk] at he;exact ih h he.2
 |call v x k ih=>intro σ r h he;rw[Ng] at he;obtain⟨y,h1,h2⟩:=he;exact ih y (h y) h2
 |all k ih=>intro σ r h he;rw[mn] at he;exact ih σ h he
 |on σ' k ih=>intro σ r h he;rw[RL] at he;exact ih h he
theorem aaL {β:Type}{f:α→β}{p:β→Prop}:∀{q:Q T α} {σ:AS},q.ok (fun x=>p (f x)) σ→(q.map f).ok p σ:=by
 intro q
 induction q with
 |ret a=>intro σ h;exact h
 |fail=>intro σ h;trivial
 |opt o k ih=>intro σ h y hy;exact ih y (h y hy)
 |fi b k ih=>intro σ h;exact ih h
 |ite b x y Kj Hy=>intro σ h;exact⟨Kj h.1,Hy h.2⟩
 |row q k ih=>intro σ h y hy;exact ih y (h y hy)
 |len q k ih=>intro σ h y;exact ih y (h y)
 |box q k ih=>intro σ h y;exact ih y (h y)
 |heap q k ih=>intro σ h y;exact ih y (h y)
 |pS q k ih=>intro σ h;exact ih h
 |pT q k ih=>intro σ h;exact ih h
 |call v x k ih=>intro σ h y;exact ih y (h y)
 |all k ih=>intro σ h;exact ih σ h
 |on σ' k ih=>intro σ h;exact ih (σ:=σ') h
end
def oK (a b:CV):Prop:=b=a∨∃(t:Ty) (xs ys:List t.den),a=⟨.slice t,xs⟩∧b=⟨.slice t,xs++ys⟩
theorem oK.refl (a:CV):oK a a:= .inl rfl
theorem oK.trans {a b c:CV}(h:oK a b)(g:oK b c):oK a c:=by
 rcases h with rfl | ⟨t,xs,ys,rfl,rfl⟩
 ·exact g
 ·rcases g with rfl | ⟨t',xs',ys',e,rfl⟩
  ·exact .inr ⟨t,xs,ys,rfl,rfl⟩
  ·injection e with e1 e2
   injection e1 with e1
   subst e1
   simp only[heq_eq_eq] at e2
   subst e2
   exact .inr ⟨t,xs,ys++ys',rfl,by rw[List.append_assoc]⟩
structure Fr (σ σ':AS):Prop where
 b7:σ'.b7=σ.b7
 sites:σ'.sites=σ.sites
 s:σ'.tmps.n=σ.tmps.n
 tr:oK σ.trace σ'.trace
 ks:σ'.tmps.s.map (·.1)=σ.tmps.s.map (·.1)
theorem Fr.refl (σ:AS):Fr σ σ:=⟨rfl,rfl,rfl,oK.refl _,rfl⟩
theorem Fr.trans {a b c:AS}(h:Fr a b)(g:Fr b c):Fr a c:=⟨g.b7.trans h.b7,g.sites.trans h.sites,g.s.trans h.s,h.tr.trans g.tr,g.ks.trans h.ks⟩
theorem Fr.iH {σ σ':AS}(h:Fr σ σ')(d:Option Tmp)(x:AV):Fr σ (σ'.iH d x):=by
 cases d with
 |none=>exact h
 |some d=>
  refine⟨h.b7,h.sites, ?_,h.tr, ?_⟩
  ·show (CX σ'.tmps d x).n=_
   unfold CX
   cases Nat.blt d σ'.tmps.n<;>exact h.s
  ·show (CX σ'.tmps d x).s.map (·.1)=_
   unfold CX
   cases Nat.blt d σ'.tmps.n<;>exact h.ks
theorem xv (f:AV→AV)(l:List (Nat×AV)):(T4 f l).map (·.1)=l.map (·.1):=by simp[T4]
def TU.fits (σ:AS):TU→Prop
 | .Ic q r=>(look σ.rows q).map (fun row=>row.xs.length)=some r.xs.length
 |_=>True
def TU.O6:TU→Bool
 | .Ic _ _=>false
 |_=>true
def Fits:AS→List TU→Prop
 |_,[]=>True
 |σ,u::us=>u.fits σ∧Fits (σ.one u) us
theorem TU.adN {σ:AS}{u:TU}(h:u.O6=true):u.fits σ:=by cases u<;>first |trivial |cases h
theorem Fits.agp:∀{us:List TU} {σ:AS},us.all TU.O6=true→Fits σ us
 | [],_,_=>trivial
 |u::us,σ,h=>by
  simp only[List.all_cons,Bool.and_eq_true] at h
  exact⟨TU.adN h.1,Fits.agp h.2⟩
def tR (σ:AS)(r:b6):Prop:=match r.2 with
 | .mh us=>Fits σ us
 | .set σ'=>Fr σ σ'
section
variable {T:cm}{σ:AS}
theorem Fr.app (σ:AS):∀us,Fr σ (σ.app us):=by
 intro us
 induction us generalizing σ with
 |nil=>exact Fr.refl _
 |cons u us ih=>exact Fr.trans (b:=σ.one u) (by cases u<;>exact⟨rfl,rfl,rfl,oK.refl _,rfl⟩) (ih (σ.one u))
theorem Fr.res {r:b6}(h:tR σ r)(d:Option Tmp):Fr σ (aU σ d r):=by
 unfold aU
 unfold tR at h
 split at h
 ·rename_i us e;first | (rw[e];exact(Fr.app σ us).iH d _) |exact(Fr.app σ us).iH d _
 ·rename_i s e;first | (rw[e];exact Fr.iH h d _) |exact Fr.iH h d _
theorem fm (r:Nat):Fr σ (σ.freeze r):=by unfold AS.freeze;split<;>first |exact⟨rfl,rfl,rfl,oK.refl _,rfl⟩ |exact⟨rfl,rfl,rfl,oK.refl _,xv _ _⟩
theorem U5 (r d:Nat):Fr σ (σ.rename r d):=by unfold AS.rename;split<;>first |exact⟨rfl,rfl,rfl,oK.refl _,rfl⟩ |exact⟨rfl,rfl,rfl,oK.refl _,xv _ _⟩
theorem aaM (r:Nat):Fr σ (σ.bg r):=⟨rfl,rfl,rfl,oK.refl _,xv _ _⟩
theorem Si (r:Nat):Fr σ (σ.dI r):=⟨rfl,rfl,rfl,oK.refl _,xv _ _⟩
theorem agq (x:Operand):Fr σ (σ.frz x):=by unfold AS.frz;split<;>first |exact fm _ |exact Fr.refl _
theorem De:∀(xs:List Operand) (σ:AS),Fr σ (σ.uP xs)
 | [],σ=>Fr.refl _
 |x::xs,σ=>(agq x).trans (De xs _)
theorem U6 {σ':AS}(h:Fr σ σ')(rows:List (Nat×Row))(boxes:List (Nat×BX)):Fr σ {σ' with rows:=rows,boxes:=boxes}:=⟨h.b7,h.sites,h.s,h.tr,h.ks⟩
def sn (r:b6):Prop:=match r.2 with
 | .mh us=>us.all TU.O6=true
 | .set _=>False
theorem sn.eff {r:b6}(h:sn r):tR σ r:=by
 unfold sn at h
 unfold tR
 split at h
 ·rename_i us e
  exact Fits.agp h
 ·exact h.elim
theorem bt {q:Q T b6}(h:q.ok sn σ):q.ok (tR σ) σ:=by
 have key:∀(q:Q T b6) (σ1:AS),q.ok sn σ1→q.ok (tR σ) σ1:=by
  intro q
  induction q with
  |ret a=>intro σ1 h;exact sn.eff h
  |fail=>intro σ1 h;trivial
  |opt o k ih=>intro σ1 h y hy;exact ih y σ1 (h y hy)
  |fi b k ih=>intro σ1 h;exact ih σ1 h
  |ite b x y Kj Hy=>intro σ1 h;exact⟨Kj σ1 h.1,Hy σ1 h.2⟩
  |row q k ih=>intro σ1 h y hy;exact ih y σ1 (h y hy)
  |len q k ih=>intro σ1 h y;exact ih y σ1 (h y)
  |box q k ih=>intro σ1 h y;exact ih y σ1 (h y)
  |heap q k ih=>intro σ1 h y;exact ih y σ1 (h y)
  |pS q k ih=>intro σ1 h;exact ih σ1 h
  |pT q k ih=>intro σ1 h;exact ih σ1 h
  |call v x k ih=>intro σ1 h y;exact ih y σ1 (h y)
  |all k ih=>intro σ1 h;exact ih σ1 σ1 h
  |on σ' k ih=>intro σ1 h;exact ih σ' h
 exact key q σ h
theorem uX (z:AV):(pv (T:=T) z).ok sn σ:=rfl
theorem O7 (t:Ty)(x:t.den):(CY (T:=T) t x).ok sn σ:=rfl
theorem k8 {β:Type}{f:β→Q T b6}{p:b6→Prop}(hf:∀y,(f y).ok p σ)(o:Option β):(jh f o).ok p σ:=by
 cases o with
 |none=>trivial
 |some y=>exact hf y
theorem aaN (op:BinOp)(b:Bool):(eqV (T:=T) op b).ok sn σ:=by unfold eqV;split<;>first |exact rfl |trivial
theorem agr (rows:List fE)(t:TypeId)(x:AV):(UC (T:=T) rows t x).ok sn σ:=by
 unfold UC
 split
 ·trivial
 ·split
  ·intro bx
   cases bx with
   |cells cs=>exact k8 (fun y=>uX _) _
   |own q=>dsimp only;split<;>first |exact rfl |trivial
   |nil=>trivial
  ·intro row _;intro y hy;exact k8 (fun y=>uX _) _
  ·exact k8 (fun y=>uX _) _
  ·intro hr;intro l hl;intro y hy;exact k8 (fun y=>uX _) _
  ·intro hr;intro l hl;intro y hy;exact k8 (fun y=>uX _) _
  ·trivial
theorem Sj (rows:List fE)(ty:TypeId)(x:AV):(K5 (T:=T) rows ty x).ok sn σ:=by
 unfold K5
 repeat' split
 all_goals first |exact rfl |trivial
theorem ack (op:BinOp)(x y:AV):(adm (T:=T) op x y).ok sn σ:=by
 unfold adm
 repeat' split
 all_goals first |exact rfl |trivial |exact k8 (fun y=>O7 _ _) _
theorem ai2 (op:BinOp)(x y:AV):(adn (T:=T) op x y).ok sn σ:=by
 unfold adn
 repeat' split
 all_goals first |exact aaN _ _ |trivial
theorem ai3 (ty:Ty)(op:BinOp)(x y:AV):(ado (T:=T) ty op x y).ok sn σ:=by
 unfold ado
 repeat' split
 all_goals first |exact aaN _ _ |trivial
theorem ai4 (t:Ty)(op:BinOp)(x y:AV):(afD (T:=T) t op x y).ok sn σ:=by
 unfold afD
 split
 ·exact(aaN op _:Q.ok sn σ (eqV op _))
 ·trivial
theorem ai5 (ty:Ty)(x:AV):(adp (T:=T) ty x).ok sn σ:=by
 unfold adp
 split
 ·exact rfl
 ·exact rfl
 ·intro n;exact rfl
 ·exact rfl
 ·intro hr;intro l hl;exact rfl
 ·trivial
theorem adO (rows:List fE)(t:TypeId)(x i:AV):(OH (T:=T) rows t x i).ok sn σ:=by
 unfold OH
 split
 ·split
  ·split
   ·intro y hy;exact rfl
   ·intro row _ y hy;exact rfl
   ·intro hr l hl y hy;exact rfl
   ·split
    ·show Q.ok _ _ _
     split
     ·split<;>first |exact rfl |trivial
     ·trivial
    ·trivial
   ·trivial
  ·trivial
 ·trivial
theorem adP (rows:List fE)(s:TypeId)(x:AV)(f:Nat):(OI (T:=T) rows s x f).ok sn σ:=by
 unfold OI
 split
 ·show Q.ok _ _ _
  split
  ·split<;>first |exact rfl |trivial
  ·trivial
 ·trivial
theorem ags (rows:List fE)(s d:TypeId)(x:AV):(UD (T:=T) rows s d x).ok sn σ:=by
 unfold UD
 split
 ·split
  ·exact rfl
  ·exact rfl
  ·exact rfl
  ·intro row _;dsimp only;split
   ·exact rfl
   ·trivial
  ·exact rfl
  ·trivial
 ·trivial
theorem adQ (rows:List fE)(av:Operand→AV)(t:TypeId)(x:AV)(lo hi mx:Option Operand):(uR (T:=T) rows av t x lo hi mx).ok sn σ:=by
 unfold uR
 repeat' split
 all_goals first |exact rfl |trivial
theorem adR (rows:List fE)(av:Operand→AV)(t:TypeId)(ps:List (Nat×Operand)):(Bc (T:=T) rows av t ps).ok sn σ:=by
 unfold Bc
 repeat' split
 all_goals first |exact k8 (fun y=>uX _) _ |trivial
theorem O8 (d:Option Tmp)(row:Row):(newRow (T:=T) d row).ok sn σ:=by unfold newRow;split<;>first |exact rfl |trivial
theorem U7 (d:Option Tmp)(x:BX):(zu (T:=T) d x).ok sn σ:=by unfold zu;split<;>first |exact rfl |trivial
theorem EO (h:Nat)(hr:aT)(xs:List (Option (List hr.t.den)))(l:List hr.t.den):(xf (T:=T) h hr xs l).ok sn σ:=rfl
theorem U8 (h:Nat)(hr:aT)(x:hr.t.den):(LQ (T:=T) h hr x).ok sn σ:=rfl
theorem U9 (h n i off:Nat)(vs:List CV):(OJ (T:=T) h n i off vs).ok sn σ:=fun hr l hl y hy y' hy'=>rfl
theorem Va (x:AV)(vs:List CV):(Ig (T:=T) x vs).ok (tR σ) σ:=by
 unfold Ig
 split
 ·exact bt (q:= .box _ _) (by intro bx;dsimp only;split<;>exact rfl)
 ·intro row hrow y hy y' hy'
  refine show tR σ (AV.nil,Eff.mh _) from ?_
  refine⟨?_,trivial⟩
  show (look σ.rows _).map _=_
  rw[hrow]
  simp
 ·exact bt (U9 _ _ _ _ _)
 ·exact bt (U9 _ _ _ _ _)
 ·trivial
theorem Df {p:b6→Prop}(t:Ty)(x:AV)(k:List t.den→Q T b6)(hk:∀l,(k l).ok p σ):(appended t x k).ok p σ:=by
 unfold appended
 split
 ·intro hr l hl y hy;exact hk _
 ·intro y hy;exact hk _
 ·intro row _ y hy;exact hk _
 ·exact hk _
 ·trivial
theorem J4 {p:b6→Prop}(t:Ty)(k:t.den→Q T b6)(hk:∀l,(k l).ok p σ)(c:G2):(Ih t k c).ok p σ:=by
 unfold Ih
 split
 ·intro bx;dsimp only;split
  ·intro y hy;exact hk _
  ·intro row _ y hy;exact hk _
  ·trivial
 ·intro y hy;exact hk _
theorem Sk {p:b6→Prop}:∀(ts:List Ty) (cs:List G2) (k:rB ts→Q T b6),(∀l,(k l).ok p σ)→(xV ts cs k).ok p σ
 | [],[],k,hk=>hk ()
 | [t],[c],k,hk=>J4 t k hk c
 |t::u::ts,c::cs,k,hk=>J4 t _ (fun x=>Sk (u::ts) cs _ fun y=>hk (x,y)) c
 | [],_::_,k,hk=>trivial
 | [_],[],k,hk=>trivial
 | [_],_::_::_,k,hk=>trivial
 |_::_::_,[],k,hk=>trivial
theorem Nu {p:b6→Prop}:∀(hs:List Nat) (acc:List aT) (k:List aT→Q T b6),(∀l,(k l).ok p σ)→(A6 hs acc k).ok p σ
 | [],acc,k,hk=>hk _
 |h::hs,acc,k,hk=>fun hr=>Nu hs _ k hk
theorem acm {q:b6→Prop}(c7:Bool)(nh:Nat)(hout:List Nat)(p:nr)(a:AV)(k:p.den→Q T b6)(hk:∀l,(k l).ok q σ):(adq c7 nh hout p a k).ok q σ:=by
 unfold adq
 split
 ·rename_i t k
  split
  ·intro row _ y hy;exact hk _
  ·cases (OL a&& !(aap t)&&c7) with
   |true=>exact Nu _ _ _ (fun l y hy=>hk _)
   |false=>intro y hy;exact hk _
 ·split
  ·exact Sk _ _ _ hk
  ·trivial
 ·exact hk ()
 ·split
  ·exact J4 _ _ hk _
  ·exact J4 _ _ hk _
  ·trivial
 ·trivial
 ·trivial
theorem YA {q:b6→Prop}(c7:Bool)(nh:Nat)(hout:List Nat):∀(ps:List nr) (as:List AV) (k:F0 ps→Q T b6),(∀l,(k l).ok q σ)→(K7 c7 nh hout ps as k).ok q σ
 | [],[],k,hk=>hk ()
 | [p],[a],k,hk=>acm c7 nh hout p a k hk
 |p::p'::ps,a::as,k,hk=>acm c7 nh hout p a _ (fun x=>YA c7 nh hout (p'::ps) as _ fun y=>hk (x,y))
 | [],_::_,k,hk=>trivial
 | [_],[],k,hk=>trivial
 | [_],_::_::_,k,hk=>trivial
 |_::_::_,[],k,hk=>trivial
theorem YB {q:b6→Prop}(wr:List Nat):∀(hs:List Nat) (k:D4 T hs→Q T b6),(∀l,(k l).ok q σ)→(RD T wr hs k).ok q σ
 | [],k,hk=>hk ()
 | [h],k,hk=>fun hr=>by
   show Q.ok q σ (if e:hr.t=(T.ht h).t then k (PX e hr.xs) else .fail)
   split
   ·exact hk _
   ·trivial
 |h::i::r,k,hk=>fun hr=>by
  show Q.ok q σ (if e:hr.t=(T.ht h).t then RD T wr (i::r) fun y=>k (PX e hr.xs,y) else .fail)
  split
  ·exact YB wr (i::r) _ fun y=>hk _
  ·trivial
theorem Iz {q:b6→Prop}:∀(ts:List LM) (d:Nat) (y:rB (ts.map (·.1))) (k:List TU→Q T b6),(∀l,l.all TU.O6=true→(k l).ok q σ)→(xW d ts y k).ok q σ
 | [],d,y,k,hk=>hk _ rfl
 | [(t,none)],d,y,k,hk=>hk _ rfl
 | [(t,some e)],d,y,k,hk=>by
   simp only[xW]
   split
   ·exact hk _ rfl
   ·trivial
 | (t,none)::u::ts,d,y,k,hk=>Iz (u::ts) (d+1) y.2 k hk
 | (t,some e)::u::ts,d,y,k,hk=>by
   simp only[xW]
   split
   ·exact Iz (u::ts) (d+1) y.2 _ fun l hl=>hk _ (by simp only[List.all_cons,TU.O6,Bool.true_and];exact hl)
   ·trivial
theorem Nv {q:b6→Prop}:∀(ts:List Ty) (d:Nat) (y:rB ts) (k:List TU→List G2→Q T b6),(∀l m,l.all TU.O6=true→(k l m).ok q σ)→(EH d ts y k).ok q σ
 | [],d,y,k,hk=>hk _ _ rfl
 | [t],d,y,k,hk=>hk _ _ rfl
 |t::u::ts,d,y,k,hk=>Nv (u::ts) (d+1) y.2 _ fun l m hl=>hk _ _ (by simp only[List.all_cons,TU.O6,Bool.true_and];exact hl)
theorem adT:∀(ts:List LM) (d:Nat) (y:rB (ts.map (·.1))),(jW d ts y).all TU.O6=true:=fun ts d y=>by
 rw[List.all_eq_true]
 intro u hu
 obtain⟨k,row,_,_,rfl,_⟩:=xu ts d y u hu
 rfl
theorem Sl:∀(hs:List Nat) (x:D4 T hs),(zv T hs x).all TU.O6=true
 | [],_=>rfl
 | [h],_=>rfl
 |h::i::r,x=>by simp only[zv,List.all_cons,TU.O6,Bool.true_and];exact Sl (i::r) _
theorem ai6 (d:Nat)(s:HY)(y:LN s)(us:List TU)(hu:us.all TU.O6=true):(afG T d s y us).ok sn σ:=by
 unfold afG
 have key:∀(x:AV) (vs:List TU),vs.all TU.O6=true→sn (x, .mh (us++vs)):=fun x vs hv=>by
  show (us++vs).all TU.O6=true
  rw[List.all_append,hu,hv];rfl
 split
 ·rename_i a res hps y
  have:=adT res d y
  exact Iz _ _ _ _ (fun l hl=>key _ _ hl)
 ·exact Nv _ _ _ _ fun l m hl=>key _ _ hl
 ·trivial
theorem YC (av:Operand→AV)(st:Option Site)(dst:Option Tmp)(f:FuncId)(aN:List G2)(args:List Operand):(Ii T av st dst f aN args).ok sn σ:=by
 unfold Ii
 dsimp only
 split
 ·exact YA _ _ _ _ _ _ fun x=>YB _ _ _ fun h xh hxh yh=>ai6 _ _ _ _ (Sl _ _)
 ·trivial
end
end Go.Abs
namespace Go.Abs
open Go.RowKit Go.Lib
section
variable {T:cm}{σ:AS}
theorem bT {p:b6→Prop}{k:AS→Q T b6}(h:(k σ).ok p σ):(Q.all k).ok p σ:=h
theorem bU {p:b6→Prop}{b:Bool}{k:Q T b6}(h:k.ok p σ):(Q.fi b k).ok p σ:=h
theorem bV {p:b6→Prop}{q:Nat}{k:Row→Q T b6}(h:∀x,(k x).ok p σ):(Q.row q k).ok p σ:=fun x _=>h x
theorem aZ {p:b6→Prop}{q:Nat}{k:aT→Q T b6}(h:∀x,(k x).ok p σ):(Q.heap q k).ok p σ:=h
theorem bW {p:b6→Prop}{q:Nat}{k:BX→Q T b6}(h:∀x,(k x).ok p σ):(Q.box q k).ok p σ:=h
theorem bX {p:b6→Prop}{β:Type}{q:Option β}{k:β→Q T b6}(h:∀x,(k x).ok p σ):(Q.opt q k).ok p σ:=fun y _=>h y
theorem xY {p:b6→Prop}{r:b6}(h:p r):(Q.ret (T:=T) r).ok p σ:=h
theorem Q.acn {p p':b6→Prop}(hp:∀r,p r→p' r):∀{q:Q T b6} {σ:AS},q.ok p σ→q.ok p' σ:=by
 intro q
 induction q with
 |ret a=>intro σ h;exact hp _ h
 |fail=>intro σ h;trivial
 |opt o k ih=>intro σ h y hy;exact ih y (h y hy)
 |fi b k ih=>intro σ h;exact ih h
 |ite b x y Kj Hy=>intro σ h;exact⟨Kj h.1,Hy h.2⟩
 |row q k ih=>intro σ h y hy;exact ih y (h y hy)
 |len q k ih=>intro σ h y;exact ih y (h y)
 |box q k ih=>intro σ h y;exact ih y (h y)
 |heap q k ih=>intro σ h y;exact ih y (h y)
 |pS q k ih=>intro σ h;exact ih h
 |pT q k ih=>intro σ h;exact ih h
 |call v x k ih=>intro σ h y;exact ih y (h y)
 |all k ih=>intro σ h;exact ih σ h
 |on σ' k ih=>intro σ h;exact ih (σ:=σ') h
theorem jI {z:AV}{σ':AS}(h:Fr σ σ'):tR σ (z, .set σ'):=h
theorem Vb {q:Q T b6}{σ':AS}(h:Fr σ σ'):(q.map fun p=>(p.1,Eff.set σ')).ok (tR σ) σ:=by
 refine aaL (p:=tR σ) ?_
 have key:∀(q:Q T b6) (σ1:AS),q.ok (fun x=>tR σ (x.1,Eff.set σ')) σ1:=by
  intro q
  induction q with
  |ret a=>intro σ1;exact h
  |fail=>intro σ1;trivial
  |opt o k ih=>intro σ1 y hy;exact ih y σ1
  |fi b k ih=>intro σ1;exact ih σ1
  |ite b x y Kj Hy=>intro σ1;exact⟨Kj σ1,Hy σ1⟩
  |row q k ih=>intro σ1 y hy;exact ih y σ1
  |len q k ih=>intro σ1 y;exact ih y σ1
  |box q k ih=>intro σ1 y;exact ih y σ1
  |heap q k ih=>intro σ1 y;exact ih y σ1
  |pS q k ih=>intro σ1;exact ih σ1
  |pT q k ih=>intro σ1;exact ih σ1
  |call v x k ih=>intro σ1 y;exact ih y σ1
  |all k ih=>intro σ1;exact ih σ1 σ1
  |on σ' k ih=>intro σ1;exact ih σ'
 exact key q σ
theorem aki (av:Operand→AV)(sites:List (Nat×Site))(o:Oper):(C5 T av sites o).ok (tR σ) σ:=by
 unfold C5
 dsimp only
 generalize o.dst.bind (look sites)=st
 cases ho:o.op with
 |move x=>exact bt (Sj _ _ _)
 |assign x=>
  dsimp only
  split
  ·((repeat (first |refine bT ?_ |refine bU ?_ |refine bV fun _=> ?_ |refine aZ fun _=> ?_ |refine bW fun _=> ?_ |refine bX fun _=> ?_))<;>(try dsimp only))
   refine xY (jI ?_)
   cases Nat.beq _ _ with
   |true=>exact Fr.refl _
   |false=>exact(fm _).trans (U5 _ _)
  ·split
   ·exact bt (uX _)
   ·split
    ·((repeat (first |refine bT ?_ |refine bU ?_ |refine bV fun _=> ?_ |refine aZ fun _=> ?_ |refine bW fun _=> ?_ |refine bX fun _=> ?_))<;>(try dsimp only))
     exact xY (jI ⟨(fm _).b7,(fm _).sites,(fm _).s,(fm _).tr,(fm _).ks⟩)
    ·exact bt (Sj _ _ _)
  ·exact bt (Sj _ _ _)
 |pick c x y=>
  dsimp only
  split
  ·exact⟨bt (uX (T:=T) (σ:=σ) _),bt (uX (T:=T) (σ:=σ) _)⟩
  ·trivial
 |nilCheck x=>
  dsimp only
  split
  ·((repeat (first |refine bT ?_ |refine bU ?_ |refine bV fun _=> ?_ |refine aZ fun _=> ?_ |refine bW fun _=> ?_ |refine bX fun _=> ?_))<;>(try dsimp only));exact bt (uX (T:=T) (σ:=σ) _)
  ·exact bt (uX (T:=T) (σ:=σ) _)
  ·exact bt (uX (T:=T) (σ:=σ) _)
  ·exact bt (uX (T:=T) (σ:=σ) _)
  ·exact bt (uX (T:=T) (σ:=σ) _)
  ·trivial
 |load t x=>exact bt (agr _ _ _)
 |binOp b t x y u=>
  dsimp only
  split
  ·split
   ·exact bt (ai2 _ _ _)
   ·exact bt (ack _ _ _)
   ·exact bt (ack _ _ _)
   ·((repeat (first |refine bT ?_ |refine bU ?_ |refine bV fun _=> ?_ |refine aZ fun _=> ?_ |refine bW fun _=> ?_ |refine bX fun _=> ?_))<;>(try dsimp only));exact bt (ai4 _ _ _ _)
   ·exact bt (ai3 _ _ _ _)
  ·trivial
 |unOp b t x=>
  dsimp only
  split
  ·exact bt (O7 (T:=T) (σ:=σ) _ _)
  ·exact bt (O7 (T:=T) (σ:=σ) _ _)
  ·trivial
 |convert s d x=>exact bt (ags _ _ _ _)
 |fieldAddr s x f=>exact bt (adP _ _ _ _)
 |indexAddr t x i=>exact bt (adO _ _ _ _)
 |index t x i=>
  dsimp only
  split
  ·split
   ·((repeat (first |refine bT ?_ |refine bU ?_ |refine bV fun _=> ?_ |refine aZ fun _=> ?_ |refine bW fun _=> ?_ |refine bX fun _=> ?_))<;>(try dsimp only));exact bt (O7 (T:=T) (σ:=σ) _ _)
   ·trivial
  ·trivial
 |extract x i=>
  dsimp only
  split
  ·exact bt (k8 (fun y=>uX _) _)
  ·trivial
 |makeFunc f fs cs=>
  cases f with
  |func g=>
   dsimp only
   split
   ·exact bt (k8 (fun y=>uX _) _)
   ·trivial
  |_=>trivial
 |slice t x l u m=>
  dsimp only
  split
  ·split
   ·split
    ·((repeat (first |refine bT ?_ |refine bU ?_ |refine bV fun _=> ?_ |refine aZ fun _=> ?_ |refine bW fun _=> ?_ |refine bX fun _=> ?_))<;>(try dsimp only))
     split
     ·((repeat (first |refine bT ?_ |refine bU ?_ |refine bV fun _=> ?_ |refine aZ fun _=> ?_ |refine bW fun _=> ?_ |refine bX fun _=> ?_))<;>(try dsimp only))
      split
      ·exact xY (jI ⟨rfl,rfl,rfl,oK.refl _,by first |rfl |exact xv _ _⟩)
      ·trivial
     ·trivial
    ·trivial
   ·((repeat (first |refine bT ?_ |refine bU ?_ |refine bV fun _=> ?_ |refine aZ fun _=> ?_ |refine bW fun _=> ?_ |refine bX fun _=> ?_))<;>(try dsimp only))
    exact Vb (fm _)
  ·split
   ·split
    ·((repeat (first |refine bT ?_ |refine bU ?_ |refine bV fun _=> ?_ |refine aZ fun _=> ?_ |refine bW fun _=> ?_ |refine bX fun _=> ?_))<;>(try dsimp only))
     exact⟨bt (uX (T:=T) (σ:=σ) _),bt (EO (T:=T) (σ:=σ) _ _ _ _)⟩
    ·trivial
   ·trivial
  ·exact bt (adQ _ _ _ _ _ _ _)
 |build t ps=>
  dsimp only
  cases ((ps.toList.map (·.2)).any fun x=>wD (av x)) with
  |true=>exact Vb (De _ _)
  |false=>exact bt (adR _ _ _ _)
 |buildSlice t len ps=>
  dsimp only
  split
  ·split
   ·((repeat (first |refine bT ?_ |refine bU ?_ |refine bV fun _=> ?_ |refine aZ fun _=> ?_ |refine bW fun _=> ?_ |refine bX fun _=> ?_))<;>(try dsimp only))
    exact bt (EO (T:=T) (σ:=σ) _ _ _ _)
   ·((repeat (first |refine bT ?_ |refine bU ?_ |refine bV fun _=> ?_ |refine aZ fun _=> ?_ |refine bW fun _=> ?_ |refine bX fun _=> ?_))<;>(try dsimp only))
    cases ((ps.toList.map (·.2)).any fun x=>wD (av x)) with
    |true=>
     ((repeat (first |refine bT ?_ |refine bU ?_ |refine bV fun _=> ?_ |refine aZ fun _=> ?_ |refine bW fun _=> ?_ |refine bX fun _=> ?_))<;>(try dsimp only))
     split
     ·split
      ·exact xY (jI ⟨(De _ σ).b7,(De _ σ).sites,(De _ σ).s,(De _ σ).tr,(De _ σ).ks⟩)
      ·trivial
     ·trivial
    |false=>((repeat (first |refine bT ?_ |refine bU ?_ |refine bV fun _=> ?_ |refine aZ fun _=> ?_ |refine bW fun _=> ?_ |refine bX fun _=> ?_))<;>(try dsimp only));exact bt (O8 _ _)
  ·trivial
 |makeSlice t l c=>
  dsimp only
  split
  ·((repeat (first |refine bT ?_ |refine bU ?_ |refine bV fun _=> ?_ |refine aZ fun _=> ?_ |refine bW fun _=> ?_ |refine bX fun _=> ?_))<;>(try dsimp only))
   split
   ·((repeat (first |refine bT ?_ |refine bU ?_ |refine bV fun _=> ?_ |refine aZ fun _=> ?_ |refine bW fun _=> ?_ |refine bX fun _=> ?_))<;>(try dsimp only));exact bt (EO (T:=T) (σ:=σ) _ _ _ _)
   ·exact bt (O8 _ _)
  ·trivial
 |alloc t=>
  dsimp only
  split
  ·split
   ·((repeat (first |refine bT ?_ |refine bU ?_ |refine bV fun _=> ?_ |refine aZ fun _=> ?_ |refine bW fun _=> ?_ |refine bX fun _=> ?_))<;>(try dsimp only));exact bt (U8 (T:=T) (σ:=σ) _ _ _)
   ·split
    ·exact bt (q:= .pT _ (.pS _ (.ret _))) rfl
    ·exact bt (U7 _ _)
  ·trivial
 |box t v=>
  dsimp only
  split
  ·split
   ·((repeat (first |refine bT ?_ |refine bU ?_ |refine bV fun _=> ?_ |refine aZ fun _=> ?_ |refine bW fun _=> ?_ |refine bX fun _=> ?_))<;>(try dsimp only))
    split
    ·split
     ·exact xY (jI ⟨(fm _).b7,(fm _).sites,(fm _).s,(fm _).tr,(fm _).ks⟩)
     ·trivial
    ·trivial
   ·refine k8 (fun vs=> ?_) _
    ((repeat (first |refine bT ?_ |refine bU ?_ |refine bV fun _=> ?_ |refine aZ fun _=> ?_ |refine bW fun _=> ?_ |refine bX fun _=> ?_))<;>(try dsimp only))
    split
    ·((repeat (first |refine bT ?_ |refine bU ?_ |refine bV fun _=> ?_ |refine aZ fun _=> ?_ |refine bW fun _=> ?_ |refine bX fun _=> ?_))<;>(try dsimp only));exact bt (U8 (T:=T) (σ:=σ) _ _ _)
    ·exact bt (U7 _ _)
  ·trivial
 |store t x v=>
  dsimp only
  split
  ·split
   ·((repeat (first |refine bT ?_ |refine bU ?_ |refine bV fun _=> ?_ |refine aZ fun _=> ?_ |refine bW fun _=> ?_ |refine bX fun _=> ?_))<;>(try dsimp only))
    cases Nat.beq _ _ with
    |true=>exact xY (jI ⟨rfl,rfl,rfl,oK.refl _,by first |rfl |exact xv _ _⟩)
    |false=>exact xY (jI (U6 ((fm _).trans (U5 _ _)) _ _))
   ·rename_i q hnb e1
    ((repeat (first |refine bT ?_ |refine bU ?_ |refine bV fun _=> ?_ |refine aZ fun _=> ?_ |refine bW fun _=> ?_ |refine bX fun _=> ?_))<;>(try dsimp only))
    refine aaL (p:=tR σ) ?_
    refine Q.acn (σ:=σ.freeze q) (p:=tR (σ.freeze q)) (fun r hr=> ?_) (k8 (fun vs=>by ((repeat (first |refine bT ?_ |refine bU ?_ |refine bV fun _=> ?_ |refine aZ fun _=> ?_ |refine bW fun _=> ?_ |refine bX fun _=> ?_))<;>(try dsimp only));exact Va _ _) _)
    show tR σ _
    unfold tR at hr
    split at hr
    ·rename_i us e
     rw[e]
     exact jI ((fm _).trans (Fr.app _ us))
    ·rename_i s e
     rw[e]
     exact jI ((fm _).trans hr)
   ·split
    ·((repeat (first |refine bT ?_ |refine bU ?_ |refine bV fun _=> ?_ |refine aZ fun _=> ?_ |refine bW fun _=> ?_ |refine bX fun _=> ?_))<;>(try dsimp only))
     exact xY (jI (U6 (fm _) _ _))
    ·trivial
   ·exact k8 (fun vs=>by ((repeat (first |refine bT ?_ |refine bU ?_ |refine bV fun _=> ?_ |refine aZ fun _=> ?_ |refine bW fun _=> ?_ |refine bX fun _=> ?_))<;>(try dsimp only));exact Va _ _) _
  ·trivial
 |call c=>
  obtain⟨callee,args,ats⟩:=c
  cases callee with
  |value f=>
   dsimp only
   split
   ·((repeat (first |refine bT ?_ |refine bU ?_ |refine bV fun _=> ?_ |refine aZ fun _=> ?_ |refine bW fun _=> ?_ |refine bX fun _=> ?_))<;>(try dsimp only))
    split
    ·rename_i t xs htr
     ((repeat (first |refine bT ?_ |refine bU ?_ |refine bV fun _=> ?_ |refine aZ fun _=> ?_ |refine bW fun _=> ?_ |refine bX fun _=> ?_))<;>(try dsimp only))
     refine xY (jI ⟨rfl,rfl,rfl, .inr ⟨t,xs,[_],htr,rfl⟩,rfl⟩)
    ·trivial
   ·split
    ·cases ((args.toList.any fun x=>wD (av x))&& !(jU T (T.sig ((RC T st _ (args.toList.map av++List.map UE _)).getD 0)))) with
     |true=>
      ((repeat (first |refine bT ?_ |refine bU ?_ |refine bV fun _=> ?_ |refine aZ fun _=> ?_ |refine bW fun _=> ?_ |refine bX fun _=> ?_))<;>(try dsimp only))
      refine aaL (p:=tR σ) ?_
      refine Q.acn (σ:=σ.uP args.toList) (p:=sn) (fun r hr=> ?_) (YC _ _ _ _ _ _)
      show tR σ _
      unfold sn at hr
      split at hr
      ·rename_i us e
       rw[e]
       exact jI ((De _ σ).trans (Fr.app _ us))
      ·exact hr.elim
     |false=>exact bt (YC _ _ _ _ _ _)
    ·trivial
  |builtin b=>
   cases b with
   |len=>
    dsimp only
    split
    ·split
     ·exact bt (ai5 _ _)
     ·trivial
    ·trivial
   |max=>
    dsimp only
    split
    ·split
     ·exact bt (O7 (T:=T) (σ:=σ) _ _)
     ·trivial
    ·trivial
   |min=>
    dsimp only
    split
    ·split
     ·exact bt (O7 (T:=T) (σ:=σ) _ _)
     ·trivial
    ·trivial
   |append=>
    dsimp only
    split
    ·((repeat (first |refine bT ?_ |refine bU ?_ |refine bV fun _=> ?_ |refine aZ fun _=> ?_ |refine bW fun _=> ?_ |refine bX fun _=> ?_))<;>(try dsimp only))
     split
     ·split
      ·((repeat (first |refine bT ?_ |refine bU ?_ |refine bV fun _=> ?_ |refine aZ fun _=> ?_ |refine bW fun _=> ?_ |refine bX fun _=> ?_))<;>(try dsimp only))
       refine Df _ _ _ fun ys=> ?_
       ((repeat (first |refine bT ?_ |refine bU ?_ |refine bV fun _=> ?_ |refine aZ fun _=> ?_ |refine bW fun _=> ?_ |refine bX fun _=> ?_))<;>(try dsimp only))
       split
       ·((repeat (first |refine bT ?_ |refine bU ?_ |refine bV fun _=> ?_ |refine aZ fun _=> ?_ |refine bW fun _=> ?_ |refine bX fun _=> ?_))<;>(try dsimp only))
        split
        ·exact xY (jI ⟨rfl,rfl,rfl,oK.refl _,by first |rfl |exact xv _ _⟩)
        ·trivial
       ·trivial
      ·((repeat (first |refine bT ?_ |refine bU ?_ |refine bV fun _=> ?_ |refine aZ fun _=> ?_ |refine bW fun _=> ?_ |refine bX fun _=> ?_))<;>(try dsimp only))
       refine Df _ _ _ fun ys=> ?_
       ((repeat (first |refine bT ?_ |refine bU ?_ |refine bV fun _=> ?_ |refine aZ fun _=> ?_ |refine bW fun _=> ?_ |refine bX fun _=> ?_))<;>(try dsimp only));exact⟨bt (uX (T:=T) (σ:=σ) _),bt (EO (T:=T) (σ:=σ) _ _ _ _)⟩
      ·split
       ·((repeat (first |refine bT ?_ |refine bU ?_ |refine bV fun _=> ?_ |refine aZ fun _=> ?_ |refine bW fun _=> ?_ |refine bX fun _=> ?_))<;>(try dsimp only))
        refine Df _ _ _ fun ys=> ?_
        ((repeat (first |refine bT ?_ |refine bU ?_ |refine bV fun _=> ?_ |refine aZ fun _=> ?_ |refine bW fun _=> ?_ |refine bX fun _=> ?_))<;>(try dsimp only));exact⟨bt (uX (T:=T) (σ:=σ) _),bt (EO (T:=T) (σ:=σ) _ _ _ _)⟩
       ·refine Df _ _ _ fun ys=> ?_
        ((repeat (first |refine bT ?_ |refine bU ?_ |refine bV fun _=> ?_ |refine aZ fun _=> ?_ |refine bW fun _=> ?_ |refine bX fun _=> ?_))<;>(try dsimp only));exact bt (O8 _ _)
      ·trivial
     ·trivial
    ·trivial
   |_=>trivial
  |invoke x n=>trivial
 |_=>trivial
end
end Go.Abs
namespace Go.Abs
open Go.RowKit Go.Lib
def mG (σ σ2:AS)(k:Nat):Prop:=(∀r,k=4*r→look σ2.rows r=look σ.rows r)∧(∀b,k=2*b+1→look σ2.boxes b=look σ.boxes b)∧
 (∀r,k=4*r+2→(look σ2.rows r).map (fun row=>row.xs.length)=(look σ.rows r).map (fun row=>row.xs.length))∧∀h,k=hk h→σ2.ae[h]? =σ.ae[h]?
def agt:lR→List Nat
 | .M r _=>r
 |_=>[]
def WE:lR→List Nat
 | .M _ w=>w
 |_=>[]
theorem mG.refl (σ:AS)(k:Nat):mG σ σ k:=⟨fun _ _=>rfl,fun _ _=>rfl,fun _ _=>rfl,fun _ _=>rfl⟩
theorem mG.trans {σ σ1 σ2:AS}{k:Nat}(h1:mG σ σ1 k)(h2:mG σ1 σ2 k):mG σ σ2 k:=
 ⟨fun r e=>(h2.1 r e).trans (h1.1 r e),fun b e=>(h2.2.1 b e).trans (h1.2.1 b e),fun r e=>(h2.2.2.1 r e).trans (h1.2.2.1 r e),fun r e=>(h2.2.2.2 r e).trans (h1.2.2.2 r e)⟩
theorem mG.symm {σ σ1:AS}{k:Nat}(h1:mG σ σ1 k):mG σ1 σ k:=⟨fun r e=>(h1.1 r e).symm,fun b e=>(h1.2.1 b e).symm,fun r e=>(h1.2.2.1 r e).symm,fun r e=>(h1.2.2.2 r e).symm⟩
section
variable {T:cm}{Φ:bF T}{α:Type}
abbrev Q.go (Φ:bF T)(σ:AS)(q:Q T α)(c:lR):Option (lR×α):=q.run Φ σ c fun c a=>some (c,a)
theorem Rn {R:Type}{k:lR→α→Option R}:∀(q:Q T α) (σ:AS) (c:lR),q.run Φ σ c k=(q.go Φ σ c).bind fun p=>k p.1 p.2:=by
 intro q
 induction q with
 |ret a=>intro σ c;rfl
 |fail=>intro σ c;rfl
 |opt o q ih=>intro σ c;cases o with
  |none=>rfl
  |some y=>exact ih y σ c
 |fi b q ih=>intro σ c;cases b
             ·rfl
             ·exact ih σ c
 |ite b x y Kj Hy=>intro σ c;cases b
                   ·exact Hy σ c
                   ·exact Kj σ c
 |row r q ih=>intro σ c;simp only[Q.go,Q.run];split
              ·exact ih _ σ _
              ·rfl
 |len r q ih=>intro σ c;simp only[Q.go,Q.run];split
              ·exact ih _ σ _
              ·rfl
 |box r q ih=>intro σ c;simp only[Q.go,Q.run];split
              ·exact ih _ σ _
              ·rfl
 |heap r q ih=>intro σ c;simp only[Q.go,Q.run];split
               ·exact ih _ σ _
               ·rfl
 |pS r q ih=>intro σ c;simp only[Q.go,Q.run];split
             ·exact ih σ _
             ·rfl
 |pT r q ih=>intro σ c;simp only[Q.go,Q.run];split
             ·exact ih σ _
             ·rfl
 |call v x q ih=>intro σ c;simp only[Q.go,Q.run];cases Φ v x with
  |none=>rfl
  |some y=>exact ih y σ c
 |all q ih=>intro σ c;exact ih σ σ .X
 |on σ' q ih=>intro σ c;exact ih σ' .X
theorem anl:∀(q:Q T α) (σ:AS) (c':lR) (r:α),q.go Φ σ .X=some (c',r)→c'= .X:=by
 intro q
 induction q with
 |ret a=>intro σ c' r h;simp only[Q.go,Q.run,Option.some.injEq,Prod.mk.injEq] at h;exact h.1.symm
 |fail=>intro σ c' r h;cases h
 |opt o q ih=>intro σ c' r h;cases o with
  |none=>cases h
  |some y=>exact ih y σ c' r h
 |fi b q ih=>intro σ c' r h;cases b
             ·cases h
             ·exact ih σ c' r h
 |ite b x y Kj Hy=>intro σ c' r h;cases b
                   ·exact Hy σ c' r h
                   ·exact Kj σ c' r h
 |row q k ih=>intro σ c' r h;simp only[Q.go,Q.run] at h;split at h
              ·exact ih _ σ c' r h
              ·cases h
 |len q k ih=>intro σ c' r h;simp only[Q.go,Q.run] at h;split at h
              ·exact ih _ σ c' r h
              ·cases h
 |box q k ih=>intro σ c' r h;simp only[Q.go,Q.run] at h;split at h
              ·exact ih _ σ c' r h
              ·cases h
 |heap q k ih=>intro σ c' r h;simp only[Q.go,Q.run] at h;split at h
               ·exact ih _ σ c' r h
               ·cases h
 |pS q k ih=>intro σ c' r h;simp only[Q.go,Q.run] at h;split at h
             ·exact ih σ c' r h
             ·cases h
 |pT q k ih=>intro σ c' r h;simp only[Q.go,Q.run] at h;split at h
             ·exact ih σ c' r h
             ·cases h
 |call v x q ih=>intro σ c' r h;simp only[Q.go,Q.run,Option.bind_eq_some_iff] at h;obtain⟨y,_,h⟩:=h;exact ih y σ c' r h
 |all q ih=>intro σ c' r h;exact ih σ σ c' r h
 |on σ' q ih=>intro σ c' r h;exact ih σ' c' r h
theorem ai7:∀(q:Q T α) (σ:AS) (rd wr:List Nat) (c':lR) (r:α),q.go Φ σ (.M rd wr)=some (c',r)→c'≠ .X→
  ∃l,c'= .M (l++rd) wr∧∀σ2,(∀k∈l,mG σ σ2 k)→q.go Φ σ2 (.M rd wr)=some (c',r):=by
 intro q
 induction q with
 |ret a=>intro σ rd wr c' r h hc;simp only[Q.go,Q.run,Option.some.injEq,Prod.mk.injEq] at h;obtain⟨rfl,rfl⟩:=h;exact⟨[],rfl,fun σ2 _=>rfl⟩
 |fail=>intro σ rd wr c' r h hc;cases h
 |opt o q ih=>intro σ rd wr c' r h hc;cases o with
  |none=>cases h
  |some y=>exact ih y σ rd wr c' r h hc
 |fi b q ih=>intro σ rd wr c' r h hc;cases b
             ·cases h
             ·exact ih σ rd wr c' r h hc
 |ite b x y Kj Hy=>intro σ rd wr c' r h hc;cases b
                   ·exact Hy σ rd wr c' r h hc
                   ·exact Kj σ rd wr c' r h hc
 |row q k ih=>
  intro σ rd wr c' r h hc
  simp only[Q.go,Q.run] at h
  split at h
  ·rename_i x hx
   obtain⟨l,h1,h2⟩:=ih x σ (4*q::rd) wr c' r h hc
   refine⟨l++[4*q],by rw[h1];simp,fun σ2 hs=> ?_⟩
   have:=(hs (4*q) (by simp)).1 q rfl
   simp only[Q.go,Q.run,this,hx]
   exact h2 σ2 (fun k hk=>hs k (by simp[hk]))
  ·cases h
 |len q k ih=>
  intro σ rd wr c' r h hc
  simp only[Q.go,Q.run] at h
  split at h
  ·rename_i x hx
   obtain⟨l,h1,h2⟩:=ih _ σ ((4*q+2)::rd) wr c' r h hc
   refine⟨l++[4*q+2],by rw[h1];simp,fun σ2 hs=> ?_⟩
   have:=(hs (4*q+2) (by simp)).2.2.1 q rfl
   rw[hx] at this
   obtain⟨x2,hx2,hl⟩:=Option.map_eq_some_iff.1 this
   simp only[Q.go,Q.run,hx2,hl]
   exact h2 σ2 (fun k hk=>hs k (by simp[hk]))
  ·cases h
 |box q k ih=>
  intro σ rd wr c' r h hc
  simp only[Q.go,Q.run] at h
  split at h
  ·rename_i x hx
   obtain⟨l,h1,h2⟩:=ih x σ ((2*q+1)::rd) wr c' r h hc
   refine⟨l++[2*q+1],by rw[h1];simp,fun σ2 hs=> ?_⟩
   have:=(hs (2*q+1) (by simp)).2.1 q rfl
   simp only[Q.go,Q.run,this,hx]
   exact h2 σ2 (fun k hk=>hs k (by simp[hk]))
  ·cases h
 |heap q k ih=>
  intro σ rd wr c' r h hc
  simp only[Q.go,Q.run] at h
  split at h
  ·rename_i x hx
   obtain⟨l,h1,h2⟩:=ih x σ (hk q::rd) wr c' r h hc
   refine⟨l++[hk q],by rw[h1];simp,fun σ2 hs=> ?_⟩
   have:=(hs (hk q) (by simp)).2.2.2 q rfl
   simp only[Q.go,Q.run,this,hx]
   exact h2 σ2 (fun k hk=>hs k (by simp[hk]))
  ·cases h
 |pS q k ih=>
  intro σ rd wr c' r h hc
  simp only[Q.go,Q.run] at h
  split at h
  ·rename_i hx
   obtain⟨l,h1,h2⟩:=ih σ (4*q::rd) wr c' r h hc
   refine⟨l++[4*q],by rw[h1];simp,fun σ2 hs=> ?_⟩
   have:=(hs (4*q) (by simp)).1 q rfl
   simp only[Q.go,Q.run,this,hx]
   exact h2 σ2 (fun k hk=>hs k (by simp[hk]))
  ·cases h
 |pT q k ih=>
  intro σ rd wr c' r h hc
  simp only[Q.go,Q.run] at h
  split at h
  ·rename_i hx
   obtain⟨l,h1,h2⟩:=ih σ ((2*q+1)::rd) wr c' r h hc
   refine⟨l++[2*q+1],by rw[h1];simp,fun σ2 hs=> ?_⟩
   have:=(hs (2*q+1) (by simp)).2.1 q rfl
   simp only[Q.go,Q.run,this,hx]
   exact h2 σ2 (fun k hk=>hs k (by simp[hk]))
  ·cases h
 |call v x q ih=>
  intro σ rd wr c' r h hc
  simp only[Q.go,Q.run,Option.bind_eq_some_iff] at h
  obtain⟨y,hy,h⟩:=h
  obtain⟨l,h1,h2⟩:=ih y σ rd wr c' r h hc
  exact⟨l,h1,fun σ2 hs=>by simp only[Q.go,Q.run,hy,Option.bind_some];exact h2 σ2 hs⟩
 |all q ih=>intro σ rd wr c' r h hc;exact absurd (anl (q σ) σ c' r h) hc
 |on σ' q ih=>intro σ rd wr c' r h hc;exact absurd (anl q σ' c' r h) hc
end
section
variable {T:cm}{av OZ:Operand→AV}
theorem Gj {d:Int}{x:Option Operand}(h:∀y,x=some y→OZ y=av y):iq OZ d x=iq av d x:=by
 cases x with
 |none=>rfl
 |some y=>simp only[iq,h y rfl]
theorem Lb {qa:List (Nat×Nat)}:∀(parts:List (Nat×Operand)) (cs:List CV),(∀p∈parts,OZ p.2=av p.2)→partsOf OZ qa parts cs=partsOf av qa parts cs
 | [],cs,h=>rfl
 | (i,x)::r,cs,h=>by
   have hx:=h (i,x) (by simp)
   simp only at hx
   have ih:=fun cs=>Lb (qa:=qa) r cs (fun p hp=>h p (by simp[hp]))
   simp only[partsOf,hx,ih]
theorem P8 {t:Ty}:∀(parts:List (Nat×Operand)) (xs:List t.den),(∀p∈parts,OZ p.2=av p.2)→elems OZ t parts xs=elems av t parts xs
 | [],cs,h=>rfl
 | (i,x)::r,cs,h=>by
   have hx:=h (i,x) (by simp)
   simp only at hx
   have ih:=fun cs=>P8 (t:=t) r cs (fun p hp=>h p (by simp[hp]))
   simp only[elems,hx,ih]
theorem WG {xs:List Operand}(h:∀x∈xs,OZ x=av x):xs.any (fun x=>wD (OZ x))=xs.any (fun x=>wD (av x)):=by
 induction xs with
 |nil=>rfl
 |cons x xs ih=>
  simp only[List.any_cons]
  rw[h x (by simp),ih (fun y hy=>h y (by simp[hy]))]
theorem Lc {α β:Type}{f g:α→Option β}:∀{xs:List α},(∀x∈xs,f x=g x)→ll f xs=ll g xs
 | [],_=>rfl
 |x::xs,h=>by simp only[ll,h x (by simp),Lc (xs:=xs) (fun y hy=>h y (by simp[hy]))]
theorem Vd {xs:List Operand}(h:∀x∈xs,OZ x=av x):xs.map OZ=xs.map av:=List.map_congr_left h
theorem YD {st:Option Site}{dst:Option Tmp}{f:FuncId}{aN:List G2}{args:List Operand}(h:∀x∈args,OZ x=av x):Ii T OZ st dst f aN args=Ii T av st dst f aN args:=by
 unfold Ii
 rw[Vd h]
theorem adU {sites:List (Nat×Site)}{o:Oper}(h:∀x∈o.op.operands,OZ x=av x):C5 T OZ sites o=C5 T av sites o:=by
 unfold C5
 dsimp only
 generalize o.dst.bind (look sites)=st
 cases ho:o.op with
 |move x=>have hx:=h x (by simp[ho,Op.operands]);simp only[hx]
 |assign x=>have hx:=h x (by simp[ho,Op.operands]);simp only[hx]
 |pick c x y=>
  have h1:=h c (by simp[ho,Op.operands]);have h2:=h x (by simp[ho,Op.operands]);have h3:=h y (by simp[ho,Op.operands])
  simp only[h1,h2,h3]
 |nilCheck x=>have hx:=h x (by simp[ho,Op.operands]);simp only[hx]
 |load t x=>have hx:=h x (by simp[ho,Op.operands]);simp only[hx]
 |binOp b t x y u=>have h1:=h x (by simp[ho,Op.operands]);have h2:=h y (by simp[ho,Op.operands]);simp only[h1,h2]
 |unOp b t x=>have hx:=h x (by simp[ho,Op.operands]);simp only[hx]
 |convert s d x=>have hx:=h x (by simp[ho,Op.operands]);simp only[hx]
 |fieldAddr s x f=>have hx:=h x (by simp[ho,Op.operands]);simp only[hx]
 |indexAddr t x i=>have h1:=h x (by simp[ho,Op.operands]);have h2:=h i (by simp[ho,Op.operands]);simp only[h1,h2]
 |index t x i=>have h1:=h x (by simp[ho,Op.operands]);have h2:=h i (by simp[ho,Op.operands]);simp only[h1,h2]
 |extract x i=>have hx:=h x (by simp[ho,Op.operands]);simp only[hx]
 |makeFunc f fs cs=>
  cases f with
  |func g=>
   dsimp only
   split
   ·exact congrArg (jh _) (Lc fun x hx=>by
     have:=h x (by simp only[ho,Op.operands,Array.mem_append];exact .inr (by simpa using hx))
     rw[this])
   ·rfl
  |_=>rfl
 |slice t x l u m=>
  have hx:=h x (by simp[ho,Op.operands])
  have hl:∀d,iq OZ d l=iq av d l:=fun d=>Gj (fun y e=>h y (by subst e;simp[ho,Op.operands]))
  have hu:∀d,iq OZ d u=iq av d u:=fun d=>Gj (fun y e=>h y (by subst e;simp[ho,Op.operands]))
  have hm:∀d,iq OZ d m=iq av d m:=fun d=>Gj (fun y e=>h y (by subst e;simp[ho,Op.operands]))
  have hs:∀z,uR (T:=T) T.rows OZ t z l u m=uR T.rows av t z l u m:=fun z=>by
   unfold uR
   simp only[hl,hu]
   cases m with
   |none=>rfl
   |some mm=>cases u with
    |none=>rfl
    |some uu=>
     have e1:=hu 0
     have e2:=hm 0
     simp only[e1,e2]
  simp only[hx,hs]
  cases u with
  |none=>cases l<;>cases m<;>rfl
  |some uu=>
   have e1:=h uu (by simp[ho,Op.operands])
   cases l<;>cases m<;>first |rfl |simp only[e1]
 |build t ps=>
  have hp:∀p∈ps.toList,OZ p.2=av p.2:=fun p hp=>h p.2 (by simp only[ho,Op.operands,List.mem_toArray,List.mem_map];exact⟨p,hp,rfl⟩)
  have ha:=WG (xs:=ps.toList.map (·.2)) (fun x hx=>by obtain⟨p,h1,rfl⟩:=List.mem_map.1 hx;exact hp p h1)
  have hb:Bc (T:=T) T.rows OZ t ps.toList=Bc T.rows av t ps.toList:=by
   unfold Bc
   simp only[Lb _ _ hp]
  simp only[ha,hb]
 |buildSlice t len ps=>
  have hp:∀p∈ps.toList,OZ p.2=av p.2:=fun p hp=>h p.2 (by simp only[ho,Op.operands,List.mem_toArray,List.mem_map];exact⟨p,hp,rfl⟩)
  have ha:=WG (xs:=ps.toList.map (·.2)) (fun x hx=>by obtain⟨p,h1,rfl⟩:=List.mem_map.1 hx;exact hp p h1)
  have he:∀(u:Ty) (l:List u.den),elems OZ u ps.toList l=elems av u ps.toList l:=fun u l=>P8 _ _ hp
  simp only[ha,he]
 |makeSlice t l c=>have h1:=h l (by simp[ho,Op.operands]);have h2:=h c (by simp[ho,Op.operands]);simp only[h1,h2]
 |alloc t=>rfl
 |box t v=>have hx:=h v (by simp[ho,Op.operands]);simp only[hx]
 |store t x v=>have h1:=h x (by simp[ho,Op.operands]);have h2:=h v (by simp[ho,Op.operands]);simp only[h1,h2]
 |call c=>
  obtain⟨callee,args,ats⟩:=c
  have hargs:∀x∈args.toList,OZ x=av x:=fun x hx=>h x (by simp only[ho,Op.operands,Call.operands];cases callee<;>simp<;>(try right)<;>simpa using hx)
  cases callee with
  |value f=>
   have hf:=h f (by simp[ho,Op.operands,Call.operands])
   simp only[hf,Vd hargs,WG hargs,YD hargs]
  |builtin b=>
   cases b with
   |len=>
    dsimp only
    split
    ·rename_i x t hx ht
     have h1:=hargs x (by rw[hx];simp)
     simp only[h1]
    ·rfl
   |max=>
    dsimp only
    split
    ·rename_i x y hx
     have h1:=hargs x (by rw[hx];simp)
     have h2:=hargs y (by rw[hx];simp)
     simp only[h1,h2]
    ·rfl
   |min=>
    dsimp only
    split
    ·rename_i x y hx
     have h1:=hargs x (by rw[hx];simp)
     have h2:=hargs y (by rw[hx];simp)
     simp only[h1,h2]
    ·rfl
   |append=>
    dsimp only
    split
    ·rename_i s x t tx hx ht
     have h1:=hargs s (by rw[hx];simp)
     have h2:=hargs x (by rw[hx];simp)
     simp only[h1,h2]
    ·rfl
   |_=>rfl
  |invoke x n=>rfl
 |_=>rfl
end
end Go.Abs
namespace Go.Abs
open Go.RowKit Go.Lib
section
variable {P:Program}{T:cm}{E:Env}{σ σ1 σ2:AS}{Φ:bF T}{ops:Array Oper}
theorem agu (u:TU):(σ.one u).tmps=σ.tmps:=by cases u<;>rfl
theorem adV (u:TU):(σ.one u).sites=σ.sites:=by cases u<;>rfl
theorem IA:∀(us:List TU) (σ:AS),(σ.app us).tmps=σ.tmps
 | [],σ=>rfl
 |u::us,σ=>by rw[AS.app,IA us,agu]
theorem O9:∀(us:List TU) (σ:AS),(σ.app us).sites=σ.sites
 | [],σ=>rfl
 |u::us,σ=>by rw[AS.app,O9 us,adV]
theorem Sn (d:Option Tmp)(v:AV):(σ.iH d v).sites=σ.sites:=by cases d<;>rfl
theorem agv (d:Option Tmp)(v:AV):(σ.iH d v).tmps.s=σ.tmps.s:=by
 cases d with
 |none=>rfl
 |some d=>simp only[AS.iH,CX];cases Nat.blt d σ.tmps.n<;>rfl
theorem YE (d:Option Tmp)(v:AV):(σ.iH d v).rows=σ.rows∧(σ.iH d v).boxes=σ.boxes∧(σ.iH d v).ae=σ.ae:=by cases d<;>exact⟨rfl,rfl,rfl⟩
theorem agw {R:Type}(o:Oper)(k:lR→AS→Option R):Kk T Φ σ o k=(Kk T Φ σ o (fun c s=>some (c,s))).bind fun p=>k p.1 p.2:=by
 rw[JR,JR]
 rw[Rn]
 conv=>rhs;rw[Rn]
 cases (C5 T σ.av σ.sites o).go Φ σ (.M [] []) with
 |none=>rfl
 |some p=>
  obtain⟨c,r1,r2⟩:=p
  cases r2<;>rfl
theorem YF {o:Oper}{c:lR}{σ':AS}(he:Kk T Φ σ o (fun c s=>some (c,s))=some (c,σ')):∃r,(C5 T σ.av σ.sites o).val Φ σ=some r∧σ'=aU σ o.dst r:=by
 rw[JR] at he
 obtain⟨c',r,h1,h2⟩:=ab4 _ _ he
 refine⟨r,h1, ?_⟩
 unfold aU
 split at h2
 ·rename_i us e;first | (rw[e];simp only[Option.some.injEq,Prod.mk.injEq] at h2;exact h2.2.symm) | (simp only[Option.some.injEq,Prod.mk.injEq] at h2;exact h2.2.symm)
 ·rename_i s e;first | (rw[e];simp only[Option.some.injEq,Prod.mk.injEq] at h2;exact h2.2.symm) | (simp only[Option.some.injEq,Prod.mk.injEq] at h2;exact h2.2.symm)
theorem ai8 {σ2:AS}{xs:Array Operand}(hs:σ2.tmps.s=σ.tmps.s)(h:∀t, .tmp t∈xs→nth σ2.tmps t=nth σ.tmps t):∀x∈xs,σ2.av x=σ.av x:=by
 intro x hx
 cases x with
 |tmp t=>exact h t hx
 |const v=>rfl
 |global g=>simp only[AS.av,eT.av,hs]
 |func f=>rfl
def Local (T:cm)(Φ:bF T)(σ:AS)(o:Oper)(c:lR)(σ':AS):Prop:=
 ∃v us,σ'=(σ.app us).iH o.dst v∧(∀u∈us,∀k∈u.keys,k∈WE c)∧Fits σ us∧∀σ2:AS,σ2.sites=σ.sites→(∀x∈o.op.operands,σ2.av x=σ.av x)→(∀k,k∈agt c∨k∈WE c→mG σ σ2 k)→
  Kk T Φ σ2 o (fun c s=>some (c,s))=some (c,(σ2.app us).iH o.dst v)
theorem agx {o:Oper}{c:lR}{σ':AS}(he:Kk T Φ σ o (fun c s=>some (c,s))=some (c,σ'))(hc:c≠ .X):Local T Φ σ o c σ':=by
 have he0:=he
 rw[JR] at he
 rw[Rn,Option.bind_eq_some_iff] at he
 obtain⟨⟨c',r⟩,h1,h2⟩:=he
 have hv:(C5 T σ.av σ.sites o).val Φ σ=some r:=by
  obtain⟨c2,r2,h3,h4⟩:=ab4 _ _ h1
  simp only[Option.some.injEq,Prod.mk.injEq] at h4
  rw[←h4.2];exact h3
 have hok:=ago (aki σ.av σ.sites o) hv
 dsimp only at h2
 unfold tR at hok
 split at h2
 ·rename_i us e
  rw[e] at hok
  simp only[Option.some.injEq,Prod.mk.injEq] at h2
  obtain⟨rfl,rfl⟩:=h2
  have hc':c'≠ .X:=fun e'=>hc (by rw[e'];rfl)
  obtain⟨l,rfl,hl⟩:=ai7 _ _ _ _ _ _ h1 hc'
  refine⟨r.1,us,rfl,fun u hu k hk=> ?_,hok,fun σ2 hs pW hk=> ?_⟩
  ·show k∈XY us++[]
   rw[List.append_nil]
   exact List.mem_flatMap.2 ⟨u,hu,hk⟩
  ·rw[JR]
   rw[adU (av:=σ.av) pW,hs,Rn]
   rw[hl σ2 (fun k hk'=>hk k (.inl (by show k∈l++[];simpa using hk')))]
   simp only[Option.bind_some,e]
 ·simp only[Option.some.injEq,Prod.mk.injEq] at h2
  exact absurd h2.1.symm hc
theorem YG (l:eT)(t d:Nat)(v:AV)(h:t≠d):nth (CX l d v) t=nth l t:=by
 unfold CX
 cases Nat.blt d l.n with
 |true=>simp only[cond_true,nth,UG,if_neg (Ne.symm h)]
 |false=>rfl
theorem adW {α:Type}(l:List (Nat×α)){i j:Nat}(u v:α)(h:i≠j):LP (LP l i u) j v=LP (LP l j v) i u:=by
 have PY:∀{a b:Nat},a<b→Nat.blt a b=true:=fun h=>(sT _ _).2 h
 have PZ:∀{a b:Nat},¬a<b→Nat.blt a b=false:=fun h=>by
  cases hb:Nat.blt _ _
  ·rfl
  ·exact absurd ((sT _ _).1 hb) h
 induction l with
 |nil=>
  rcases Nat.lt_or_gt_of_ne h with h1 |h1
  ·simp[LP,PY h1,PZ (show ¬j<i by omega),lS (Ne.symm h)]
  ·simp[LP,PY h1,PZ (show ¬i<j by omega),lS h]
 |cons p r ih=>
  obtain⟨k,x⟩:=p
  rcases Nat.lt_trichotomy k i with h1 |h1 |h1<;>rcases Nat.lt_trichotomy k j with h2 |h2 |h2<;>rcases Nat.lt_or_gt_of_ne h with h3 |h3<;>
   first
   |omega
   | (try subst h1
      try subst h2
      simp (disch:=omega) [LP,PY,PZ,lS,beq_refl,ih])
theorem adX (l:eT)(i j:Nat)(u v:AV)(h:i≠j):CX (CX l i u) j v=CX (CX l j v) i u:=by
 unfold CX
 cases hi:Nat.blt i l.n<;>cases hj:Nat.blt j l.n<;>simp[hi,hj]
 exact adW _ _ _ h
theorem aco {α:Type}:∀{l:List (Nat×α)} {t:Nat} {x:α},look l t=some x→aiF l t x=l
 | [],_,_,h=>by cases h
 | (k,u)::r,t,x,h=>by
   simp only[look] at h
   simp only[aiF]
   cases hb:Nat.beq k t with
   |true=>rw[hb] at h;have e:u=x:=by simpa using h
          subst e;rfl
   |false=>rw[hb] at h;simp only[cond_false];rw[aco h]
theorem WH {t:Nat}{b:Bool}(h:nth σ.tmps t= .rv (.cv ⟨.bool,b⟩)):σ.LR t b=σ:=by
 unfold AS.LR
 have:look σ.tmps.l t=some (.rv (.cv ⟨.bool,b⟩)):=by
  unfold nth at h
  split at h
  ·rename_i x hx;rw[hx,h]
  ·cases h
 obtain⟨⟨n,l,sv⟩,rows,boxes,ae,trace,b7,sites⟩:=σ
 simp only at this ⊢
 rw[aco this]
theorem adY {R:Type}{o:Oper}(hg:o.guard=none)(k:lR→AS→Option R):Ij T Φ ops σ o k=Kk T Φ σ o k:=by
 unfold Ij;rw[hg]
theorem adZ {R:Type}{o:Oper}{j t:Nat}{want b:Bool}(hg:o.guard=some (j,want))(ht:(ops[j]?).bind (·.dst)=some t)(hb:nth σ.tmps t= .rv (.cv ⟨.bool,b⟩))(k:lR→AS→Option R):
  Ij T Φ ops σ o k=if b=want then Kk T Φ σ o k else k (.M [] []) (σ.iH o.dst (.lit undef)):=by
 unfold Ij
 simp only[hg,ht,hb]
 cases b<;>cases want<;>simp[WH hb,RG]
theorem agy {R:Type}{o:Oper}{j t:Nat}{want:Bool}{vs:Array Value}(hg:o.guard=some (j,want))(ht:(ops[j]?).bind (·.dst)=some t)(hb:nth σ.tmps t= .lit (.tuple vs))(k:lR→AS→Option R):
  Ij T Φ ops σ o k=k (.M [] []) (σ.iH o.dst (.lit undef)):=by
 unfold Ij
 simp only[hg,ht,hb,RG]
theorem aaO {R:Type}{o:Oper}{j:Nat}{want:Bool}(hg:o.guard=some (j,want))(h:∀t,(ops[j]?).bind (·.dst)=some t→(∀b,nth σ.tmps t≠ .rv (.cv ⟨.bool,b⟩))∧∀vs,nth σ.tmps t≠ .lit (.tuple vs))(k:lR→AS→Option R):
  Ij T Φ ops σ o k=none:=by
 unfold Ij
 rw[hg]
 simp only
 split
 ·rename_i t ht
  obtain⟨h1,h2⟩:=h t ht
  split
  ·rename_i b hb;exact absurd hb (h1 b)
  ·rename_i vs hb;exact absurd hb (h2 vs)
  ·rfl
 ·rfl
def Way (ops:Array Oper)(o:Oper)(σ:AS)(run:Bool):Prop:=
 match o.guard with
 |none=>run=true
 |some (j,want)=>∃t,(ops[j]?).bind (·.dst)=some t∧((∃b,nth σ.tmps t= .rv (.cv ⟨.bool,b⟩)∧run=(b==want))∨(∃vs,nth σ.tmps t= .lit (.tuple vs)∧run=false))
theorem alb {R:Type}{o:Oper}{run:Bool}(h:Way ops o σ run)(k:lR→AS→Option R):Ij T Φ ops σ o k=if run then Kk T Φ σ o k else k (.M [] []) (σ.iH o.dst (.lit undef)):=by
 unfold Way at h
 split at h
 ·rename_i hg;subst h;rw[adY hg];rfl
 ·rename_i j want hg
  obtain⟨t,ht,⟨b,hb,rfl⟩ | ⟨vs,hb,rfl⟩⟩:=h
  ·rw[adZ hg ht hb];cases b<;>cases want<;>rfl
  ·rw[agy hg ht hb];rfl
theorem alc {R:Type}{o:Oper}{k:lR→AS→Option R}{r:R}(h:Ij T Φ ops σ o k=some r):∃run,Way ops o σ run:=by
 cases hg:o.guard with
 |none=>exact⟨true,by unfold Way;rw[hg]⟩
 |some p=>
  obtain⟨j,want⟩:=p
  by_cases hx:∃t,(ops[j]?).bind (·.dst)=some t∧((∃b,nth σ.tmps t= .rv (.cv ⟨.bool,b⟩))∨∃vs,nth σ.tmps t= .lit (.tuple vs))
  ·obtain⟨t,ht,⟨b,hb⟩ | ⟨vs,hb⟩⟩:=hx
   ·exact⟨b==want,by unfold Way;rw[hg];exact⟨t,ht, .inl ⟨b,hb,rfl⟩⟩⟩
   ·exact⟨false,by unfold Way;rw[hg];exact⟨t,ht, .inr ⟨vs,hb,rfl⟩⟩⟩
  ·rw[aaO hg (fun t ht=>⟨fun b hb=>hx ⟨t,ht, .inl ⟨b,hb⟩⟩,fun vs hb=>hx ⟨t,ht, .inr ⟨vs,hb⟩⟩⟩)] at h
   cases h
def Tr (T:cm)(Φ:bF T)(ops:Array Oper)(o:Oper)(σ:AS)(c:lR)(σ':AS):Prop:=
 ∃run,Way ops o σ run∧(if run then Kk T Φ σ o (fun c s=>some (c,s))=some (c,σ') else c= .M [] []∧σ'=σ.iH o.dst (.lit undef))
theorem ai9 {R:Type}{o:Oper}{k:lR→AS→Option R}{r:R}(h:Ij T Φ ops σ o k=some r):∃c σ',Tr T Φ ops o σ c σ'∧k c σ'=some r:=by
 obtain⟨run,hw⟩:=alc h
 rw[alb hw] at h
 cases run with
 |true=>
  simp only[if_true] at h
  rw[agw] at h
  obtain⟨p,hp,h2⟩:=Option.bind_eq_some_iff.1 h
  exact⟨p.1,p.2,⟨true,hw,by simpa using hp⟩,h2⟩
 |false=>exact⟨.M [] [],_,⟨false,hw,rfl,rfl⟩,h⟩
theorem anm {o:Oper}{c:lR}{σ':AS}(h:Tr T Φ ops o σ c σ'):Fr σ σ':=by
 obtain⟨run,hw,h⟩:=h
 cases run with
 |true=>
  simp only[if_true] at h
  obtain⟨r,h1,rfl⟩:=YF h
  exact Fr.res (ago (aki σ.av σ.sites o) h1) _
 |false=>
  obtain⟨_,rfl⟩:=h
  exact(Fr.refl σ).iH _ _
theorem YH {o:Oper}{c:lR}{σ':AS}(h:Tr T Φ ops o σ c σ')(hc:c≠ .X):∃v us,σ'=(σ.app us).iH o.dst v∧(∀u∈us,∀k∈u.keys,k∈WE c)∧Fits σ us∧
  ∀σ2:AS,σ2.sites=σ.sites→σ2.tmps.s=σ.tmps.s→(∀t∈o.looksAt ops,nth σ2.tmps t=nth σ.tmps t)→(∀k,k∈agt c∨k∈WE c→mG σ σ2 k)→Tr T Φ ops o σ2 c ((σ2.app us).iH o.dst v):=by
 obtain⟨run,hw,h⟩:=h
 have ann:∀σ2:AS,(∀t∈o.looksAt ops,nth σ2.tmps t=nth σ.tmps t)→Way ops o σ2 run:=fun σ2 hs=>by
  unfold Way at hw ⊢
  cases hg:o.guard with
  |none=>simp only[hg] at hw;exact hw
  |some p=>
   obtain⟨j,want⟩:=p
   simp only[hg] at hw
   obtain⟨t,ht,hor⟩:=hw
   have:=hs t (by simp[Oper.looksAt,hg,ht])
   exact⟨t,ht,by rw[this];exact hor⟩
 cases run with
 |true=>
  simp only[if_true] at h
  obtain⟨v,us,h1,h2,h3,h4⟩:=agx h hc
  refine⟨v,us,h1,h2,h3,fun σ2 hsi hss hs hk=> ?_⟩
  have hop:∀x∈o.op.operands,σ2.av x=σ.av x:=ai8 hss (fun t ht=>hs t (by simp only[Oper.looksAt,List.mem_append,List.mem_filterMap];exact .inl ⟨.tmp t,by simpa using ht,rfl⟩))
  exact⟨true,ann σ2 hs,by simpa using h4 σ2 hsi hop hk⟩
 |false=>
  obtain⟨rfl,rfl⟩:=h
  exact⟨.lit undef,[],rfl,(fun u hu=>by cases hu),trivial,fun σ2 _ _ hs hk=>⟨false,ann σ2 hs,rfl,rfl⟩⟩
theorem Sp:∀(us:List TU) (σ:AS) (d:Option Tmp) (v:AV),(σ.iH d v).app us=(σ.app us).iH d v
 | [],σ,d,v=>rfl
 |u::us,σ,d,v=>by
  have:(σ.iH d v).one u=(σ.one u).iH d v:=by cases u<;>cases d<;>rfl
  rw[AS.app,this,Sp us];rfl
theorem agz {u:TU}{k:Nat}(h:k∉u.keys)(hf:u.fits σ):mG σ (σ.one u) k:=by
 cases u with
 |row q r=>
  simp only[TU.keys,List.mem_cons,List.not_mem_nil,or_false,not_or] at h
  refine⟨fun r' e=> ?_,fun b e=>rfl,fun r' e=> ?_,fun _ _=>rfl⟩
  ·simp only[AS.one,aB];rw[if_neg];intro e';exact h.1 (by rw[e,e'])
  ·simp only[AS.one,aB];rw[if_neg];intro e';exact h.2 (by rw[e,e'])
 |Ic q r=>
  simp only[TU.keys,List.mem_cons,List.not_mem_nil,or_false] at h
  refine⟨fun r' e=> ?_,fun b e=>rfl,fun r' e=> ?_,fun _ _=>rfl⟩
  ·simp only[AS.one,aB];rw[if_neg];intro e';exact h (by rw[e,e'])
  ·simp only[AS.one,aB]
   split
   ·rename_i e';subst e';exact hf.symm
   ·rfl
 |box q x=>
  simp only[TU.keys,List.mem_cons,List.not_mem_nil,or_false] at h
  refine⟨fun r' e=>rfl,fun b e=> ?_,fun r' e=>rfl,fun _ _=>rfl⟩
  simp only[AS.one,aB];rw[if_neg];intro e';exact h (by rw[e,e'])
 |heap q x=>
  simp only[TU.keys,List.mem_cons,List.not_mem_nil,or_false] at h
  refine⟨fun r' e=>rfl,fun b e=>rfl,fun r' e=>rfl,fun h' e=> ?_⟩
  simp only[AS.one]
  rw[List.getElem?_set_ne]
  intro e';exact h (by rw[e,e'])
theorem Sq:∀(us:List TU) (σ:AS) (k:Nat),(∀u∈us,k∉u.keys)→Fits σ us→mG σ (σ.app us) k
 | [],σ,k,h,hf=>mG.refl _ _
 |u::us,σ,k,h,hf=>(agz (h u (by simp)) hf.1).trans (Sq us (σ.one u) k (fun v hv=>h v (by simp[hv])) hf.2)
theorem aaP {u:TU}{k:Nat}(h:mG σ σ2 k):mG (σ.one u) (σ2.one u) k:=by
 cases u with
 |row q r=>
  refine⟨fun r' e=> ?_,h.2.1,fun r' e=> ?_,h.2.2.2⟩
  ·simp only[AS.one,aB];split
   ·rfl
   ·exact h.1 r' e
  ·simp only[AS.one,aB];split
   ·rfl
   ·exact h.2.2.1 r' e
 |Ic q r=>
  refine⟨fun r' e=> ?_,h.2.1,fun r' e=> ?_,h.2.2.2⟩
  ·simp only[AS.one,aB];split
   ·rfl
   ·exact h.1 r' e
  ·simp only[AS.one,aB];split
   ·rfl
   ·exact h.2.2.1 r' e
 |box q x=>
  refine⟨h.1,fun r' e=> ?_,h.2.2.1,h.2.2.2⟩
  simp only[AS.one,aB];split
  ·rfl
  ·exact h.2.1 r' e
 |heap q x=>
  refine⟨h.1,h.2.1,h.2.2.1,fun h' e=> ?_⟩
  have h0:=h.2.2.2 h' e
  simp only[AS.one]
  by_cases e':q=h'
  ·subst e'
   by_cases hl:q<σ.ae.length
   ·have hl2:q<σ2.ae.length:=by
     have:=List.getElem?_eq_getElem hl
     rw[←h0] at this
     exact(List.getElem?_eq_some_iff.1 this).1
    rw[List.getElem?_set_self hl,List.getElem?_set_self hl2]
   ·have hl2:¬q<σ2.ae.length:=fun hl2=>by
     have:=List.getElem?_eq_getElem hl2
     rw[h0] at this
     exact hl (List.getElem?_eq_some_iff.1 this).1
    rw[List.getElem?_eq_none (by simp;omega),List.getElem?_eq_none (by simp;omega)]
  ·rw[List.getElem?_set_ne e',List.getElem?_set_ne e'];exact h0
theorem Vf:∀{us:List TU} {σ σ2:AS},Fits σ us→(∀u∈us,∀k∈u.keys,mG σ σ2 k)→Fits σ2 us
 | [],_,_,_,_=>trivial
 |u::us,σ,σ2,h,hs=>by
  refine⟨?_,Vf h.2 (fun v hv k hk=>aaP (hs v (by simp[hv]) k hk))⟩
  have h1:=h.1
  cases u with
  |Ic q r=>
   have:=(hs (.Ic q r) (by simp) (4*q) (by simp[TU.keys])).1 q rfl
   show (look σ2.rows q).map _=_
   rw[this];exact h1
  |_=>trivial
theorem agA {u v:TU}(h:∀k∈u.keys,k∉v.keys):(σ.one u).one v=(σ.one v).one u:=by
 have rr:∀(q q':Nat) (r r':Row),q≠q'→put (put σ.rows q r) q' r'=put (put σ.rows q' r') q r:=fun q q' r r' e=>put_comm _ _ _ e
 cases u with
 |row q r=>cases v with
  |row q' r'=>simp only[AS.one];rw[rr];intro e;exact h (4*q) (by simp[TU.keys]) (by simp[TU.keys,e])
  |Ic q' r'=>simp only[AS.one];rw[rr];intro e;exact h (4*q) (by simp[TU.keys]) (by simp[TU.keys,e])
  |_=>rfl
 |Ic q r=>cases v with
  |row q' r'=>simp only[AS.one];rw[rr];intro e;exact h (4*q) (by simp[TU.keys]) (by simp[TU.keys,e])
  |Ic q' r'=>simp only[AS.one];rw[rr];intro e;exact h (4*q) (by simp[TU.keys]) (by simp[TU.keys,e])
  |_=>rfl
 |box q x=>cases v with
  |box q' x'=>simp only[AS.one];rw[put_comm];intro e;exact h (2*q+1) (by simp[TU.keys]) (by simp[TU.keys,e])
  |_=>rfl
 |heap q x=>cases v with
  |heap q' x'=>simp only[AS.one];rw[List.set_comm];intro e;exact h (hk q) (by simp[TU.keys]) (by simp[TU.keys,e])
  |_=>rfl
theorem acp:∀(us:List TU) (σ:AS) (u:TU),(∀v∈us,∀k∈u.keys,k∉v.keys)→(σ.one u).app us=(σ.app us).one u
 | [],σ,u,h=>rfl
 |v::us,σ,u,h=>by
  rw[AS.app,agA (h v (by simp)),acp us (σ.one v) u (fun x hx=>h x (by simp[hx]))];rfl
theorem YI:∀(us vs:List TU) (σ:AS),(∀u∈us,∀v∈vs,∀k∈u.keys,k∉v.keys)→(σ.app us).app vs=(σ.app vs).app us
 | [],vs,σ,h=>rfl
 |u::us,vs,σ,h=>by
  rw[AS.app,YI us vs (σ.one u) (fun x hx v hv=>h x (by simp[hx]) v hv),acp vs σ u (fun v hv=>h u (by simp) v hv)];rfl
theorem ad0 {σ:AS}{d d':Option Tmp}{u v:AV}(h:∀x,d=some x→d'≠some x):(σ.iH d u).iH d' v=(σ.iH d' v).iH d u:=by
 cases d with
 |none=>cases d'<;>rfl
 |some x=>
  cases d' with
  |none=>rfl
  |some y=>
   simp only[AS.iH]
   rw[adX _ _ _ _ _ (fun e=>h x rfl (by rw[e]))]
theorem Dg {a b:List Nat}(h:meets a b=false):∀x∈a,∀y∈b,x≠y:=by
 intro x hx y hy e
 have:meets a b=true:=by
  unfold meets
  rw[List.any_eq_true]
  exact⟨x,hx,by rw[List.any_eq_true];exact⟨y,hy,(beq_iff _ _).2 e⟩⟩
 rw[this] at h;cases h
theorem YJ {c1 c2:lR}(h:F3 c1 c2=true):c1≠ .X∧c2≠ .X∧(∀x∈WE c1,∀y,y∈agt c2∨y∈WE c2→x≠y)∧(∀x∈WE c2,∀y,y∈agt c1∨y∈WE c1→x≠y):=by
 cases c1 with
 |X=>simp[F3] at h
 |M r w=>
  cases c2 with
  |X=>simp[F3] at h
  |M r' w'=>
   simp only[F3,Bool.not_eq_true',Bool.or_eq_false_iff] at h
   obtain⟨⟨h1,h2⟩,h3⟩:=h
   refine⟨by simp,by simp,fun x hx y hy=> ?_,fun x hx y hy=> ?_⟩
   ·rcases hy with hy |hy
    ·exact Dg h1 x hx y hy
    ·exact Dg h2 x hx y hy
   ·rcases hy with hy |hy
    ·exact fun e=>Dg h3 y hy x hx e.symm
    ·exact fun e=>Dg h2 y hy x hx e.symm
theorem YK {σ:AS}{d:Option Tmp}{v:AV}{t:Nat}(h:d≠some t):nth (σ.iH d v).tmps t=nth σ.tmps t:=by
 cases d with
 |none=>rfl
 |some d=>exact YG _ _ _ _ (fun e=>h (by rw[e]))
theorem Vg {d:Option Tmp}{v:AV}(k:Nat):mG σ (σ.iH d v) k:=by
 obtain⟨h1,h2,h3⟩:=YE (σ:=σ) d v
 exact⟨fun _ _=>by rw[h1],fun _ _=>by rw[h2],fun _ _=>by rw[h1],fun _ _=>by rw[h3]⟩
theorem aja {o1 o2:Oper}{c1 c2:lR}(h1:Tr T Φ ops o1 σ c1 σ1)(h2:Tr T Φ ops o2 σ1 c2 σ2)(ha:o1.apart ops o2=true)(hn:F3 c1 c2=true):
  ∃σ1',Tr T Φ ops o2 σ c2 σ1'∧Tr T Φ ops o1 σ1' c1 σ2:=by
 obtain⟨n1,n2,n3,n4⟩:=YJ hn
 obtain⟨v1,us1,rfl,k1,f1,l1⟩:=YH h1 n1
 obtain⟨v2,us2,rfl,k2,f2,l2⟩:=YH h2 n2
 obtain⟨p1,p2,p3⟩:=Oper.apart_spec ha
 have sa:∀k,k∈agt c2∨k∈WE c2→mG σ ((σ.app us1).iH o1.dst v1) k:=fun k hk=>
  (Sq us1 σ k (fun u hu hm=>n3 k (k1 u hu k hm) k hk rfl) f1).trans (Vg k)
 have e2:=l2 σ (by rw[Sn,O9]) (by rw[agv,IA]) (fun t ht=>by
   rw[YK (fun e=>p1 t e ht),IA]) (fun k hk=>(sa k hk).symm)
 have f2':Fits σ us2:=Vf f2 (fun u hu k hk=>(sa k (.inr (k2 u hu k hk))).symm)
 refine⟨_,e2, ?_⟩
 have e1:=l1 ((σ.app us2).iH o2.dst v2) (by rw[Sn,O9]) (by rw[agv,IA]) (fun t ht=>by
   rw[YK (fun e=>p3 t e ht),IA]) (fun k hk=>(Sq us2 σ k (fun u hu hm=>n4 k (k2 u hu k hm) k hk rfl) f2').trans (Vg k))
 rw[Sp,YI us2 us1 σ (fun u hu v hv k hk hk'=>n4 k (k2 u hu k hk) k (.inr (k1 v hv k hk')) rfl)] at e1
 rw[Sp,ad0 (fun x e=>p2 x e)]
 exact e1
end
end Go.Abs
namespace Go.Abs
open Go.RowKit Go.Lib
def xZ (E:Env):Prop:=∀tr tr',oK tr tr'→E.acc tr'→E.acc tr
section
variable {P:Program}{T:cm}{E:Env}{σ σ1 σ2 σe:AS}{a:Act}{w w':World}{ν ν':Nm→Value}{O:Nat→Prop}{Φ:bF T}{ops:Array Oper}{Q:Exit→Act→World→Prop}{rr:Option Nat}
theorem getD_some {l:Array Value}{t:Nat}{v:Value}(h:l.toList.getD t undef=v)(hv:v≠undef):l[t]? =some v:=by
 simp only[List.getD_eq_getElem?_getD,Array.getElem?_toList] at h
 cases hl:l[t]? with
 |none=>rw[hl] at h;exact absurd h.symm hv
 |some u=>rw[hl] at h;simpa using h
theorem aaQ (h:St E σ a w ν O){o:Oper}{run:Bool}(hw:Way ops o σ run):Region.wanted o (yielded ops a.tmps)=run:=by
 unfold Way at hw
 unfold Region.wanted
 cases hg:o.guard with
 |none=>simp only[hg] at hw ⊢;exact hw.symm
 |some p=>
  obtain⟨j,want⟩:=p
  simp only[hg] at hw ⊢
  obtain⟨t,ht,⟨b,hb,rfl⟩ | ⟨vs,hb,rfl⟩⟩:=hw
  ·have hr:=Nc (fun v=>by trivial) h.slots t
   rw[hb] at hr
   have h1:a.tmps.toList.getD t undef= .bool b:=UJ (V:=view E σ ν O w) hr
   have h2:=getD_some h1 (by intro e;cases e)
   unfold yielded
   rw[ht]
   simp[h2]
  ·have hr:=Nc (fun v=>by trivial) h.slots t
   rw[hb] at hr
   have h1:a.tmps.toList.getD t undef= .tuple vs:=hr
   unfold yielded
   rw[ht]
   simp only[Option.bind_some]
   cases hl:a.tmps[t]? with
   |none=>rfl
   |some u=>
    have:u= .tuple vs:=by
     simp only[List.getD_eq_getElem?_getD,Array.getElem?_toList,hl] at h1
     simpa using h1
    subst this
    rfl
theorem YL (C:Ctx P T Φ E)(h:St E σ a w ν O){i:Nat}{o:Oper}(ho:ops[i]? =some o){c:lR}{σ':AS}(ht:Tr T Φ ops o σ c σ')(hacc:E.acc σ'.trace)
  {K:Act→World→Prop} (hK:∀a' w',To E σ' a' w'→K a' w'):wpOpIn (FW rr) 0 P ops Q i K a w:=by
 obtain⟨run,hw,ht⟩:=ht
 unfold wpOpIn
 rw[ho]
 simp only[aaQ h hw]
 cases run with
 |true=>
  simp only[if_true] at ht ⊢
  obtain⟨r,h1,rfl⟩:=YF ht
  exact agn C h h1 hacc rr K Q hK
 |false=>
  obtain⟨rfl,rfl⟩:=ht
  exact⟨fun _ _=>trivial,hK _ _ ⟨ν,O,h.slot (x:= .lit undef) rfl⟩⟩
def aaR (T:cm)(Φ:bF T)(ops:Array Oper):List (Nat×Oper×lR)→AS→AS→Prop
 | [],σ,σe=>σe=σ
 | (_,o,c)::r,σ,σe=>∃σ1,Tr T Φ ops o σ c σ1∧aaR T Φ ops r σ1 σe
theorem Ss:∀{L:List (Nat×Oper×lR)} {σ:AS},aaR T Φ ops L σ σe→Fr σ σe
 | [],σ,h=>by have:σe=σ:=h;subst this;exact Fr.refl _
 | (_,o,c)::r,σ,⟨σ1,h1,h2⟩=>(anm h1).trans (Ss h2)
def Bo:Nat→List Oper→List lR→List (Nat×Oper×lR)
 |i,o::l,c::cs=>(i,o,c)::Bo (i+1) l cs
 |_,_,_=>[]
theorem Pa {R:Type}:∀(l:List Oper) (i:Nat) (σ:AS) (cs:List lR) (k:List lR→AS→Option R) (r:R),UF T Φ ops l σ cs k=some r→
  ∃(t:List lR) (σe:AS),t.length=l.length∧aaR T Φ ops (Bo i l t) σ σe∧k (t.reverse++cs) σe=some r
 | [],i,σ,cs,k,r,h=>⟨[],σ,rfl,rfl,h⟩
 |o::l,i,σ,cs,k,r,h=>by
  obtain⟨c,σ1,h1,h2⟩:=ai9 h
  obtain⟨t,σe,h3,h4,h5⟩:=Pa l (i+1) σ1 (c::cs) k r h2
  exact⟨c::t,σe,by simp[h3],⟨σ1,h1,h4⟩,by simpa using h5⟩
theorem Nw:∀(l:List Oper) (i:Nat) (t:List lR) (x:Nat×Oper×lR),x∈Bo i l t→i≤x.1∧l[x.1 - i]? =some x.2.1∧t[x.1 - i]? =some x.2.2
 | [],i,t,x,h=>by simp[Bo] at h
 |o::l,i,[],x,h=>by simp[Bo] at h
 |o::l,i,c::t,x,h=>by
  simp only[Bo,List.mem_cons] at h
  rcases h with rfl |h
  ·exact⟨Nat.le_refl _,by simp,by simp⟩
  ·obtain⟨h1,h2,h3⟩:=Nw l (i+1) t x h
   have:x.1 - i=(x.1 - (i+1))+1:=by omega
   exact⟨by omega,by rw[this];simpa using h2,by rw[this];simpa using h3⟩
theorem YM:∀(l:List Oper) (i:Nat) (t:List lR),t.length=l.length→∀p o,l[p]? =some o→∃c,(i+p,o,c)∈Bo i l t
 | [],i,t,ht,p,o,h=>by simp at h
 |o'::l,i,[],ht,p,o,h=>by simp at ht
 |o'::l,i,c::t,ht,0,o,h=>by
  simp at h;subst h
  exact⟨c,by simp[Bo]⟩
 |o'::l,i,c::t,ht,p+1,o,h=>by
  obtain⟨c',h1⟩:=YM l (i+1) t (by simpa using ht) p o (by simpa using h)
  refine⟨c', ?_⟩
  simp only[Bo,List.mem_cons]
  right
  have:i+(p+1)=i+1+p:=by omega
  rw[this];exact h1
theorem YN:∀(l:List Oper) (i:Nat) (t:List lR),(Bo i l t).length≤l.length
 | [],i,t=>by simp[Bo]
 |o::l,i,[]=>by simp[Bo]
 |o::l,i,c::t=>by simp[Bo,YN l (i+1) t]
theorem P9:∀(l:List Oper) (i:Nat) (t:List lR),(Bo i l t).Pairwise fun x y=>x.1<y.1
 | [],i,t=>by simp[Bo]
 |o::l,i,[]=>by simp[Bo]
 |o::l,i,c::t=>by
  simp only[Bo,List.pairwise_cons]
  exact⟨fun y hy=>by have:=(Nw l (i+1) t y hy).1;show i<y.1;omega,P9 l (i+1) t⟩
theorem YO (C:Ctx P T Φ E)(hD:xZ E)(hacc:E.acc σe.trace):∀(l pre:List Oper) (t:List lR) (σ:AS) (a:Act) (w:World) (ν:Nm→Value) (O:Nat→Prop),ops.toList=pre++l→t.length=l.length→
  St E σ a w ν O→aaR T Φ ops (Bo pre.length l t) σ σe→(∀a' w',To E σe a' w'→Q .normal a' w')→wpOpsIn (FW rr) 0 P ops Q (List.range' pre.length l.length) a w
 | [],pre,t,σ,a,w,ν,O,hop,ht,h,hr,hQ=>by
   have:σe=σ:=by cases t<;>exact hr
   subst this
   exact hQ _ _ ⟨ν,O,h⟩
 |o::l,pre,[],σ,a,w,ν,O,hop,ht,h,hr,hQ=>by simp at ht
 |o::l,pre,c::t,σ,a,w,ν,O,hop,ht,h,hr,hQ=>by
  obtain⟨σ1,h1,h2⟩:=hr
  rw[List.length_cons,List.range'_succ,wpOpsIn_cons]
  have ho:ops[pre.length]? =some o:=by
   rw[←Array.getElem?_toList,hop];simp
  refine YL C h ho h1 (hD _ _ (Ss h2).tr hacc) (fun a' w' ⟨ν',O',h'⟩=> ?_)
  have:=YO C hD hacc l (pre++[o]) t σ1 a' w' ν' O' (by rw[hop];simp) (by simpa using ht) h' (by simpa using h2) hQ
  simpa using this
theorem Vh:∀(L1 L2:List (Nat×Oper×lR)) (x:Nat×Oper×lR) (σ:AS),aaR T Φ ops (L1++x::L2) σ σe→(∀y∈L1,y.2.1.apart ops x.2.1=true∧F3 y.2.2 x.2.2=true)→
  ∃σ1,Tr T Φ ops x.2.1 σ x.2.2 σ1∧aaR T Φ ops (L1++L2) σ1 σe
 | [],L2,x,σ,h,_=>h
 |y::L1,L2,x,σ,h,hy=>by
  obtain⟨σ1,h1,h2⟩:=h
  obtain⟨σ2,h3,h4⟩:=Vh L1 L2 x σ1 h2 (fun z hz=>hy z (by simp[hz]))
  obtain⟨p1,p2⟩:=hy y (by simp)
  obtain⟨σ1',h5,h6⟩:=aja h1 h3 p1 p2
  exact⟨σ1',h5,σ2,h6,h4⟩
theorem ajb (C:Ctx P T Φ E)(hD:xZ E)(hacc:E.acc σe.trace){A:Nat→Nat}(hQ:∀a' w',To E σe a' w'→Q .normal a' w')
  (ano:∀j o,ops[j]? =some o→∀e∈o.after,Region.binds .any e=true→e.on<j)
  (apw:∀j o i,ops[j]? =some o→(A j).testBit i=true→∃e∈o.after,Region.binds .any e=true∧(i=e.on∨(A e.on).testBit i=true)):
  ∀(fuel:Nat) (L:List (Nat×Oper×lR)) (listed:Array Bool) (σ:AS) (a:Act) (w:World) (ν:Nm→Value) (O:Nat→Prop),
   (∀x∈L,ops[x.1]? =some x.2.1)→(∀i,i<ops.size→(listed.getD i true=false↔∃x∈L,x.1=i))→listed.size=ops.size→
   (∀m om,listed.getD m false=true→ops[m]? =some om→∀e∈om.after,Region.binds .any e=true→listed.getD e.on false=true)→
   L.Pairwise (fun x y=>x.1<y.1)→L.Pairwise (fun x y=>(A y.1).testBit x.1=true∨(x.2.1.apart ops y.2.1=true∧F3 x.2.2 y.2.2=true))→
   aaR T Φ ops L σ σe→St E σ a w ν O→L.length≤fuel→wpAnyIn (FW rr) 0 P .any ops Q fuel listed a w:=by
 intro fuel
 induction fuel with
 |zero=>
  intro L listed σ a w ν O hL Su hsz hcl hsort agB hrun h hf
  have hL0:L=[]:=List.eq_nil_of_length_eq_zero (by omega)
  subst hL0
  have hr:σe=σ:=hrun
  subst hr
  refine⟨?_,hQ _ _ ⟨ν,O,h⟩⟩
  apply List.eq_nil_iff_forall_not_mem.2
  intro i hi
  obtain⟨h1,o,ho,_⟩:=mem_ready.1 hi
  obtain⟨x,hx,_⟩:=(Su i (Array.getElem?_eq_some_iff.1 ho).1).1 h1
  cases hx
 |succ fuel ih=>
  intro L listed σ a w ν O hL Su hsz hcl hsort agB hrun h hf
  have agC:∀i,i<ops.size→listed.getD i true=listed.getD i false:=fun i hi=>by
   simp[Array.getD,hsz,hi]
  refine⟨fun apx=> ?_,fun i hi=> ?_⟩
  ·cases L with
   |nil=>
    have hr:σe=σ:=hrun
    subst hr
    exact hQ _ _ ⟨ν,O,h⟩
   |cons x L=>
    exfalso
    have hox:=hL x (by simp)
    have hlt:=(Array.getElem?_eq_some_iff.1 hox).1
    have:x.1∈Region.ready .any ops listed:=by
     refine mem_ready.2 ⟨(Su x.1 hlt).2 ⟨x,by simp,rfl⟩,x.2.1,hox,fun e he hb=> ?_⟩
     have h1:=ano x.1 x.2.1 hox e he hb
     have h2:¬listed.getD e.on true=false:=fun hf'=>by
      obtain⟨y,hy,hye⟩:=(Su e.on (by omega)).1 hf'
      rcases List.mem_cons.1 hy with rfl |hy
      ·omega
      ·have:=(List.pairwise_cons.1 hsort).1 y hy;omega
     rw[←agC e.on (by omega)]
     cases hb':listed.getD e.on true
     ·exact absurd hb' h2
     ·rfl
    rw[apx] at this;cases this
  ·obtain⟨h1,o,ho,hall⟩:=mem_ready.1 hi
   have hlt:=(Array.getElem?_eq_some_iff.1 ho).1
   obtain⟨x,hx,rfl⟩:=(Su i hlt).1 h1
   obtain⟨L1,L2,rfl⟩:=List.append_of_mem hx
   have hox:=hL x hx
   rw[ho] at hox
   have hoe:o=x.2.1:=by simpa using hox
   -- what apy before x is done
   have anp:∀j,j≤x.1→∀oj,ops[j]? =some oj→(∀e∈oj.after,Region.binds .any e=true→listed.getD e.on false=true)→∀i,(A j).testBit i=true→listed.getD i false=true:=by
    intro j
    induction j using Nat.strongRecOn with
    |_ j ihj=>
     intro hj oj hoj anq i hi'
     obtain⟨e,he,hb,h2⟩:=apw j oj i hoj hi'
     have hd:=anq e he hb
     rcases h2 with rfl |h2
     ·exact hd
     ·have apA:=ano j oj hoj e he hb
      have hlt3:e.on<ops.size:=by have:=(Array.getElem?_eq_some_iff.1 hoj).1;omega
      exact ihj e.on apA (by omega) ops[e.on] (Array.getElem?_eq_getElem hlt3) (hcl e.on _ hd (Array.getElem?_eq_getElem hlt3)) i h2
   have hfree:∀y∈L1,y.2.1.apart ops x.2.1=true∧F3 y.2.2 x.2.2=true:=fun y hy=>by
    have h2:=(List.pairwise_append.1 agB).2.2 y hy x (by simp)
    rcases h2 with h2 |h2
    ·exfalso
     have h3:=anp x.1 (Nat.le_refl _) o ho hall y.1 h2
     have hylt:=(Array.getElem?_eq_some_iff.1 (hL y (by simp[hy]))).1
     have h4:=(Su y.1 hylt).2 ⟨y,by simp[hy],rfl⟩
     rw[agC y.1 hylt,h3] at h4
     cases h4
    ·exact h2
   obtain⟨σ1,ht,akj⟩:=Vh L1 L2 x σ hrun hfree
   rw[←hoe] at ht
   refine YL C h ho ht (hD _ _ (Ss akj).tr hacc) (fun a' w' ⟨ν',O',h'⟩=> ?_)
   have hne:∀y,y∈L1++L2→y.1≠x.1:=fun y hy=>by
    rcases List.mem_append.1 hy with hy |hy
    ·have:=(List.pairwise_append.1 hsort).2.2 y hy x (by simp);omega
    ·have:=(List.pairwise_cons.1 (List.pairwise_append.1 hsort).2.1).1 y hy;omega
   have hsub:(L1++L2).Sublist (L1++x::L2):=(List.Sublist.refl L1).append (List.sublist_cons_self x L2)
   refine ih (L1++L2) _ σ1 a' w' ν' O' (fun y hy=>hL y (hsub.subset hy)) (fun i hi'=> ?_) (by simpa using hsz) (fun m om hm hom e he hb=> ?_) (hsort.sublist hsub) (agB.sublist hsub) akj h' (by simp at hf ⊢;omega)
   ·by_cases hix:x.1=i
    ·subst hix
     constructor
     ·intro hf'
      have h5:listed.getD x.1 false=false:=by rw[←agC x.1 hlt];exact h1
      have h6:x.1<listed.size:=by omega
      simp[Array.getD,h6] at hf'
     ·rintro ⟨y,hy,hye⟩;exact absurd hye (hne y hy)
    ·rw[getD_set_ne true hix,Su i hi']
     constructor
     ·rintro ⟨y,hy,hye⟩
      refine⟨y, ?_,hye⟩
      rcases List.mem_append.1 hy with hy |hy
      ·exact List.mem_append.2 (.inl hy)
      ·rcases List.mem_cons.1 hy with rfl |hy
       ·exact absurd hye hix
       ·exact List.mem_append.2 (.inr hy)
     ·rintro ⟨y,hy,hye⟩;exact⟨y,hsub.subset hy,hye⟩
   ·by_cases hmx:x.1=m
    ·subst hmx
     rw[ho] at hom
     obtain rfl:o=om:=by simpa using hom
     exact getD_set_true (hall e he hb)
    ·rw[getD_set_ne false hmx] at hm
     exact getD_set_true (hcl m om hm hom e he hb)
theorem Qa:∀(l:List Oper) (i:Nat),Il i l=true→∀p o,l[p]? =some o→∀e∈o.after,Region.binds .any e=true→e.on<i+p
 | [],i,h,p,o,hp,e,he,hb=>by simp at hp
 |o'::l,i,h,0,o,hp,e,he,hb=>by
  simp at hp;subst hp
  simp only[Il,Bool.and_eq_true,List.all_eq_true] at h
  have:=h.1 e (by simpa using he)
  rw[hb] at this
  have:Nat.blt e.on i=true:=by simpa using this
  have:=Nat.le_of_ble_eq_true this
  omega
 |o'::l,i,h,p+1,o,hp,e,he,hb=>by
  simp only[Il,Bool.and_eq_true] at h
  have:=Qa l (i+1) h.2 p o (by simpa using hp) e he hb
  omega
theorem Qb:∀(l:List Oper) (acc:List Nat),∃r,Kl l acc=acc++r∧r.length=l.length
 | [],acc=>⟨[],by simp[Kl]⟩
 |o::l,acc=>by
  obtain⟨r,h1,h2⟩:=Qb l (acc++[K8 acc o])
  exact⟨K8 acc o::r,by simp[Kl,h1],by simp[h2]⟩
theorem ad1 {acc:List Nat}{o:Oper}{i:Nat}(h:(K8 acc o).testBit i=true):∃e∈o.after,Region.binds .any e=true∧(i=e.on∨((acc[e.on]?).getD 0).testBit i=true):=by
 unfold K8 at h
 have key:∀l:List Edge,(l.foldr (fun e s=>bif Region.binds .any e then (s|||2^e.on)||| (acc[e.on]?).getD 0 else s) 0).testBit i=true→
   ∃e∈l,Region.binds .any e=true∧(i=e.on∨((acc[e.on]?).getD 0).testBit i=true):=by
  intro l
  induction l with
  |nil=>intro h;simp at h
  |cons e l ih=>
   intro h
   simp only[List.foldr_cons] at h
   cases hb:Region.binds .any e with
   |false=>
    rw[hb] at h
    obtain⟨e',h1,h2⟩:=ih h
    exact⟨e',by simp[h1],h2⟩
   |true=>
    rw[hb] at h
    simp only[cond_true,Nat.testBit_or,Bool.or_eq_true] at h
    rcases h with (h |h) |h
    ·obtain⟨e',h1,h2⟩:=ih h
     exact⟨e',by simp[h1],h2⟩
    ·refine⟨e,by simp,hb, .inl ?_⟩
     rw[Nat.testBit_two_pow] at h
     simpa using (of_decide_eq_true h).symm
    ·exact⟨e,by simp,hb, .inr h⟩
 obtain⟨e,h1,h2⟩:=key _ h
 exact⟨e,by simpa using h1,h2⟩
theorem YP:∀(l:List Oper) (acc:List Nat) (p:Nat) (o:Oper),l[p]? =some o→(Kl l acc)[acc.length+p]? =some (K8 ((Kl l acc).take (acc.length+p)) o)
 | [],acc,p,o,h=>by simp at h
 |o'::l,acc,0,o,h=>by
  simp at h;subst h
  obtain⟨r,h1,h2⟩:=Qb l (acc++[K8 acc o'])
  simp[Kl,h1]
 |o'::l,acc,p+1,o,h=>by
  have:=YP l (acc++[K8 acc o']) p o (by simpa using h)
  simp only[Kl]
  have e:acc.length+(p+1)=(acc++[K8 acc o']).length+p:=by simp;omega
  rw[e];exact this
theorem Qc:∀(r:List (Oper×lR)) (ms:List Nat) (i:Nat) (a:Oper×lR),RH ops i a r ms=true→∀(p:Nat) (b:Oper×lR) (m:Nat),r[p]? =some b→ms[p]? =some m→Wm ops i a m b=true
 | [],ms,i,a,h,p,b,m,hb,hm=>by simp at hb
 |b'::r,m'::ms,i,a,h,0,b,m,hb,hm=>by
  simp at hb hm;subst hb hm
  simp only[RH,Bool.and_eq_true] at h;exact h.1
 |b'::r,m'::ms,i,a,h,p+1,b,m,hb,hm=>by
  simp only[RH,Bool.and_eq_true] at h
  exact Qc r ms i a h.2 p b m (by simpa using hb) (by simpa using hm)
 |b'::r,[],i,a,h,p,b,m,hb,hm=>by simp at hm
theorem Qd:∀(l:List (Oper×lR)) (ms:List Nat) (i:Nat),Ik ops i l ms=true→∀(p q:Nat) (a b:Oper×lR) (m:Nat),p<q→l[p]? =some a→l[q]? =some b→ms[q]? =some m→Wm ops (i+p) a m b=true
 | [],ms,i,h,p,q,a,b,m,hpq,ha,hb,hm=>by simp at ha
 |x::l,[],i,h,p,q,a,b,m,hpq,ha,hb,hm=>by simp at hm
 |x::l,m'::ms,i,h,0,q,a,b,m,hpq,ha,hb,hm=>by
  simp at ha;subst ha
  simp only[Ik,Bool.and_eq_true] at h
  cases q with
  |zero=>omega
  |succ q=>exact Qc l ms i x h.1 q b m (by simpa using hb) (by simpa using hm)
 |x::l,m'::ms,i,h,p+1,q,a,b,m,hpq,ha,hb,hm=>by
  simp only[Ik,Bool.and_eq_true] at h
  cases q with
  |zero=>omega
  |succ q=>
   have:=Qd l ms (i+1) h.2 p q a b m (by omega) (by simpa using ha) (by simpa using hb) (by simpa using hm)
   have e:i+(p+1)=i+1+p:=by omega
   rw[e];exact this
theorem Sw (R:(Nat×Oper×lR)→(Nat×Oper×lR)→Prop):∀(l:List Oper) (i:Nat) (t:List lR),
  (∀p q o1 c1 o2 c2,p<q→l[p]? =some o1→t[p]? =some c1→l[q]? =some o2→t[q]? =some c2→R (i+p,o1,c1) (i+q,o2,c2))→(Bo i l t).Pairwise R
 | [],i,t,h=>by simp[Bo]
 |o::l,i,[],h=>by simp[Bo]
 |o::l,i,c::t,h=>by
  simp only[Bo,List.pairwise_cons]
  refine⟨fun y hy=> ?_,Sw R l (i+1) t (fun p q o1 c1 o2 c2 hpq h1 h2 h3 h4=> ?_)⟩
  ·obtain⟨h1,h2,h3⟩:=Nw l (i+1) t y hy
   have:=h 0 (y.1 - i) o c y.2.1 y.2.2 (by omega) (by simp) (by simp) (by
    have e:y.1 - i=(y.1 - (i+1))+1:=by omega
    rw[e];simpa using h2) (by
    have e:y.1 - i=(y.1 - (i+1))+1:=by omega
    rw[e];simpa using h3)
   have e:i+(y.1 - i)=y.1:=by omega
   rw[e] at this
   exact this
  ·have:=h (p+1) (q+1) o1 c1 o2 c2 (by omega) (by simpa using h1) (by simpa using h2) (by simpa using h3) (by simpa using h4)
   have e1:i+(p+1)=i+1+p:=by omega
   have e2:i+(q+1)=i+1+q:=by omega
   rw[e1,e2] at this
   exact this
theorem YQ (hE:aC E)(h:St E σ a w ν O)(d:Nat):St E (σ.X4 d) a w ν O:=by
 unfold AS.X4
 split
 ·exact h
 ·exact h.bg hE d
theorem YR (hE:aC E)(h:St E σ a w ν O)(d:Nat):St E (σ.X5 d) a w ν O:=by
 unfold AS.X5
 split
 ·exact h
 ·exact h.dI hE d
theorem Nx (hE:aC E):∀(ds:List Nat) (σ:AS),St E σ a w ν O→St E (σ.OM ds) a w ν O
 | [],σ,h=>h
 |d::ds,σ,h=>by
  simp only[AS.OM]
  split
  ·exact h
  ·exact Nx hE ds _ (YQ hE h d)
theorem Ny (hE:aC E):∀(ds:List Nat) (σ:AS),St E σ a w ν O→St E (σ.ON ds) a w ν O
 | [],σ,h=>h
 |d::ds,σ,h=>by
  simp only[AS.ON]
  split
  ·exact h
  ·exact Ny hE ds _ (YR hE h d)
theorem aaS (hE:aC E)(l:List Oper)(σ:AS)(h:St E σ a w ν O):St E (AS.aiO σ l) a w ν O:=Ny hE _ _ (Nx hE _ _ h)
theorem agD (d:Nat):Fr σ (σ.X4 d):=by
 unfold AS.X4
 split
 ·exact Fr.refl _
 ·exact aaM d
theorem agE (d:Nat):Fr σ (σ.X5 d):=by
 unfold AS.X5
 split
 ·exact Fr.refl _
 ·exact Si d
theorem Vi:∀(ds:List Nat) (σ:AS),Fr σ (σ.OM ds)
 | [],σ=>Fr.refl _
 |d::ds,σ=>by
  simp only[AS.OM]
  split
  ·exact Fr.refl _
  ·exact(agD d).trans (Vi ds _)
theorem Vj:∀(ds:List Nat) (σ:AS),Fr σ (σ.ON ds)
 | [],σ=>Fr.refl _
 |d::ds,σ=>by
  simp only[AS.ON]
  split
  ·exact Fr.refl _
  ·exact(agE d).trans (Vj ds _)
theorem SA:∀(ds:List Nat) (σ:AS),Fr σ (σ.jx ds)
 | [],σ=>Fr.refl _
 |d::ds,σ=>(Si d).trans (SA ds _)
theorem acq (l:List Oper)(σ:AS):Fr σ (AS.aiO σ l):=(Vi _ _).trans (Vj _ _)
theorem aaT {R:Type}{draw:Bool}{k:AS→Option R}{r:R}(he:uS T Φ ops draw σ k=some r):∃σ',k σ'=some r∧Fr σ σ':=by
 unfold uS at he
 obtain⟨t,σe,h1,h2,h3⟩:=Pa (ops:=ops) ops.toList 0 _ [] _ r he
 have hf:=(acq ops.toList σ).trans (Ss h2)
 cases draw with
 |false=>exact⟨σe,by simpa using h3,hf⟩
 |true=>
  simp only[cond_true,List.append_nil,List.reverse_reverse] at h3
  cases hok:(Il 0 ops.toList&&Ik ops 0 (ops.toList.zip t) (Kl ops.toList [])) with
  |false=>simp[hok] at h3
  |true=>exact⟨σe,by simpa [hok] using h3,hf⟩
theorem WI {R:Type}(C:Ctx P T Φ E)(hD:xZ E)(hm:P.follows .mixedOrders=true)(h:St E σ a w ν O){id:Nat}{draw:Bool}{k:AS→Option R}{r:R}
  (he:uS T Φ ops draw σ k=some r) (hk:∀σ',k σ'=some r→Fr σ σ'→E.acc σ'.trace) (hQ:∀σ' a' w',k σ'=some r→Fr σ σ'→To E σ' a' w'→Q .normal a' w'):(Code.region id ops draw).wpIn (FW rr) 0 P Q a w:=by
 unfold uS at he
 obtain⟨t,σe,h1,h2,h3⟩:=Pa (ops:=ops) ops.toList 0 _ [] _ r he
 have hp:=aaS C.env ops.toList σ h
 have hf:=(acq ops.toList σ).trans (Ss h2)
 cases draw with
 |false=>
  simp only[cond_false] at h3
  have:=YO (rr:=rr) C hD (hk σe (by simpa using h3) hf) ops.toList [] t _ a w ν O rfl h1 hp h2 (fun a' w'=>hQ σe a' w' (by simpa using h3) hf)
  refine wpIn_region ?_
  rw[List.range_eq_range']
  simpa using this
 |true=>
  simp only[cond_true,List.append_nil,List.reverse_reverse] at h3
  cases hok:(Il 0 ops.toList&&Ik ops 0 (ops.toList.zip t) (Kl ops.toList [])) with
  |false=>simp[hok] at h3
  |true=>
   simp only[hok,cond_true] at h3
   rw[Bool.and_eq_true] at hok
   obtain⟨hd,hok⟩:=hok
   have hw:St E (AS.aiO σ ops.toList) a {w with drawn:=w.drawn+1} ν O:=hp.grow C.env ⟨rfl,rfl,rfl,Nat.le_refl _,fun _ _=>rfl⟩
   refine wpIn_region_any hm ?_
   have ag:∀j o,ops[j]? =some o→(Kl ops.toList [])[j]? =some (K8 ((Kl ops.toList []).take j) o):=fun j o ho=>by
    have:=YP ops.toList [] j o (by rw[Array.getElem?_toList];exact ho)
    simpa using this
   refine ajb C hD (hk σe h3 hf) (A:=fun j=>((Kl ops.toList [])[j]?).getD 0) (fun a' w'=>hQ σe a' w' h3 hf) (fun j o ho e he' hb=>by
     have:=Qa ops.toList 0 hd j o (by rw[Array.getElem?_toList];exact ho) e he' hb
     omega) (fun j o i ho hi=> ?_) ops.size (Bo 0 ops.toList t) _ _ a _ ν O (fun x hx=> ?_) (fun i hi=> ?_) (by simp) (fun m om hmm=> ?_) (P9 _ _ _) (Sw _ _ _ _ fun p q o1 c1 o2 c2 hpq e1 e2 e3 e4=> ?_) h2 hw ?_
   ·simp only[ag j o ho,Option.getD_some] at hi
    obtain⟨e,h4,h5,h6⟩:=ad1 hi
    refine⟨e,h4,h5,h6.imp (fun h7=>h7) fun h7=> ?_⟩
    cases hh:((Kl ops.toList []).take j)[e.on]? with
    |none=>rw[hh] at h7;simp at h7
    |some v=>
     rw[hh] at h7
     rw[List.getElem?_take] at hh
     split at hh
     ·simp only[hh];exact h7
     ·cases hh
   ·obtain⟨_,h4,_⟩:=Nw _ _ _ x hx
    rw[←Array.getElem?_toList];simpa using h4
   ·constructor
    ·intro _
     obtain⟨c,hc⟩:=YM ops.toList 0 t h1 i ops[i] (by simp[hi])
     exact⟨_,hc,by simp⟩
    ·intro _;simp[hi]
   ·exfalso
    by_cases hlt:m<ops.size
    ·simp[hlt] at hmm
    ·simp[hlt] at hmm
   ·have hz1:(ops.toList.zip t)[p]? =some (o1,c1):=by rw[List.getElem?_zip_eq_some];exact⟨e1,e2⟩
    have hz2:(ops.toList.zip t)[q]? =some (o2,c2):=by rw[List.getElem?_zip_eq_some];exact⟨e3,e4⟩
    have hg:=ag q o2 (by rw[←Array.getElem?_toList];exact e3)
    have:=Qd (ops.toList.zip t) _ 0 hok p q _ _ _ hpq hz1 hz2 hg
    simp only[Wm,Bool.or_eq_true,Bool.and_eq_true,Nat.zero_add] at this ⊢
    rw[hg]
    exact this
   ·have:=YN ops.toList 0 t
    simpa using this
end
end Go.Abs
namespace Go.Abs
open Go.RowKit Go.Lib
section
variable {P:Program}{T:cm}{E:Env}{σ σ1 σ2 σe:AS}{a:Act}{w w':World}{ν ν':Nm→Value}{O:Nat→Prop}{Φ:bF T}
theorem SB:∀(h:List (Nat×Bool)) (σ:AS),Fr σ (σ.share h)
 | [],σ=>Fr.refl _
 | (j,true)::h,σ=>(agq _).trans (SB h _)
 | (j,false)::h,σ=>SB h σ
theorem mH (h:List (Nat×Bool))(σ:AS):Fr σ (σ.forget h):=by
 refine(SB h σ).trans ?_
 unfold AS.forget
 exact⟨rfl,rfl,rfl,oK.refl _,rfl⟩
structure FrX (σ0 σ:AS):Prop where
 b7:∃x,σ.b7=[x]
 sites:σ.sites=σ0.sites
 s:σ.tmps.n=σ0.tmps.n
 tr:oK σ0.trace σ.trace
 ks:∃ls:List Nat,σ.tmps.s.map (·.1)=ls++σ0.tmps.s.map (·.1)∧∀i∈ls,kl 1 i=true
theorem FrX.fr {σ0 σ σ':AS}(h:FrX σ0 σ)(g:Fr σ σ'):FrX σ0 σ':=⟨by rw[g.b7];exact h.b7,g.sites.trans h.sites,g.s.trans h.s,h.tr.trans g.tr,by rw[g.ks];exact h.ks⟩
theorem YS {l:List (Nat×AV)}{ls ms:List Nat}(h:l.map (·.1)=ls++ms)(h1:∀i∈ls,kl 1 i=true)(h2:∀i∈ms,kl 1 i=false):(l.filter fun p=> !(kl 1 p.1)).map (·.1)=ms:=by
 have:(l.filter fun p=> !(kl 1 p.1)).map (·.1)=(l.map (·.1)).filter fun i=> !(kl 1 i):=by
  rw[List.filter_map];rfl
 rw[this,h,List.filter_append,List.filter_eq_nil_iff.2 (fun i hi=>by rw[h1 i hi];simp),List.filter_eq_self.2 (fun i hi=>by rw[h2 i hi];rfl)]
 rfl
theorem Vk {σ0:AS}(h:FrX σ0 σ)(h0:∀i∈σ0.tmps.s.map (·.1),kl 1 i=false):(σ.Ba).tmps.s.map (·.1)=σ0.tmps.s.map (·.1):=by
 obtain⟨x,hx⟩:=h.b7
 obtain⟨ls,h1,h2⟩:=h.ks
 unfold AS.Ba
 rw[hx]
 exact YS h1 h2 h0
theorem J5 {R:Type}{r:R}{h:List (Nat×Bool)}{body:AS→(Ex→AS→Option R)→Option R}{k:Ex→AS→Option R}{I:AS→Prop}(hf:∀σ,I σ→I (σ.forget h))
  (hb:∀σ k',I σ→body σ k'=some r→∃e σ',k' e σ'=some r∧I σ'):∀(n:Nat) (σ:AS),I σ→lq h body k n σ=some r→∃e σ',k e σ'=some r∧I σ'
 |0,σ,hi,he=>by cases he
 |n+1,σ,hi,he=>by
  simp only[lq] at he
  obtain⟨e,σ',h1,h2⟩:=hb σ _ hi he
  cases e with
  |normal=>exact J5 hf hb n _ (hf _ h2) h1
  |exit i=>exact⟨_,_,h1,h2⟩
  |ret=>exact⟨_,_,h1,h2⟩
theorem ale (s:eT)(i:Nat)(x:AV):(CX s i x).n=s.n:=by unfold CX;cases Nat.blt i s.n<;>rfl
theorem alf (s:eT)(i:Nat)(x:AV):(CX s i x).s=s.s:=by unfold CX;cases Nat.blt i s.n<;>rfl
theorem J6:∀{ps:List Tmp} {ts:List Ty} {s s':eT} {x:(jw ts).den},G5 s ps ts x=some s'→s'.n=s.n∧s'.s=s.s
 | [],[],s,s',x,h=>by simp only[G5,Option.some.injEq] at h;subst h;exact⟨rfl,rfl⟩
 |p::ps,t::ts,s,s',x,h=>by
  simp only[G5] at h
  obtain⟨h1,h2⟩:=J6 h
  exact⟨h1.trans (ale _ _ _),h2.trans (alf _ _ _)⟩
 | [],_::_,_,_,_,h=>by simp[G5] at h
 |_::_,[],_,_,_,h=>by simp[G5] at h
theorem WJ {f:AV}{R:Type}{k:Rng→List Nat→Option R}{r:R}(h:uT T Φ σ f k=some r):∃g bs,k g bs=some r:=by
 unfold uT at h
 repeat' split at h
 all_goals first | (cases h;done) |skip
 simp only[Option.bind_eq_some_iff] at h
 obtain⟨yh,_,h⟩:=h
 cases hb:(wE (bh _)&&(T.sig _).ae.isEmpty&&Nat.beq (T.real _) _) with
 |false=>rw[hb] at h;cases h
 |true=>
  rw[hb,cond_true] at h
  split at h
  ·exact⟨_,_,h⟩
  ·cases h
theorem SC {R:Type}{n:Nat}{r:R}:∀(c:Code) (hs:List (List (Nat×Bool))) (σ:AS) (k:Ex→AS→Option R),aH T Φ n c hs σ k=some r→∃e σ',k e σ'=some r∧Fr σ σ':=by
 intro c
 induction c with
 |skip=>intro hs σ k he;exact⟨_,σ,he,Fr.refl _⟩
 |region id ops draw=>intro hs σ k he;obtain⟨σ',h1,h2⟩:=aaT he;exact⟨_,σ',h1,h2⟩
 |seq x y Kj Hy=>
  intro hs σ k he
  simp only[aH] at he
  obtain⟨e,σ',h1,h2⟩:=Kj _ _ _ he
  cases e with
  |normal=>obtain⟨e,σ'',h3,h4⟩:=Hy _ _ _ h1;exact⟨e,σ'',h3,h2.trans h4⟩
  |exit i=>exact⟨_,_,h1,h2⟩
  |ret=>exact⟨_,_,h1,h2⟩
 |cond x y z Hy ihz=>
  intro hs σ k he
  simp only[aH] at he
  have jg:∀t b,Fr σ (σ.LR t b):=fun t b=>⟨rfl,rfl,rfl,oK.refl _,rfl⟩
  split at he
  ·split at he
   ·rename_i t _ b hb
    have main:∀b:Bool,(bif b then aH T Φ n y hs (σ.LR t true) k else aH T Φ n z (hs.drop (loops y)) (σ.LR t false) k)=some r→∃e σ',k e σ'=some r∧Fr σ σ':=fun b he=>by
     cases b
     ·obtain⟨e,σ',h1,h2⟩:=ihz _ _ _ he;exact⟨e,σ',h1,(jg _ _).trans h2⟩
     ·obtain⟨e,σ',h1,h2⟩:=Hy _ _ _ he;exact⟨e,σ',h1,(jg _ _).trans h2⟩
    exact main b he
   ·cases he
  ·rename_i b
   cases b
   ·exact ihz _ _ _ he
   ·exact Hy _ _ _ he
  ·cases he
 |block id c ih=>
  intro hs σ k he
  simp only[aH] at he
  obtain⟨e,σ',h1,h2⟩:=ih _ _ _ he
  cases e with
  |normal=>exact⟨_,_,h1,h2⟩
  |exit i=>
   cases hb:Nat.beq i id with
   |true=>simp only[hb,cond_true] at h1;exact⟨_,_,h1,h2⟩
   |false=>simp only[hb,cond_false] at h1;exact⟨_,_,h1,h2⟩
  |ret=>exact⟨_,_,h1,h2⟩
 |loop c ih=>
  intro hs σ k he
  simp only[aH] at he
  split at he
  ·rename_i hd hs'
   exact J5 (I:=Fr σ) (fun σ' h=>h.trans (mH hd σ')) (fun σ' k' hi hb=>by
    obtain⟨e,σ'',h1,h2⟩:=ih _ _ _ hb
    exact⟨e,σ'',h1,hi.trans h2⟩) n _ (mH hd σ) he
  ·cases he
 |rangeFunc f ps x y Kj Hy=>
  intro hs σ k he
  simp only[aH] at he
  split at he
  ·rename_i hd hs' u hrn htr
   obtain⟨g,bs,h1⟩:=WJ he
   cases hok:xg ((σ.jx bs).forget hd) with
   |false=>rw[hok] at h1;cases h1
   |true=>
    rw[hok,cond_true] at h1
    have f1:Fr σ ((σ.jx bs).forget hd):=(SA bs σ).trans (mH hd _)
    have YT:=hok
    simp only[xg,Bool.and_eq_true,List.all_eq_true] at YT
    have h0:FrX σ ({((σ.jx bs).forget hd) with b7:=[g]}:AS).save:=⟨⟨g,rfl⟩,f1.sites,f1.s,f1.tr,by
     refine⟨((σ.jx bs).forget hd).tmps.l.map fun p=>p.1+10000, ?_,fun i hi=> ?_⟩
     ·show (List.map _ _++_).map _=_
      rw[List.map_append,List.map_map, ←f1.ks]
      rfl
     ·obtain⟨p,hp,rfl⟩:=List.mem_map.1 hi
      have:=YT.1 p hp
      rw[sT] at this
      simp only[kl,Bool.and_eq_true,Nat.ble_eq,sT]
      omega⟩
    obtain⟨e,σ',h2,h3⟩:=J5 (r:=r) (h:=hd) (k:=fj k) (body:=ir ps.toList (fun σ k'=>aH T Φ n x hs' σ k') (fun σ k'=>aH T Φ n y (hs'.drop (loops x)) σ k')) (I:=FrX σ) (fun σ' h=>h.fr (mH hd σ')) (fun σ' k' hi hb=>by
     unfold ir at hb
     obtain⟨x0,hx0⟩:=hi.b7
     rw[hx0] at hb
     obtain⟨ts,xs⟩:=x0
     cases xs with
     |nil=>exact⟨_,_,hb,hi⟩
     |cons x1 xs=>
      dsimp only at hb
      split at hb
      ·rename_i s hs
       obtain⟨e,σ1,h4,h5⟩:=Kj _ _ _ hb
       cases e with
       |normal=>
        dsimp only at h4
        obtain⟨e,σ2,h6,h7⟩:=Hy _ _ _ h4
        cases e with
        |normal=>
         refine⟨_,_,h6, ?_⟩
         have f2:=h5.trans h7
         exact⟨⟨_,f2.b7⟩,f2.sites.trans hi.sites,(show σ2.tmps.n=_ from (f2.s.trans (J6 hs).1).trans hi.s),hi.tr.trans f2.tr,by
          show ∃ls:List Nat,σ2.tmps.s.map (·.1)=_∧_
          rw[f2.ks]
          show ∃ls:List Nat,s.s.map (·.1)=_∧_
          rw[(J6 hs).2];exact hi.ks⟩
        |_=>cases h6
       |_=>cases h4
      ·cases hb) n _ h0 h1
    unfold fj at h2
    split at h2
    ·refine⟨_,_,h2, ?_,h3.sites,h3.s,h3.tr,Vk h3 (fun i hi=>by
      rw[←f1.ks] at hi
      obtain⟨p,hp,rfl⟩:=List.mem_map.1 hi
      have:=YT.2 p hp
      rw[Nat.ble_eq] at this
      simp only[kl,Bool.and_eq_false_iff]
      exact .inr (by cases hb:Nat.blt p.1 (10000*(1+1)) with
       |false=>rfl
       |true=>rw[sT] at hb;omega))⟩
     obtain⟨x,hx⟩:=h3.b7
     show σ'.b7.tail=_
     rw[hx,hrn];rfl
    ·cases h2
  ·cases he
 |exit i=>intro hs σ k he;exact⟨_,σ,he,Fr.refl _⟩
 |ret=>intro hs σ k he;exact⟨_,σ,he,Fr.refl _⟩
 |_=>intros;rename_i he;cases he
end
end Go.Abs
