/- YtofjebmoebhiiaaGreatDoorZb: a part of the proof (AbsO6, AbsO7, AbsO8 ..). No condition. -/
import Derived.Test.YtofjebmoebhiiaaGreatDoorZa
import Derived.OrdersIn
set_option linter.unusedVariables false
set_option linter.unusedSimpArgs false
set_option maxRecDepth 100000
set_option exponentiation.threshold 2000
namespace Go.Abs
open Go.RowKit Go.Lib
section
variable {P:Program}{T:cj}{E:Env}{σ σ':AS}{a:Act}{w w':World}{ν ν':Nm→Value}{O:Nat→Prop}{Φ:bE T}{V:View}{Y:Value}
theorem made_eq (z:Array Value)(n:Nat):madeCells z (n*z.size)=((List.replicate n z.toList).flatten).toArray:=by
 apply Array.ext
 ·simp[madeCells]
 ·intro i h1 h2
  have h3:i<n*z.size:=by simpa [madeCells] using h1
  have hz:0<z.size:=by
   rcases Nat.eq_zero_or_pos z.size with h |h
   ·rw[h] at h3;omega
   ·exact h
  have hm:i % z.size<z.size:=Nat.mod_lt _ hz
  have key:∀(n i:Nat),i<n*z.size→(List.replicate n z.toList).flatten[i]? =some (z[i % z.size]'(Nat.mod_lt _ hz)):=by
   intro n
   induction n with
   |zero=>intro i hi;omega
   |succ n ih=>
    intro i hi
    rw[List.replicate_succ,List.flatten_cons]
    by_cases hlt:i<z.size
    ·rw[List.getElem?_append_left (by simpa using hlt)]
     simp[hlt,Nat.mod_eq_of_lt hlt]
    ·rw[List.getElem?_append_right (by simpa using Nat.not_lt.1 hlt)]
     rw[Nat.succ_mul] at hi
     have:=ih (i - z.size) (by omega)
     simp only[Array.length_toList]
     rw[this]
     congr 2
     conv=>rhs;rw[←Nat.sub_add_cancel (Nat.not_lt.1 hlt)]
     simp
  have:=key n i h3
  have h4:madeCells z (n*z.size)=(Array.range (n*z.size)).map (z[· % z.size]!):=rfl
  simp only[h4,Array.getElem_map,Array.getElem_range,List.getElem_toArray]
  have h5:i<(List.replicate n z.toList).flatten.length:=by simpa using h2
  rw[List.getElem?_eq_getElem h5] at this
  rw[Option.some.inj this]
  simp[hm]
theorem Vb {V:View}{t:Ty}{av:Operand→AV}(p5:∀x,ag V σ ν Y (av x) (a.eval x)):∀(parts:List (Nat×Operand)) (xs xs':List t.den) (bk:List (List Value)),
  elems av t parts xs=some xs'→az (Rel V t) xs bk→
  ∃Sk,Instr.fill (fun i=>some (i*t.size,t.size)) bk.flatten.toArray (parts.map fun(i,x)=>(i,a.eval x))=some Sk.flatten.toArray∧az (Rel V t) xs' Sk
 | [],xs,xs',bk,h,hr=>by simp only[elems,Option.some.injEq] at h;subst h;exact⟨bk,rfl,hr⟩
 | (i,x)::parts,xs,xs',bk,h,hr=>by
   simp only[elems] at h
   split at h
   ·rename_i v hv
    cases hb:Nat.blt i xs.length with
    |false=>simp[hb] at h
    |true=>
     simp only[hb,cond_true] at h
     have hlt:i+1≤xs.length:=Nat.le_of_ble_eq_true hb
     have hvr:=(Gr hv (p5 x)).cells
     have hvl:=Rel.length hvr
     obtain⟨ys,hy1,hy2,hy3⟩:=Bp hr i (xs[i]'(by omega)) (List.getElem?_eq_getElem (by omega))
     have hyl:=Rel.length hy2
     have hsp:=Bs (bk:=bk) i ys (a.eval x).cells.toList 0 (Gt hr) hy1 (by rw[hvl];omega)
     rw[hvl] at hsp
     simp only[Nat.zero_add,List.take_zero,List.nil_append,Nat.add_zero] at hsp
     have hd:ys.drop t.size=[]:=List.drop_eq_nil_of_le (by omega)
     rw[hd,List.append_nil] at hsp
     obtain⟨Sk,h1,h2⟩:=Vb p5 parts (xs.set i v) xs' (bk.set i (a.eval x).cells.toList) h (hr.set hvr)
     refine⟨Sk, ?_,h2⟩
     have hsz:(a.eval x).cells.size=t.size:=by simpa using hvl
     have OV:=fN hr
     have hmul:i*t.size+t.size≤xs.length*t.size:=by rw[←Nat.succ_mul];exact Nat.mul_le_mul_right _ hlt
     simp only[List.map_cons,Instr.fill]
     rw[if_neg (by simp[hsz,OV];omega)]
     have hfo:=IJ (a.eval x).cells.toList 0 (i*t.size) bk.flatten.toArray (by simp[OV,hsz];omega)
     have e:((a.eval x).cells.zipIdx.foldl (fun cs (p:Value×Nat)=>cs.setIfInBounds (i*t.size+p.2) p.1) bk.flatten.toArray)=(bk.set i (a.eval x).cells.toList).flatten.toArray:=by
      apply Array.ext'
      rw[←Array.foldl_toList,Array.toList_zipIdx]
      rw[hsp]
      simpa [hsz] using hfo
     rw[←h1]
     congr 1
   ·cases h
theorem NI {t:Ty}{av:Operand→AV}:∀(parts:List (Nat×Operand)) (xs xs':List t.den),elems av t parts xs=some xs'→xs'.length=xs.length
 | [],xs,xs',h=>by simp only[elems,Option.some.injEq] at h;rw[h]
 | (i,x)::parts,xs,xs',h=>by
   simp only[elems] at h
   split at h
   ·cases hb:Nat.blt i xs.length with
    |false=>simp[hb] at h
    |true=>
     simp only[hb,cond_true] at h
     rw[NI parts _ xs' h];simp
   ·cases h
theorem Ph {V:View}{t:Ty}{zs:List Value}(h:Rel V t t.zero zs)(n:Nat):az (Rel V t) (List.replicate n t.zero) (List.replicate n zs):=az.replicate h n
theorem Qk {w:World}{B:Nat}{e:TypeId}{size n cap:Nat}{cs:Array Value}{xs:List Value}(hB:B≤w.heap.size)(hn:n≤cap)(hm:cap≤maxLen)(hs:cs.size=cap*size)(hx:cs.toList.take (n*size)=xs)(hl:xs.length=n*size):
  (w.alloc (.cells cs e)).ownsRow B e size (.slice (some ⟨w.heap.size,0,none⟩) n cap) n xs:=
 ⟨hl, .inr ⟨w.heap.size,cap,cs,rfl,hB,heap_alloc_new w _,hn,hm,hs,hx⟩⟩
theorem Below.Sn {w:World}{o:Go.Obj}:Below w.heap.size w (w.alloc o):=⟨rfl,rfl,rfl,by simp,fun k hk=>heap_alloc_old w _ k hk⟩
theorem NJ (hE:aB E)(h:St E σ a w ν O){i n1:Nat}{hr:aV}{l':List hr.t.den}{v0:Value}{C:Nat→Prop}(hh:σ.ae[i]? =some hr)(hn1:n1≤hr.xs.length)(hC:∀k,C k→Own σ ν (.hp i n1) k)(hg:Grow C w w')
  (hblk:∀k,cD v0=some k→Own σ ν (.hp i n1) k∨(w.heap.size≤k∧k<w'.heap.size)) (hv0:∃g n c,v0= .slice (some ⟨g,0,none⟩) n c) (b5:∀V',(∀key v,view E σ ν O w key v→V' key v)→iT V' w' v0 ⟨hr.e,hr.t,l'⟩)
  {r:bZ} (he:(xv (T:=T) i hr (dF hr.xs n1) l').val Φ σ=some r):
  ∃us n,r=(.rv (.cv ⟨.ref i,n⟩), .l9 us)∧∃ν',St E (σ.app us) a w' ν' O∧bA (view E (σ.app us) ν' O w') ⟨.ref i,n⟩ v0:=by
 unfold xv at he
 rw[ay,gD] at he
 obtain⟨hc,rfl⟩:=he
 simp only[Bool.and_eq_true,beq_iff] at hc
 obtain⟨hw,hk⟩:=hc
 have X1:afD v0:=by obtain⟨g,n,c,e⟩:=hv0;exact⟨_,_,_,e⟩
 obtain⟨h1,h2⟩:=h.aj6 hE (n1:=n1) (l':=l') hh hw hn1 hC hg hblk (.inl ⟨hk,hv0⟩) (fun V' hV=>by rw[hk];exact⟨X1,b5 V' hV⟩)
 rw[nu]
 exact⟨_,_,rfl,_,h1,aiI (by omega) X1 h2⟩
theorem WM (hE:aB E)(h:St E σ a w ν O){d:Option Tmp}{row:Row}{v':Value}(hg:Below w.heap.size w w')(EX:∀k,cD v'=some k→w.heap.size≤k∧k<w'.heap.size)
  (b5:∀V',(∀key v,view E σ ν O w key v→V' key v)→iT V' w' v' row) {r:bZ} (he:(newRow (T:=T) d row).val Φ σ=some r):
  ∃q us,r=(.rv (.own q), .l9 us)∧∃ν',St E (σ.app us) a w' ν' O∧rF (view E (σ.app us) ν' O w') (σ.app us) ν' (.own q) v':=by
 unfold newRow at he
 split at he
 ·rename_i d
  rw[xy,gD] at he
  obtain⟨hd,rfl⟩:=he
  refine⟨_,_,rfl,_,h.newRow hE (row':=row) hd hg EX (fun hV=>b5 _ hV), ?_, ?_⟩
  ·rw[mw]
  ·show (look (put _ _ _) _).isSome=true
   rw[aA,if_pos rfl];rfl
 ·cases he
theorem Yv {o:Oper}{t:TypeId}{l cc:Operand}(ho:o.op= .makeSlice t l cc){e:TypeId}{i:TypeInfo}{z:Value}{size bytes:Nat}(hu:P.underlying t=some (.slice e))(i1:P.info? e=some i)(i4:i.zero=some z)(i2:i.size=size)
  (hzs:z.cells.size=size) (i3:i.bytes=bytes) (hb:0<bytes) {k k':IntKind} {n m:Int} (el:a.eval l= .int k n) (ec:a.eval cc= .int k' m) (hok:ir bytes n m=true):
  (execOp a.eval o).run P w= .ok (.value (.slice (some ⟨w.heap.size,0,none⟩) n.toNat m.toNat)) (w.alloc (.cells (List.replicate m.toNat z.cells.toList).flatten.toArray e))∧
  (w.alloc (.cells (List.replicate m.toNat z.cells.toList).flatten.toArray e)).ownsRow 0 e size (.slice (some ⟨w.heap.size,0,none⟩) n.toNat m.toNat) n.toNat (List.replicate n.toNat z.cells.toList).flatten:=by
 simp only[ir,Bool.and_eq_true,decide_eq_true_eq] at hok
 obtain⟨⟨h0,h1⟩,h2⟩:=hok
 have hm0:0≤m:=Int.le_trans h0 h1
 have hmb:m≤(bytes:Int)*m:=by
  have:1*m≤(bytes:Int)*m:=Int.mul_le_mul_of_nonneg_right (by omega) hm0
  rwa [Int.one_mul] at this
 have hb2:(i.bytes:Int)*m≤281474976710656:=by rw[i3];omega
 have hrun:=run_make (P:=P) w t e i z hu i1 i4 k k' n m h0 h1 hb2 (by omega)
 have his:i.size=z.cells.size:=by rw[i2,hzs]
 rw[his,made_eq] at hrun
 have hnm:n.toNat≤m.toNat:=by omega
 have hsz:((List.replicate m.toNat z.cells.toList).flatten.toArray).size=m.toNat*size:=by simp[hzs]
 have OV:(List.replicate n.toNat z.cells.toList).flatten.length=n.toNat*size:=by simp[hzs]
 refine⟨by simp[execOp,ho,el,ec,hrun],Qk (Nat.zero_le _) hnm ?_ hsz ?_ OV⟩
 ·simp only[maxLen];omega
 ·have e1:m.toNat=n.toNat+(m.toNat - n.toNat):=by omega
  rw[e1, ←List.replicate_append_replicate,List.flatten_append]
  show List.take _ (_++_)=_
  rw[←OV,List.take_left]
theorem E0 {w:World}{n c:Nat}{o:Go.Obj}(k:Nat)(hk:cD (.slice (some ⟨w.heap.size,0,none⟩) n c)=some k):w.heap.size≤k∧k<(w.alloc o).heap.size:=by
 simp only[cD,Option.some.injEq] at hk;subst hk;exact⟨Nat.le_refl _,by simp⟩
theorem WN (hE:aB E)(hG:Mh E)(hT:iw P T.rows)(hH:Dq P T)(hl:σ.ae.length=T.ae.length)(h:St E σ a w ν O){o:Oper}{r:bZ}{t:TypeId}{l cc:Operand}(ho:o.op= .makeSlice t l cc)
  (he:(Dj T σ.av σ.sites o).val Φ σ=some r):kP P o a w (To E (aS σ o.dst r)):=by
 have hd:∀c,o.op≠ .defer c:=by rw[ho];intro c e;cases e
 unfold Dj at he
 simp only[ho] at he
 split at he
 ·rename_i u e bytes k n k' m hel hl1 hc1
  obtain⟨re,hu,Ra,Ue,p0,hby,hpos⟩:=vg hT hel
  have el:=h.av hG l;rw[hl1] at el
  have ec:=h.av hG cc;rw[hc1] at ec
  have el:=xA el rfl
  have ec:=xA ec rfl
  rw[ay] at he
  obtain⟨hok,he⟩:=he
  split at he
  ·rename_i hp hhp
   rw[fo] at he
   obtain⟨hr,hh,he⟩:=he
   rw[ay] at he
   obtain⟨hc,he⟩:=he
   simp only[Bool.and_eq_true,beq_iff] at hc
   obtain⟨e1,hc⟩:=hc
   obtain⟨j,z,j1,j2,j3,j4⟩:=Pg hH hc (by rw[←hl];exact(List.getElem?_eq_some_iff.1 hh).1)
   obtain⟨i,z',i1,i2,i3,i4,_⟩:=Sj (V:=view E σ ν O w) Ra
   rw[Ue,e1,j1] at i1
   obtain rfl:j=i:=by simpa using i1
   have hzs:z.cells.size=hr.t.size:=by simpa using Rel.length (j4 (fun _ _=>False))
   obtain⟨hrun,hown⟩:=Yv (P:=P) (w:=w) ho hu (by rw[e1];exact j1) j3 j2 hzs (by rw[i3,hby]) hpos el ec hok
   rw[e1] at hrun hown
   obtain⟨us,n',rfl,ν',hs,hv⟩:=NJ hE h (n1:=0) (C:=fun _=>False) (v0:= .slice (some ⟨w.heap.size,0,none⟩) n.toNat m.toNat) hh (Nat.zero_le _) (fun _ hk=>hk.elim) (Grow.Bo Below.Sn) (fun k hk=> .inr (E0 k hk)) ⟨_,_,_,rfl⟩
    (fun V' hV=>⟨_,by simpa using hown,Ph (j4 V') _⟩) he
   exact bX hd hrun ⟨ν',O,hs.slot hv⟩
  ·obtain⟨i,z,i1,i2,i3,i4,i5⟩:=Yq Ra (o.dst.bind (look σ.sites))
   rw[Ue] at i1
   rw[p0] at i2 i5
   have hzs:z.cells.size=u.size:=by have:=Rel.length (i5 (fun _ _=>False));rw[Mj] at this;simpa using this
   obtain⟨hrun,hown⟩:=Yv (P:=P) (w:=w) ho hu i1 i4 i2 hzs (by rw[i3,hby]) hpos el ec hok
   obtain⟨q,us,rfl,ν',hs,hv⟩:=WM hE h (v':= .slice (some ⟨w.heap.size,0,none⟩) n.toNat m.toNat) Below.Sn (fun k hk=>E0 k hk)
    (fun V' hV=>⟨_,by rw[Mj];simpa using hown,Ph (i5 V') _⟩) he
   exact bX hd hrun ⟨ν',O,hs.slot (x:= .rv (.own q)) hv⟩
 ·cases he
theorem Pj {o:Oper}{t:TypeId}{len:Nat}{parts:Array (Nat×Operand)}(ho:o.op= .buildSlice t len parts){e:TypeId}{i:TypeInfo}{z:Value}{u:Ty}(hu:P.underlying t=some (.slice e))(i1:P.info? e=some i)(i4:i.zero=some z)(i2:i.size=u.size)
  (i5:Rel V u u.zero z.cells.toList) {av:Operand→AV} (p5:∀x,ag V σ ν Y (av x) (a.eval x)) {xs:List u.den} (hxs:elems av u parts.toList (List.replicate len u.zero)=some xs) (hle:len*u.size≤16777216) (hlen:len≤16777216):
  ∃bk,(execOp a.eval o).run P w= .ok (.value (.slice (some ⟨w.heap.size,0,none⟩) len len)) (w.alloc (.cells bk.flatten.toArray e))∧az (Rel V u) xs bk∧xs.length=len∧
   (w.alloc (.cells bk.flatten.toArray e)).ownsRow 0 e u.size (.slice (some ⟨w.heap.size,0,none⟩) len len) len bk.flatten:=by
 have hzs:z.cells.size=u.size:=by simpa using Rel.length i5
 obtain⟨bk,f1,f2⟩:=Vb p5 parts.toList _ xs (List.replicate len z.cells.toList) hxs (Ph i5 len)
 have amU:(Array.range (len*u.size)).map (z.cells[· % z.cells.size]!)=(List.replicate len z.cells.toList).flatten.toArray:=by
  rw[←made_eq,hzs];unfold madeCells;rw[hzs]
 have hxl:xs.length=len:=by rw[NI _ _ _ hxs];simp
 have hsz:i.size=u.size:=i2
 have OV:=fN f2
 have hrun:(execOp a.eval o).run P w= .ok (.value (.slice (some ⟨w.heap.size,0,none⟩) len len)) (w.alloc (.cells bk.flatten.toArray e)):=by
  have hn:¬len*u.size>16777216:=by omega
  have f1':Instr.fill (fun i=>some (i*u.size,u.size)) (List.replicate len z.cells.toList).flatten.toArray (List.map (fun x=>(x.fst,a.eval x.snd)) parts.toList)=some bk.flatten.toArray:=f1
  have Yw:Array.map (fun x=>(default:Value)) (Array.range 0)= #[]:=by simp
  by_cases hz:len*u.size=0
  ·have he:(List.replicate len z.cells.toList).flatten=[]:=by
    apply List.eq_nil_of_length_eq_zero
    simp[hzs,hz]
   rw[he] at f1'
   simp[execOp,ho,Instr.buildSlice,run_underlying hu,sizeOf,typeInfo,i1,hsz,hn,hz,Yw,f1',Go.newRow]
  ·simp[execOp,ho,Instr.buildSlice,run_underlying hu,sizeOf,typeInfo,zeroValue,i1,i4,hsz,hn,hz,amU,f1',Go.newRow]
 have hlm:len≤maxLen:=by simp only[maxLen];omega
 refine⟨bk,hrun,f2,hxl,Qk (Nat.zero_le _) (Nat.le_refl _) hlm (by simp[OV,hxl]) (by show List.take (len*u.size) bk.flatten=_;rw[←hxl, ←OV,List.take_length]) (by rw[OV,hxl])⟩
theorem Uq (hE:aB E)(hG:Mh E)(hT:iw P T.rows)(hH:Dq P T)(hl:σ.ae.length=T.ae.length)(h:St E σ a w ν O){o:Oper}{r:bZ}{t:TypeId}{len:Nat}{parts:Array (Nat×Operand)}(ho:o.op= .buildSlice t len parts)
  (he:(Dj T σ.av σ.sites o).val Φ σ=some r):kP P o a w (To E (aS σ o.dst r)):=by
 have hd:∀c,o.op≠ .defer c:=by rw[ho];intro c e;cases e
 unfold Dj at he
 simp only[ho] at he
 generalize o.dst.bind (look σ.sites)=st at he
 split at he
 ·rename_i u e bytes hel
  obtain⟨re,hu,Ra,Ue,p0,hby,hpos⟩:=vg hT hel
  split at he
  ·rename_i hp hhp
   rw[fo] at he
   obtain⟨hr,hh,he⟩:=he
   rw[ay,bP] at he
   obtain⟨hc,ys,hys,he⟩:=he
   simp only[Bool.and_eq_true,beq_iff] at hc
   obtain⟨⟨⟨e1,hc⟩,hb1⟩,hb2⟩:=hc
   obtain⟨j,z,j1,j2,j3,j4⟩:=Pg hH hc (by rw[←hl];exact(List.getElem?_eq_some_iff.1 hh).1)
   obtain⟨bk,hrun,f2,f3,hown⟩:=Pj (P:=P) (w:=w) ho hu (by rw[e1];exact j1) j3 j2 (j4 _) (h.av hG) hys (Nat.le_of_ble_eq_true hb1) (Nat.le_of_ble_eq_true hb2)
   rw[e1] at hrun hown
   obtain⟨us,n',rfl,ν',hs,hv⟩:=NJ hE h (n1:=0) (C:=fun _=>False) (v0:= .slice (some ⟨w.heap.size,0,none⟩) len len) hh (Nat.zero_le _) (fun _ hk=>hk.elim) (Grow.Bo Below.Sn) (fun k hk=> .inr (E0 k hk)) ⟨_,_,_,rfl⟩
    (fun V' hV=>⟨bk,by rw[f3];exact hown,f2.mono (Rel.mono hV _)⟩) he
   exact bX hd hrun ⟨ν',O,hs.slot hv⟩
  ·rw[ay] at he
   obtain⟨hc,he⟩:=he
   simp only[Bool.and_eq_true] at hc
   obtain⟨hb1,hb2⟩:=hc
   obtain⟨i,z,i1,i2,i3,i4,i5⟩:=Yq Ra st
   rw[Ue] at i1
   rw[p0] at i2 i5
   have i2':i.size=(Lq st u).size:=by rw[Mj];exact i2
   cases hb:(List.map (fun x=>x.2) parts.toList).any fun x=>wO (σ.av x) with
   |true=>
    rw[hb,cond_true,ma,bP] at he
    obtain⟨ys,hys,he⟩:=he
    have s1:=h.va hE (parts.toList.map (·.2))
    split at he
    ·rename_i d Pe
     split at he
     ·rename_i hfree
      rw[gD] at he
      subst he
      obtain⟨bk,hrun,f2,f3,hown⟩:=Pj (P:=P) (w:=w) ho hu i1 i4 i2' (i5 _) (s1.av hG) hys (Nat.le_of_ble_eq_true hb1) (Nat.le_of_ble_eq_true hb2)
      refine bX hd hrun ⟨tt ν d (.slice (some ⟨w.heap.size,0,none⟩) len len),O, ?_⟩
      simp only[aS,Pe]
      have s2:=s1.newRow hE (w':=w.alloc (.cells bk.flatten.toArray e)) (row':=⟨e,Lq st u,ys⟩) (v':= .slice (some ⟨w.heap.size,0,none⟩) len len) hfree Below.Sn (fun k hk=>E0 k hk) (fun hV=>⟨bk,by rw[f3];exact hown,f2.mono (Rel.mono hV _)⟩)
      refine s2.slot (x:= .rv (.own d)) ⟨?_, ?_⟩
      ·rw[mw]
      ·show (look (put _ _ _) _).isSome=true
       rw[aA,if_pos rfl];rfl
     ·cases he
    ·cases he
   |false=>
    rw[hb,cond_false,bP] at he
    obtain⟨ys,hys,he⟩:=he
    obtain⟨bk,hrun,f2,f3,hown⟩:=Pj (P:=P) (w:=w) ho hu i1 i4 i2' (i5 _) (h.av hG) hys (Nat.le_of_ble_eq_true hb1) (Nat.le_of_ble_eq_true hb2)
    obtain⟨q,us,rfl,ν',hs,hv⟩:=WM hE h (v':= .slice (some ⟨w.heap.size,0,none⟩) len len) Below.Sn (fun k hk=>E0 k hk) (fun V' hV=>⟨bk,by rw[f3];exact hown,f2.mono (Rel.mono hV _)⟩) he
    exact bX hd hrun ⟨ν',O,hs.slot (x:= .rv (.own q)) hv⟩
 ·cases he
end
end Go.Abs
namespace Go.Abs
open Go.RowKit Go.Lib
section
variable {P:Program}{T:cj}{E:Env}{σ σ':AS}{a:Act}{w w':World}{ν ν':Nm→Value}{O:Nat→Prop}{Φ:bE T}{V:View}{Y:Value}
theorem Gu (base:Nat)(t ty e:TypeId)(i:TypeInfo)(z:Value)(size bytes:Nat)(ht:P.underlying t=some (.slice e))(hi:P.info? e=some i)(hz:i.zero=some z)
  (hsize:i.size=size) (hby:i.bytes=bytes) (hzs:z.cells.size=size) (hsz:0<size) (hb0:0<bytes)
  (v:Value) (n:Nat) (xs:List Value) (hown:w.ownsRow base e size v n xs)
  (A:Option Addr) (m c:Nat) (news:List Value) (hl:news.length=m*size) (hmc:m≤c) (hA:A=none→c=0) (hnews:∀j u,news[j]? =some u→∃ad,A=some ad∧w.cell? (ad.add j)=some u) (h1:∀u∈news,u.oneCell'=true)
  (hbytes:(n+m)*bytes≤140737488355328) (hbase:base≤w.heap.size):
  ∃v' w',(Builtin.append_ #[t,t] ty #[v, .slice A m c]).run P w= .ok v' w'∧w'.ownsRow base e size v' (n+m) (xs++news)∧w.grownBy w' v.ownBlock∧
   (∀k,v'.ownBlock=some k→v.ownBlock=some k∨w.heap.size≤k):=by
 cases A with
 |none=>
  have hc:=hA rfl
  subst hc
  obtain rfl:m=0:=by omega
  have:news=[]:=List.eq_nil_of_length_eq_zero (by simpa using hl)
  subst this
  have hrun:=run_append_owned_none (P:=P) (w:=w) base t ty e i size ht hi v n xs hown
  exact⟨v,w,hrun,by simpa using hown,⟨rfl,rfl,rfl,Nat.le_refl _,fun _ _ _=>rfl⟩,fun k hk=> .inl hk⟩
 |some ad=>
  have hn':∀j u,news[j]? =some u→w.cell? (ad.add j)=some u:=fun j u hj=>by
   obtain⟨Pb,e',h⟩:=hnews j u hj
   obtain rfl:ad=Pb:=by simpa using e'
   exact h
  have hle:n+m≤(n+m)*bytes:=Nat.le_mul_of_pos_right _ hb0
  have h63:n+m≤maxLen:=by simp only[maxLen];omega
  obtain⟨v',w',hr,h2,h3,h4⟩:=run_append_own (P:=P) w base t ty e i z size bytes ht hi hz hsize hby hzs hsz v n xs hown ad m c news hl hn' h1 h63 hbytes hbase
  refine⟨v',w',hr,h2,h3,fun k hk=> ?_⟩
  subst hsize hby
  rcases hown.2 with ⟨rfl,rfl⟩ | ⟨g,cap,cur,rfl,hbg,hg,hnc,hcm,hcs,Hp⟩
  ·by_cases hm:m=0
   ·have:=h4.2 ⟨rfl,hm⟩
    rw[this] at hk;cases hk
   ·have Hn:=run_append_nil (P:=P) w t ty e i z ht hi hz ad m c news hl hn' (by omega) (by omega) (by simp only[Nat.zero_add] at hbytes;omega)
    rw[Hn] at hr
    injection hr with O8 hr3
    rw[←O8] at hk
    simp[Value.ownBlock] at hk
    exact .inr (by omega)
  ·by_cases hroom:n+m≤cap
   ·have hfit:n*i.size+news.length≤cur.size:=by rw[hl,hcs, ←Nat.add_mul];exact Nat.mul_le_mul_right _ hroom
    have Hn:=run_append_room (P:=P) w t ty e i ht hi g n cap cur hg ad m c news hl hn' h1 hroom hfit
    rw[Hn] at hr
    injection hr with O8 hr3
    rw[←O8] at hk
    exact .inl hk
   ·have holds:∀j u,xs[j]? =some u→w.cell? ((⟨g,0,none⟩:Addr).add j)=some u:=hown.cells (g:=g) rfl
    have Hn:=run_append_grow (P:=P) w t ty e i z ht hi hz ⟨g,0,none⟩ n cap xs hown.1 holds ad m c news hl hn' (by omega) (by omega) (growslice_fits (by omega) hbytes)
    rw[Hn] at hr
    injection hr with O8 hr3
    rw[←O8] at hk
    simp[Value.ownBlock] at hk
    exact .inr (by omega)
theorem NK {V:View}{t:Ty}{xs:List t.den}{bk:List (List Value)}(h:az (Rel V t) xs bk):∀u∈bk.flatten,u.oneCell'=true:=by
 intro u hu
 obtain⟨l,hl,hul⟩:=List.mem_flatten.1 hu
 obtain⟨i,hi⟩:=List.getElem?_of_mem hl
 obtain⟨x,_,hr⟩:=h.get' i l hi
 obtain⟨j,hj⟩:=List.getElem?_of_mem hul
 obtain⟨c,_,hc⟩:=(il hr).get' j u hj
 exact RS hc
theorem Grow.of_grownBy {g:Option Nat}(h:w.grownBy w' g):Grow (fun k=>g=some k) w w':=⟨h.os,h.tape,h.output,h.size,fun k hk hn=>h.block k hk fun e=>hn e.symm⟩
theorem Ql (base:Nat)(t ty e:TypeId)(i:TypeInfo)(size:Nat)(ht:P.underlying t=some (.slice e))(hi:P.info? e=some i)
  (v:Value) (n:Nat) (xs:List Value) (hown:w.ownsRow base e size v n xs) (A:Option Addr) (c:Nat) (hA:A=none→c=0):
  (Builtin.append_ #[t,t] ty #[v, .slice A 0 c]).run P w= .ok v w:=by
 cases A with
 |none=>rw[hA rfl];exact run_append_owned_none (P:=P) (w:=w) base t ty e i size ht hi v n xs hown
 |some ad=>
  rcases hown.2 with ⟨rfl,rfl⟩ | ⟨g,cap,cur,rfl,_,_,hnc,_⟩
  ·simp[Builtin.append_,run_underlying ht,sizeOf,typeInfo,hi,Builtin.lenOf,Builtin.firstCells,loadCells,loadCellsFrom]
  ·simp[Builtin.append_,run_underlying ht,sizeOf,typeInfo,hi,Builtin.lenOf,Builtin.firstCells,hnc,storeCells,loadCells,loadCellsFrom]
theorem Dr {v:Value}{A:Option Addr}{n c:Nat}(h:v= .slice A n c):cD v=v.ownBlock:=by subst h;cases A<;>rfl
theorem oU {e:TypeId}{B size n:Nat}{v:Value}{xs:List Value}(h:w.ownsRow B e size v n xs):∃A c,v= .slice A n c:=by
 rcases h.2 with ⟨rfl,rfl⟩ | ⟨g,cap,cur,rfl,_⟩
 ·exact⟨_,_,rfl⟩
 ·exact⟨_,_,rfl⟩
theorem Gv {e:TypeId}{B size n:Nat}{v:Value}{xs:List Value}(h:w.ownsRow B e size v n xs){k:Nat}(hk:v.ownBlock=some k):k<w.heap.size:=by
 rcases h.2 with ⟨rfl,rfl⟩ | ⟨g,cap,cur,rfl,_,hg,_⟩
 ·cases hk
 ·simp[Value.ownBlock] at hk;subst hk;exact(Array.getElem?_eq_some_iff.1 hg).1
theorem St.Kc (h:St E σ a w ν O){i n:Nat}{hr:aV}{l:List hr.t.den}{v:Value}(hh:σ.ae[i]? =some hr)(hl:ah hr.xs n=some l)(hv:bA (view E σ ν O w) ⟨.ref i,n⟩ v):
  iT (view E σ ν O w) w v ⟨hr.e,hr.t,l⟩∧(∀k,cD v=some k→Own σ ν (.hp i n) k)∧((n=0∧v= .slice none 0 0∧l=[])∨(1≤n∧hr.k=0∧v=ν (.hp i n))):=by
 rcases IG hv with ⟨rfl,rfl⟩ | ⟨h1,hs,_,h2,h3⟩
 ·simp only[ah,Option.some.injEq] at hl
  subst hl
  exact⟨⟨[],Gs,trivial⟩,(fun k hk=>by cases hk), .inl ⟨rfl,rfl,rfl⟩⟩
 ·have b5:=h.hp hh h1 hl
  have hk:hr.k=0:=by
   rcases h.nn i hr n hh h1 (J8 hl) with ⟨e,_⟩ | ⟨_,g,e⟩
   ·exact e
   ·obtain⟨A,m,c,e2⟩:=hs
    rw[h3,e] at e2;cases e2
  rw[hk] at b5
  rw[←h3] at b5
  exact⟨b5.2,fun k hk=>⟨aW (aaD hh h1 hl),by rw[←h3];exact hk⟩, .inr ⟨h1,hk,h3⟩⟩
theorem RD {v:Value}{row:Row}(h:iT V w v row):∃(A:Option Addr) (c:Nat) (bk:List (List Value)),v= .slice A row.xs.length c∧row.xs.length≤c∧az (Rel V row.t) row.xs bk∧(A=none→c=0)∧
  ∀j u,bk.flatten[j]? =some u→∃ad,A=some ad∧w.cell? (ad.add j)=some u:=by
 obtain⟨bk,⟨e1,e2⟩,hall⟩:=h
 rcases e2 with ⟨e2,e3⟩ | ⟨g,cap,cur,e2,_,hg,hn,hm,hcs,Hp⟩
 ·have:row.xs=[]:=List.eq_nil_of_length_eq_zero e3
  have hy:=fN hall
  rw[e3,Nat.zero_mul] at hy
  refine⟨none,0,bk,by rw[e2,e3],by omega,hall,fun _=>rfl,fun j u hj=> ?_⟩
  rw[List.eq_nil_of_length_eq_zero hy] at hj;simp at hj
 ·refine⟨some ⟨g,0,none⟩,cap,bk,e2,hn,hall,(fun e=>by cases e),fun j u hj=>⟨_,rfl, ?_⟩⟩
  rw[Ho,cell_of_row w g j cur row.e (0,0) hg]
  rw[←Hp] at hj
  simpa using IE hj
theorem A7 (hE:aB E)(h:St E σ a w ν O){t:Ty}{x:AV}{u:Value}(hx:ag (view E σ ν O w) σ ν E.Y x u){k:List t.den→Q T bZ}{r:bZ}(he:(appended t x k).val Φ σ=some r):
  ∃ys:List t.den,(k ys).val Φ σ=some r∧∃(A:Option Addr) (c:Nat) (bk:List (List Value)),u= .slice A ys.length c∧ys.length≤c∧az (Rel (view E σ ν O w) t) ys bk∧(A=none→c=0)∧
   ∀j u,bk.flatten[j]? =some u→∃ad,A=some ad∧w.cell? (ad.add j)=some u:=by
 have hc:=R8 hx
 have cast:∀{e0:TypeId} {t':Ty} {l:List t'.den} {ys:List t.den},(cC (.slice t) [⟨.slice t',l⟩]).map (·.1)=some ys→iT (view E σ ν O w) w u ⟨e0,t',l⟩→∃(A:Option Addr) (c:Nat) (bk:List (List Value)),u= .slice A ys.length c∧ys.length≤c∧az (Rel (view E σ ν O w) t) ys bk∧(A=none→c=0)∧
   ∀j u,bk.flatten[j]? =some u→∃ad,A=some ad∧w.cell? (ad.add j)=some u:=fun {e0 t' l ys} h1 h2=>by
  have:=Dn h1
  injection this with e1 e2
  injection e1 with e1
  subst e1
  simp only[heq_eq_eq] at e2
  subst e2
  exact RD h2
 unfold appended at he
 split at he
 ·rename_i i n hxx
  rw[hxx] at hc
  rw[fo] at he
  obtain⟨hr,hh,he⟩:=he
  rw[bP] at he
  obtain⟨l,hl,he⟩:=he
  rw[bP] at he
  obtain⟨ys,hys,he⟩:=he
  refine⟨ys,he, ?_⟩
  obtain⟨h1,_⟩:=h.Kc hh hl hc
  exact cast hys h1
 ·rename_i c hxx
  rw[hxx] at hc
  rw[bP] at he
  obtain⟨ys,hys,he⟩:=he
  refine⟨ys,he, ?_⟩
  have:=Dn hys
  subst this
  obtain⟨A,cc,bk,e1,e2,e3,e4,e5⟩:=qm hc
  exact⟨A,cc,bk,e1,e2,e3,e4,fun j u hj=>by
   obtain⟨ad,e,hv⟩:=e5 j u hj
   exact⟨ad,e,xx hE h.keep hv⟩⟩
 ·rename_i q hxx
  rw[hxx] at hc
  rw[pZ] at he
  obtain⟨row,hrow,he⟩:=he
  rw[bP] at he
  obtain⟨ys,hys,he⟩:=he
  refine⟨ys,he, ?_⟩
  have h1:=h.row hrow
  rw[←hc.1] at h1
  exact cast hys h1
 ·rename_i hxx
  rw[hxx] at hc
  exact⟨[],he,none,0,[],hc,Nat.le_refl _,trivial,fun _=>rfl,fun j u hj=>by simp at hj⟩
 ·cases he
theorem adK {t tx ty e e2:TypeId}{i:TypeInfo}(ht:P.underlying t=some (.slice e))(hi:P.info? e=some i)(hx:P.underlying tx=some (.slice e2))(v x:Value):(Builtin.append_ #[t,tx] ty #[v,x]).run P w=(Builtin.append_ #[t,t] ty #[v,x]).run P w:=by
 cases v<;>simp[Builtin.append_,run_underlying ht,run_underlying hx,sizeOf,typeInfo,hi]
theorem adM (hE:aB E)(hG:Mh E)(hT:iw P T.rows)(h:St E σ a w ν O){o:Oper}{r:bZ}{args:Array Operand}{ats:Array TypeId}(ho:o.op= .call {callee:= .builtin .append,args:=args,argTypes:=ats})
  (he:(Dj T σ.av σ.sites o).val Φ σ=some r):kP P o a w (To E (aS σ o.dst r)):=by
 have hd:∀c,o.op≠ .defer c:=by rw[ho];intro c e;cases e
 unfold Dj at he
 simp only[ho] at he
 generalize o.dst.bind (look σ.sites)=st at he
 split at he
 ·rename_i s x t tx hargs amV
  have hx':args= #[s,x]:=by cases args;simp at hargs;subst hargs;rfl
  have ht':ats= #[t,tx]:=by cases ats;simp at amV;subst amV;rfl
  subst hx' ht'
  rw[ay] at he
  obtain⟨htt,he⟩:=he
  split at he
  ·rename_i u e bytes hel
   obtain⟨re,hu,Ra,Ue,p0,hby,hpos⟩:=vg hT hel
   obtain⟨i,z,i1,i2,i3,i4,i5⟩:=Sj (V:=view E σ ν O w) Ra
   rw[Ue] at i1
   rw[p0] at i5 i2
   rw[hby] at i3
   have hzs:z.cells.size=u.size:=by simpa using Rel.length i5
   have htx:∀(v x:Value),(Builtin.append_ #[t,tx] o.type #[v,x]).run P w=(Builtin.append_ #[t,t] o.type #[v,x]).run P w:=by
    rw[Bool.or_eq_true] at htt
    rcases htt with htt |htt
    ·have:=(beq_iff _ _).1 htt
     subst this
     exact fun _ _=>rfl
    ·obtain⟨⟨u2,e2,b2⟩,ao6⟩:=Option.isSome_iff_exists.1 htt
     obtain⟨re2,hu2,_⟩:=vg hT ao6
     exact fun v x=>adK hu i1 hu2 v x
   have Vd:∀(v':Value) (w':World),(Builtin.append_ #[t,t] o.type #[a.eval s,a.eval x]).run P w= .ok v' w'→(execOp a.eval o).run P w= .ok (.value v') w':=fun v' w' hv=>by
    rw[←htx] at hv
    simp[execOp,ho,resolve,invoke,builtin,hv]
   have hs:=h.av hG s
   have hx:=h.av hG x
   split at he
   ·rename_i q hq
    rw[hq] at hs
    rw[pZ] at he
    obtain⟨row,hrow,he⟩:=he
    rw[ay] at he
    obtain⟨_,he⟩:=he
    obtain⟨ys,he,A,cc,bk,ex,f1,f2,f3,f4⟩:=A7 hE h hx he
    rw[ay] at he
    obtain⟨hc,he⟩:=he
    simp only[Bool.and_eq_true,aD,beq_iff] at hc
    obtain⟨⟨c1,c2⟩,c3,c4⟩:=hc
    have c3':0<u.size:=Nat.le_of_ble_eq_true c3
    have c4':=Nat.le_of_ble_eq_true c4
    split at he
    ·rename_i d Pe
     rw[ma] at he
     split at he
     ·rename_i hfree
      rw[gD] at he
      subst he
      obtain⟨zss,hown,hall⟩:=h.row hrow
      rw[c1,c2] at hown
      obtain⟨v',w',hrun,g1,g2,g3⟩:=Gu (P:=P) 0 t o.type e i z u.size bytes hu i1 i4 i2 i3 hzs c3' hpos (ν (.row q)) row.xs.length zss.flatten hown A ys.length cc bk.flatten (by rw[fN f2,c2]) f1 f3 f4 (NK f2) c4' (Nat.zero_le _)
      refine bX hd (Vd v' w' (by rw[hs.1,ex];exact hrun)) ?_
      simp only[aS,Pe]
      obtain⟨A1,k1,WL⟩:=oU hown
      obtain⟨A2,k2,Ur⟩:=oU g1
      refine⟨tt ν d v',O,(h.acj hE (d:=d) (row':=⟨e,row.t,row.xs++ys⟩) hfree ((Grow.of_grownBy g2).mono fun k _ hk=>WI hrow (by rw[Dr WL];exact hk)) (fun k hk=> ?_) (fun hV=> ?_)).slot (x:= .rv (.own d)) ⟨?_, ?_⟩⟩
      ·rw[Dr Ur] at hk
       rcases g3 k hk with h1 |h1
       ·exact .inl (WI hrow (by rw[Dr WL];exact h1))
       ·exact .inr ⟨h1,Gv g1 hk⟩
      ·refine⟨zss++bk, ?_,(hall.mono (Rel.mono hV _)).append (f2.mono (Rel.mono hV _))⟩
       rw[List.flatten_append,c2,List.length_append];exact g1
      ·rw[mw]
      ·show (look (put _ _ _) _).isSome=true
       rw[aA,if_pos rfl];rfl
     ·cases he
    ·cases he
   ·rename_i hp n hq
    rw[hq] at hs
    rw[fo] at he
    obtain⟨hr,hh,he⟩:=he
    rw[bP] at he
    obtain⟨l,hl,he⟩:=he
    rw[ay] at he
    obtain⟨hc,he⟩:=he
    simp only[Bool.and_eq_true,beq_iff] at hc
    obtain⟨c1,c2⟩:=hc
    obtain⟨ys,he,A,cc,bk,ex,f1,f2,f3,f4⟩:=A7 hE h hx he
    rw[ay] at he
    obtain⟨hc,he⟩:=he
    simp only[Bool.and_eq_true,aD] at hc
    obtain⟨c3,c4⟩:=hc
    have c3':0<hr.t.size:=Nat.le_of_ble_eq_true c3
    have c4':=Nat.le_of_ble_eq_true c4
    obtain⟨hrow,hblk,E1⟩:=h.Kc hh hl hs
    obtain⟨zss,hown,hall⟩:=hrow
    rw[←c1] at hown
    dsimp only at hown hall
    rw[Ny] at he
    rcases he with ⟨hem,he⟩ | ⟨hne,he⟩
    ·have hys:ys=[]:=by cases ys with
      |nil=>rfl
      |cons _ _=>cases hem
     subst hys
     rw[gB] at he
     subst he
     have hrun:=Ql (P:=P) 0 t o.type e i hr.t.size hu i1 (a.eval s) l.length zss.flatten hown A cc f3
     exact bY hE hd h rfl (Vd _ _ (by rw[ex];exact hrun)) hs
    ·obtain⟨v',w',hrun,g1,g2,g3⟩:=Gu (P:=P) 0 t o.type e i z hr.t.size bytes hu i1 i4 (by rw[i2,c2]) i3 (by rw[hzs,c2]) c3' hpos (a.eval s) l.length zss.flatten hown A ys.length cc bk.flatten (fN f2) f1 f3 f4 (NK f2) c4' (Nat.zero_le _)
     obtain⟨A1,k1,WL⟩:=oU hown
     obtain⟨A2,k2,Ur⟩:=oU g1
     have amW:0<ys.length:=by cases ys with
      |nil=>cases hne
      |cons _ _=>simp
     obtain⟨us,n',rfl,ν',s1,hv⟩:=NJ hE h (n1:=n) (C:=fun k=>cD (a.eval s)=some k) (v0:=v') (w':=w') (l':=l++ys) hh (J8 hl) hblk ((Grow.of_grownBy g2).mono fun k _ hk=>by rw[Dr WL];exact hk) (fun k hk=>by
       rw[Dr Ur] at hk
       rcases g3 k hk with h1 |h1
       ·exact .inl (hblk k (by rw[Dr WL];exact h1))
       ·exact .inr ⟨h1,Gv g1 hk⟩) (by
       rcases g1.2 with ⟨_,e0⟩ | ⟨g,cap,cur,e0,_⟩
       ·omega
       ·exact⟨_,_,_,e0⟩)
      (fun V' hV=>⟨zss++bk,by rw[List.flatten_append, ←c1,List.length_append];exact g1,(hall.mono (Rel.mono hV _)).append (f2.mono (Rel.mono hV _))⟩) he
     exact bX hd (Vd v' w' (by rw[ex];exact hrun)) ⟨ν',O,s1.slot hv⟩
   ·rename_i hq
    rw[hq] at hs
    have es:a.eval s= .slice none 0 0:=hs
    split at he
    ·rename_i hp hhp
     rw[fo] at he
     obtain⟨hr,hh,he⟩:=he
     rw[ay] at he
     obtain⟨hc,he⟩:=he
     simp only[Bool.and_eq_true,beq_iff] at hc
     obtain⟨c1,c2⟩:=hc
     obtain⟨ys,he,A,cc,bk,ex,f1,f2,f3,f4⟩:=A7 hE h hx he
     rw[ay] at he
     obtain⟨hc,he⟩:=he
     simp only[Bool.and_eq_true,aD] at hc
     obtain⟨c3,c4⟩:=hc
     have c3':0<hr.t.size:=Nat.le_of_ble_eq_true c3
     have c4':=Nat.le_of_ble_eq_true c4
     rw[Ny] at he
     rcases he with ⟨hem,he⟩ | ⟨hne,he⟩
     ·have hys:ys=[]:=by cases ys with
       |nil=>rfl
       |cons _ _=>cases hem
      subst hys
      rw[gB] at he
      subst he
      have hrun:=Ql (P:=P) 0 t o.type e i hr.t.size hu i1 (.slice none 0 0) 0 [] (World.ownsRow_nil w 0 e hr.t.size) A cc f3
      exact bY hE hd h rfl (Vd _ _ (by rw[es,ex];exact hrun)) rfl
     ·obtain⟨v',w',hrun,g1,g2,g3⟩:=Gu (P:=P) 0 t o.type e i z hr.t.size bytes hu i1 i4 (by rw[i2,c2]) i3 (by rw[hzs,c2]) c3' hpos (.slice none 0 0) 0 [] (World.ownsRow_nil w 0 e hr.t.size) A ys.length cc bk.flatten (fN f2) f1 f3 f4 (NK f2) c4' (Nat.zero_le _)
      obtain⟨A2,k2,Ur⟩:=oU g1
      have amW:0<ys.length:=by cases ys with
       |nil=>cases hne
       |cons _ _=>simp
      obtain⟨us,n',rfl,ν',s1,hv⟩:=NJ hE h (n1:=0) (C:=fun _=>False) (v0:=v') (w':=w') (l':=ys) hh (Nat.zero_le _) (fun _ hk=>hk.elim) ((Grow.of_grownBy g2).mono fun k _ hk=>by cases hk) (fun k hk=>by
        rw[Dr Ur] at hk
        rcases g3 k hk with h1 |h1
        ·cases h1
        ·exact .inr ⟨h1,Gv g1 hk⟩) (by
        rcases g1.2 with ⟨_,e0⟩ | ⟨g,cap,cur,e0,_⟩
        ·omega
        ·exact⟨_,_,_,e0⟩)
       (fun V' hV=>⟨bk,by rw[←c1];simpa using g1,f2.mono (Rel.mono hV _)⟩) he
      exact bX hd (Vd v' w' (by rw[es,ex];exact hrun)) ⟨ν',O,s1.slot hv⟩
    ·obtain⟨ys,he,A,cc,bk,ex,f1,f2,f3,f4⟩:=A7 hE h hx he
     rw[ay] at he
     obtain⟨hc,he⟩:=he
     simp only[Bool.and_eq_true,aD] at hc
     obtain⟨c3,c4⟩:=hc
     have c3':0<u.size:=Nat.le_of_ble_eq_true c3
     have c4':=Nat.le_of_ble_eq_true c4
     obtain⟨v',w',hrun,g1,g2,g3⟩:=Gu (P:=P) 0 t o.type e i z u.size bytes hu i1 i4 i2 i3 hzs c3' hpos (.slice none 0 0) 0 [] (World.ownsRow_nil w 0 e u.size) A ys.length cc bk.flatten (fN f2) f1 f3 f4 (NK f2) c4' (Nat.zero_le _)
     obtain⟨A2,k2,Ur⟩:=oU g1
     have ao8:Below w.heap.size w w':=(((Grow.of_grownBy g2).mono fun k _ hk=>by cases hk):Grow (fun _=>False) w w').below
     obtain⟨q,us,rfl,ν',s1,hv⟩:=WM hE h (v':=v') (w':=w') ao8 (fun k hk=>by
       rw[Dr Ur] at hk
       rcases g3 k hk with h1 |h1
       ·cases h1
       ·exact⟨h1,Gv g1 hk⟩) (fun V' hV=>⟨bk,by simpa using g1,f2.mono (Rel.mono hV _)⟩) he
     exact bX hd (Vd v' w' (by rw[es,ex];exact hrun)) ⟨ν',O,s1.slot (x:= .rv (.own q)) hv⟩
   ·cases he
  ·cases he
 ·cases he
end
end Go.Abs
namespace Go.Abs
open Go.RowKit Go.Lib
section
variable {P:Program}{T:cj}{E:Env}{σ σ':AS}{a:Act}{w w':World}{ν ν':Nm→Value}{O:Nat→Prop}{Φ:bE T}{V:View}{Y:Value}
theorem Sp (hT:iw P T.rows){o:Oper}{t:TypeId}{x hi:Operand}(ho:o.op= .slice t x none (some hi) none){u:Ty}{e:TypeId}{bytes:Nat}(hel:gC T.rows t=some (u,e,bytes)){A:Option Addr}{len cap:Nat}{k:IntKind}{n:Int}
  (ex:a.eval x= .slice A len cap) (en:a.eval hi= .int k n) (h0:0≤n) (h1:n≤len) (hlen:len≤cap) (hn:A=none→cap=0):(execOp a.eval o).run P w= .ok (.value (.slice A n.toNat cap)) w:=by
 obtain⟨re,hu,Ra,Ue,p0,hby,hpos⟩:=vg hT hel
 have hsz:(sizeOf e).run P w= .ok u.size w:=by rw[←Ue, ←p0];exact Bq Ra w
 have hb:=fun code=>ug (P:=P) (w:=w) (y:=cap) (code:=code) en h0 (by omega)
 have hA:(if cap=0 then A else A.map (·.add (0*u.size)))=A:=by
  split
  ·rfl
  ·cases A with
   |none=>rfl
   |some ad=>simp[Addr.add]
 have hb':(Instr.sliceBounds true len cap none (some (a.eval hi)) none).run P w= .ok (0,n.toNat,cap) w:=by
  simp[Instr.sliceBounds,hb]
 have hs:(Instr.slice t (.slice A len cap) none (some (a.eval hi)) none).run P w= .ok (.slice A n.toNat cap) w:=by
  simp only[Instr.slice,Sem.run_bind,run_underlying hu,Result.andThen_ok,hb',hsz,Sem.run_pure,hA,Nat.sub_zero]
 simp only[execOp,ho,Instr.sliceAt,Sem.run_bind,run_underlying hu,Result.andThen_ok,ex,Option.map_none,Option.map_some,hs,Sem.run_pure]
theorem Yx {A:Option Addr}{cap:Nat}{row:Row}(h:iT V w (.slice A row.xs.length cap) row){n:Nat}(hn:n≤row.xs.length):iT V w (.slice A n cap) ⟨row.e,row.t,row.xs.take n⟩:=by
 obtain⟨bk,⟨e1,e2⟩,hall⟩:=h
 have hft:=Gn n hall
 have OV:=fN hall
 have hmul:n*row.t.size≤row.xs.length*row.t.size:=Nat.mul_le_mul_right _ hn
 have hln:(row.xs.take n).length=n:=by rw[List.length_take];omega
 refine⟨bk.take n, ?_,hall.take _⟩
 show w.ownsRow 0 row.e row.t.size _ (row.xs.take n).length _
 rw[hln,hft]
 refine⟨by rw[List.length_take,OV];omega, ?_⟩
 rcases e2 with ⟨e2,e3⟩ | ⟨g,cap',cur,e2,f1,f2,f3,f4,f5,f6⟩
 ·injection e2 with e4 e5 e6
  left
  have:n=0:=by omega
  rw[this,e4,e6]
  exact⟨rfl,rfl⟩
 ·injection e2 with e4 e5 e6
  subst e4 e6
  exact .inr ⟨g,cap,cur,rfl,f1,f2,by omega,f4,f5,by rw[←f6,List.take_take,Nat.min_eq_left hmul]⟩
theorem Us {q:Nat}{row:Row}(hq:look σ.rows q=some row)(d:Int)(x:Option Operand):iq (σ.freeze q).av d x=iq σ.av d x:=by
 cases x with
 |none=>rfl
 |some x=>
  simp only[iq]
  rw[Kb hq]
  cases σ.av x with
  |rv x=>cases x with
   |own k=>simp only[AV.tq,RV.tq];cases Nat.beq k q<;>rfl
   |_=>rfl
  |Nq k sz i off=>simp only[AV.tq];cases Nat.beq k q<;>rfl
  |_=>rfl
theorem WO {rows:List fH}{av Pk:Operand→AV}(h:∀d x,iq av d x=iq Pk d x)(t:TypeId)(x:AV)(lo hi mx:Option Operand):vb (T:=T) rows av t x lo hi mx=vb rows Pk t x lo hi mx:=by
 unfold vb
 simp only[h]
theorem agf (hE:aB E)(hG:Mh E)(hT:iw P T.rows)(h:St E σ a w ν O){o:Oper}{r:bZ}{t:TypeId}{x:Operand}{lo hi mx:Option Operand}(ho:o.op= .slice t x lo hi mx)
  (he:(Dj T σ.av σ.sites o).val Φ σ=some r):kP P o a w (To E (aS σ o.dst r)):=by
 have hd:∀c,o.op≠ .defer c:=by rw[ho];intro c e;cases e
 have hx:=h.av hG x
 unfold Dj at he
 simp only[ho] at he
 split at he
 ·rename_i q hq
  rw[hq] at hx
  split at he
  ·rename_i hi'
   split at he
   ·rename_i u e bytes k n hel hn
    rw[pZ] at he
    obtain⟨row,hrow,he⟩:=he
    rw[ay] at he
    obtain⟨hc,he⟩:=he
    rw[Bool.and_eq_true] at hc
    obtain⟨c1,c2,c3⟩:=xD.1 hc.2
    split at he
    ·rename_i d Pe
     rw[ma] at he
     split at he
     ·rename_i hfree
      rw[gD] at he
      subst he
      have en:=h.av hG hi'
      rw[hn] at en
      have b5:=h.row hrow
      obtain⟨A,cap,er,hlen,hnone,_⟩:=Dm b5
      have hrun:=Sp (P:=P) (w:=w) hT ho hel (by rw[hx.1,er]) (xA en rfl) c2 c3 hlen hnone
      refine bX hd hrun ?_
      simp only[aS,Pe]
      refine⟨tt ν d (.slice A n.toNat cap),O,(h.acj hE (w':=w) (d:=d) (row':=⟨row.e,row.t,row.xs.take n.toNat⟩) hfree (Grow.refl _ _) (fun k hk=> .inl (WI hrow ?_)) (fun hV=> ?_)).slot (x:= .rv (.own d)) ⟨?_, ?_⟩⟩
      ·rw[er];cases A<;>exact hk
      ·rw[er] at b5
       exact iT.mono hV (fun _ _=>rfl) (Yx b5 (by omega))
      ·rw[mw]
      ·show (look (put _ _ _) _).isSome=true
       rw[aA,if_pos rfl];rfl
     ·cases he
    ·cases he
   ·cases he
  ·rw[pZ] at he
   obtain⟨row,hrow,he⟩:=he
   rw[ma,Ry] at he
   obtain⟨y,he,rfl⟩:=he
   have s1:=h.freeze hE q
   have hx1:=s1.av hG x
   rw[Kb hrow,hq] at hx1
   simp only[AV.tq,RV.tq,beq_refl,cond_true] at hx1
   rw[WO (Pk:=(σ.freeze q).av) (fun d x=>(Us hrow d x).symm)] at he
   obtain⟨e1,v,h2,h3⟩:=Sd (P:=P) (w:=w) hT (s1.av hG) hx1 he
   exact bX hd (v:=v) (by simp[execOp,ho,h2]) ⟨ν,O,s1.slot h3⟩
 ·rename_i i n hq
  rw[hq] at hx
  split at he
  ·rename_i y
   split at he
   ·rename_i ue k m hel hm
    obtain⟨u,e,bytes⟩:=ue
    rw[fo] at he
    obtain⟨hr,hh,he⟩:=he
    rw[bP] at he
    obtain⟨l,hl,he⟩:=he
    rw[ay,Ny] at he
    obtain⟨hc,he⟩:=he
    obtain⟨_,c2,c3⟩:=xD.1 hc
    have en:=h.av hG y
    rw[hm] at en
    obtain⟨b5,hblk,E1⟩:=h.Kc hh hl hx
    obtain⟨A,cap,er,hlen,hnone,_⟩:=Dm b5
    dsimp only at er hlen
    have hrun:=Sp (P:=P) (w:=w) hT ho hel er (xA en rfl) c2 c3 hlen hnone
    rcases he with ⟨h0,he⟩ | ⟨h0,he⟩
    ·have:=(beq_iff _ _).1 h0
     subst this
     rw[gB] at he
     subst he
     rcases E1 with ⟨_,hv,hl0⟩ | ⟨h1,_⟩
     ·rw[er] at hv
      injection hv with v1 v2 v3
      subst v1 v3
      subst hl0
      have:m.toNat=0:=by simp at c3;omega
      rw[this] at hrun
      exact bY hE hd h rfl hrun rfl
     ·omega
    ·have hn0:=rQ.1 h0
     rcases E1 with ⟨h1,_⟩ | ⟨h1,hk,hv⟩
     ·exact absurd h1 hn0
     ·have hhv:=h.nn i hr n hh h1 (J8 hl)
      rw[hk, ←hv,er] at hhv
      rcases hhv with ⟨_,g,n',c',e9⟩ | ⟨e9,_⟩
      ·injection e9 with v1 v2 v3
       subst v1
       have hb:cD (.slice (some ⟨g,0,none⟩) m.toNat cap)=cD (a.eval x):=by rw[er];rfl
       rw[er] at b5
       obtain⟨us,n2,rfl,ν',s1,Ur⟩:=NJ hE h (n1:=n) (C:=fun _=>False) (v0:= .slice (some ⟨g,0,none⟩) m.toNat cap) (w':=w) (l':=l.take m.toNat) hh (J8 hl) (fun _ hk=>hk.elim) (Grow.refl _ _) (fun k hk=> .inl (hblk k (by rw[←hb];exact hk))) ⟨_,_,_,rfl⟩
        (fun V' hV=>iT.mono hV (fun _ _=>rfl) (Yx b5 (by dsimp only;omega))) he
       exact bX hd hrun ⟨ν',O,s1.slot Ur⟩
      ·cases e9
   ·cases he
  ·cases he
 ·obtain⟨e1,v,h2,h3⟩:=Sd (P:=P) (w:=w) hT (h.av hG) hx he
  exact bY hE hd h e1 (v:=v) (by simp[execOp,ho,h2]) h3
end
end Go.Abs
namespace Go.Abs
open Go.RowKit Go.Lib
theorem Rel.tr {hs:List Nat}{V V':View}(hc:∀(a:Addr) v,V (.cell a) v→V' (.cell a) v)(hr:∀h,hs.any (Nat.beq h)=true→∀n v,V (.ref h n) v→V' (.ref h n) v):
  ∀(t:Ty) (x:t.den) (cs:List Value),dZ hs t=true→Rel V t x cs→Rel V' t x cs
 | .int k,x,cs,_,h=>h
 | .bool,x,cs,_,h=>h
 | .str,x,cs,_,h=>h
 | .slice t,xs,cs,hi,⟨A,c,bk,h1,h2,h3,h5,h4⟩=>⟨A,c,bk,h1,h2,h3.mono (fun x y=>Rel.tr hc hr t x y hi),h5,fun j u hj=>let ⟨ad,e,hv⟩:=h4 j u hj;⟨ad,e,hc _ _ hv⟩⟩
 | .unit,_,cs,_,h=>h
 | .pair a b,x,cs,hi,⟨c1,c2,e,h1,h2⟩=>by
   simp only[dZ,Bool.and_eq_true] at hi
   exact⟨c1,c2,e,Rel.tr hc hr a _ _ hi.1 h1,Rel.tr hc hr b _ _ hi.2 h2⟩
 | .st t,x,cs,hi,h=>Rel.tr hc hr t x cs hi h
 | .ref _,0,_,_,h=>h
 | .ref k,_+1,_,hi,⟨v,e,hs,hv⟩=>⟨v,e,hs,hr k hi _ _ hv⟩
 | .ptr _,0,_,_,h=>h
 | .ptr k,_+1,_,hi,⟨v,e,hs,hv⟩=>⟨v,e,hs,hr k hi _ _ hv⟩
 | .mp _,0,_,_,h=>h
 | .mp k,_+1,_,hi,⟨v,e,hs,hv⟩=>⟨v,e,hs,hr k hi _ _ hv⟩
 | .fn,_,_,_,h=>h
 | .pW t,none,cs,_,h=>h
 | .pW t,some xs,cs,hi,⟨ad,c,bk,h1,h2,h3,h4⟩=>⟨ad,c,bk,h1,h2,h3.mono (fun x y=>Rel.tr hc hr t x y hi),fun j u hj=>hc _ _ (h4 j u hj)⟩
theorem Rel.trN {V V':View}(hr:∀h n v,V (.ref h n) v→V' (.ref h n) v):
  ∀(t:Ty) (x:t.den) (cs:List Value),Ei t=true→Rel V t x cs→Rel V' t x cs
 | .int k,x,cs,_,h=>h
 | .bool,x,cs,_,h=>h
 | .str,x,cs,_,h=>h
 | .slice t,xs,cs,hi,_=>by cases hi
 | .unit,_,cs,_,h=>h
 | .pair a b,x,cs,hi,⟨c1,c2,e,h1,h2⟩=>by
   simp only[Ei,Bool.and_eq_true] at hi
   exact⟨c1,c2,e,Rel.trN hr a _ _ hi.1 h1,Rel.trN hr b _ _ hi.2 h2⟩
 | .st t,x,cs,hi,h=>Rel.trN hr t x cs hi h
 | .ref _,0,_,_,h=>h
 | .ref k,_+1,_,hi,⟨v,e,hs,hv⟩=>⟨v,e,hs,hr _ _ _ hv⟩
 | .ptr _,0,_,_,h=>h
 | .ptr k,_+1,_,hi,⟨v,e,hs,hv⟩=>⟨v,e,hs,hr _ _ _ hv⟩
 | .mp _,0,_,_,h=>h
 | .mp k,_+1,_,hi,⟨v,e,hs,hv⟩=>⟨v,e,hs,hr _ _ _ hv⟩
 | .fn,_,_,_,h=>h
 | .pW t,_,cs,hi,_=>by cases hi
theorem wL.Pl {V:View}{t:Ty}{x:t.den}{v:Value}(h:∀u,t≠ .st u)(hr:Rel V t x [v]):wL V t x v:=by
 cases t with
 |st u=>exact absurd rfl (h u)
 |_=>exact hr
theorem wL.tr {hs:List Nat}{V V':View}(hc:∀(a:Addr) v,V (.cell a) v→V' (.cell a) v)(hr:∀h,hs.any (Nat.beq h)=true→∀n v,V (.ref h n) v→V' (.ref h n) v){t:Ty}{x:t.den}{v:Value}(hi:dZ hs t=true)(h:wL V t x v):wL V' t x v:=by
 cases t with
 |st t=>obtain⟨cs,h1,h2⟩:=h;exact⟨cs,h1,Rel.tr hc hr _ _ _ hi h2⟩
 |_=>exact Rel.tr hc hr _ _ _ hi h
def Dt (V:View):(ts:List Ty)→rO ts→List Value→Prop
 | [],_,vs=>vs=[]
 | [t],x,vs=>∃v,vs=[v]∧ql V (flat t x) v
 |t::u::ts,x,vs=>∃v r,vs=v::r∧ql V (flat t x.1) v∧Dt V (u::ts) x.2 r
def ArgRel (V:View):(p:nj)→p.den→Value→Prop
 | .v t,x,v=>wL V t x v
 | .fn f ts,x,v=>∃vs:List Value,v= .func (.func f) #[] vs.toArray∧Dt V ts x vs
 | .c cs,_,v=>∃vs:List Value,v= .agg vs.toArray∧az (bA V) cs vs
 | .rp t,x,v=>ql V (flat t x) v
 | .bx _,_,_=>False
 | .Lo,_,_=>False
def mc (V:View):(ps:List nj)→Gh ps→List Value→Prop
 | [],_,vs=>vs=[]
 | [p],x,vs=>∃v,vs=[v]∧ArgRel V p x v
 |p::q::ps,x,vs=>∃v r,vs=v::r∧ArgRel V p x.1 v∧mc V (q::ps) x.2 r
section heaps
variable {T:cj}{σ:AS}{Φ:bE T}
theorem yS (wr:List Nat):∀(hs:List Nat) (x:Eg T hs) (ae:List aV),(qh T wr hs x ae).length=ae.length
 | [],_,ae=>rfl
 | [h],x,ae=>by simp[qh,sB]
 |h::i::r,x,ae=>by simp only[qh];rw[yS wr (i::r)];simp[sB]
theorem jV (wr:List Nat):∀(hs:List Nat) (x:Eg T hs) (ae:List aV) (k:Nat),k∉hs→(qh T wr hs x ae)[k]? =ae[k]?
 | [],_,ae,k,_=>rfl
 | [h],x,ae,k,hk=>by
   simp only[qh,sB]
   rw[List.getElem?_set_ne (by simp at hk;omega)]
 |h::i::r,x,ae,k,hk=>by
  simp only[List.mem_cons,not_or] at hk
  simp only[qh]
  rw[jV wr (i::r) _ _ k (by simp only[List.mem_cons,not_or];exact hk.2)]
  simp only[sB]
  rw[List.getElem?_set_ne (by omega)]
theorem Vf (e:TypeId)(k:Nat)(w:Bool){s t:Ty}(h:s=t)(xs:List (Option (List s.den))):(⟨e,t,k,w,Qf h xs⟩:aV)=⟨e,s,k,w,xs⟩:=by subst h;rfl
theorem Yy {w:Bool}{ae:List aV}{h:Nat}{hr:aV}(e1:hr.e=(T.ht h).e)(e2:hr.k=(T.ht h).k)(e3:hr.t=(T.ht h).t):sB T w ae h (Qf e3 hr.xs)=ae.set h ⟨hr.e,hr.t,hr.k,w,hr.xs⟩:=by
 unfold sB
 rw[Vf, ←e1, ←e2]
def amX (T:cj)(σ:AS)(wr:List Nat)(put:List aV→List aV)(h:Nat):Prop:=∃hr:aV,σ.ae[h]? =some hr∧(wr.any (Nat.beq h)=true→hr.w=true)∧hr.e=(T.ht h).e∧hr.k=(T.ht h).k∧hr.t=(T.ht h).t∧
 ∀Sq:List aV,h<Sq.length→(put Sq)[h]? =some ⟨hr.e,hr.t,hr.k,wr.any (Nat.beq h),hr.xs⟩
theorem Vg (wr:List Nat):∀(hs:List Nat) (k:Eg T hs→Q T bZ) (r:bZ),(RW T wr hs k).val Φ σ=some r→∃x,(k x).val Φ σ=some r∧∀h∈hs,amX T σ wr (qh T wr hs x) h
 | [],k,r,h=>⟨(),h,fun h hh=>by simp at hh⟩
 | [h],k,r,he=>by
   simp only[RW] at he
   rw[fo] at he
   obtain⟨hr,hh,he⟩:=he
   rw[ay] at he
   obtain⟨hc,he⟩:=he
   simp only[Bool.and_eq_true,beq_iff,Bool.or_eq_true,Bool.not_eq_true'] at hc
   obtain⟨⟨hw,e1⟩,e2⟩:=hc
   split at he
   ·rename_i e3
    refine⟨_,he,fun h' hm=> ?_⟩
    simp only[List.mem_singleton] at hm
    subst hm
    refine⟨hr,hh,fun ha=> ?_,e1,e2,e3,fun Sq hlt=> ?_⟩
    ·rcases hw with hw |hw
     ·exact hw
     ·rw[ha] at hw;cases hw
    ·simp only[qh]
     rw[Yy e1 e2 e3,List.getElem?_set_self hlt]
   ·cases he
 |h::i::rs,k,r,he=>by
  simp only[RW] at he
  rw[fo] at he
  obtain⟨hr,hh,he⟩:=he
  rw[ay] at he
  obtain⟨hc,he⟩:=he
  simp only[Bool.and_eq_true,beq_iff,Bool.or_eq_true,Bool.not_eq_true'] at hc
  obtain⟨⟨hw,e1⟩,e2⟩:=hc
  split at he
  ·rename_i e3
   obtain⟨x,hx,Si⟩:=Vg wr (i::rs) _ r he
   refine⟨_,hx,fun h' hm=> ?_⟩
   by_cases hm2:h'∈i::rs
   ·obtain⟨hr',g1,g2,g3,g4,g5,g6⟩:=Si h' hm2
    refine⟨hr',g1,g2,g3,g4,g5,fun Sq hlt=> ?_⟩
    simp only[qh]
    exact g6 _ (by simpa [sB] using hlt)
   ·have:h'=h:=by
     rcases List.mem_cons.1 hm with e |e
     ·exact e
     ·exact absurd e hm2
    subst this
    refine⟨hr,hh,fun ha=> ?_,e1,e2,e3,fun Sq hlt=> ?_⟩
    ·rcases hw with hw |hw
     ·exact hw
     ·rw[ha] at hw;cases hw
    ·simp only[qh]
     rw[jV wr (i::rs) _ _ h' hm2,Yy e1 e2 e3,List.getElem?_set_self hlt]
  ·cases he
theorem xE (h:Nat)(hr:aV)(e:(cg T)[h]? =some hr):hr.xs=[]:=by
 unfold cg at e
 rw[List.getElem?_map,Option.map_eq_some_iff] at e
 obtain⟨g,_,rfl⟩:=e
 rfl
theorem qn:(cg T).length=T.ae.length:=by simp[cg]
end heaps
end Go.Abs
namespace Go.Abs
open Go.RowKit Go.Lib
section
variable {P:Program}{T:cj}{E:Env}{σ σ':AS}{a:Act}{w w':World}{ν ν':Nm→Value}{O:Nat→Prop}{Φ:bE T}{V V':View}{Y:Value}{ae:List aV}{hs:List Nat}
def Src (V V':View)(t:Ty)(l:List t.den)(v:Value):Prop:=∃(A:Option Addr) (c:Nat) (bk:List (List Value)),v= .slice A l.length c∧l.length≤c∧az (Rel V t) l bk∧(A=none→c=0)∧
 ∀j u,bk.flatten[j]? =some u→∃ad,A=some ad∧V' (.cell (ad.add j)) u
theorem Qm {α β γ:Type}{R:α→γ→Prop}{S:β→γ→Prop}{f:α→Option β}(hf:∀x y c,f x=some y→R x c→S y c):∀{xs:List α} {ys:List β} {cs:List γ},k9 f xs=some ys→az R xs cs→az S ys cs
 | [],ys,[],h,_=>by simp only[k9,Option.some.injEq] at h;subst h;trivial
 |x::xs,ys,c::cs,h,hr=>by
  simp only[k9] at h
  split at h
  ·rename_i y hy
   split at h
   ·rename_i l hl
    simp only[Option.some.injEq] at h
    subst h
    exact⟨hf _ _ _ hy hr.1,Qm hf hl hr.2⟩
   ·cases h
  ·cases h
 | [],ys,_::_,_,hr=>hr.elim
 |_::_,ys,[],_,hr=>hr.elim
theorem Src.tr {t:Ty}{l:List t.den}{v:Value}(hc:∀(a:Addr) v,V (.cell a) v→V' (.cell a) v)(hr:∀h,hs.any (Nat.beq h)=true→∀n v,V (.ref h n) v→V' (.ref h n) v)(hi:dZ hs t=true)(h:Src V V' t l v):bA V' ⟨.slice t,l⟩ v:=by
 obtain⟨A,c,bk,h1,h2,h3,h4,h5⟩:=h
 exact⟨A,c,bk,by rw[h1],h2,h3.mono (fun x y=>Rel.tr hc hr t x y hi),h4,h5⟩
theorem IL (hc:∀(a:Addr) v,V (.cell a) v→V' (.cell a) v)(hr:∀h,hs.any (Nat.beq h)=true→∀n v,V (.ref h n) v→V' (.ref h n) v)
  (hsrc:∀(i n:Nat) (hr:aV) (l:List hr.t.den) (v:Value),ae[i]? =some hr→ah hr.xs n=some l→bA V ⟨.ref i,n⟩ v→Src V V' hr.t l v):
  ∀{t:Ty} {l:List CV} {x:t.den} {r:List CV} {vs:List Value},dZ hs t=true→snap ae t l=some (x,r)→az (bA V) l vs→∃v1 v2,vs=v1++v2∧Rel V' t x v1∧az (bA V) r v2
 | .unit,l,x,r,vs,_,h,hl=>by simp only[snap,Option.some.injEq,Prod.mk.injEq] at h;obtain⟨_,rfl⟩:=h;exact⟨[],vs,rfl,rfl,hl⟩
 | .pair a b,l,x,r,vs,hi,h,hl=>by
   simp only[dZ,Bool.and_eq_true] at hi
   simp only[snap] at h
   split at h
   ·rename_i y l' h1
    split at h
    ·rename_i z l'' h2
     simp only[Option.some.injEq,Prod.mk.injEq] at h
     obtain⟨rfl,rfl⟩:=h
     obtain⟨v1,v2,rfl,r1,r2⟩:=IL hc hr hsrc hi.1 h1 hl
     obtain⟨v3,v4,rfl,r3,r4⟩:=IL hc hr hsrc hi.2 h2 r2
     exact⟨v1++v3,v4,by rw[List.append_assoc],⟨v1,v3,rfl,r1,r3⟩,r4⟩
    ·cases h
   ·cases h
 | .st t,l,x,r,vs,hi,h,hl=>IL (t:=t) hc hr hsrc hi h hl
 | .slice t,l,x,r,vs,hi,h,hl=>by
   have hi':dZ hs t=true:=hi
   simp only[snap] at h
   unfold Is at h
   split at h
   ·rename_i i n l'
    cases vs with
    |nil=>exact hl.elim
    |cons v vs=>
     cases hb:Nat.beq n 0 with
     |true=>
      rw[hb,cond_true] at h
      simp only[Option.some.injEq,Prod.mk.injEq] at h
      obtain⟨rfl,rfl⟩:=h
      have:=(beq_iff _ _).1 hb
      subst this
      exact⟨[v],vs,rfl,U5 hl.1,hl.2⟩
     |false=>
     rw[hb,cond_false] at h
     split at h
     ·rename_i Yw hh
      simp only[Option.bind_eq_some_iff,Option.some.injEq,Prod.mk.injEq] at h
      obtain⟨ys,hys,xs,hxs,rfl,rfl⟩:=h
      obtain⟨A,c,bk,e1,e2,e3,e4,e5⟩:=hsrc i n Yw ys v hh hys hl.1
      have hall:az (Rel V' t) xs bk:=Qm (R:=Rel V Yw.t) (fun y z cs hy b5=>by
       split at hy
       ·rename_i x' hsn
        simp only[Option.some.injEq] at hy
        subst hy
        obtain⟨v1,v2,rfl,h1,h2⟩:=IL hc hr hsrc hi' hsn (il b5)
        cases v2 with
        |nil=>simpa using h1
        |cons _ _=>exact h2.elim
       ·cases hy) hxs e3
      have hlen:xs.length=ys.length:=by rw[hall.length,e3.length]
      exact⟨[v],vs,rfl,⟨A,c,bk,by rw[e1,hlen],by rw[hlen];exact e2,hall,e4,e5⟩,hl.2⟩
     ·cases h
   ·rename_i t' o l'
    cases vs with
    |nil=>exact hl.elim
    |cons v vs=>
     simp only[Option.map_eq_some_iff,Prod.mk.injEq] at h
     obtain⟨⟨y,r'⟩,h1,h2,h3⟩:=h
     simp only at h2 h3
     subst h2 h3
     have he:=bJ h1
     simp only[List.cons.injEq] at he
     have h4:bA V ⟨.slice t',lst o⟩ v:=R7 hl.1
     rw[he.1] at h4
     exact⟨[v],vs,rfl,Rel.tr hc hr _ _ _ hi h4,by
      have:=he.2;subst this;exact hl.2⟩
   ·rw[bJ h] at hl
    cases vs with
    |nil=>exact hl.elim
    |cons v vs=>exact⟨[v],vs,rfl,Rel.tr hc hr _ _ _ hi hl.1,hl.2⟩
 | .pW t,l,x,r,vs,hi,h,hl=>by
   simp only[snap] at h
   unfold Wr at h
   split at h
   ·rename_i t' xs l'
    cases vs with
    |nil=>exact hl.elim
    |cons v vs=>
     cases xs with
     |nil=>cases h
     |cons x0 xs=>
      simp only[Option.map_eq_some_iff,Prod.mk.injEq] at h
      obtain⟨⟨y,r'⟩,h1,h2,h3⟩:=h
      simp only at h2 h3
      subst h2 h3
      have he:=bJ h1
      simp only[List.cons.injEq] at he
      obtain⟨A,c,bk,e1,e2,e3,e4,e5⟩:=qm hl.1
      have h4:bA V ⟨.pW t',(some (x0::xs):Option (List t'.den))⟩ v:=by
       cases A with
       |none=>have:=e4 rfl;simp at e2;omega
       |some ad=>
        refine⟨ad,c,bk,by rw[e1],e2,e3,fun j u hj=> ?_⟩
        obtain⟨Pb,h5,h6⟩:=e5 j u hj
        obtain rfl:ad=Pb:=by simpa using h5
        exact h6
      rw[he.1] at h4
      exact⟨[v],vs,rfl,Rel.tr hc hr _ _ _ hi h4,by
       have:=he.2;subst this;exact hl.2⟩
   ·rw[bJ h] at hl
    cases vs with
    |nil=>exact hl.elim
    |cons v vs=>exact⟨[v],vs,rfl,Rel.tr hc hr _ _ _ hi hl.1,hl.2⟩
 | .int k,l,x,r,vs,hi,h,hl=>leaf hi h hl
 | .bool,l,x,r,vs,hi,h,hl=>leaf hi h hl
 | .str,l,x,r,vs,hi,h,hl=>leaf hi h hl
 | .ref k,l,x,r,vs,hi,h,hl=>by
   simp only[snap] at h
   unfold Ws at h
   split at h
   ·rename_i h' n l'
    cases hc:Nat.beq k h' with
    |true=>rw[hc,cond_true] at h;exact leaf hi h hl
    |false=>
    rw[hc,cond_false] at h
    cases hb:Nat.beq n 0 with
    |false=>rw[hb] at h;cases h
    |true=>
     rw[hb] at h
     have e1:some ((0:Nat),l')=some (x,r):=h
     simp only[Option.some.injEq,Prod.mk.injEq] at e1
     obtain⟨rfl,rfl⟩:=e1
     obtain rfl:n=0:=Nat.eq_of_beq_eq_true hb
     cases vs with
     |nil=>exact hl.elim
     |cons v vs=>exact⟨[v],vs,rfl,(show [v]=[Value.slice none 0 0] from hl.1),hl.2⟩
   ·exact leaf hi h hl
 | .ptr k,l,x,r,vs,hi,h,hl=>leaf hi h hl
 | .mp k,l,x,r,vs,hi,h,hl=>leaf hi h hl
 | .fn,l,x,r,vs,hi,h,hl=>leaf hi h hl
where
 leaf {t:Ty} {l:List CV} {x:t.den} {r:List CV} {vs:List Value} (hi:dZ hs t=true) (h:cC t l=some (x,r)) (hl:az (bA V) l vs):∃v1 v2,vs=v1++v2∧Rel V' t x v1∧az (bA V) r v2:=by
  rw[bJ h] at hl
  cases vs with
  |nil=>exact hl.elim
  |cons v vs=>exact⟨[v],vs,rfl,Rel.tr hc hr _ _ _ hi hl.1,hl.2⟩
theorem Kd (hc:∀(a:Addr) v,V (.cell a) v→V' (.cell a) v)(hr:∀h,hs.any (Nat.beq h)=true→∀n v,V (.ref h n) v→V' (.ref h n) v)
  (hsrc:∀(i n:Nat) (hr:aV) (l:List hr.t.den) (v:Value),ae[i]? =some hr→ah hr.xs n=some l→bA V ⟨.ref i,n⟩ v→Src V V' hr.t l v)
  {t:Ty} {av:AV} {x:t.den} {v:Value} (hi:dZ hs t=true) (h:typed ae t av=some x) (ha:ag V σ ν Y av v):wL V' t x v:=by
 have s1:∀{t:Ty} {l:List CV} {x:t.den} {vs:List Value},dZ hs t=true→yL ae t l=some x→az (bA V) l vs→Rel V' t x vs:=fun {t l x vs} hi h hl=>by
  unfold yL at h
  split at h
  ·rename_i y h1
   simp only[Option.some.injEq] at h
   subst h
   obtain⟨v1,v2,rfl,h2,h3⟩:=IL hc hr hsrc hi h1 hl
   cases v2 with
   |nil=>simpa using h2
   |cons _ _=>exact h3.elim
  ·cases h
 unfold typed at h
 split at h
 ·rename_i cs
  obtain⟨vs,h1,h2⟩:=ha
  exact⟨vs,h1,s1 hi h h2⟩
 ·rename_i t vs
  split at h
  ·rename_i cs hl
   obtain⟨l1,h1,h2⟩:=ix (V:=V') hl
   refine⟨vs.toList, ?_,im ?_⟩
   ·have:v= .agg vs:=ha
    simpa using this
   ·rw[←qi h,h1,List.append_nil];exact h2
  ·cases h
 ·cases h
 ·rename_i c hn
  exact wL.Pl (fun u e=>by subst e;exact hn u rfl) (s1 hi h (vs:=[v]) ⟨ha,trivial⟩)
 ·rename_i v' hn1 hn2
  split at h
  ·rename_i c hl
   obtain⟨l1,h1,h2⟩:=ix (V:=V') hl
   have h3:v=v':=ha
   rw[List.append_nil] at h1
   subst h1
   subst h3
   have:=Dn h
   subst this
   exact wL.Pl (fun u e=>by subst e;exact hn2 u rfl) h2.1
  ·cases h
 ·cases h
end
end Go.Abs
namespace Go.Abs
open Go.RowKit Go.Lib
def XOf (σ:AS)(ν:Nm→Value)(hout:List Nat)(k:Nat):Prop:=∃i n,hout.any (Nat.beq i)=true∧Own σ ν (.hp i n) k
theorem xF (ad:Addr)(j:Nat):(ad.add j).block=ad.block:=by unfold Addr.add;split<;>rfl
section
variable {P:Program}{T:cj}{E:Env}{σ σ':AS}{a:Act}{w w':World}{ν ν':Nm→Value}{O:Nat→Prop}{Φ:bE T}{V V':View}{Y:Value}{hs hout:List Nat}
structure Ut (V V':View) (σ:AS) (ν:Nm→Value) (w:World) (hin hout:List Nat) (c5:Bool):Prop where
 cell:∀(a:Addr) v,V (.cell a) v→V' (.cell a) v
 ref:∀h,hin.any (Nat.beq h)=true→∀n v,V (.ref h n) v→V' (.ref h n) v
 all:c5=true→∀(ad:Addr) u,w.cell? ad=some u→¬XOf σ ν hout ad.block→V' (.cell ad) u
theorem Ut.src {c5:Bool}(hl:Ut V V' σ ν w hs hout c5)(h1:c5=true){v:Value}{row:Row}(hr:iT V w v row)(hb:∀k,cD v=some k→¬XOf σ ν hout k):Src V V' row.t row.xs v:=by
 obtain⟨A,c,bk,e1,e2,e3,e4,e5⟩:=RD hr
 refine⟨A,c,bk,e1,e2,e3,e4,fun j u hj=> ?_⟩
 obtain⟨ad,rfl,hc⟩:=e5 j u hj
 refine⟨ad,rfl,hl.all h1 _ _ hc ?_⟩
 rw[xF]
 exact hb _ (by rw[e1];rfl)
theorem adO (h:St E σ a w ν O){q:Nat}(hq:(look σ.rows q).isSome=true)(k:Nat)(hk:cD (ν (.row q))=some k):¬XOf σ ν hout k:=fun⟨i,n,_,ho⟩=>by
 have:=h.inj _ _ k ⟨by simpa [AS.obj] using hq,hk⟩ ho
 cases this
theorem adP (h:St E σ a w ν O){q:Nat}(hq:(look σ.boxes q).isSome=true)(k:Nat)(hk:cD (ν (.box q))=some k):¬XOf σ ν hout k:=fun⟨i,n,_,ho⟩=>by
 have:=h.inj _ _ k ⟨by simpa [AS.obj] using hq,hk⟩ ho
 cases this
theorem Lt {k:List aV→Q T bZ}{r:bZ}:∀(is:List Nat) (acc:List aV),(Bf is acc k).val Φ σ=some r→∃l:List aV,(k (acc.reverse++l)).val Φ σ=some r∧az (fun i hr=>σ.ae[i]? =some hr) is l
 | [],acc,h=>⟨[],by simpa [Bf] using h,trivial⟩
 |i::is,acc,h=>by
  simp only[Bf] at h
  rw[fo] at h
  obtain⟨hr,h1,h⟩:=h
  obtain⟨l,h2,h3⟩:=Lt is (hr::acc) h
  exact⟨hr::l,by simpa using h2,h1,h3⟩
theorem Yz {c5:Bool}(h:St E σ a w ν O)(hl:Ut (view E σ ν O w) V' σ ν w hs hout c5)(h1:c5=true){q:Nat}{row:Row}{t:Ty}{x:t.den}(hi:dZ hs t=true)(hrow:look σ.rows q=some row)
  (hx:(cC t [⟨.slice row.t,row.xs⟩]).map (·.1)=some x):bA V' ⟨t,x⟩ (ν (.row q))∧(∀u,t≠ .st u)∧ [(⟨.slice row.t,row.xs⟩:CV)]=flat t x:=by
 have:=Dn hx
 obtain⟨e,t',xs⟩:=row
 dsimp only at this
 injection this with e1 e2
 subst e1
 simp only[heq_eq_eq] at e2
 subst e2
 exact⟨(hl.src h1 (h.row hrow) (adO h (aW hrow))).tr hl.cell hl.ref hi,(fun u e=>by cases e),rfl⟩
theorem Gw {c5:Bool}(h:St E σ a w ν O)(hl:Ut (view E σ ν O w) V' σ ν w hs hout c5){t:Ty}(hi:dZ hs t=true){k:t.den→Q T bZ}{r:bZ}{c:Hi}{v:Value}(hc:rR (view E σ ν O w) σ ν c v)(h1:c5=true∨∃cs,c= .oT cs)
  (he:(Ix t k c).val Φ σ=some r):∃x,(k x).val Φ σ=some r∧ql V' (flat t x) v:=by
 unfold Ix at he
 split at he
 ·rename_i b
  have h1:c5=true:=by
   rcases h1 with h1 | ⟨cs,e⟩
   ·exact h1
   ·cases e
  obtain⟨hbs,g,hbν,rfl⟩:=hc
  rw[Dl] at he
  obtain⟨bx,hb,he⟩:=he
  obtain⟨g',hg',hbr⟩:=h.box hb
  obtain rfl:g=g':=by rw[hbν] at hg';simpa using hg'
  have hnx:=adP (hout:=hout) h (aW hb) g (by rw[hbν];rfl)
  split at he
  ·rename_i cs
   obtain⟨cur,e,hg,b5⟩:=hbr
   rw[bP] at he
   obtain⟨x,hx,he⟩:=he
   have e1:=qi hx
   subst e1
   refine⟨x,he,⟨g,0,none⟩,cur.toList,rfl,il (Rel.tr hl.cell hl.ref _ _ _ hi (im b5)),fun j u hj=>hl.all h1 _ _ ?_ (by rw[xF];exact hnx)⟩
   rw[Ho,cell_of_row w g j cur e (0,0) hg]
   simpa using hj
  ·rename_i q
   obtain⟨e,hg,_⟩:=hbr
   rw[pZ] at he
   obtain⟨row,hrow,he⟩:=he
   rw[bP] at he
   obtain⟨x,hx,he⟩:=he
   obtain⟨h2,_,h3⟩:=Yz h hl h1 hi hrow hx
   refine⟨x,he,⟨g,0,none⟩,[ν (.row q)],rfl, ?_,fun j u hj=>hl.all h1 _ _ ?_ (by rw[xF];exact hnx)⟩
   ·exact il h2
   ·rw[Ho,cell_of_row w g j _ e (0,0) hg]
    simpa using hj
  ·cases he
 ·rename_i cs
  rw[bP] at he
  obtain⟨x,hx,he⟩:=he
  have e1:=qi hx
  subst e1
  obtain⟨ad,vs,e2,e3,e4⟩:=hc
  exact⟨x,he,ad,vs,e2,il (Rel.tr hl.cell hl.ref _ _ _ hi (im e3)),fun j u hj=>hl.cell _ _ (e4 j u hj)⟩
theorem Qn {c5:Bool}(h:St E σ a w ν O)(hl:Ut (view E σ ν O w) V' σ ν w hs hout c5){r:bZ}:∀{ts:List Ty} {aN:List Hi} {vs:List Value} {k:rO ts→Q T bZ},(ts.all (dZ hs))=true→az (rR (view E σ ν O w) σ ν) aN vs→(c5=true∨aN=[])→
  (yg ts aN k).val Φ σ=some r→∃x,(k x).val Φ σ=some r∧Dt V' ts x vs
 | [],[],[],k,_,_,_,he=>⟨(),he,rfl⟩
 | [t],[c],[v],k,hi,hc,h1,he=>by
   simp only[List.all_cons,List.all_nil,Bool.and_true] at hi
   simp only[yg] at he
   obtain⟨x,h2,h3⟩:=Gw h hl hi hc.1 (.inl (h1.resolve_right (fun e=>by cases e))) he
   exact⟨x,h2,v,rfl,h3⟩
 |t::u::ts,c::cs,v::vs,k,hi,hc,h1,he=>by
  simp only[List.all_cons,Bool.and_eq_true] at hi
  simp only[yg] at he
  obtain⟨x,h2,h3⟩:=Gw h hl hi.1 hc.1 (.inl (h1.resolve_right (fun e=>by cases e))) he
  obtain⟨y,h4,h5⟩:=Qn h hl (ts:=u::ts) (by simp only[List.all_cons,Bool.and_eq_true];exact hi.2) hc.2 (.inl (h1.resolve_right (fun e=>by cases e))) h2
  exact⟨(x,y),h4,v,vs,rfl,h3,h5⟩
 | [],_::_,_,k,_,_,_,he=>by simp only[yg,yP] at he
 | [_],[],_,k,_,_,_,he=>by simp only[yg,yP] at he
 | [_],_::_::_,_,k,_,_,_,he=>by simp only[yg,yP] at he
 |_::_::_,[],_,k,_,_,_,he=>by simp only[yg,yP] at he
 | [],[],_::_,k,_,hc,_,_=>hc.elim
 | [_],[_],[],k,_,hc,_,_=>hc.elim
 | [_],[_],_::_::_,k,_,hc,_,_=>hc.2.elim
 |_::_::_,_::_,[],k,_,hc,_,_=>hc.elim
theorem agh {a b:CV}(h:afI a b=true):a=b:=by
 unfold afI at h
 split at h
 ·rename_i i x j y
  simp only[Bool.and_eq_true,decide_eq_true_eq,beq_iff_eq] at h
  obtain⟨rfl,rfl⟩:=h
  rfl
 ·rename_i x y;have:x=y:=by simpa using h
  subst this;rfl
 ·rename_i x y;have:x=y:=(beq_iff _ _).1 h
  subst this;rfl
 ·cases h
theorem Vh:∀{a b:List CV},Ww a b=true→a=b
 | [],[],_=>rfl
 |a::r,b::s,h=>by
  simp only[Ww,Bool.and_eq_true] at h
  rw[agh h.1,Vh h.2]
 | [],_::_,h=>by cases h
 |_::_,[],h=>by cases h
theorem Ss {av:AV}{v:Value}(ha:ag V σ ν Y av v){g:FuncId}{aN:List Hi}(h:O0 av=some (g,aN)):∃vs:List Value,v= .func (.func g) #[] vs.toArray∧az (rR V σ ν) aN vs:=by
 unfold O0 at h
 split at h
 ·simp only[Option.some.injEq,Prod.mk.injEq] at h
  obtain⟨rfl,rfl⟩:=h
  exact ha
 ·rename_i n
  split at h
  ·simp only[Option.some.injEq,Prod.mk.injEq] at h
   obtain⟨rfl,rfl⟩:=h
   have: [v]=[fnV _]:=ha
   simp only[List.cons.injEq,and_true] at this
   exact⟨[],this,trivial⟩
  ·cases h
 ·cases h
theorem YA {c5:Bool}{nh:Nat}(h:St E σ a w ν O)(hl:Ut (view E σ ν O w) V' σ ν w hs hout c5){p:nj}(hi:Rw hs p=true){av:AV}{v:Value}(ha:ag (view E σ ν O w) σ ν E.Y av v){k:p.den→Q T bZ}{r:bZ}
  (he:(adv c5 nh hout p av k).val Φ σ=some r):∃x,(k x).val Φ σ=some r∧ArgRel V' p x v:=by
 have amY:∀(i n:Nat) (hr:aV) (l:List hr.t.den) (v:Value),([]:List aV)[i]? =some hr→ah hr.xs n=some l→bA (view E σ ν O w) ⟨.ref i,n⟩ v→Src (view E σ ν O w) V' hr.t l v:=fun i n hr l v e=>by simp at e
 unfold adv at he
 split at he
 ·rename_i t k
  split at he
  ·rename_i q
   rw[ay] at he
   obtain⟨h1,he⟩:=he
   rw[pZ] at he
   obtain⟨row,hrow,he⟩:=he
   rw[bP] at he
   obtain⟨x,hx,he⟩:=he
   obtain⟨h2,h3,_⟩:=Yz h hl h1 hi hrow hx
   exact⟨x,he,wL.Pl h3 (by rw[ha.1];exact h2)⟩
  ·rename_i hno
   have fin:(Q.opt (typed [] t av) k).val Φ σ=some r→∃x,(k x).val Φ σ=some r∧ArgRel V' (.v t) x v:=fun he=>by
    rw[bP] at he
    obtain⟨x,hx,he⟩:=he
    exact⟨x,he,Kd hl.cell hl.ref amY hi hx ha⟩
   cases hb:(O4 av&& !(aay t)&&c5) with
   |false=>rw[hb] at he;exact fin he
   |true=>
    rw[hb,cond_true] at he
    have h1:c5=true:=by
     simp only[Bool.and_eq_true] at hb;exact hb.2
    obtain⟨l,he,hall⟩:=Lt _ _ he
    rw[bP] at he
    obtain⟨x,hx,he⟩:=he
    refine⟨x,he,Kd hl.cell hl.ref (fun i n hr l' v e hg hv=> ?_) hi hx ha⟩
    simp only[List.reverse_nil,List.nil_append,List.getElem?_map,Option.map_eq_some_iff] at e
    obtain⟨p,hp,e⟩:=e
    rw[List.getElem?_zipIdx] at hp
    simp only[Option.map_eq_some_iff,Nat.zero_add] at hp
    obtain⟨Yw,hp1,rfl⟩:=hp
    obtain⟨i',hi1,hi2⟩:=hall.get' i Yw hp1
    have hii:i'=i:=by
     obtain⟨h5,h6⟩:=List.getElem?_eq_some_iff.1 hi1
     simpa using h6.symm
    subst hii
    dsimp only at e
    cases ho:hout.any (Nat.beq i') with
    |true=>
     rw[ho,cond_true] at e
     subst e
     cases n with
     |zero=>
      simp only[ah,Option.some.injEq] at hg
      subst hg
      have: [v]=[_]:=hv
      simp only[List.cons.injEq,and_true] at this
      exact⟨none,0,[],this,Nat.le_refl _,trivial,fun _=>rfl,fun j u hj=>by simp at hj⟩
     |succ m=>simp[ah] at hg
    |false=>
     rw[ho,cond_false] at e
     subst e
     obtain⟨h2,h3,_⟩:=h.Kc hi2 hg hv
     exact hl.src h1 h2 (fun k hk ⟨i2,n2,h4,h5⟩=>by
      have:=h.inj _ _ k (h3 k hk) h5
      injection this with e1 e2
      subst e1
      rw[ho] at h4;cases h4)
 ·rename_i f ts k
  split at he
  ·rename_i g aN hg
   rw[ay] at he
   obtain⟨hb,he⟩:=he
   simp only[Bool.and_eq_true,Bool.or_eq_true,beq_iff] at hb
   obtain⟨rfl,hb⟩:=hb
   obtain⟨vs,e1,e2⟩:=Ss ha hg
   obtain⟨x,h2,h3⟩:=Qn h hl hi e2 (hb.imp id (fun e=>by simpa using e)) he
   exact⟨x,h2,vs,e1,h3⟩
  ·cases he
 ·rename_i cs k
  rw[ay] at he
  obtain⟨hf,he⟩:=he
  refine⟨(),he, ?_⟩
  unfold afJ at hf
  split at hf
  ·rename_i e;cases e
  ·rename_i cs1 cs2 e
   injection e with e
   subst e
   obtain⟨vs,e1,e2⟩:=ha
   have:=Vh hf
   subst this
   refine⟨vs,e1, ?_⟩
   have hi':∀c∈cs,dZ hs c.1=true:=by simpa [Rw] using hi
   exact Br (fun c hc u hu=>Rel.tr hl.cell hl.ref _ _ _ (hi' c hc) hu) e2
  ·cases hf
  ·rename_i hx1 hx2 hx3 hx4
   first |exact absurd rfl (hx3 cs) |exact absurd rfl (hx4 cs) |exact(hx3 cs rfl).elim |exact(hx4 cs rfl).elim
 ·rename_i t k
  split at he
  ·rename_i b
   rw[ay] at he
   obtain⟨h1,he⟩:=he
   exact Gw (c:= .box b) h hl hi ha (.inl h1) he
  ·rename_i cs
   exact Gw (c:= .oT cs) h hl hi ha (.inr ⟨cs,rfl⟩) he
  ·cases he
 ·cases he
 ·cases he
theorem Vi {c5:Bool}{nh:Nat}(h:St E σ a w ν O)(hl:Ut (view E σ ν O w) V' σ ν w hs hout c5){r:bZ}:∀{ps:List nj} {avs:List AV} {vs:List Value} {k:Gh ps→Q T bZ},(ps.all (Rw hs))=true→az (ag (view E σ ν O w) σ ν E.Y) avs vs→
  (Lr c5 nh hout ps avs k).val Φ σ=some r→∃x,(k x).val Φ σ=some r∧mc V' ps x vs
 | [],[],[],k,_,_,he=>⟨(),he,rfl⟩
 | [p],[c],[v],k,hi,hc,he=>by
   simp only[List.all_cons,List.all_nil,Bool.and_true] at hi
   simp only[Lr] at he
   obtain⟨x,h2,h3⟩:=YA h hl hi hc.1 he
   exact⟨x,h2,v,rfl,h3⟩
 |t::u::ts,c::cs,v::vs,k,hi,hc,he=>by
  simp only[List.all_cons,Bool.and_eq_true] at hi
  simp only[Lr] at he
  obtain⟨x,h2,h3⟩:=YA h hl hi.1 hc.1 he
  obtain⟨y,h4,h5⟩:=Vi h hl (ps:=u::ts) (by simp only[List.all_cons,Bool.and_eq_true];exact hi.2) hc.2 h2
  exact⟨(x,y),h4,v,vs,rfl,h3,h5⟩
 | [],_::_,_,k,_,_,he=>by simp only[Lr,yP] at he
 | [_],[],_,k,_,_,he=>by simp only[Lr,yP] at he
 | [_],_::_::_,_,k,_,_,he=>by simp only[Lr,yP] at he
 |_::_::_,[],_,k,_,_,he=>by simp only[Lr,yP] at he
 | [],[],_::_,k,_,hc,_=>hc.elim
 | [_],[_],[],k,_,hc,_=>hc.elim
 | [_],[_],_::_::_,k,_,hc,_=>hc.2.elim
 |_::_::_,_::_,[],k,_,hc,_=>hc.elim
end
end Go.Abs
namespace Go.Abs
open Go.RowKit Go.Lib
def aE (ae:List aV):AS:=⟨⟨0,[],[]⟩,[],[],ae,⟨.unit,()⟩,[],[]⟩
def jW (d:Nat):(ts:List L9)→rO (ts.map (·.1))→List TU
 | [],_=>[]
 | [(t,some e)],x=>match ownRow t e x with
   |some row=>[.row d row]
   |none=>[]
 | [(t,none)],x=>[]
 | (t,some e)::u::ts,x=>match ownRow t e x.1 with
   |some row=> .row d row::jW (d+1) (u::ts) x.2
   |none=>jW (d+1) (u::ts) x.2
 | (t,none)::u::ts,x=>jW (d+1) (u::ts) x.2
def yU (d:Nat):(ts:List Ty)→rO ts→List TU
 | [],_=>[]
 | [t],x=>[.box d (.cells (flat t x))]
 |t::u::ts,x=> .box d (.cells (flat t x.1))::yU (d+1) (u::ts) x.2
def Qo (d:Nat):(ts:List Ty)→List Hi
 | []=>[]
 | [t]=>[.box d]
 |t::u::ts=> .box d::Qo (d+1) (u::ts)
def KB (d:Nat)(s:Iq)(y:Ma s):List TU:=match s,y with
 | ⟨_,res,none,_,none⟩,y=>jW d res y
 | ⟨_,_,some (f,ts),_,none⟩,y=>yU d ts y
 |_,_=>[]
def YB (d:Nat)(s:Iq)(y:Ma s):AV:=match s,y with
 | ⟨_,res,none,_,none⟩,y=>X8 (Af d res y)
 | ⟨_,_,some (f,ts),_,none⟩,y=> .fn f (Qo d ts)
 |_,_=> .nil
def aH (T:cj)(v:Nat)(xh:Bh T v):List aV:=qh T (T.sig v).hout (T.sig v).hin (Eh _ xh) (cg T)
def qo (T:cj)(v:Nat)(xh:Bh T v)(yh:xu T v):List aV:=qh T (T.sig v).hout (T.sig v).hout (Eh _ yh) (aH T v xh)
def wR (T:cj)(v d:Nat)(xh:Bh T v)(yh:xu T v):AS:=(aE (qo T v xh yh)).app (KB d (T.sig v) (u9 _ yh))
def wS (σ:AS)(us:List TU):Prop:=∀u∈us,match u with
 | .row k _=>look σ.rows k=none
 | .box k _=>look σ.boxes k=none
 |_=>False
section
variable {P:Program}{T:cj}{E:Env}{σ σ':AS}{a:Act}{w w':World}{ν ν':Nm→Value}{O:Nat→Prop}{Φ:bE T}{V V':View}{Y:Value}{hs hout:List Nat}
theorem wS.cons {u:TU}{us:List TU}(h:wS σ us)(hu:match u with | .row k _=>look σ.rows k=none | .box k _=>look σ.boxes k=none |_=>False):wS σ (u::us):=fun x hx=>by
 rcases List.mem_cons.1 hx with rfl |hx
 ·exact hu
 ·exact h x hx
theorem wS.nil:wS σ []:=fun x hx=>by simp at hx
theorem IM {r:bZ}:∀(ts:List L9) (d:Nat) (y:rO (ts.map (·.1))) (k:List TU→Q T bZ),(yi d ts y k).val Φ σ=some r→(k (jW d ts y)).val Φ σ=some r∧wS σ (jW d ts y)
 | [],d,y,k,h=>⟨h,wS.nil⟩
 | [(t,none)],d,y,k,h=>⟨h,wS.nil⟩
 | [(t,some e)],d,y,k,h=>by
   simp only[yi] at h
   simp only[jW]
   split at h
   ·rename_i row hrow
    rw[xy] at h
    rw[hrow]
    exact⟨h.2,wS.nil.cons h.1⟩
   ·cases h
 | (t,none)::u::ts,d,y,k,h=>by
   simp only[yi] at h
   exact IM (u::ts) (d+1) y.2 k h
 | (t,some e)::u::ts,d,y,k,h=>by
   simp only[yi] at h
   simp only[jW]
   split at h
   ·rename_i row hrow
    rw[xy] at h
    rw[hrow]
    obtain⟨h1,h2⟩:=IM (u::ts) (d+1) y.2 _ h.2
    exact⟨h1,h2.cons h.1⟩
   ·cases h
theorem NL {r:bZ}:∀(ts:List Ty) (d:Nat) (y:rO ts) (k:List TU→List Hi→Q T bZ),(EV d ts y k).val Φ σ=some r→(k (yU d ts y) (Qo d ts)).val Φ σ=some r∧wS σ (yU d ts y)
 | [],d,y,k,h=>⟨h,wS.nil⟩
 | [t],d,y,k,h=>by
   simp only[EV] at h
   rw[xz] at h
   exact⟨h.2,wS.nil.cons h.1⟩
 |t::u::ts,d,y,k,h=>by
  simp only[EV] at h
  rw[xz] at h
  obtain⟨h1,h2⟩:=NL (u::ts) (d+1) y.2 _ h.2
  exact⟨h1,h2.cons h.1⟩
theorem agi {d:Nat}{s:Iq}{y:Ma s}{us:List TU}{r:bZ}(h:(afK T d s y us).val Φ σ=some r):r=(YB d s y, .l9 (us++KB d s y))∧wS σ (KB d s y)∧s.gen=none:=by
 unfold afK at h
 split at h
 ·obtain⟨h1,h2⟩:=IM _ _ _ _ h
  rw[gD] at h1
  exact⟨h1.symm,h2,rfl⟩
 ·obtain⟨h1,h2⟩:=NL _ _ _ _ h
  rw[gD] at h1
  exact⟨h1.symm,h2,rfl⟩
 ·cases h
theorem aaP (us vs:List TU):σ.app (us++vs)=(σ.app us).app vs:=by
 induction us generalizing σ with
 |nil=>rfl
 |cons u us ih=>exact ih
theorem Su (wr:List Nat):∀(hs:List Nat) (x:Eg T hs) (σ:AS),(∀h∈hs,wr.any (Nat.beq h)=true)→σ.app (zG T hs x)={σ with ae:=qh T wr hs x σ.ae}
 | [],_,σ,_=>rfl
 | [h],x,σ,hw=>by
   simp only[zG,qh,sB,AS.app,AS.one]
   rw[hw h (by simp)]
 |h::i::r,x,σ,hw=>by
  simp only[zG,qh,AS.app]
  rw[Su wr (i::r) x.2 _ (fun h' hm=>hw h' (by simp only[List.mem_cons] at hm ⊢;exact .inr hm))]
  simp only[sB,AS.one]
  rw[hw h (by simp)]
def Mk (us:List TU):Prop:=∀u∈us,(∃k r,u= .row k r)∨∃k x,u= .box k x
theorem wS.only {us:List TU}(h:wS σ us):Mk us:=fun u hu=>by
 have:=h u hu
 cases u with
 |row k r=>exact .inl ⟨k,r,rfl⟩
 |box k x=>exact .inr ⟨k,x,rfl⟩
 |_=>exact this.elim
theorem Sw {us:List TU}(h:Mk us)(σ:AS):(σ.app us).tmps=σ.tmps∧(σ.app us).ae=σ.ae∧(σ.app us).trace=σ.trace∧(σ.app us).b4=σ.b4∧(σ.app us).sites=σ.sites:=by
 induction us generalizing σ with
 |nil=>exact⟨rfl,rfl,rfl,rfl,rfl⟩
 |cons u us ih=>
  have tu:=ih (fun x hx=>h x (by simp[hx])) (σ.one u)
  rcases h u (by simp) with ⟨k,r,rfl⟩ | ⟨k,x,rfl⟩
  ·exact tu
  ·exact tu
theorem agj {us:List TU}(h:Mk us)(σ σ0 σ1:AS)(hr:∀k,look σ1.rows k=(look σ0.rows k).or (look σ.rows k))(hb:∀k,look σ1.boxes k=(look σ0.boxes k).or (look σ.boxes k)):
  (∀k,look (σ1.app us).rows k=(look (σ0.app us).rows k).or (look σ.rows k))∧∀k,look (σ1.app us).boxes k=(look (σ0.app us).boxes k).or (look σ.boxes k):=by
 induction us generalizing σ0 σ1 with
 |nil=>exact⟨hr,hb⟩
 |cons u us ih=>
  refine ih (fun x hx=>h x (by simp[hx])) (σ0.one u) (σ1.one u) (fun k=> ?_) (fun k=> ?_)
  ·rcases h u (by simp) with ⟨j,r,rfl⟩ | ⟨j,x,rfl⟩
   ·show look (put _ _ _) k=(look (put _ _ _) k).or _
    rw[aA,aA]
    split
    ·rfl
    ·exact hr k
   ·exact hr k
  ·rcases h u (by simp) with ⟨j,r,rfl⟩ | ⟨j,x,rfl⟩
   ·exact hb k
   ·show look (put _ _ _) k=(look (put _ _ _) k).or _
    rw[aA,aA]
    split
    ·rfl
    ·exact hb k
theorem yV {us:List TU}(h:Mk us)(σ:AS)(k:Nat):(∀r,look (σ.app us).rows k=some r→look σ.rows k=some r∨TU.row k r∈us)∧∀x,look (σ.app us).boxes k=some x→look σ.boxes k=some x∨TU.box k x∈us:=by
 induction us generalizing σ with
 |nil=>exact⟨fun r h=> .inl h,fun r h=> .inl h⟩
 |cons u us ih=>
  obtain⟨h1,h2⟩:=ih (fun x hx=>h x (by simp[hx])) (σ.one u)
  rcases h u (by simp) with ⟨j,r0,rfl⟩ | ⟨j,x0,rfl⟩
  ·refine⟨fun r hr=> ?_,fun x hx=>(h2 x hx).imp id (fun h=>by simp[h])⟩
   rcases h1 r hr with h3 |h3
   ·have h3':look (put σ.rows j r0) k=some r:=h3
    rw[aA] at h3'
    split at h3'
    ·rename_i e;subst e;simp only[Option.some.injEq] at h3';subst h3';exact .inr (by simp)
    ·exact .inl h3'
   ·exact .inr (by simp[h3])
  ·refine⟨fun r hr=>(h1 r hr).imp id (fun h=>by simp[h]),fun x hx=> ?_⟩
   rcases h2 x hx with h3 |h3
   ·have h3':look (put σ.boxes j x0) k=some x:=h3
    rw[aA] at h3'
    split at h3'
    ·rename_i e;subst e;simp only[Option.some.injEq] at h3';subst h3';exact .inr (by simp)
    ·exact .inl h3'
   ·exact .inr (by simp[h3])
theorem acr (wr:List Nat):∀(hs:List Nat) (x:Eg T hs) (l l':List aV) (h:Nat),h∈hs→h<l.length→h<l'.length→(qh T wr hs x l)[h]? =(qh T wr hs x l')[h]?
 | [],_,_,_,h,hm,_,_=>by simp at hm
 | [i],x,l,l',h,hm,h1,h2=>by
   simp only[List.mem_singleton] at hm
   subst hm
   simp only[qh,sB]
   rw[List.getElem?_set_self h1,List.getElem?_set_self h2]
 |i::j::r,x,l,l',h,hm,h1,h2=>by
  by_cases hm2:h∈j::r
  ·simp only[qh]
   exact acr wr (j::r) x.2 _ _ h hm2 (by simpa [sB] using h1) (by simpa [sB] using h2)
  ·have:h=i:=by
    rcases List.mem_cons.1 hm with e |e
    ·exact e
    ·exact absurd e hm2
   subst this
   simp only[qh]
   rw[jV wr _ _ _ h hm2,jV wr _ _ _ h hm2]
   simp only[sB]
   rw[List.getElem?_set_self h1,List.getElem?_set_self h2]
def WQ (T:cj)(V:View):Prop:=∀i x,look T.aj0 i=some x→∃g cs,i=gk g∧x= .oT cs∧ql V cs (.pointer (some ⟨g,0,none⟩))
def Ml (T:cj)(E:Env):Prop:=Mh E∧WQ T (fun key v=>∃ad:Addr,key= .cell ad∧ad.block<E.w0.heap.size∧E.V0 (.cell ad) v)
def jX:CV→(Nat→Prop)→World→Prop:=fun tr _ _=>tr=⟨.unit,()⟩
def Left (T:cj)(E:Env)(v:Nat)(xh:Bh T v)(yh:xu T v)(d:Nat)(e:Ending)(w':World):Prop:=
 ∃r ν',e= .returned r∧St E (wR T v d xh yh) ⟨#[],[]⟩ w' ν' (fun _=>False)∧ag (view E (wR T v d xh yh) ν' (fun _=>False) w') (wR T v d xh yh) ν' E.Y (YB d (T.sig v) (u9 _ yh)) r
structure Callee (T:cj) (E:Env) (v:Nat) (xh:Bh T v):Prop where
 j:E.J=jX
 m:∀r,¬E.M r
 om:∀k,¬E.Om k
 acc:∀tr,E.acc tr
 hx:∀i k,i∉(T.sig v).hin→¬E.XH i k
 ro:∀i,E.ro i=bif (T.sig v).hin.any (Nat.beq i)&& !((T.sig v).hout.any (Nat.beq i)) then (aH T v xh)[i]? else none
def YC (P:Program)(T:cj)(Φ:bE T):Prop:=∀v xh yh,Φ v xh=some yh→(T.sig v).gen=none→(∃fn,P.funcs[T.real v]? =some fn∧fn.body.isSome=true∧(fn.name== "runtime.NumGoroutine")=false)∧
 ∀(E:Env) (ν:Nm→Value) (args:Array Value) (d:Nat),aB E→Ml T E→Callee T E v xh→St E (aE (aH T v xh)) ⟨#[],[]⟩ E.w0 ν (fun _=>False)→
  mc (view E (aE (aH T v xh)) ν (fun _=>False) E.w0) (T.sig v).args (u9 _ xh) args.toList→Calls P (T.real v) args E.w0 (Left T E v xh yh d)
end
end Go.Abs
namespace Go.Abs
open Go.RowKit Go.Lib
theorem Gx {w:World}{a:Addr}{v:Value}(h:w.cell? a=some v):a.block<w.heap.size:=by
 unfold World.cell? at h
 cases hb:w.heap[a.block]? with
 |none=>simp[hb] at h
 |some o=>exact(Array.getElem?_eq_some_iff.1 hb).1
theorem kn {l:List Nat}{h:Nat}:l.any (Nat.beq h)=true↔h∈l:=by
 rw[List.any_eq_true]
 exact⟨fun⟨x,hx,e⟩=>by rw[(beq_iff _ _).1 e];exact hx,fun hx=>⟨h,hx,beq_refl h⟩⟩
theorem YD {T:cj}{A:Type}{x:A}:∀{hs:List Nat} {h:Eg T hs} {y:Nr T A hs},Ir x hs (some h)=some y→u9 hs y=x∧Eh hs y=h
 | [],h,y,e=>by simp only[Ir,Option.some.injEq] at e;exact⟨e.symm,rfl⟩
 |_::_,h,y,e=>by simp only[Ir,Option.some.injEq] at e;subst e;exact⟨rfl,rfl⟩
section
variable {P:Program}{T:cj}{E:Env}{σ σ':AS}{a:Act}{w w':World}{ν ν':Nm→Value}{O:Nat→Prop}{Φ:bE T}{V V':View}{Y:Value}
def yj (T:cj)(E:Env)(σ:AS)(ν:Nm→Value)(O:Nat→Prop)(w:World)(v:Nat)(xh:Bh T v)(c5:Bool):Env where
 V0:=fun key u=>∃ad:Addr,key= .cell ad∧(view E σ ν O w (.cell ad) u∨(c5=true∧w.cell? ad=some u∧¬XOf σ ν (T.sig v).hout ad.block))
 w0:=w
 X:=XOf σ ν (T.sig v).hout
 J:=jX
 XS:=E.XS
 Y:= .nilFunc
 ro:=fun i=>bif (T.sig v).hin.any (Nat.beq i)&& !((T.sig v).hout.any (Nat.beq i)) then (aH T v xh)[i]? else none
 h0:=aH T v xh
 n0:=fun h n=>ν (.hp h n)
 M:=fun _=>False
 base:=w
 CB:=XOf σ ν (T.sig v).hout
 Om:=fun _=>False
 acc:=fun _=>True
 XH:=fun i k=>i∈(T.sig v).hin∧∃n,Own σ ν (.hp i n) k
def A8 (T:cj)(σ:AS)(v:Nat)(xh:Bh T v):Prop:=∀h∈(T.sig v).hin,amX T σ (T.sig v).hout (qh T (T.sig v).hout (T.sig v).hin (Eh _ xh)) h
theorem Ke {v:Nat}{xh:Bh T v}(hI:A8 T σ v xh){i:Nat}{hr':aV}(e:(aH T v xh)[i]? =some hr'):
  (i∈(T.sig v).hin∧∃hr,σ.ae[i]? =some hr∧hr'=⟨hr.e,hr.t,hr.k,(T.sig v).hout.any (Nat.beq i),hr.xs⟩∧((T.sig v).hout.any (Nat.beq i)=true→hr.w=true)∧hr.t=(T.ht i).t)∨(i∉(T.sig v).hin∧hr'.xs=[]):=by
 by_cases hi:i∈(T.sig v).hin
 ·left
  obtain⟨hr,h1,h2,h3,h4,h5,h6⟩:=hI i hi
  have hlt:i<(cg T).length:=by
   have:=(List.getElem?_eq_some_iff.1 e).1
   unfold aH at this
   rwa [yS] at this
  have h7:=h6 (cg T) hlt
  unfold aH at e
  rw[e] at h7
  simp only[Option.some.injEq] at h7
  exact⟨hi,hr,h1,h7,h2,h5⟩
 ·right
  unfold aH at e
  rw[jV _ _ _ _ _ hi] at e
  exact⟨hi,xE i hr' e⟩
theorem Vj {v:Nat}{xh:Bh T v}(hI:A8 T σ v xh){i n:Nat}{o:Obj}(e:nk (aH T v xh) i n=some o):i∈(T.sig v).hin∧nk σ.ae i n=some o:=by
 cases n with
 |zero=>cases e
 |succ m=>
  simp only[nk] at e
  split at e
  ·rename_i hr' hh
   rcases Ke hI hh with ⟨h1,hr,h2,rfl,_⟩ | ⟨_,h1⟩
   ·refine⟨h1, ?_⟩
    simp only[nk,h2]
    exact e
   ·rw[h1] at e
    simp[Hm] at e
  ·cases e
theorem adQ (hE:aB E)(h:St E σ a w ν O){hout:List Nat}(hw:∀i,hout.any (Nat.beq i)=true→∃hr,σ.ae[i]? =some hr∧hr.w=true){ad:Addr}{u:Value}(hv:view E σ ν O w (.cell ad) u):¬XOf σ ν hout ad.block:=fun⟨i,n,h1,h2⟩=>by
 rcases hv with ⟨hlt,hv⟩ | ⟨hge,hn,_⟩
 ·rcases (h.yO _ _ h2).1 with h3 |h3 | ⟨j,m,hr',e,h3⟩
  ·omega
  ·exact(hE.cell _ _ hv).2 h3
  ·injection e with e1 e2
   subst e1
   obtain⟨hr,h4,h5⟩:=hw i h1
   obtain⟨h6,h7⟩:=h.ro i hr' h3
   rw[h4] at h6
   obtain rfl:hr=hr':=by simpa using h6
   rw[h5] at h7;cases h7
 ·exact hn ⟨_,h2⟩
theorem aaQ {v:Nat}{xh:Bh T v}(hI:A8 T σ v xh)(i:Nat)(hi:(T.sig v).hout.any (Nat.beq i)=true):∃hr,σ.ae[i]? =some hr∧hr.w=true:=by
 have hm:i∈(T.sig v).hin:=by
  have:=kn.1 hi
  simp only[Iq.hout,Iq.hin,List.mem_map,List.mem_filter] at this ⊢
  obtain⟨p,⟨hp,_⟩,e⟩:=this
  exact⟨p,hp,e⟩
 obtain⟨hr,h1,h2,_⟩:=hI i hm
 exact⟨hr,h1,h2 hi⟩
theorem aaR (hE:aB E)(h:St E σ a w ν O){v:Nat}{xh:Bh T v}(hI:A8 T σ v xh)(c5:Bool):aB (yj T E σ ν O w v xh c5):=by
 refine⟨fun ad u hv=> ?_,fun _ _ _ _ _ h _ _=>h⟩
 obtain⟨Pb,e,hv⟩:=hv
 injection e with e
 subst e
 rcases hv with hv | ⟨_,h1,h2⟩
 ·exact⟨xx hE h.keep hv,adQ hE h (aaQ hI) hv⟩
 ·exact⟨h1,h2⟩
theorem ql.of {V V':View}(hV:∀a v,V a v→V' a v){cs:List CV}{v:Value}(h:ql V cs v):ql V' cs v:=ql.mono hV h
theorem YE (hG:Ml T E)(hE:aB E)(h:St E σ a w ν O){v:Nat}{xh:Bh T v}(c5:Bool):Ml T (yj T E σ ν O w v xh c5):=by
 refine⟨hG.1,fun i x hx=> ?_⟩
 obtain⟨g,cs,h1,h2,h3⟩:=hG.2 i x hx
 refine⟨g,cs,h1,h2,h3.of fun key u ⟨ad,e,hlt,hv⟩=>⟨ad,e,Nat.lt_of_lt_of_le hlt h.keep.size,ad,rfl, .inl (.inl ⟨hlt,hv⟩)⟩⟩
theorem Qp (hE:aB E)(h:St E σ a w ν O){v:Nat}{xh:Bh T v}(hI:A8 T σ v xh)(Bt:σ.ae.length=T.ae.length)(c5:Bool):
  Ut (view E σ ν O w) (view (yj T E σ ν O w v xh c5) (aE (aH T v xh)) ν (fun _=>False) w) σ ν w (T.sig v).hin (T.sig v).hout c5:=by
 refine⟨fun ad u hv=> .inl ⟨Gx (xx hE h.keep hv),ad,rfl, .inl hv⟩,fun k hk n u hv=> ?_,fun hl ad u hc hx=> .inl ⟨Gx hc,ad,rfl, .inr ⟨hl,hc,hx⟩⟩⟩
 obtain⟨h1,h2,h3⟩:=hv
 refine⟨h1, ?_,h3⟩
 obtain⟨hr,g1,g2,g3,g4,g5,g6⟩:=hI k (kn.1 hk)
 have hlt:k<(cg T).length:=by rw[qn, ←Bt];exact(List.getElem?_eq_some_iff.1 g1).1
 show n≤hlen (aH T v xh) k
 rw[J9 g1] at h2
 rw[J9 (ae:=aH T v xh) (g6 (cg T) hlt)]
 exact h2
theorem WS (hE:aB E)(h:St E σ a w ν O){v:Nat}{xh:Bh T v}(hI:A8 T σ v xh)(Bt:σ.ae.length=T.ae.length)(hs:Hk T (T.sig v)=true)(c5:Bool):
  St (yj T E σ ν O w v xh c5) (aE (aH T v xh)) ⟨#[],[]⟩ w ν (fun _=>False):=by
 have hl:=Qp hE h hI Bt c5
 have hown:∀m k,Own (aE (aH T v xh)) ν m k→∃i n,m= .hp i n∧i∈(T.sig v).hin∧Own σ ν m k:=fun m k hm=>by
  obtain⟨h1,h2⟩:=hm
  cases m with
  |row r=>simp[AS.obj,aE,look] at h1
  |box r=>simp[AS.obj,aE,look] at h1
  |hp i n=>
   obtain⟨o,ho⟩:=Option.isSome_iff_exists.1 h1
   obtain⟨h3,h4⟩:=Vj hI ho
   exact⟨i,n,rfl,h3,aW (show σ.obj (.hp i n)=some o from h4),h2⟩
 have amZ:∀m k,Own (aE (aH T v xh)) ν m k→(yj T E σ ν O w v xh c5).wK m∨XOf σ ν (T.sig v).hout k:=fun m k hm=>by
  obtain⟨i,n,rfl,h3,h4⟩:=hown m k hm
  by_cases ho:(T.sig v).hout.any (Nat.beq i)=true
  ·exact .inr ⟨i,n,ho,h4⟩
  ·have ho':(T.sig v).hout.any (Nat.beq i)=false:=eq_false_of_ne_true ho
   obtain⟨hr,g1,g2,g3,g4,g5,g6⟩:=hI i h3
   have hlt:i<(cg T).length:=by rw[qn, ←Bt];exact(List.getElem?_eq_some_iff.1 g1).1
   refine .inl ⟨i,n,⟨hr.e,hr.t,hr.k,(T.sig v).hout.any (Nat.beq i),hr.xs⟩,rfl, ?_⟩
   show (bif _ then _ else _)=_
   have g7:=g6 (cg T) hlt
   rw[ho'] at g7
   rw[kn.2 h3,ho']
   exact g7
 refine⟨Grow.refl _ _,(fun d hd=>by cases hd),⟨rfl,(fun i x e=>by cases e),(fun i x e=>by cases e)⟩,fun m o ho=> ?_,fun m m' k h1 h2=> ?_,fun m k hm=> ?_,fun r k hk=> ?_,⟨rfl,fun k hk=>hk.elim⟩,fun i hr n e h1 h2=> ?_,fun i hr e=> ?_,⟨rfl,fun i hr e=>⟨hr,e,Ah.refl _,Nat.le_refl _⟩,fun _ _ _ _=>rfl⟩,fun _ hf=>hf.elim,Grow.refl _ _,fun m k hm=> ?_,fun _ hf=>hf,List.nodup_nil⟩
 ·cases m with
  |row r=>simp[AS.obj,aE,look] at ho
  |box r=>simp[AS.obj,aE,look] at ho
  |hp i n=>
   have ho':nk (aH T v xh) i n=some o:=ho
   obtain⟨h3,h4⟩:=Vj hI ho'
   obtain⟨k,row,rfl⟩:=NF ho'
   have b5:Ag (view E σ ν O w) w k (ν (.hp i n)) row:=h.A6 (.hp i n) _ h4
   have hrt:dZ (T.sig v).hin row.t=true:=by
    obtain⟨hr,g1,g2,g3,g4,g5,g6⟩:=hI i h3
    have:row.t=hr.t:=by
     cases n with
     |zero=>cases h4
     |succ m=>
      simp only[nk,g1,Hm] at h4
      split at h4
      ·simp only[Option.some.injEq,Obj.hp.injEq] at h4
       rw[←h4.2]
      ·cases h4
    rw[this,g5]
    simp only[Hk,Bool.and_eq_true] at hs
    exact List.all_eq_true.1 hs.1.2 i h3
   have htr:=fun x cs=>Rel.tr hl.cell hl.ref row.t x cs hrt
   show Ag _ w k _ row
   match k,b5 with
   |0,⟨h5,bk,h6,h7⟩=>exact⟨h5,bk,h6,h7.mono htr⟩
   |1,⟨g,cur,ys,x,h5,h6,h7,h8,h9⟩=>exact⟨g,cur,ys,x,h5,h6,h7,h8,htr _ _ h9⟩
 ·obtain⟨_,_,_,_,h3⟩:=hown m k h1
  obtain⟨_,_,_,_,h4⟩:=hown m' k h2
  exact h.inj m m' k h3 h4
 ·obtain⟨i,n,rfl,h3,h4⟩:=hown m k hm
  exact⟨(amZ _ k hm).elim (fun e=> .inr (.inr e)) (fun e=> .inr (.inl e)),(h.yO _ k h4).2.1,fun hf=>hf⟩
 ·obtain⟨i,n,e,h3,h4⟩:=hown _ k hk
  subst e
  exact .inr ⟨h3,n,h4⟩
 ·rcases Ke hI e with ⟨_,Hn,g1,rfl,_⟩ | ⟨_,g1⟩
  ·exact h.nn i Hn n g1 h1 h2
  ·rw[g1] at h2;simp at h2;omega
 ·have e':(bif (T.sig v).hin.any (Nat.beq i)&& !((T.sig v).hout.any (Nat.beq i)) then (aH T v xh)[i]? else none)=some hr:=e
  cases hb:((T.sig v).hin.any (Nat.beq i)&& !((T.sig v).hout.any (Nat.beq i))) with
  |false=>rw[hb] at e';cases e'
  |true=>
   rw[hb,cond_true] at e'
   refine⟨e', ?_⟩
   simp only[Bool.and_eq_true,Bool.not_eq_true'] at hb
   rcases Ke hI e' with ⟨_,Hn,g1,rfl,_⟩ | ⟨g1,_⟩
   ·exact hb.2
   ·exact absurd (kn.1 hb.1) g1
 ·exact(amZ m k hm).imp id .inl
end
end Go.Abs
namespace Go.Abs
open Go.RowKit Go.Lib
theorem Kf:∀{t:Ty} {x:t.den},Ei t=true→∀c∈flat t x,Ei c.1=true
 | .unit,_,_,c,hc=>by simp[flat] at hc
 | .pair a b,x,h,c,hc=>by
   simp only[Ei,Bool.and_eq_true] at h
   simp only[flat,List.mem_append] at hc
   rcases hc with hc |hc
   ·exact Kf h.1 c hc
   ·exact Kf h.2 c hc
 | .st t,x,h,c,hc=>Kf (t:=t) h c hc
 | .int k,x,h,c,hc=>by simp only[flat,List.mem_singleton] at hc;subst hc;rfl
 | .bool,x,h,c,hc=>by simp only[flat,List.mem_singleton] at hc;subst hc;rfl
 | .str,x,h,c,hc=>by simp only[flat,List.mem_singleton] at hc;subst hc;rfl
 | .slice t,x,h,c,hc=>by cases h
 | .pW t,x,h,c,hc=>by cases h
 | .ref k,x,h,c,hc=>by simp only[flat,List.mem_singleton] at hc;subst hc;rfl
 | .ptr k,x,h,c,hc=>by simp only[flat,List.mem_singleton] at hc;subst hc;rfl
 | .mp k,x,h,c,hc=>by simp only[flat,List.mem_singleton] at hc;subst hc;rfl
 | .fn,x,h,c,hc=>by simp only[flat,List.mem_singleton] at hc;subst hc;rfl
theorem Vk {t:Ty}{e:TypeId}{x:t.den}{row:Row}(h:ownRow t e x=some row):t= .slice row.t:=by
 unfold ownRow at h
 split at h
 ·simp only[Option.some.injEq] at h;subst h;rfl
 ·cases h
theorem xG:∀(ts:List L9) (d:Nat) (y:rO (ts.map (·.1))) (u:TU),u∈jW d ts y→∃k row t e,u= .row k row∧(t,some e)∈ts∧t= .slice row.t
 | [],d,y,u,h=>by simp[jW] at h
 | [(t,none)],d,y,u,h=>by simp[jW] at h
 | [(t,some e)],d,y,u,h=>by
   simp only[jW] at h
   split at h
   ·rename_i row hr
    simp only[List.mem_singleton] at h
    exact⟨d,row,t,e,h,by simp,Vk hr⟩
   ·simp at h
 | (t,none)::p::ts,d,y,u,h=>by
   simp only[jW] at h
   obtain⟨k,row,t',e,h1,h2,h3⟩:=xG (p::ts) _ _ _ h
   exact⟨k,row,t',e,h1,List.mem_cons_of_mem _ h2,h3⟩
 | (t,some e)::p::ts,d,y,u,h=>by
   simp only[jW] at h
   split at h
   ·rename_i row hr
    rcases List.mem_cons.1 h with h |h
    ·exact⟨d,row,t,e,h,List.mem_cons_self,Vk hr⟩
    ·obtain⟨k,row,t',e,h1,h2,h3⟩:=xG (p::ts) _ _ _ h
     exact⟨k,row,t',e,h1,List.mem_cons_of_mem _ h2,h3⟩
   ·obtain⟨k,row,t',e,h1,h2,h3⟩:=xG (p::ts) _ _ _ h
    exact⟨k,row,t',e,h1,List.mem_cons_of_mem _ h2,h3⟩
def RvT (t:Ty):RV→Prop
 | .cv c=>c.1=t
 | .agg cs=>∃(u:Ty) (y:u.den),t= .st u∧cs=flat u y
 | .own _=>False
theorem Pm:∀(ts:List L9) (d:Nat) (y:rO (ts.map (·.1))) (x:RV),x∈Af d ts y→(∃q,x= .own q)∨∃t,(t,none)∈ts∧RvT t x
 | [],d,y,x,h=>by simp[Af] at h
 | [(t,some e)],d,y,x,h=>by
   have:x∈[RV.own d]:=by cases t<;>exact h
   simp only[List.mem_singleton] at this
   exact .inl ⟨d,this⟩
 | [(t,none)],d,y,x,h=>by
   refine .inr ⟨t,by simp, ?_⟩
   cases t<;>(simp only[Af,List.mem_singleton] at h;subst h;first |rfl |exact⟨_,_,rfl,rfl⟩)
 | (t,some e)::p::ts,d,y,x,h=>by
   have:x∈RV.own d::Af (d+1) (p::ts) y.2:=by cases t<;>exact h
   rcases List.mem_cons.1 this with h |h
   ·exact .inl ⟨d,h⟩
   ·exact(Pm (p::ts) _ _ _ h).imp id (fun⟨t,h1,h2⟩=>⟨t,List.mem_cons_of_mem _ h1,h2⟩)
 | (t,none)::p::ts,d,y,x,h=>by
   have:RvT t x∨x∈Af (d+1) (p::ts) y.2:=by
    cases t<;>(simp only[Af,List.mem_cons] at h;exact h.imp (fun h=>by subst h;first |rfl |exact⟨_,_,rfl,rfl⟩) id)
   rcases this with h |h
   ·exact .inr ⟨t,List.mem_cons_self,h⟩
   ·exact(Pm (p::ts) _ _ _ h).imp id (fun⟨t,h1,h2⟩=>⟨t,List.mem_cons_of_mem _ h1,h2⟩)
section
variable {P:Program}{T:cj}{E:Env}{σ σ':AS}{a:Act}{w w':World}{ν ν':Nm→Value}{O:Nat→Prop}{Φ:bE T}{V V':View}{Y:Value}
def WT (e:AS)(hout:List Nat):Nm→Bool
 | .row k=>(look e.rows k).isSome
 | .box k=>(look e.boxes k).isSome
 | .hp i _=>hout.any (Nat.beq i)
def Vl (e:AS)(hout:List Nat)(ν ν':Nm→Value)(m:Nm):Value:=bif WT e hout m then ν' m else ν m
def IN (T:cj)(σ:AS)(v d:Nat)(yh:xu T v):AS:=(σ.app (zG T (T.sig v).hout (Eh _ yh))).app (KB d (T.sig v) (u9 _ yh))
structure agk (σn es σ:AS) (hout:List Nat):Prop where
 tmps:σn.tmps=σ.tmps
 trace:σn.trace=σ.trace
 num:σn.ae.length=σ.ae.length
 rows:∀k,look σn.rows k=(look es.rows k).or (look σ.rows k)
 boxes:∀k,look σn.boxes k=(look es.boxes k).or (look σ.boxes k)
 fr:∀k,(look es.rows k).isSome=true→look σ.rows k=none
 fb:∀k,(look es.boxes k).isSome=true→look σ.boxes k=none
 hin:∀i,hout.any (Nat.beq i)=true→σn.ae[i]? =es.ae[i]?
 hout:∀i,hout.any (Nat.beq i)=false→σn.ae[i]? =σ.ae[i]?
theorem agl (Bt:σ.ae.length=T.ae.length){v d:Nat}{xh:Bh T v}{yh:xu T v}(hI:A8 T σ v xh)(hf:wS σ (KB d (T.sig v) (u9 _ yh))):agk (IN T σ v d yh) (wR T v d xh yh) σ (T.sig v).hout:=by
 have ho:=hf.only
 have e1:σ.app (zG T (T.sig v).hout (Eh _ yh))={σ with ae:=qh T (T.sig v).hout (T.sig v).hout (Eh _ yh) σ.ae}:=Su (T.sig v).hout _ _ σ (fun h hm=>kn.2 hm)
 obtain⟨a1,a2,a3,_,_⟩:=Sw ho (σ.app (zG T (T.sig v).hout (Eh _ yh)))
 obtain⟨_,b2,_,_,_⟩:=Sw ho (aE (qo T v xh yh))
 have hh:(IN T σ v d yh).ae=qh T (T.sig v).hout (T.sig v).hout (Eh _ yh) σ.ae:=by
  unfold IN;rw[a2,e1]
 have hh2:(wR T v d xh yh).ae=qo T v xh yh:=b2
 obtain⟨r1,r2⟩:=agj ho σ (aE (qo T v xh yh)) (σ.app (zG T (T.sig v).hout (Eh _ yh))) (fun k=>by rw[e1];rfl) (fun k=>by rw[e1];rfl)
 have hl:(cg T).length=σ.ae.length:=by rw[qn,Bt]
 refine⟨by unfold IN;rw[a1,e1],by unfold IN;rw[a3,e1],by rw[hh,yS],r1,r2,fun k hk=> ?_,fun k hk=> ?_,fun i hi=> ?_,fun i hi=> ?_⟩
 ·obtain⟨r,hr⟩:=Option.isSome_iff_exists.1 hk
  rcases (yV ho (aE (qo T v xh yh)) k).1 r hr with h1 |h1
  ·cases h1
  ·exact hf _ h1
 ·obtain⟨r,hr⟩:=Option.isSome_iff_exists.1 hk
  rcases (yV ho (aE (qo T v xh yh)) k).2 r hr with h1 |h1
  ·cases h1
  ·exact hf _ h1
 ·obtain⟨hr,h1,_⟩:=aaQ hI i hi
  have hlt:=(List.getElem?_eq_some_iff.1 h1).1
  rw[hh,hh2]
  unfold qo
  exact acr _ _ _ _ _ i (kn.1 hi) hlt (by unfold aH;rw[yS,hl];exact hlt)
 ·rw[hh]
  exact jV _ _ _ _ i (fun hm=>by rw[kn.2 hm] at hi;cases hi)
theorem agm {σn es:AS}{hout:List Nat}(hc:agk σn es σ hout)(m:Nm):(WT es hout m=true→σn.obj m=es.obj m)∧(WT es hout m=false→σn.obj m=σ.obj m):=by
 cases m with
 |row k=>
  simp only[WT,AS.obj,hc.rows k]
  refine⟨fun h=> ?_,fun h=> ?_⟩
  ·obtain⟨r,hr⟩:=Option.isSome_iff_exists.1 h
   rw[hr];rfl
  ·cases hr:look es.rows k with
   |none=>rfl
   |some r=>rw[hr] at h;cases h
 |box k=>
  simp only[WT,AS.obj,hc.boxes k]
  refine⟨fun h=> ?_,fun h=> ?_⟩
  ·obtain⟨r,hr⟩:=Option.isSome_iff_exists.1 h
   rw[hr];rfl
  ·cases hr:look es.boxes k with
   |none=>rfl
   |some r=>rw[hr] at h;cases h
 |hp i n=>
  refine⟨fun h=> ?_,fun h=> ?_⟩
  ·cases n with
   |zero=>rfl
   |succ n=>simp only[AS.obj,nk];rw[hc.hin i h]
  ·cases n with
   |zero=>rfl
   |succ n=>simp only[AS.obj,nk];rw[hc.hout i h]
end
end Go.Abs
namespace Go.Abs
open Go.RowKit Go.Lib
section
variable {P:Program}{T:cj}{E:Env}{σ σ':AS}{a:Act}{w w':World}{ν ν':Nm→Value}{O:Nat→Prop}{Φ:bE T}{V V':View}{Y:Value}
theorem adR {h0:List aV}{n0:Nat→Nat→Value}{hs:List aV}(hk:HK h0 n0 hs ν){i:Nat}{hr:aV}(h:h0[i]? =some hr):∃hr',hs[i]? =some hr'∧Ah hr hr'∧hr.xs.length≤hr'.xs.length∧∀n,1≤n→n≤hr.xs.length→ν (.hp i n)=n0 i n:=by
 obtain⟨hr',h1,h2,h3⟩:=hk.row i hr h
 exact⟨hr',h1,h2,h3,fun n h4 h5=>hk.nm i n h4 (by rw[J9 h];exact h5)⟩
theorem NM {s:Iq}{i:Nat}(hi:s.hout.any (Nat.beq i)=true):i∈s.hin:=by
 have:=kn.1 hi
 simp only[Iq.hout,Iq.hin,List.mem_map,List.mem_filter] at this ⊢
 obtain⟨p,⟨hp,_⟩,e⟩:=this
 exact⟨p,hp,e⟩
theorem YF {v d:Nat}{xh:Bh T v}{yh:xu T v}(hf:wS σ (KB d (T.sig v) (u9 _ yh))):(wR T v d xh yh).ae=qo T v xh yh:=(Sw hf.only (aE (qo T v xh yh))).2.1
theorem Kg {s:Iq}(h:jU T s=true)(hg:s.gen=none):s.clo=none∧(∀i∈s.hout,Ei (T.ht i).t=true)∧∀t o,(t,o)∈s.res→(o=none→Ei t=true)∧∀u e,t= .slice u→o=some e→Ei u=true:=by
 unfold jU at h
 rw[hg] at h
 simp only[Bool.and_eq_true,Option.isNone_iff_eq_none,List.all_eq_true] at h
 refine⟨h.1.1,h.1.2,fun t o hm=> ?_⟩
 have h1:=h.2 (t,o) hm
 refine⟨fun e=> ?_,fun u e e1 e2=> ?_⟩
 ·subst e
  cases t<;>first |exact h1 |rfl
 ·subst e1 e2;exact h1
theorem acs {d:Nat}{s:Iq}{y:Ma s}(hl:jU T s=true){u:TU}(h:u∈KB d s y):∃k row,u= .row k row∧Ei row.t=true:=by
 unfold KB at h
 split at h
 ·rename_i args res hps y
  obtain⟨k,row,t,e,rfl,h2,h3⟩:=xG _ _ _ _ h
  obtain⟨_,_,h4⟩:=Kg hl rfl
  exact⟨k,row,rfl,(h4 _ _ h2).2 _ _ h3 rfl⟩
 ·obtain⟨h4,_⟩:=Kg hl rfl
  cases h4
 ·simp at h
theorem St.called (hE:aB E)(h:St E σ a w ν O)(Bt:σ.ae.length=T.ae.length){v d:Nat}{xh:Bh T v}{yh:xu T v}{c5:Bool}(YG:c5=true→jU T (T.sig v)=true)(hI:A8 T σ v xh)(Bu:(T.sig v).gen=none)
  (hf:wS σ (KB d (T.sig v) (u9 _ yh))) (hend:St (yj T E σ ν O w v xh c5) (wR T v d xh yh) ⟨#[],[]⟩ w' ν' (fun _=>False)):
  St E (IN T σ v d yh) a w' (Vl (wR T v d xh yh) (T.sig v).hout ν ν') O∧
   ∀t,(c5=true→Ei t=true)→∀x cs,Rel (view (yj T E σ ν O w v xh c5) (wR T v d xh yh) ν' (fun _=>False) w') t x cs→Rel (view E (IN T σ v d yh) (Vl (wR T v d xh yh) (T.sig v).hout ν ν') O w') t x cs:=by
 have hc:=agl (xh:=xh) Bt hI hf
 have heh:=YF (xh:=xh) hf
 generalize hes:wR T v d xh yh=es at hc hend heh ⊢
 generalize hsn:IN T σ v d yh=σn at hc ⊢
 have hob:=fun m=>agm hc m
 have hw:∀i,(T.sig v).hout.any (Nat.beq i)=true→∃hr,σ.ae[i]? =some hr∧hr.w=true:=fun i hi=>aaQ hI i hi
 have adF:∀i n,(T.sig v).hout.any (Nat.beq i)=true→¬E.wK (.hp i n):=fun i n hi ⟨j,m,hr',e,h3⟩=>by
  injection e with e1 e2
  subst e1
  obtain⟨hr,h4,h5⟩:=hw i hi
  obtain⟨h6,h7⟩:=h.ro i hr' h3
  rw[h4] at h6
  obtain rfl:hr=hr':=by simpa using h6
  rw[h5] at h7;cases h7
 have hν1:∀m,WT es (T.sig v).hout m=true→Vl es (T.sig v).hout ν ν' m=ν' m:=fun m hm=>by unfold Vl;rw[hm];rfl
 have hν0:∀m,WT es (T.sig v).hout m=false→Vl es (T.sig v).hout ν ν' m=ν m:=fun m hm=>by unfold Vl;rw[hm];rfl
 -- Kh am1 ae
 have hstart:∀i hr,σ.ae[i]? =some hr→i∈(T.sig v).hin→(aH T v xh)[i]? =some ⟨hr.e,hr.t,hr.k,(T.sig v).hout.any (Nat.beq i),hr.xs⟩∧hr.t=(T.ht i).t:=fun i hr h1 h2=>by
  obtain⟨hr',g1,g2,g3,g4,g5,g6⟩:=hI i h2
  rw[h1] at g1
  obtain rfl:hr=hr':=by simpa using g1
  have hlt:i<(cg T).length:=by rw[qn, ←Bt];exact(List.getElem?_eq_some_iff.1 h1).1
  have:=g6 (cg T) hlt
  refine⟨?_,g5⟩
  unfold aH
  exact this
 have acv:∀i hr,σ.ae[i]? =some hr→i∈(T.sig v).hin→∃hr',es.ae[i]? =some hr'∧hr'.e=hr.e∧hr'.t=hr.t∧hr'.k=hr.k∧hr'.w=(T.sig v).hout.any (Nat.beq i)∧hr.xs.length≤hr'.xs.length∧∀n,1≤n→n≤hr.xs.length→ν' (.hp i n)=ν (.hp i n):=fun i hr h1 h2=>by
  obtain⟨hr',k1,k2,k3,k4⟩:=adR hend.kept (hstart i hr h1 h2).1
  exact⟨hr',k1,k2.e,k2.t,k2.k,k2.w,k3,k4⟩
 -- what is owned
 have hown:∀m k,Own σn (Vl es (T.sig v).hout ν ν') m k→(WT es (T.sig v).hout m=true∧Own es ν' m k)∨(WT es (T.sig v).hout m=false∧Own σ ν m k):=fun m k ⟨h1,h2⟩=>by
  cases hm:WT es (T.sig v).hout m with
  |true=>rw[(hob m).1 hm] at h1;rw[hν1 m hm] at h2;exact .inl ⟨rfl,h1,h2⟩
  |false=>rw[(hob m).2 hm] at h1;rw[hν0 m hm] at h2;exact .inr ⟨rfl,h1,h2⟩
 have agn:∀m k,WT es (T.sig v).hout m=true→Own es ν' m k→w.heap.size≤k∨XOf σ ν (T.sig v).hout k:=fun m k hm ho=>by
  rcases (hend.yO m k ho).1 with h1 |h1 | ⟨i,n,hr,e,h1⟩
  ·exact .inl h1
  ·right;exact h1
  ·subst e
   have hm':(T.sig v).hout.any (Nat.beq i)=true:=hm
   have h1':(bif (T.sig v).hin.any (Nat.beq i)&& !((T.sig v).hout.any (Nat.beq i)) then (aH T v xh)[i]? else none)=some hr:=h1
   rw[hm'] at h1'
   simp at h1'
 have aj7:∀m k,WT es (T.sig v).hout m=false→Own σ ν m k→¬XOf σ ν (T.sig v).hout k:=fun m k hm ho ⟨i,n,h1,h2⟩=>by
  have:=h.inj m _ k ho h2
  subst this
  have hm':(T.sig v).hout.any (Nat.beq i)=false:=hm
  rw[h1] at hm';cases hm'
 have hgr:Grow (XOf σ ν (T.sig v).hout) w w':=hend.keep
 -- Kh ae
 have hsub:HSub σ ν σn (Vl es (T.sig v).hout ν ν'):=by
  refine⟨hc.num,fun i hr e=> ?_,fun i n h1 h2=> ?_⟩
  ·cases hi:(T.sig v).hout.any (Nat.beq i) with
   |true=>
    obtain⟨hr',k1,k2,k3,k4,k5,k6,_⟩:=acv i hr e (NM (s:=T.sig v) hi)
    obtain⟨Hn,h3,h4⟩:=hw i hi
    rw[e] at h3
    obtain rfl:hr=Hn:=by simpa using h3
    exact⟨hr',by rw[hc.hin i hi];exact k1,⟨k2,k3,k4,by rw[k5,hi,h4]⟩,k6⟩
   |false=>exact⟨hr,by rw[hc.hout i hi];exact e,Ah.refl _,Nat.le_refl _⟩
  ·cases hi:(T.sig v).hout.any (Nat.beq i) with
   |true=>
    rw[hν1 (.hp i n) hi]
    obtain⟨hr,e,h3⟩:=IH h1 h2
    obtain⟨hr',_,_,_,_,_,_,k7⟩:=acv i hr e (NM (s:=T.sig v) hi)
    exact k7 n h1 h3
   |false=>exact hν0 (.hp i n) hi
 -- what can be seen
 have ak0:c5=false→∀(ad:Addr) u,view (yj T E σ ν O w v xh c5) es ν' (fun _=>False) w' (.cell ad) u→(∀key u,view E σ ν O w key u→view E σn (Vl es (T.sig v).hout ν ν') O w' key u)→view E σn (Vl es (T.sig v).hout ν ν') O w' (.cell ad) u:=fun hl ad u hv hV=>by
  rcases hv with ⟨hlt,Pb,e,hv⟩ | ⟨hge,hn,_,hcell⟩
  ·injection e with e
   subst e
   rcases hv with hv | ⟨h1,_⟩
   ·exact hV _ _ hv
   ·rw[hl] at h1;cases h1
  ·have apa:w.heap.size≤ad.block:=hge
   refine .inr ⟨Nat.le_trans h.keep.size apa,fun⟨m,hm⟩=> ?_,fun ho=> ?_,hcell⟩
   ·rcases hown m _ hm with ⟨_,h1⟩ | ⟨_,h1⟩
    ·exact hn ⟨m,h1⟩
    ·exact absurd (h.yO _ _ h1).2.1 (by omega)
   ·exact absurd (h.out.2 _ ho).1 (by omega)
 have ago:∀(i n:Nat) u,view (yj T E σ ν O w v xh c5) es ν' (fun _=>False) w' (.ref i n) u→view E σn (Vl es (T.sig v).hout ν ν') O w' (.ref i n) u:=fun i n u ⟨h1,h2,h3⟩=>by
  cases hi:(T.sig v).hout.any (Nat.beq i) with
  |true=>
   refine⟨h1, ?_,by rw[hν1 (.hp i n) hi];exact h3⟩
   unfold hlen at h2 ⊢
   rw[hc.hin i hi];exact h2
  |false=>
   obtain⟨hr',e',h4⟩:=IH h1 h2
   have hil:i<(aH T v xh).length:=by
    have h9:es.ae.length=(aH T v xh).length:=hend.kept.num
    rw[←h9];exact(List.getElem?_eq_some_iff.1 e').1
   have hro:es.ae[i]? =(aH T v xh)[i]? :=by
    rw[heh]
    unfold qo
    exact jV _ _ _ _ i (fun hm=>by rw[kn.2 hm] at hi;cases hi)
   rw[e'] at hro
   rcases Ke hI hro.symm with ⟨g1,hr,g2,g3,_,_⟩ | ⟨_,g1⟩
   ·have hlen:n≤hr.xs.length:=by rw[g3] at h4;exact h4
    obtain⟨_,_,_,_,_,_,_,k7⟩:=acv i hr g2 g1
    refine⟨h1, ?_,by rw[hν0 (.hp i n) hi, ←k7 n h1 hlen];exact h3⟩
    unfold Abs.hlen
    rw[hc.hout i hi,g2];exact hlen
   ·rw[g1] at h4;simp at h4;omega
 have htr:(∀key u,view E σ ν O w key u→view E σn (Vl es (T.sig v).hout ν ν') O w' key u)→∀t,(c5=true→Ei t=true)→∀x cs,Rel (view (yj T E σ ν O w v xh c5) es ν' (fun _=>False) w') t x cs→Rel (view E σn (Vl es (T.sig v).hout ν ν') O w') t x cs:=fun hV t ht x cs hr=>by
  cases hl:c5 with
  |true=>rw[hl] at hr ago;exact Rel.trN ago t x cs (ht hl) hr
  |false=>
   refine Rel.mono (fun key u hu=> ?_) t x cs hr
   cases key with
   |cell ad=>exact ak0 hl ad u hu hV
   |ref i n=>exact ago i n u hu
 -- no apb in what comes out of a aiR call
 have am2:∀k row,look es.rows k=some row→c5=true→Ei row.t=true:=fun k row hk hl=>by
  have hld:=YG hl
  rw[←hes] at hk
  rcases (yV hf.only (aE (qo T v xh yh)) k).1 row hk with h1 |h1
  ·cases h1
  ·obtain⟨k',row',e,hn⟩:=acs hld h1
   injection e with _ e
   subst e
   exact hn
 have apc:∀(i n:Nat) kk (row:Row),(T.sig v).hout.any (Nat.beq i)=true→nk es.ae i n=some (.hp kk row)→c5=true→Ei row.t=true:=fun i n kk row hi e hl=>by
  obtain⟨hr,h1,_⟩:=hw i hi
  have hin:=NM hi
  obtain⟨Hn,k1,k2,k3,_⟩:=acv i hr h1 hin
  have:row.t=Hn.t:=by
   cases n with
   |zero=>cases e
   |succ n=>
    simp only[nk,k1,Hm] at e
    split at e
    ·simp only[Option.some.injEq,Obj.hp.injEq] at e
     rw[←e.2]
    ·cases e
  rw[this,k3,(hstart i hr h1 hin).2]
  exact(Kg (YG hl) Bu).2.1 i (kn.1 hi)
 have am3:∀k x,look es.boxes k=some x→c5=true→False:=fun k x hk hl=>by
  rw[←hes] at hk
  rcases (yV hf.only (aE (qo T v xh yh)) k).2 x hk with h1 |h1
  ·cases h1
  ·obtain⟨k',row',e,hn⟩:=acs (YG hl) h1
   cases e
 have hV:∀key u,view E σ ν O w key u→view E σn (Vl es (T.sig v).hout ν ν') O w' key u:=fun key u hu=>EW hgr hsub (fun k h1 h2 h3 h4=>⟨fun⟨m,hm⟩=>by
   rcases hown m k hm with ⟨hm1,h5⟩ | ⟨_,h5⟩
   ·rcases agn m k hm1 h5 with h6 | ⟨i,n,_,h6⟩
    ·omega
    ·exact h3 ⟨_,h6⟩
   ·exact h3 ⟨_,h5⟩,h4,fun⟨i,n,_,h6⟩=>h3 ⟨_,h6⟩⟩) hu
 have hTr:=htr hV
 have aj8:∀r,(look es.rows r).isSome=true→Vl es (T.sig v).hout ν ν' (.row r)=ν' (.row r)∧(look σn.rows r).isSome=true:=fun r hr=>by
  refine⟨hν1 (.row r) hr, ?_⟩
  obtain⟨row,e⟩:=Option.isSome_iff_exists.1 hr
  rw[hc.rows r,e];rfl
 have agp:∀r row,look σ.rows r=some row→Vl es (T.sig v).hout ν ν' (.row r)=ν (.row r)∧look σn.rows r=some row:=fun r row hr=>by
  have hn:look es.rows r=none:=by
   cases e:look es.rows r with
   |none=>rfl
   |some x=>have:=hc.fr r (by rw[e];rfl);rw[hr] at this;cases this
  exact⟨hν0 (.row r) (by simp only[WT];rw[hn];rfl),by rw[hc.rows r,hn];exact hr⟩
 have am4:∀b,(look σ.boxes b).isSome=true→Vl es (T.sig v).hout ν ν' (.box b)=ν (.box b)∧(look σn.boxes b).isSome=true:=fun b hb=>by
  have hn:look es.boxes b=none:=by
   cases e:look es.boxes b with
   |none=>rfl
   |some x=>have:=hc.fb b (by rw[e];rfl);rw[this] at hb;cases hb
  exact⟨hν0 (.box b) (by simp only[WT];rw[hn];rfl),by rw[hc.boxes b,hn];exact hb⟩
 have aj9:∀m m' k,WT es (T.sig v).hout m=true→Own es ν' m k→WT es (T.sig v).hout m'=false→Own σ ν m' k→False:=fun m m' k h1 h2 h3 h4=>by
  rcases agn m k h1 h2 with h5 |h5
  ·exact absurd (h.yO _ _ h4).2.1 (by omega)
  ·exact aj7 m' k h3 h4 h5
 refine⟨h.step hE hgr (fun k ⟨i,n,h1,h2⟩=>⟨_,h2,adF i n h1⟩) hsub (fun m k hm=> ?_) (fun m k hm=> ?_) (fun m m' k h1 h2=> ?_) (fun q k hk=> ?_) hc.trace rfl (fun i hr n e h1 h2=> ?_) (fun i hr e=> ?_) (fun _ m o ho=> ?_) (fun _=> ?_),hTr⟩
 ·rcases hown m k hm with ⟨hm1,h5⟩ | ⟨_,h5⟩
  ·rcases agn m k hm1 h5 with h6 | ⟨i,n,h7,h6⟩
   ·exact .inr h6
   ·exact .inl ⟨_,h6,fun e=>absurd e (adF i n h7)⟩
  ·exact .inl ⟨_,h5,id⟩
 ·rcases hown m k hm with ⟨hm1,h5⟩ | ⟨_,h5⟩
  ·exact(hend.yO _ _ h5).2.1
  ·exact Nat.lt_of_lt_of_le (h.yO _ _ h5).2.1 hgr.size
 ·rcases hown m k h1 with ⟨hm1,h5⟩ | ⟨hm1,h5⟩<;>rcases hown m' k h2 with ⟨hm2,h6⟩ | ⟨hm2,h6⟩
  ·exact hend.inj m m' k h5 h6
  ·exact(aj9 m m' k hm1 h5 hm2 h6).elim
  ·exact(aj9 m' m k hm2 h6 hm1 h5).elim
  ·exact h.inj m m' k h5 h6
 ·rcases hown _ k hk with ⟨hm1,h5⟩ | ⟨_,h5⟩
  ·rcases hend.new q k h5 with h6 |h6
   ·exact .inl (Nat.le_trans h.keep.size h6)
   ·cases q with
    |row q=>exact h6.elim
    |box q=>exact .inr trivial
    |hp i n=>
     obtain⟨_,n',h7⟩:=h6
     exact h.new (.hp i n') k h7
  ·exact h.new q k h5
 ·cases hi:(T.sig v).hout.any (Nat.beq i) with
  |true=>
   rw[hν1 (.hp i n) hi]
   rw[hc.hin i hi] at e
   exact hend.nn i hr n e h1 h2
  |false=>
   rw[hν0 (.hp i n) hi]
   rw[hc.hout i hi] at e
   exact h.nn i hr n e h1 h2
 ·obtain⟨h1,h2⟩:=h.ro i hr e
  cases hi:(T.sig v).hout.any (Nat.beq i) with
  |true=>
   obtain⟨Hn,h3,h4⟩:=hw i hi
   rw[h1] at h3
   obtain rfl:hr=Hn:=by simpa using h3
   rw[h2] at h4;cases h4
  |false=>rw[hc.hout i hi];exact h1
 ·cases hm:WT es (T.sig v).hout m with
  |true=>
   rw[(hob m).1 hm] at ho
   rw[hν1 m hm]
   have b5:=hend.A6 m o ho
   cases m with
   |row k=>
    simp only[AS.obj,Option.map_eq_some_iff] at ho
    obtain⟨row,e,rfl⟩:=ho
    obtain⟨bk,h1,h2⟩:=b5
    exact⟨bk,h1,h2.mono (hTr row.t (am2 k row e))⟩
   |box k=>
    simp only[AS.obj,Option.map_eq_some_iff] at ho
    obtain⟨x,e,rfl⟩:=ho
    obtain⟨g,h1,h2⟩:=b5
    refine⟨g,h1, ?_⟩
    cases x with
    |cells cs=>obtain⟨cur,e1,h3,h4⟩:=h2;exact⟨cur,e1,h3,h4.mono (fun c u hu=>hTr c.1 (fun hl=>(am3 k _ e hl).elim) _ _ hu)⟩
    |own r=>obtain⟨e1,h3,h4⟩:=h2;exact⟨e1,by rw[(aj8 r h4).1];exact h3,(aj8 r h4).2⟩
    |nil=>exact h2
   |hp i n=>
    have ho':nk es.ae i n=some o:=ho
    obtain⟨kk,row,rfl⟩:=NF ho'
    have hN:=apc i n kk row hm ho'
    have am5:Ag _ w' kk (ν' (.hp i n)) row:=b5
    show Ag _ w' kk (ν' (.hp i n)) row
    match kk,am5 with
    |0,⟨h5,bk,h6,h7⟩=>exact⟨h5,bk,h6,h7.mono (hTr row.t hN)⟩
    |1,⟨g,cur,ys,x,h5,h6,h7,h8,h9⟩=>exact⟨g,cur,ys,x,h5,h6,h7,h8,hTr row.t hN _ _ h9⟩
  |false=>
   rw[(hob m).2 hm] at ho
   rw[hν0 m hm]
   exact h.old hgr ho (fun k hk hx=>aj7 m k hm ⟨aW ho,hk⟩ hx) hV (fun r _ hr=>by
    obtain⟨row,e⟩:=Option.isSome_iff_exists.1 hr
    obtain⟨h1,h2⟩:=agp r row e
    exact⟨h1,by rw[h2];rfl⟩)
 ·rw[hc.tmps]
  exact h.slots.mono (ag.mono hV {hsub with rows:=fun r row hr=>⟨(agp r row hr).1,row,(agp r row hr).2,rfl⟩,boxes:=fun b hb=>am4 b hb})
end
end Go.Abs
namespace Go.Abs
open Go.RowKit Go.Lib
def SA (T:cj):Prop:=∀v,Hk T (T.sig v)=true
theorem SB {P:Program}{r:Option Nat}{n:Nat}{f:FuncId}{args:Array Value}{w:World}{R:Ending→World→Prop}(h:Calls P f args w R):CallsIn (FW r) n P f args w R:=
 ⟨trivial,fun cs _=>let ⟨e,w',fr,q,s,x⟩:=h cs;⟨e,w',fr,q,(comesIn_wide (P:=P)).2 s,x⟩⟩
section
variable {P:Program}{T:cj}{E:Env}{σ σ':AS}{a:Act}{w w':World}{ν ν':Nm→Value}{O:Nat→Prop}{Φ:bE T}{V V':View}{Y:Value}
theorem aiS {σn es:AS}{Vn Ve:View}{s:Iq}{d:Nat}{y:Ma s}{c5:Bool}{Y':Value}{ν'':Nm→Value}(YG:c5=true→jU T s=true)(Bu:s.gen=none)
  (hTr:∀t,(c5=true→Ei t=true)→∀x cs,Rel Ve t x cs→Rel Vn t x cs) (hrow:∀r,(look es.rows r).isSome=true→ν'' (.row r)=ν' (.row r)∧(look σn.rows r).isSome=true)
  (akR:∀r,(look es.boxes r).isSome=true→ν'' (.box r)=ν' (.box r)∧(look σn.boxes r).isSome=true) {v:Value} (h:ag Ve es ν' Y' (YB d s y) v):ag Vn σn ν'' Y (YB d s y) v:=by
 unfold YB at h ⊢
 split at h
 ·rename_i args res hps y
  have hrv:∀x∈Af d res y,∀u,rF Ve es ν' x u→rF Vn σn ν'' x u:=fun x hx u hu=>by
   rcases Pm _ _ _ _ hx with ⟨q,rfl⟩ | ⟨t,h1,h2⟩
   ·obtain⟨h3,h4⟩:=hrow q hu.2
    exact⟨by rw[h3];exact hu.1,h4⟩
   ·have hno:c5=true→Ei t=true:=fun hl=>((Kg (YG hl) rfl).2.2 _ _ h1).1 rfl
    cases x with
    |own q=>exact h2.elim
    |cv c=>obtain⟨ct,cx⟩:=c;have h2:ct=t:=h2;subst h2;exact hTr _ hno _ _ hu
    |agg cs=>
     obtain⟨u',z,rfl,rfl⟩:=h2
     obtain⟨vs,e1,e2⟩:=hu
     refine⟨vs,e1,Br (fun c hc u hu=>hTr c.1 (fun hl=>Kf (hno hl) c hc) _ _ hu) e2⟩
  have key:∀(l:List RV),(∀x∈l,∀u,rF Ve es ν' x u→rF Vn σn ν'' x u)→ag Ve es ν' Y' (X8 l) v→ag Vn σn ν'' Y (X8 l) v:=fun l hl h=>by
   match l,hl,h with
   | [],_,⟨vs,e1,e2⟩=>exact⟨vs,e1,by cases vs with
     |nil=>trivial
     |cons _ _=>exact e2.elim⟩
   | [x],hl,h=>exact hl x (by simp) v h
   |x::z::l,hl,⟨vs,e1,e2⟩=>exact⟨vs,e1,Br hl e2⟩
  exact key _ hrv h
 ·rename_i args res f ts hps y
  obtain⟨vs,e1,e2⟩:=h
  refine⟨vs,e1,Br (fun c hc u hu=> ?_) e2⟩
  have:∃b,c= .box b:=by
   have hb:∀(ts:List Ty) (d:Nat),∀c∈Qo d ts,∃b,c= .box b:=by
    intro ts
    induction ts with
    |nil=>intro d c hc;simp[Qo] at hc
    |cons t ts ih=>
     intro d c hc
     cases ts with
     |nil=>simp only[Qo,List.mem_singleton] at hc;exact⟨_,hc⟩
     |cons t2 ts=>
      simp only[Qo] at hc
      rcases List.mem_cons.1 hc with e |hc
      ·exact⟨_,e⟩
      ·exact ih _ c hc
   exact hb ts d c hc
  obtain⟨b,rfl⟩:=this
  obtain⟨h1,g,h2,h3⟩:=hu
  obtain⟨h4,h5⟩:=akR b h1
  exact⟨h5,g,by rw[h4];exact h2,h3⟩
 ·exact h
theorem aaS {st:Option Site}{f:FuncId}{avs:List AV}{v:Nat}(h:RU T st f avs=some v):T.real v=f:=by
 unfold RU at h
 split at h
 ·cases hb:Nat.beq (T.real _) f with
  |true=>rw[hb] at h;simp only[cond_true,Option.some.injEq] at h;subst h;exact(beq_iff _ _).1 hb
  |false=>rw[hb] at h;cases h
 ·split at h
  ·cases hb:Nat.beq (T.real _) f with
   |true=>rw[hb] at h;simp only[cond_true,Option.some.injEq] at h;subst h;exact(beq_iff _ _).1 hb
   |false=>rw[hb] at h;cases h
  ·cases h
theorem SC (p5:∀x,ag V σ ν Y (σ.av x) (a.eval x)):∀(xs:List Operand),az (ag V σ ν Y) (xs.map σ.av) (xs.map a.eval)
 | []=>trivial
 |x::xs=>⟨p5 x,SC p5 xs⟩
theorem Pn:∀{aN:List Hi} {vs:List Value},az (rR V σ ν) aN vs→az (ag V σ ν Y) (aN.map UW) vs
 | [],[],_=>trivial
 | .box b::cs,v::vs,h=>⟨h.1,Pn h.2⟩
 | .oT l::cs,v::vs,h=>⟨h.1,Pn h.2⟩
 | [],_::_,h=>h.elim
 |_::_,[],h=>h.elim
theorem Dt.mono {V V':View}(hV:∀a v,V a v→V' a v):∀{ts:List Ty} {x:rO ts} {vs:List Value},Dt V ts x vs→Dt V' ts x vs
 | [],_,_,h=>h
 | [t],x,_,⟨v,e,h⟩=>⟨v,e,h.of hV⟩
 |t::u::ts,x,_,⟨v,r,e,h,h2⟩=>⟨v,r,e,h.of hV,Dt.mono hV h2⟩
theorem ArgRel.mono {V V':View}(hV:∀a v,V a v→V' a v):∀{p:nj} {x:p.den} {v:Value},ArgRel V p x v→ArgRel V' p x v
 | .v t,x,v,h=>wL.mono hV h
 | .fn f ts,x,v,⟨vs,e,h⟩=>⟨vs,e,h.mono hV⟩
 | .c cs,_,v,⟨vs,e,h⟩=>⟨vs,e,h.mono (bA.mono hV)⟩
 | .rp t,x,v,h=>ql.of hV h
 | .bx _,_,_,h=>h
 | .Lo,_,_,h=>h
theorem mc.mono {V V':View}(hV:∀a v,V a v→V' a v):∀{ps:List nj} {x:Gh ps} {vs:List Value},mc V ps x vs→mc V' ps x vs
 | [],_,_,h=>h
 | [p],x,_,⟨v,e,h⟩=>⟨v,e,h.mono hV⟩
 |p::q::ps,x,_,⟨v,r,e,h,h2⟩=>⟨v,r,e,h.mono hV,mc.mono hV h2⟩
def aka (E:Env)(σ:AS)(ν:Nm→Value)(O:Nat→Prop)(w:World)(hin hout:List Nat)(c5:Bool):View:=fun key u=>match key with
 | .cell ad=>view E σ ν O w (.cell ad) u∨(c5=true∧w.cell? ad=some u∧¬XOf σ ν hout ad.block)
 | .ref i n=>hin.any (Nat.beq i)=true∧view E σ ν O w (.ref i n) u
theorem aaT (hin hout:List Nat)(c5:Bool):Ut (view E σ ν O w) (aka E σ ν O w hin hout c5) σ ν w hin hout c5:=
 ⟨fun ad u hv=> .inl hv,fun i hi n u hv=>⟨hi,hv⟩,fun hl ad u h1 h2=> .inr ⟨hl,h1,h2⟩⟩
theorem aaU {hs hout:List Nat}{c5:Bool}(hl:Ut (view E σ ν O w) V' σ ν w hs hout c5)(key:Key)(u:Value)(h:aka E σ ν O w hs hout c5 key u):V' key u:=by
 cases key with
 |cell ad=>
  rcases h with h | ⟨h1,h2,h3⟩
  ·exact hl.cell _ _ h
  ·exact hl.all h1 _ _ h2 h3
 |ref i n=>exact hl.ref i h.1 n u h.2
theorem SD (hE:aB E)(hG:Ml T E)(hS:SA T)(hΦ:YC P T Φ)(Bt:σ.ae.length=T.ae.length)(h:St E σ a w ν O){o:Oper}{f:Operand}{args:Array Operand}{ats:Array TypeId}(ho:o.op= .call {callee:= .value f,args:=args,argTypes:=ats})
  {g:FuncId} {aN:List Hi} {cvs:List Value} (hf:a.eval f= .func (.func g) #[] cvs.toArray) (RA:az (rR (view E σ ν O w) σ ν) aN cvs) {st:Option Site} {r:bZ} (he:(Iy T σ.av st o.dst g aN args.toList).val Φ σ=some r):
  ∃us,r.2= .l9 us∧kP P o a w (To E ((σ.app us).iH o.dst r.1)):=by
 unfold Iy at he
 dsimp only at he
 split at he
 ·rename_i v hv
  have am6:=aaS hv
  have hal:=hS v
  have apd:=hal
  simp only[Hk,Bool.and_eq_true] at hal
  have hargs:=az.append (SC (h.av hG.1) args.toList) (Pn (Y:=E.Y) RA)
  obtain⟨x,he,hx⟩:=Vi h (aaT (T.sig v).hin (T.sig v).hout (jU T (T.sig v))) hal.1.1 hargs he
  obtain⟨hh,he,hI⟩:=Vg _ _ _ _ he
  rw[bP] at he
  obtain⟨xh,hxh,he⟩:=he
  obtain⟨ex,eh⟩:=YD hxh
  rw[Nz] at he
  obtain⟨yh,hy,he⟩:=he
  obtain⟨rfl,hfree,Bu⟩:=agi he
  have hIn:A8 T σ v xh:=fun i hi=>by rw[eh];exact hI i hi
  obtain⟨⟨fn,hfn,hbody,hname⟩,Vm⟩:=hΦ v xh yh hy Bu
  have hE':=aaR hE h hIn (jU T (T.sig v))
  have hG':=YE (v:=v) (xh:=xh) hG hE h (jU T (T.sig v))
  have hst:=WS hE h hIn Bt apd (jU T (T.sig v))
  have hl':=Qp hE h hIn Bt (jU T (T.sig v))
  rw[am6] at hfn Vm
  have hc:=Vm _ ν (args.map a.eval++cvs.toArray) (Ns o.dst) hE' hG' ⟨rfl,fun _ h=>h,fun _ h=>h,fun _=>trivial,fun _ _ h1 h2=>h1 h2.1,fun _=>rfl⟩ hst (by
   rw[ex]
   have:(args.map a.eval++cvs.toArray).toList=args.toList.map a.eval++cvs:=by simp
   rw[this]
   exact hx.mono (aaU hl'))
  refine⟨_,rfl,fun rr next Q hn=> ?_⟩
  have hrun:(execOp a.eval o).run P w= .ok (.enter g (args.map a.eval++cvs.toArray)) w:=by
   have hb:fn.body.isNone=false:=by cases hfb:fn.body<;>simp_all
   have hn1:¬fn.name= "runtime.NumGoroutine" :=by simpa using hname
   have hb1:¬fn.body=none:=by intro e;rw[e] at hb;cases hb
   simp[execOp,ho,resolve,hf,Deferred.ofValue,invoke,callFunc,hfn,hn1,hb1]
  refine⟨fun _ _=>trivial, ?_⟩
  rw[Oper.semAt_eq _ _ _ (by rw[ho];intro c e;cases e),hrun,Oper.uponIn_enter]
  refine⟨fun e=>(by cases e),SB (Calls.mono hc ?_)⟩
  rintro e w' ⟨rv,ν',rfl,hend,hres⟩
  obtain⟨s1,hTr⟩:=h.called hE Bt (fun hl=>hl) hIn Bu hfree hend
  have hcs:=agl (xh:=xh) Bt hIn hfree
  refine hn _ _ ⟨Vl (wR T v (Ns o.dst) xh yh) (T.sig v).hout ν ν',O, ?_⟩
  show St E (((σ.app (zG T (T.sig v).hout (Eh (T.sig v).hout yh)++KB (Ns o.dst) (T.sig v) (u9 (T.sig v).hout yh)))).iH o.dst (YB (Ns o.dst) (T.sig v) (u9 (T.sig v).hout yh))) _ _ _ _
  rw[aaP]
  refine s1.slot (aiS (es:=wR T v (Ns o.dst) xh yh) (fun hl=>hl) Bu hTr (fun k hk=>⟨?_, ?_⟩) (fun k hk=>⟨?_, ?_⟩) hres)
  ·unfold Vl;simp only[WT];rw[hk];rfl
  ·obtain⟨row,e⟩:=Option.isSome_iff_exists.1 hk
   rw[hcs.rows k,e];rfl
  ·unfold Vl;simp only[WT];rw[hk];rfl
  ·obtain⟨row,e⟩:=Option.isSome_iff_exists.1 hk
   rw[hcs.boxes k,e];rfl
 ·cases he
theorem adS (q:Nat)(c:CV)(hc:∀n,c≠⟨.fn,n⟩)(x:AV):O0 (x.tq q c)=O0 x:=by
 cases x with
 |rv x=>cases x with
  |own k=>
   simp only[AV.tq,RV.tq]
   cases Nat.beq k q with
   |true=>obtain⟨t,z⟩:=c;cases t<;>first |rfl |exact absurd rfl (hc z)
   |false=>rfl
  |_=>rfl
 |Nq k sz i off=>simp only[AV.tq];cases Nat.beq k q<;>rfl
 |_=>rfl
theorem YH (q:Nat)(x:Operand):O0 ((σ.freeze q).av x)=O0 (σ.av x):=by
 cases hq:look σ.rows q with
 |none=>unfold AS.freeze;rw[hq]
 |some row=>rw[Kb hq];exact adS q _ (fun n e=>by injection e with e;cases e) _
theorem Vo (x:Operand):∀(xs:List Operand) (σ:AS),O0 ((σ.va xs).av x)=O0 (σ.av x)
 | [],σ=>rfl
 |y::ys,σ=>by
  show O0 (((σ.frz y).va ys).av x)=_
  rw[Vo x ys]
  unfold AS.frz
  split
  ·exact YH _ _
  ·rfl
theorem SE:∀(xs:List Operand) (σ:AS),(σ.va xs).ae=σ.ae
 | [],σ=>rfl
 |y::ys,σ=>by
  show ((σ.frz y).va ys).ae=_
  rw[SE ys]
  unfold AS.frz
  split
  ·unfold AS.freeze;split<;>rfl
  ·rfl
end
end Go.Abs
namespace Go.Abs
open Go.RowKit Go.Lib
theorem Rel.Lu {V V':View}:∀(t:Ty) (x:t.den) (cs:List Value),Hj t=true→Rel V t x cs→Rel V' t x cs
 | .int k,x,cs,_,h=>h
 | .bool,x,cs,_,h=>h
 | .str,x,cs,_,h=>h
 | .slice t,xs,cs,hi,_=>by cases hi
 | .unit,_,cs,_,h=>h
 | .pair a b,x,cs,hi,⟨c1,c2,e,h1,h2⟩=>by
   simp only[Hj,Bool.and_eq_true] at hi
   exact⟨c1,c2,e,Rel.Lu a _ _ hi.1 h1,Rel.Lu b _ _ hi.2 h2⟩
 | .st t,x,cs,hi,h=>Rel.Lu t x cs hi h
 | .ref _,_,_,hi,_=>by cases hi
 | .ptr _,_,_,hi,_=>by cases hi
 | .mp _,_,_,hi,_=>by cases hi
 | .fn,_,_,_,h=>h
 | .pW t,_,cs,hi,_=>by cases hi
theorem wL.Lu {V V':View}{t:Ty}{x:t.den}{v:Value}(hi:Hj t=true)(h:wL V t x v):wL V' t x v:=by
 cases t with
 |st t=>obtain⟨cs,h1,h2⟩:=h;exact⟨cs,h1,Rel.Lu _ _ _ hi h2⟩
 |_=>exact Rel.Lu (V:=V) _ _ _ hi h
def Uu (V:View):(t:Ty)→t.den→List Value→Prop
 | .unit,_,vs=>vs=[]
 | .pair a b,x,vs=>∃v r,vs=v::r∧wL V a x.1 v∧Uu V b x.2 r
 |_,_,_=>False
theorem Uu.Lu {V V':View}:∀{t:Ty} {x:t.den} {vs:List Value},Hj t=true→Uu V t x vs→Uu V' t x vs
 | .unit,x,vs,_,h=>h
 | .pair a b,x,vs,hi,⟨v,r,e,h1,h2⟩=>by
   simp only[Hj,Bool.and_eq_true] at hi
   exact⟨v,r,e,wL.Lu hi.1 h1,Uu.Lu hi.2 h2⟩
 | .int _,_,_,_,h=>h.elim
 | .bool,_,_,_,h=>h.elim
 | .str,_,_,_,h=>h.elim
 | .slice _,_,_,_,h=>h.elim
 | .st _,_,_,_,h=>h.elim
 | .ref _,_,_,_,h=>h.elim
 | .ptr _,_,_,_,h=>h.elim
 | .mp _,_,_,_,h=>h.elim
 | .fn,_,_,_,h=>h.elim
 | .pW _,_,_,_,h=>h.elim
section
variable {P:Program}{T:cj}{E:Env}{σ σ':AS}{a:Act}{w w':World}{ν ν':Nm→Value}{O O':Nat→Prop}{Φ:bE T}{V V':View}{Y:Value}
theorem SF:∀{t:Ty} {avs:List AV} {x:t.den} {vs:List Value},qk t avs=some x→az (ag V σ ν Y) avs vs→Uu V t x vs
 | .unit,[],x,[],_,_=>rfl
 | .pair a b,av::r,x,v::vs,h,hr=>by
   simp only[qk] at h
   split at h
   ·rename_i y hy
    split at h
    ·rename_i z hz
     simp only[Option.some.injEq] at h
     subst h
     exact⟨v,vs,rfl,Gr hy hr.1,SF hz hr.2⟩
    ·cases h
   ·cases h
 | .unit,[],_,_::_,_,hr=>hr.elim
 | .unit,_::_,_,_,h,_=>by simp[qk] at h
 | .pair _ _,[],_,_,h,_=>by simp[qk] at h
 | .pair _ _,_::_,_,[],_,hr=>hr.elim
 | .int _,_,_,_,h,_=>by simp[qk] at h
 | .bool,_,_,_,h,_=>by simp[qk] at h
 | .str,_,_,_,h,_=>by simp[qk] at h
 | .slice _,_,_,_,h,_=>by simp[qk] at h
 | .st _,_,_,_,h,_=>by simp[qk] at h
 | .ref _,_,_,_,h,_=>by simp[qk] at h
 | .ptr _,_,_,_,h,_=>by simp[qk] at h
 | .mp _,_,_,_,h,_=>by simp[qk] at h
 | .fn,_,_,_,h,_=>by simp[qk] at h
 | .pW _,_,_,_,h,_=>by simp[qk] at h
def Gy (P:Program)(E:Env):Prop:=∀(r:Option Nat) (t:Ty) (xs:List t.den) (x:t.den) (vs:List Value) (O:Nat→Prop) (w:World),E.J ⟨.slice t,xs⟩ O w→E.acc ⟨.slice t,xs++[x]⟩→(∀V,Uu V t x vs)→
 (E.base=E.w0∧∀k,E.X k→E.CB k)∧∃(l:Nat) (f:FuncId) (tmps:Array Value) (Q6 body:Code),E.Y= .func (.yield l) #[] #[]∧(Instr.yield l vs.toArray).run P w= .ok (.round l f tmps Q6 body) w∧
   RoundIn (FW r) 0 P l f tmps Q6 body w fun e w'=>e= .returned (.bool true)∧∃O',E.J ⟨.slice t,xs++[x]⟩ O' w'∧Grow O w w'∧(∀k,O k→O' k)∧∀k,O' k→O k∨(w.heap.size≤k∧k<w'.heap.size)
theorem Ej (h:E.J=jX):Gy P E:=fun r t xs x vs O w hJ=>by
 rw[h] at hJ
 have:(⟨.slice t,xs⟩:CV)=⟨.unit,()⟩:=hJ
 injection this with e
 cases e
theorem St.yielded (hE:aB E)(h:St E σ a w ν O){tr:CV}(hJ:E.J tr O' w')(hg:Grow O w w')(hO:∀k,O k→O' k)(hO':∀k,O' k→O k∨(w.heap.size≤k∧k<w'.heap.size))(hb:E.base=E.w0∧∀k,E.X k→E.CB k):
  St E {σ with trace:=tr} a w' ν O':=by
 have hs:KA {σ with trace:=tr} {σ with trace:=tr}:=⟨rfl,rfl,rfl,rfl⟩
 have hob:({σ with trace:=tr}:AS).obj=σ.obj:=by funext m;cases m<;>rfl
 have hown:∀m k,Own {σ with trace:=tr} ν m k→Own σ ν m k:=fun m k hm=>by unfold Own at hm ⊢;rw[hob] at hm;exact hm
 have hV:∀key u,view E σ ν O w key u→view E {σ with trace:=tr} ν O' w' key u:=fun key u hu=>EW hg (HSub.of_eq rfl (fun _ _=>rfl)) (fun k h1 h2 h3 h4=>⟨fun⟨m,hm⟩=>h3 ⟨m,hown m k hm⟩,fun h5=>by
  rcases hO' k h5 with h6 |h6
  ·exact h4 h6
  ·omega,h4⟩) hu
 have hblk:∀r o,w.heap[r]? =some o→¬O r→w'.heap[r]? =some o∧¬O' r:=fun r o h1 h2=>by
  have hlt:=(Array.getElem?_eq_some_iff.1 h1).1
  refine⟨by rw[hg.block r hlt h2];exact h1,fun h3=> ?_⟩
  rcases hO' r h3 with h4 |h4
  ·exact h2 h4
  ·omega
 refine⟨h.keep.trans hg (fun k hk ho=>(h.out.2 k ho).2 hk),fun d hd=> ?_,h.slots.mono (ag.mono hV ⟨HSub.of_eq rfl (fun _ _=>rfl),fun r row hr=>⟨rfl,row,hr,rfl⟩,fun b hb=>⟨rfl,hb⟩⟩),fun m o ho=> ?_,fun m m' k h1 h2=>h.inj m m' k (hown _ _ h1) (hown _ _ h2),fun m k hm=> ?_,fun r k hk=>h.new r k (hown _ _ hk),⟨hJ,fun k hk=> ?_⟩,h.nn,h.ro,h.kept,fun r hr=> ?_,h.ve.trans hg (fun k hk ho=> ?_),fun m k hm=>h.wQ m k (hown _ _ hm),fun k hk=>hO k (h.Nw k hk),h.nd⟩
 ·obtain⟨r,h1,h2,h3,h4⟩:=h.marks d hd
  obtain⟨h5,h6⟩:=hblk r _ h3 h4
  exact⟨r,h1,h2,h5,h6⟩
 ·rw[hob] at ho
  exact(h.A6 m o ho).mono hV (fun k hk=>hg.block k (h.yO m k ⟨aW ho,hk⟩).2.1 (h.yO m k ⟨aW ho,hk⟩).2.2) (fun r _ hr=>⟨rfl,hr⟩)
 ·obtain⟨h1,h2,h3⟩:=h.yO m k (hown _ _ hm)
  refine⟨h1,Nat.lt_of_lt_of_le h2 hg.size,fun h4=> ?_⟩
  rcases hO' k h4 with h5 |h5
  ·exact h3 h5
  ·omega
 ·rcases hO' k hk with h5 |h5
  ·exact⟨Nat.lt_of_lt_of_le (h.out.2 k h5).1 hg.size,(h.out.2 k h5).2⟩
  ·exact⟨h5.2,fun h6=>by have:=h.keep.size;omega⟩
 ·obtain⟨h1,h2⟩:=h.waits r hr
  exact hblk r _ h1 h2
 ·rw[hb.1] at hk
  exact hb.2 k ((h.out.2 k ho).2 hk)
structure Ctx (P:Program) (T:cj) (Φ:bE T) (E:Env):Prop where
 env:aB E
 Rb:Ml T E
 tab:iw P T.rows
 hps:Dq P T
 eqs:afU P T
 sigs:SA T
 fns:YC P T Φ
 num:E.h0.length=T.ae.length
 ak1:Gy P E
 jj:∀O w,E.J ⟨.unit,()⟩ O w→E.J=jX
theorem agq (C:Ctx P T Φ E)(h:St E σ a w ν O){o:Oper}{r:bZ}{f:Operand}{args:Array Operand}{ats:Array TypeId}(ho:o.op= .call {callee:= .value f,args:=args,argTypes:=ats})
  (he:(Dj T σ.av σ.sites o).val Φ σ=some r) (hacc:E.acc (aS σ o.dst r).trace):kP P o a w (To E (aS σ o.dst r)):=by
 have Bt:σ.ae.length=T.ae.length:=by rw[h.kept.num,C.num]
 have hd:∀c,o.op≠ .defer c:=by rw[ho];intro c e;cases e
 have hf:=h.av C.Rb.1 f
 unfold Dj at he
 simp only[ho] at he
 generalize o.dst.bind (look σ.sites)=st at he
 split at he
 ·rename_i hfy
  rw[hfy] at hf
  have hf':a.eval f=E.Y:=hf
  rw[ma] at he
  split at he
  ·rename_i t xs htr
   rw[ay,bP] at he
   obtain⟨OV,x,hx,he⟩:=he
   rw[gD] at he
   subst he
   have hJ:=h.out.1
   rw[htr] at hJ
   have hvs:=SF hx (SC (h.av C.Rb.1) args.toList)
   have am8:E.acc ⟨.slice t,xs++[x]⟩:=by
    have:(aS σ o.dst (AV.rv (.cv ⟨.bool,true⟩),Eff.set {σ with trace:=⟨.slice t,xs++[x]⟩})).trace=⟨.slice t,xs++[x]⟩:=by
     unfold aS;dsimp only;cases o.dst<;>rfl
    rw[this] at hacc;exact hacc
   intro rr next Q hn
   obtain⟨hb,l,f',tmps,Q6,body,hY,hrun,ak2⟩:=C.ak1 rr t xs x _ O w hJ am8 (fun V=>Uu.Lu OV hvs)
   refine⟨fun _ _=>trivial, ?_⟩
   have hev:(execOp a.eval o).run P w= .ok (.round l f' tmps Q6 body) w:=by
    have e1:(args.map a.eval)=(args.toList.map a.eval).toArray:=by rw[←Array.toList_map]
    rw[←e1] at hrun
    simp[execOp,ho,resolve,hf',hY,Deferred.ofValue,invoke,hrun]
   rw[Oper.semAt_eq _ _ _ hd,hev,Oper.uponIn_round]
   refine⟨fun e=>(by cases e),RoundIn.mono ak2 ?_⟩
   rintro e w' ⟨rfl,O',h1,h2,h3,h4⟩
   exact hn _ _ ⟨ν,O',(h.yielded C.env h1 h2 h3 h4 hb).slot (x:= .rv (.cv ⟨.bool,true⟩)) xC⟩
  ·cases he
 ·rename_i hny
  split at he
  ·rename_i g aN hg
   cases hb:((args.toList.any fun x=>wO (σ.av x))&& !(jU T (T.sig ((RU T st g (args.toList.map σ.av++aN.map UW)).getD 0)))) with
   |true=>
    rw[hb,cond_true,ma,Ry] at he
    obtain⟨y,he,rfl⟩:=he
    rw[R5] at he
    have s1:=h.va C.env args.toList
    have hf1:=s1.av C.Rb.1 f
    obtain⟨vs,e1,e2⟩:=Ss hf1 (by rw[Vo];exact hg)
    obtain⟨us,e3,hx⟩:=SD C.env C.Rb C.sigs C.fns (by rw[SE];exact Bt) s1 ho e1 e2 he
    unfold aS
    dsimp only
    rw[e3]
    exact hx
   |false=>
    rw[hb,cond_false] at he
    obtain⟨vs,e1,e2⟩:=Ss hf hg
    obtain⟨us,e3,hx⟩:=SD C.env C.Rb C.sigs C.fns Bt h ho e1 e2 he
    unfold aS
    rw[e3]
    exact hx
  ·cases he
theorem agr (C:Ctx P T Φ E)(h:St E σ a w ν O){o:Oper}{r:bZ}(he:(Dj T σ.av σ.sites o).val Φ σ=some r)(hacc:E.acc (aS σ o.dst r).trace):kP P o a w (To E (aS σ o.dst r)):=by
 have Bt:σ.ae.length=T.ae.length:=by rw[h.kept.num,C.num]
 have hE:=C.env
 have hG:=C.Rb.1
 have hT:=C.tab
 have bad:∀{op:Op},o.op=op→(∀(he:(Dj T σ.av σ.sites {o with op:=op}).val Φ σ=some r),False)→False:=fun {op} e hb=>by
  subst e;exact hb he
 cases ho:o.op with
 |move x=>exact my hE hG hT C.eqs h (.inl ⟨_,ho⟩) he
 |pick c x y=>exact my hE hG hT C.eqs h (.inr (.inl ⟨_,_,_,ho⟩)) he
 |nilCheck x=>exact my hE hG hT C.eqs h (.inr (.inr (.inl ⟨_,ho⟩))) he
 |load t x=>exact my hE hG hT C.eqs h (.inr (.inr (.inr (.inl ⟨_,_,ho⟩)))) he
 |binOp b t x y u=>exact my hE hG hT C.eqs h (.inr (.inr (.inr (.inr (.inl ⟨_,_,_,_,_,ho⟩))))) he
 |unOp b t x=>exact my hE hG hT C.eqs h (.inr (.inr (.inr (.inr (.inr (.inl ⟨_,_,_,ho⟩)))))) he
 |convert s d x=>exact my hE hG hT C.eqs h (.inr (.inr (.inr (.inr (.inr (.inr (.inl ⟨_,_,_,ho⟩))))))) he
 |fieldAddr s x f=>exact my hE hG hT C.eqs h (.inr (.inr (.inr (.inr (.inr (.inr (.inr (.inl ⟨_,_,_,ho⟩)))))))) he
 |indexAddr t x i=>exact my hE hG hT C.eqs h (.inr (.inr (.inr (.inr (.inr (.inr (.inr (.inr (.inl ⟨_,_,_,ho⟩))))))))) he
 |index t x i=>exact my hE hG hT C.eqs h (.inr (.inr (.inr (.inr (.inr (.inr (.inr (.inr (.inr (.inl ⟨_,_,_,ho⟩)))))))))) he
 |extract x i=>exact my hE hG hT C.eqs h (.inr (.inr (.inr (.inr (.inr (.inr (.inr (.inr (.inr (.inr ⟨_,_,ho⟩)))))))))) he
 |assign x=>exact adG hE hG hT h ho he
 |store t x v=>exact agb hE hG hT h ho he
 |alloc t=>exact agc hE hG hT C.hps Bt h ho he
 |box t v=>exact akV hE hG hT h ho he
 |build t ps=>exact age hE hG hT h ho he
 |buildSlice t l ps=>exact Uq hE hG hT C.hps Bt h ho he
 |makeSlice t l c=>exact WN hE hG hT C.hps Bt h ho he
 |slice t x l u m=>exact agf hE hG hT h ho he
 |makeFunc f fs cs=>exact Yu hE hG h ho he
 |call c=>
  obtain⟨callee,args,ats⟩:=c
  cases callee with
  |value f=>exact agq C h ho he hacc
  |builtin b=>
   cases b with
   |len=>exact akT hE hG hT h ho he
   |max=>exact U8 hE hG h (.inl rfl) ho he
   |min=>exact U8 hE hG h (.inr rfl) ho he
   |append=>exact adM hE hG hT h ho he
   |_=>unfold Dj at he;simp only[ho] at he;cases he
  |invoke x n=>unfold Dj at he;simp only[ho] at he;cases he
 |_=>unfold Dj at he;simp only[ho] at he;cases he
end
end Go.Abs
namespace Go.Abs
open Go.RowKit Go.Lib
section
variable {T:cj}{α:Type}
def Q.ok (p:α→Prop):AS→Q T α→Prop
 |_, .ret a=>p a
 |_, .fail=>True
 |σ, .opt o k=>∀y,o=some y→(k y).ok p σ
 |σ, .fk b k=>k.ok p σ
 |σ, .ite b x y=>x.ok p σ∧y.ok p σ
 |σ, .row q k=>∀x,look σ.rows q=some x→(k x).ok p σ
 |σ, .len q k=>∀x,(k x).ok p σ
 |σ, .box q k=>∀x,(k x).ok p σ
 |σ, .heap q k=>∀x,(k x).ok p σ
 |σ, .pX q k=>k.ok p σ
 |σ, .pY q k=>k.ok p σ
 |σ, .call v x k=>∀y,(k y).ok p σ
 |σ, .all k=>(k σ).ok p σ
 |_, .on σ' k=>k.ok p σ'
theorem ags {p:α→Prop}{Φ:bE T}:∀{q:Q T α} {σ:AS} {r:α},q.ok p σ→q.val Φ σ=some r→p r:=by
 intro q
 induction q with
 |ret a=>intro σ r h he;rw[gD] at he;subst he;exact h
 |fail=>intro σ r h he;cases he
 |opt o k ih=>intro σ r h he;rw[bP] at he;obtain⟨y,h1,h2⟩:=he;exact ih y (h y h1) h2
 |fk b k ih=>intro σ r h he;rw[ay] at he;exact ih h he.2
 |ite b x y Kw HO=>intro σ r h he;rw[Ny] at he;rcases he with ⟨_,he⟩ | ⟨_,he⟩
                   ·exact Kw h.1 he
                   ·exact HO h.2 he
 |row q k ih=>intro σ r h he;rw[pZ] at he;obtain⟨y,h1,h2⟩:=he;exact ih y (h y h1) h2
 |len q k ih=>intro σ r h he;rw[Rx] at he;obtain⟨y,h1,h2⟩:=he;exact ih _ (h _) h2
 |box q k ih=>intro σ r h he;rw[Dl] at he;obtain⟨y,h1,h2⟩:=he;exact ih y (h y) h2
 |heap q k ih=>intro σ r h he;rw[fo] at he;obtain⟨y,h1,h2⟩:=he;exact ih y (h y) h2
 |pX q k ih=>intro σ r h he;rw[xy] at he;exact ih h he.2
 |pY q k ih=>intro σ r h he;rw[xz] at he;exact ih h he.2
 |call v x k ih=>intro σ r h he;rw[Nz] at he;obtain⟨y,h1,h2⟩:=he;exact ih y (h y) h2
 |all k ih=>intro σ r h he;rw[ma] at he;exact ih σ h he
 |on σ' k ih=>intro σ r h he;rw[R5] at he;exact ih h he
theorem aaV {β:Type}{f:α→β}{p:β→Prop}:∀{q:Q T α} {σ:AS},q.ok (fun x=>p (f x)) σ→(q.map f).ok p σ:=by
 intro q
 induction q with
 |ret a=>intro σ h;exact h
 |fail=>intro σ h;trivial
 |opt o k ih=>intro σ h y hy;exact ih y (h y hy)
 |fk b k ih=>intro σ h;exact ih h
 |ite b x y Kw HO=>intro σ h;exact⟨Kw h.1,HO h.2⟩
 |row q k ih=>intro σ h y hy;exact ih y (h y hy)
 |len q k ih=>intro σ h y;exact ih y (h y)
 |box q k ih=>intro σ h y;exact ih y (h y)
 |heap q k ih=>intro σ h y;exact ih y (h y)
 |pX q k ih=>intro σ h;exact ih h
 |pY q k ih=>intro σ h;exact ih h
 |call v x k ih=>intro σ h y;exact ih y (h y)
 |all k ih=>intro σ h;exact ih σ h
 |on σ' k ih=>intro σ h;exact ih (σ:=σ') h
end
def oK (a b:CV):Prop:=b=a∨∃(t:Ty) (xs ys:List t.den),a=⟨.slice t,xs⟩∧b=⟨.slice t,xs++ys⟩
theorem oK.refl (a:CV):oK a a:= .inl rfl
theorem oK.trans {a b c:CV}(h:oK a b)(g:oK b c):oK a c:=by
 rcases h with rfl | ⟨t,xs,ys,rfl,rfl⟩
 ·exact g
 ·rcases g with rfl | ⟨t',xs',ys',e,rfl⟩
  ·exact .inr ⟨t,xs,ys,rfl,rfl⟩
  ·injection e with e1 e2
   injection e1 with e1
   subst e1
   simp only[heq_eq_eq] at e2
   subst e2
   exact .inr ⟨t,xs,ys++ys',rfl,by rw[List.append_assoc]⟩
structure Fr (σ σ':AS):Prop where
 b4:σ'.b4=σ.b4
 sites:σ'.sites=σ.sites
 s:σ'.tmps.n=σ.tmps.n
 tr:oK σ.trace σ'.trace
 ks:σ'.tmps.s.map (·.1)=σ.tmps.s.map (·.1)
theorem Fr.refl (σ:AS):Fr σ σ:=⟨rfl,rfl,rfl,oK.refl _,rfl⟩
theorem Fr.trans {a b c:AS}(h:Fr a b)(g:Fr b c):Fr a c:=⟨g.b4.trans h.b4,g.sites.trans h.sites,g.s.trans h.s,h.tr.trans g.tr,g.ks.trans h.ks⟩
theorem Fr.iH {σ σ':AS}(h:Fr σ σ')(d:Option Tmp)(x:AV):Fr σ (σ'.iH d x):=by
 cases d with
 |none=>exact h
 |some d=>
  refine⟨h.b4,h.sites, ?_,h.tr, ?_⟩
  ·show (C6 σ'.tmps d x).n=_
   unfold C6
   cases Nat.blt d σ'.tmps.n<;>exact h.s
  ·show (C6 σ'.tmps d x).s.map (·.1)=_
   unfold C6
   cases Nat.blt d σ'.tmps.n<;>exact h.ks
theorem xH (f:AV→AV)(l:List (Nat×AV)):(Uh f l).map (·.1)=l.map (·.1):=by simp[Uh]
def TU.fits (σ:AS):TU→Prop
 | .Iu q r=>(look σ.rows q).map (fun row=>row.xs.length)=some r.xs.length
 |_=>True
def TU.Po:TU→Bool
 | .Iu _ _=>false
 |_=>true
def Fits:AS→List TU→Prop
 |_,[]=>True
 |σ,u::us=>u.fits σ∧Fits (σ.one u) us
theorem TU.adT {σ:AS}{u:TU}(h:u.Po=true):u.fits σ:=by cases u<;>first |trivial |cases h
theorem Fits.agt:∀{us:List TU} {σ:AS},us.all TU.Po=true→Fits σ us
 | [],_,_=>trivial
 |u::us,σ,h=>by
  simp only[List.all_cons,Bool.and_eq_true] at h
  exact⟨TU.adT h.1,Fits.agt h.2⟩
def uh (σ:AS)(r:bZ):Prop:=match r.2 with
 | .l9 us=>Fits σ us
 | .set σ'=>Fr σ σ'
section
variable {T:cj}{σ:AS}
theorem Fr.app (σ:AS):∀us,Fr σ (σ.app us):=by
 intro us
 induction us generalizing σ with
 |nil=>exact Fr.refl _
 |cons u us ih=>exact Fr.trans (b:=σ.one u) (by cases u<;>exact⟨rfl,rfl,rfl,oK.refl _,rfl⟩) (ih (σ.one u))
theorem Fr.res {r:bZ}(h:uh σ r)(d:Option Tmp):Fr σ (aS σ d r):=by
 unfold aS
 unfold uh at h
 split at h
 ·rename_i us e;first | (rw[e];exact(Fr.app σ us).iH d _) |exact(Fr.app σ us).iH d _
 ·rename_i s e;first | (rw[e];exact Fr.iH h d _) |exact Fr.iH h d _
theorem fp (r:Nat):Fr σ (σ.freeze r):=by unfold AS.freeze;split<;>first |exact⟨rfl,rfl,rfl,oK.refl _,rfl⟩ |exact⟨rfl,rfl,rfl,oK.refl _,xH _ _⟩
theorem Vp (r d:Nat):Fr σ (σ.rename r d):=by unfold AS.rename;split<;>first |exact⟨rfl,rfl,rfl,oK.refl _,rfl⟩ |exact⟨rfl,rfl,rfl,oK.refl _,xH _ _⟩
theorem aaW (r:Nat):Fr σ (σ.bf r):=⟨rfl,rfl,rfl,oK.refl _,xH _ _⟩
theorem SG (r:Nat):Fr σ (σ.dE r):=⟨rfl,rfl,rfl,oK.refl _,xH _ _⟩
theorem agu (x:Operand):Fr σ (σ.frz x):=by unfold AS.frz;split<;>first |exact fp _ |exact Fr.refl _
theorem Du:∀(xs:List Operand) (σ:AS),Fr σ (σ.va xs)
 | [],σ=>Fr.refl _
 |x::xs,σ=>(agu x).trans (Du xs _)
theorem Vq {σ':AS}(h:Fr σ σ')(rows:List (Nat×Row))(boxes:List (Nat×BX)):Fr σ {σ' with rows:=rows,boxes:=boxes}:=⟨h.b4,h.sites,h.s,h.tr,h.ks⟩
def sD (r:bZ):Prop:=match r.2 with
 | .l9 us=>us.all TU.Po=true
 | .set _=>False
theorem sD.eff {r:bZ}(h:sD r):uh σ r:=by
 unfold sD at h
 unfold uh
 split at h
 ·rename_i us e
  exact Fits.agt h
 ·exact h.elim
theorem bp {q:Q T bZ}(h:q.ok sD σ):q.ok (uh σ) σ:=by
 have key:∀(q:Q T bZ) (σ1:AS),q.ok sD σ1→q.ok (uh σ) σ1:=by
  intro q
  induction q with
  |ret a=>intro σ1 h;exact sD.eff h
  |fail=>intro σ1 h;trivial
  |opt o k ih=>intro σ1 h y hy;exact ih y σ1 (h y hy)
  |fk b k ih=>intro σ1 h;exact ih σ1 h
  |ite b x y Kw HO=>intro σ1 h;exact⟨Kw σ1 h.1,HO σ1 h.2⟩
  |row q k ih=>intro σ1 h y hy;exact ih y σ1 (h y hy)
  |len q k ih=>intro σ1 h y;exact ih y σ1 (h y)
  |box q k ih=>intro σ1 h y;exact ih y σ1 (h y)
  |heap q k ih=>intro σ1 h y;exact ih y σ1 (h y)
  |pX q k ih=>intro σ1 h;exact ih σ1 h
  |pY q k ih=>intro σ1 h;exact ih σ1 h
  |call v x k ih=>intro σ1 h y;exact ih y σ1 (h y)
  |all k ih=>intro σ1 h;exact ih σ1 σ1 h
  |on σ' k ih=>intro σ1 h;exact ih σ' h
 exact key q σ h
theorem vh (z:AV):(pv (T:=T) z).ok sD σ:=rfl
theorem Pp (t:Ty)(x:t.den):(C7 (T:=T) t x).ok sD σ:=rfl
theorem kW {β:Type}{f:β→Q T bZ}{p:bZ→Prop}(hf:∀y,(f y).ok p σ)(o:Option β):(jf f o).ok p σ:=by
 cases o with
 |none=>trivial
 |some y=>exact hf y
theorem aaX (op:BinOp)(b:Bool):(eqV (T:=T) op b).ok sD σ:=by unfold eqV;split<;>first |exact rfl |trivial
theorem agv (rows:List fH)(t:TypeId)(x:AV):(UT (T:=T) rows t x).ok sD σ:=by
 unfold UT
 split
 ·trivial
 ·split
  ·intro bx
   cases bx with
   |cells cs=>exact kW (fun y=>vh _) _
   |own q=>dsimp only;split<;>first |exact rfl |trivial
   |nil=>trivial
  ·intro row _;intro y hy;exact kW (fun y=>vh _) _
  ·exact kW (fun y=>vh _) _
  ·intro hr;intro l hl;intro y hy;exact kW (fun y=>vh _) _
  ·intro hr;intro l hl;intro y hy;exact kW (fun y=>vh _) _
  ·trivial
theorem SH (rows:List fH)(ty:TypeId)(x:AV):(Lp (T:=T) rows ty x).ok sD σ:=by
 unfold Lp
 repeat' split
 all_goals first |exact rfl |trivial
theorem acw (op:BinOp)(x y:AV):(adr (T:=T) op x y).ok sD σ:=by
 unfold adr
 repeat' split
 all_goals first |exact rfl |trivial |exact kW (fun y=>Pp _ _) _
theorem aiU (op:BinOp)(x y:AV):(ads (T:=T) op x y).ok sD σ:=by
 unfold ads
 repeat' split
 all_goals first |exact aaX _ _ |trivial
theorem aiV (ty:Ty)(op:BinOp)(x y:AV):(adt (T:=T) ty op x y).ok sD σ:=by
 unfold adt
 repeat' split
 all_goals first |exact aaX _ _ |trivial
theorem aiW (t:Ty)(op:BinOp)(x y:AV):(afH (T:=T) t op x y).ok sD σ:=by
 unfold afH
 split
 ·exact(aaX op _:Q.ok sD σ (eqV op _))
 ·trivial
theorem aiX (ty:Ty)(x:AV):(adu (T:=T) ty x).ok sD σ:=by
 unfold adu
 split
 ·exact rfl
 ·exact rfl
 ·intro n;exact rfl
 ·exact rfl
 ·intro hr;intro l hl;exact rfl
 ·trivial
theorem adU (rows:List fH)(t:TypeId)(x i:AV):(OX (T:=T) rows t x i).ok sD σ:=by
 unfold OX
 split
 ·split
  ·split
   ·intro y hy;exact rfl
   ·intro row _ y hy;exact rfl
   ·intro hr l hl y hy;exact rfl
   ·split
    ·show Q.ok _ _ _
     split
     ·split<;>first |exact rfl |trivial
     ·trivial
    ·trivial
   ·trivial
  ·trivial
 ·trivial
theorem adV (rows:List fH)(s:TypeId)(x:AV)(f:Nat):(OY (T:=T) rows s x f).ok sD σ:=by
 unfold OY
 split
 ·show Q.ok _ _ _
  split
  ·split<;>first |exact rfl |trivial
  ·trivial
 ·trivial
theorem agw (rows:List fH)(s d:TypeId)(x:AV):(UU (T:=T) rows s d x).ok sD σ:=by
 unfold UU
 split
 ·split
  ·exact rfl
  ·exact rfl
  ·exact rfl
  ·intro row _;dsimp only;split
   ·exact rfl
   ·trivial
  ·exact rfl
  ·trivial
 ·trivial
theorem adW (rows:List fH)(av:Operand→AV)(t:TypeId)(x:AV)(lo hi mx:Option Operand):(vb (T:=T) rows av t x lo hi mx).ok sD σ:=by
 unfold vb
 repeat' split
 all_goals first |exact rfl |trivial
theorem adX (rows:List fH)(av:Operand→AV)(t:TypeId)(ps:List (Nat×Operand)):(Bk (T:=T) rows av t ps).ok sD σ:=by
 unfold Bk
 repeat' split
 all_goals first |exact kW (fun y=>vh _) _ |trivial
theorem Pq (d:Option Tmp)(row:Row):(newRow (T:=T) d row).ok sD σ:=by unfold newRow;split<;>first |exact rfl |trivial
theorem Vs (d:Option Tmp)(x:BX):(zF (T:=T) d x).ok sD σ:=by unfold zF;split<;>first |exact rfl |trivial
theorem E2 (h:Nat)(hr:aV)(xs:List (Option (List hr.t.den)))(l:List hr.t.den):(xv (T:=T) h hr xs l).ok sD σ:=rfl
theorem Vt (h:Nat)(hr:aV)(x:hr.t.den):(Md (T:=T) h hr x).ok sD σ:=rfl
theorem Vu (h n i off:Nat)(vs:List CV):(OZ (T:=T) h n i off vs).ok sD σ:=fun hr l hl y hy y' hy'=>rfl
theorem Vv (x:AV)(vs:List CV):(Iw (T:=T) x vs).ok (uh σ) σ:=by
 unfold Iw
 split
 ·exact bp (q:= .box _ _) (by intro bx;dsimp only;split<;>exact rfl)
 ·intro row hrow y hy y' hy'
  refine show uh σ (AV.nil,Eff.l9 _) from ?_
  refine⟨?_,trivial⟩
  show (look σ.rows _).map _=_
  rw[hrow]
  simp
 ·exact bp (Vu _ _ _ _ _)
 ·exact bp (Vu _ _ _ _ _)
 ·trivial
theorem Dw {p:bZ→Prop}(t:Ty)(x:AV)(k:List t.den→Q T bZ)(hk:∀l,(k l).ok p σ):(appended t x k).ok p σ:=by
 unfold appended
 split
 ·intro hr l hl y hy;exact hk _
 ·intro y hy;exact hk _
 ·intro row _ y hy;exact hk _
 ·exact hk _
 ·trivial
theorem Ki {p:bZ→Prop}(t:Ty)(k:t.den→Q T bZ)(hk:∀l,(k l).ok p σ)(c:Hi):(Ix t k c).ok p σ:=by
 unfold Ix
 split
 ·intro bx;dsimp only;split
  ·intro y hy;exact hk _
  ·intro row _ y hy;exact hk _
  ·trivial
 ·intro y hy;exact hk _
theorem SI {p:bZ→Prop}:∀(ts:List Ty) (cs:List Hi) (k:rO ts→Q T bZ),(∀l,(k l).ok p σ)→(yg ts cs k).ok p σ
 | [],[],k,hk=>hk ()
 | [t],[c],k,hk=>Ki t k hk c
 |t::u::ts,c::cs,k,hk=>Ki t _ (fun x=>SI (u::ts) cs _ fun y=>hk (x,y)) c
 | [],_::_,k,hk=>trivial
 | [_],[],k,hk=>trivial
 | [_],_::_::_,k,hk=>trivial
 |_::_::_,[],k,hk=>trivial
theorem NN {p:bZ→Prop}:∀(hs:List Nat) (acc:List aV) (k:List aV→Q T bZ),(∀l,(k l).ok p σ)→(Bf hs acc k).ok p σ
 | [],acc,k,hk=>hk _
 |h::hs,acc,k,hk=>fun hr=>NN hs _ k hk
theorem acx {q:bZ→Prop}(c5:Bool)(nh:Nat)(hout:List Nat)(p:nj)(a:AV)(k:p.den→Q T bZ)(hk:∀l,(k l).ok q σ):(adv c5 nh hout p a k).ok q σ:=by
 unfold adv
 split
 ·rename_i t k
  split
  ·intro row _ y hy;exact hk _
  ·cases (O4 a&& !(aay t)&&c5) with
   |true=>exact NN _ _ _ (fun l y hy=>hk _)
   |false=>intro y hy;exact hk _
 ·split
  ·exact SI _ _ _ hk
  ·trivial
 ·exact hk ()
 ·split
  ·exact Ki _ _ hk _
  ·exact Ki _ _ hk _
  ·trivial
 ·trivial
 ·trivial
theorem YI {q:bZ→Prop}(c5:Bool)(nh:Nat)(hout:List Nat):∀(ps:List nj) (as:List AV) (k:Gh ps→Q T bZ),(∀l,(k l).ok q σ)→(Lr c5 nh hout ps as k).ok q σ
 | [],[],k,hk=>hk ()
 | [p],[a],k,hk=>acx c5 nh hout p a k hk
 |p::p'::ps,a::as,k,hk=>acx c5 nh hout p a _ (fun x=>YI c5 nh hout (p'::ps) as _ fun y=>hk (x,y))
 | [],_::_,k,hk=>trivial
 | [_],[],k,hk=>trivial
 | [_],_::_::_,k,hk=>trivial
 |_::_::_,[],k,hk=>trivial
theorem YJ {q:bZ→Prop}(wr:List Nat):∀(hs:List Nat) (k:Eg T hs→Q T bZ),(∀l,(k l).ok q σ)→(RW T wr hs k).ok q σ
 | [],k,hk=>hk ()
 | [h],k,hk=>fun hr=>by
   show Q.ok q σ (if e:hr.t=(T.ht h).t then k (Qf e hr.xs) else .fail)
   split
   ·exact hk _
   ·trivial
 |h::i::r,k,hk=>fun hr=>by
  show Q.ok q σ (if e:hr.t=(T.ht h).t then RW T wr (i::r) fun y=>k (Qf e hr.xs,y) else .fail)
  split
  ·exact YJ wr (i::r) _ fun y=>hk _
  ·trivial
theorem IP {q:bZ→Prop}:∀(ts:List L9) (d:Nat) (y:rO (ts.map (·.1))) (k:List TU→Q T bZ),(∀l,l.all TU.Po=true→(k l).ok q σ)→(yi d ts y k).ok q σ
 | [],d,y,k,hk=>hk _ rfl
 | [(t,none)],d,y,k,hk=>hk _ rfl
 | [(t,some e)],d,y,k,hk=>by
   simp only[yi]
   split
   ·exact hk _ rfl
   ·trivial
 | (t,none)::u::ts,d,y,k,hk=>IP (u::ts) (d+1) y.2 k hk
 | (t,some e)::u::ts,d,y,k,hk=>by
   simp only[yi]
   split
   ·exact IP (u::ts) (d+1) y.2 _ fun l hl=>hk _ (by simp only[List.all_cons,TU.Po,Bool.true_and];exact hl)
   ·trivial
theorem NO {q:bZ→Prop}:∀(ts:List Ty) (d:Nat) (y:rO ts) (k:List TU→List Hi→Q T bZ),(∀l m,l.all TU.Po=true→(k l m).ok q σ)→(EV d ts y k).ok q σ
 | [],d,y,k,hk=>hk _ _ rfl
 | [t],d,y,k,hk=>hk _ _ rfl
 |t::u::ts,d,y,k,hk=>NO (u::ts) (d+1) y.2 _ fun l m hl=>hk _ _ (by simp only[List.all_cons,TU.Po,Bool.true_and];exact hl)
theorem adY:∀(ts:List L9) (d:Nat) (y:rO (ts.map (·.1))),(jW d ts y).all TU.Po=true:=fun ts d y=>by
 rw[List.all_eq_true]
 intro u hu
 obtain⟨k,row,_,_,rfl,_⟩:=xG ts d y u hu
 rfl
theorem SJ:∀(hs:List Nat) (x:Eg T hs),(zG T hs x).all TU.Po=true
 | [],_=>rfl
 | [h],_=>rfl
 |h::i::r,x=>by simp only[zG,List.all_cons,TU.Po,Bool.true_and];exact SJ (i::r) _
theorem aiY (d:Nat)(s:Iq)(y:Ma s)(us:List TU)(hu:us.all TU.Po=true):(afK T d s y us).ok sD σ:=by
 unfold afK
 have key:∀(x:AV) (vs:List TU),vs.all TU.Po=true→sD (x, .l9 (us++vs)):=fun x vs hv=>by
  show (us++vs).all TU.Po=true
  rw[List.all_append,hu,hv];rfl
 split
 ·rename_i a res hps y
  have:=adY res d y
  exact IP _ _ _ _ (fun l hl=>key _ _ hl)
 ·exact NO _ _ _ _ fun l m hl=>key _ _ hl
 ·trivial
theorem YK (av:Operand→AV)(st:Option Site)(dst:Option Tmp)(f:FuncId)(aN:List Hi)(args:List Operand):(Iy T av st dst f aN args).ok sD σ:=by
 unfold Iy
 dsimp only
 split
 ·exact YI _ _ _ _ _ _ fun x=>YJ _ _ _ fun h xh hxh yh=>aiY _ _ _ _ (SJ _ _)
 ·trivial
end
end Go.Abs
namespace Go.Abs
open Go.RowKit Go.Lib
section
variable {T:cj}{σ:AS}
theorem bQ {p:bZ→Prop}{k:AS→Q T bZ}(h:(k σ).ok p σ):(Q.all k).ok p σ:=h
theorem bR {p:bZ→Prop}{b:Bool}{k:Q T bZ}(h:k.ok p σ):(Q.fk b k).ok p σ:=h
theorem bT {p:bZ→Prop}{q:Nat}{k:Row→Q T bZ}(h:∀x,(k x).ok p σ):(Q.row q k).ok p σ:=fun x _=>h x
theorem aZ {p:bZ→Prop}{q:Nat}{k:aV→Q T bZ}(h:∀x,(k x).ok p σ):(Q.heap q k).ok p σ:=h
theorem bU {p:bZ→Prop}{q:Nat}{k:BX→Q T bZ}(h:∀x,(k x).ok p σ):(Q.box q k).ok p σ:=h
theorem bV {p:bZ→Prop}{β:Type}{q:Option β}{k:β→Q T bZ}(h:∀x,(k x).ok p σ):(Q.opt q k).ok p σ:=fun y _=>h y
theorem yk {p:bZ→Prop}{r:bZ}(h:p r):(Q.ret (T:=T) r).ok p σ:=h
theorem Q.acy {p p':bZ→Prop}(hp:∀r,p r→p' r):∀{q:Q T bZ} {σ:AS},q.ok p σ→q.ok p' σ:=by
 intro q
 induction q with
 |ret a=>intro σ h;exact hp _ h
 |fail=>intro σ h;trivial
 |opt o k ih=>intro σ h y hy;exact ih y (h y hy)
 |fk b k ih=>intro σ h;exact ih h
 |ite b x y Kw HO=>intro σ h;exact⟨Kw h.1,HO h.2⟩
 |row q k ih=>intro σ h y hy;exact ih y (h y hy)
 |len q k ih=>intro σ h y;exact ih y (h y)
 |box q k ih=>intro σ h y;exact ih y (h y)
 |heap q k ih=>intro σ h y;exact ih y (h y)
 |pX q k ih=>intro σ h;exact ih h
 |pY q k ih=>intro σ h;exact ih h
 |call v x k ih=>intro σ h y;exact ih y (h y)
 |all k ih=>intro σ h;exact ih σ h
 |on σ' k ih=>intro σ h;exact ih (σ:=σ') h
theorem jI {z:AV}{σ':AS}(h:Fr σ σ'):uh σ (z, .set σ'):=h
theorem Vw {q:Q T bZ}{σ':AS}(h:Fr σ σ'):(q.map fun p=>(p.1,Eff.set σ')).ok (uh σ) σ:=by
 refine aaV (p:=uh σ) ?_
 have key:∀(q:Q T bZ) (σ1:AS),q.ok (fun x=>uh σ (x.1,Eff.set σ')) σ1:=by
  intro q
  induction q with
  |ret a=>intro σ1;exact h
  |fail=>intro σ1;trivial
  |opt o k ih=>intro σ1 y hy;exact ih y σ1
  |fk b k ih=>intro σ1;exact ih σ1
  |ite b x y Kw HO=>intro σ1;exact⟨Kw σ1,HO σ1⟩
  |row q k ih=>intro σ1 y hy;exact ih y σ1
  |len q k ih=>intro σ1 y;exact ih y σ1
  |box q k ih=>intro σ1 y;exact ih y σ1
  |heap q k ih=>intro σ1 y;exact ih y σ1
  |pX q k ih=>intro σ1;exact ih σ1
  |pY q k ih=>intro σ1;exact ih σ1
  |call v x k ih=>intro σ1 y;exact ih y σ1
  |all k ih=>intro σ1;exact ih σ1 σ1
  |on σ' k ih=>intro σ1;exact ih σ'
 exact key q σ
theorem akb (av:Operand→AV)(sites:List (Nat×Site))(o:Oper):(Dj T av sites o).ok (uh σ) σ:=by
 unfold Dj
 dsimp only
 generalize o.dst.bind (look sites)=st
 cases ho:o.op with
 |move x=>exact bp (SH _ _ _)
 |assign x=>
  dsimp only
  split
  ·((repeat (first |refine bQ ?_ |refine bR ?_ |refine bT fun _=> ?_ |refine aZ fun _=> ?_ |refine bU fun _=> ?_ |refine bV fun _=> ?_))<;>(try dsimp only))
   refine yk (jI ?_)
   cases Nat.beq _ _ with
   |true=>exact Fr.refl _
   |false=>exact(fp _).trans (Vp _ _)
  ·split
   ·exact bp (vh _)
   ·split
    ·((repeat (first |refine bQ ?_ |refine bR ?_ |refine bT fun _=> ?_ |refine aZ fun _=> ?_ |refine bU fun _=> ?_ |refine bV fun _=> ?_))<;>(try dsimp only))
     exact yk (jI ⟨(fp _).b4,(fp _).sites,(fp _).s,(fp _).tr,(fp _).ks⟩)
    ·exact bp (SH _ _ _)
  ·exact bp (SH _ _ _)
 |pick c x y=>
  dsimp only
  split
  ·exact⟨bp (vh (T:=T) (σ:=σ) _),bp (vh (T:=T) (σ:=σ) _)⟩
  ·trivial
 |nilCheck x=>
  dsimp only
  split
  ·((repeat (first |refine bQ ?_ |refine bR ?_ |refine bT fun _=> ?_ |refine aZ fun _=> ?_ |refine bU fun _=> ?_ |refine bV fun _=> ?_))<;>(try dsimp only));exact bp (vh (T:=T) (σ:=σ) _)
  ·exact bp (vh (T:=T) (σ:=σ) _)
  ·exact bp (vh (T:=T) (σ:=σ) _)
  ·exact bp (vh (T:=T) (σ:=σ) _)
  ·exact bp (vh (T:=T) (σ:=σ) _)
  ·trivial
 |load t x=>exact bp (agv _ _ _)
 |binOp b t x y u=>
  dsimp only
  split
  ·split
   ·exact bp (aiU _ _ _)
   ·exact bp (acw _ _ _)
   ·exact bp (acw _ _ _)
   ·((repeat (first |refine bQ ?_ |refine bR ?_ |refine bT fun _=> ?_ |refine aZ fun _=> ?_ |refine bU fun _=> ?_ |refine bV fun _=> ?_))<;>(try dsimp only));exact bp (aiW _ _ _ _)
   ·exact bp (aiV _ _ _ _)
  ·trivial
 |unOp b t x=>
  dsimp only
  split
  ·exact bp (Pp (T:=T) (σ:=σ) _ _)
  ·exact bp (Pp (T:=T) (σ:=σ) _ _)
  ·trivial
 |convert s d x=>exact bp (agw _ _ _ _)
 |fieldAddr s x f=>exact bp (adV _ _ _ _)
 |indexAddr t x i=>exact bp (adU _ _ _ _)
 |index t x i=>
  dsimp only
  split
  ·split
   ·((repeat (first |refine bQ ?_ |refine bR ?_ |refine bT fun _=> ?_ |refine aZ fun _=> ?_ |refine bU fun _=> ?_ |refine bV fun _=> ?_))<;>(try dsimp only));exact bp (Pp (T:=T) (σ:=σ) _ _)
   ·trivial
  ·trivial
 |extract x i=>
  dsimp only
  split
  ·exact bp (kW (fun y=>vh _) _)
  ·trivial
 |makeFunc f fs cs=>
  cases f with
  |func g=>
   dsimp only
   split
   ·exact bp (kW (fun y=>vh _) _)
   ·trivial
  |_=>trivial
 |slice t x l u m=>
  dsimp only
  split
  ·split
   ·split
    ·((repeat (first |refine bQ ?_ |refine bR ?_ |refine bT fun _=> ?_ |refine aZ fun _=> ?_ |refine bU fun _=> ?_ |refine bV fun _=> ?_))<;>(try dsimp only))
     split
     ·((repeat (first |refine bQ ?_ |refine bR ?_ |refine bT fun _=> ?_ |refine aZ fun _=> ?_ |refine bU fun _=> ?_ |refine bV fun _=> ?_))<;>(try dsimp only))
      split
      ·exact yk (jI ⟨rfl,rfl,rfl,oK.refl _,by first |rfl |exact xH _ _⟩)
      ·trivial
     ·trivial
    ·trivial
   ·((repeat (first |refine bQ ?_ |refine bR ?_ |refine bT fun _=> ?_ |refine aZ fun _=> ?_ |refine bU fun _=> ?_ |refine bV fun _=> ?_))<;>(try dsimp only))
    exact Vw (fp _)
  ·split
   ·split
    ·((repeat (first |refine bQ ?_ |refine bR ?_ |refine bT fun _=> ?_ |refine aZ fun _=> ?_ |refine bU fun _=> ?_ |refine bV fun _=> ?_))<;>(try dsimp only))
     exact⟨bp (vh (T:=T) (σ:=σ) _),bp (E2 (T:=T) (σ:=σ) _ _ _ _)⟩
    ·trivial
   ·trivial
  ·exact bp (adW _ _ _ _ _ _ _)
 |build t ps=>
  dsimp only
  cases ((ps.toList.map (·.2)).any fun x=>wO (av x)) with
  |true=>exact Vw (Du _ _)
  |false=>exact bp (adX _ _ _ _)
 |buildSlice t len ps=>
  dsimp only
  split
  ·split
   ·((repeat (first |refine bQ ?_ |refine bR ?_ |refine bT fun _=> ?_ |refine aZ fun _=> ?_ |refine bU fun _=> ?_ |refine bV fun _=> ?_))<;>(try dsimp only))
    exact bp (E2 (T:=T) (σ:=σ) _ _ _ _)
   ·((repeat (first |refine bQ ?_ |refine bR ?_ |refine bT fun _=> ?_ |refine aZ fun _=> ?_ |refine bU fun _=> ?_ |refine bV fun _=> ?_))<;>(try dsimp only))
    cases ((ps.toList.map (·.2)).any fun x=>wO (av x)) with
    |true=>
     ((repeat (first |refine bQ ?_ |refine bR ?_ |refine bT fun _=> ?_ |refine aZ fun _=> ?_ |refine bU fun _=> ?_ |refine bV fun _=> ?_))<;>(try dsimp only))
     split
     ·split
      ·exact yk (jI ⟨(Du _ σ).b4,(Du _ σ).sites,(Du _ σ).s,(Du _ σ).tr,(Du _ σ).ks⟩)
      ·trivial
     ·trivial
    |false=>((repeat (first |refine bQ ?_ |refine bR ?_ |refine bT fun _=> ?_ |refine aZ fun _=> ?_ |refine bU fun _=> ?_ |refine bV fun _=> ?_))<;>(try dsimp only));exact bp (Pq _ _)
  ·trivial
 |makeSlice t l c=>
  dsimp only
  split
  ·((repeat (first |refine bQ ?_ |refine bR ?_ |refine bT fun _=> ?_ |refine aZ fun _=> ?_ |refine bU fun _=> ?_ |refine bV fun _=> ?_))<;>(try dsimp only))
   split
   ·((repeat (first |refine bQ ?_ |refine bR ?_ |refine bT fun _=> ?_ |refine aZ fun _=> ?_ |refine bU fun _=> ?_ |refine bV fun _=> ?_))<;>(try dsimp only));exact bp (E2 (T:=T) (σ:=σ) _ _ _ _)
   ·exact bp (Pq _ _)
  ·trivial
 |alloc t=>
  dsimp only
  split
  ·split
   ·((repeat (first |refine bQ ?_ |refine bR ?_ |refine bT fun _=> ?_ |refine aZ fun _=> ?_ |refine bU fun _=> ?_ |refine bV fun _=> ?_))<;>(try dsimp only));exact bp (Vt (T:=T) (σ:=σ) _ _ _)
   ·split
    ·exact bp (q:= .pY _ (.pX _ (.ret _))) rfl
    ·exact bp (Vs _ _)
  ·trivial
 |box t v=>
  dsimp only
  split
  ·split
   ·((repeat (first |refine bQ ?_ |refine bR ?_ |refine bT fun _=> ?_ |refine aZ fun _=> ?_ |refine bU fun _=> ?_ |refine bV fun _=> ?_))<;>(try dsimp only))
    split
    ·split
     ·exact yk (jI ⟨(fp _).b4,(fp _).sites,(fp _).s,(fp _).tr,(fp _).ks⟩)
     ·trivial
    ·trivial
   ·refine kW (fun vs=> ?_) _
    ((repeat (first |refine bQ ?_ |refine bR ?_ |refine bT fun _=> ?_ |refine aZ fun _=> ?_ |refine bU fun _=> ?_ |refine bV fun _=> ?_))<;>(try dsimp only))
    split
    ·((repeat (first |refine bQ ?_ |refine bR ?_ |refine bT fun _=> ?_ |refine aZ fun _=> ?_ |refine bU fun _=> ?_ |refine bV fun _=> ?_))<;>(try dsimp only));exact bp (Vt (T:=T) (σ:=σ) _ _ _)
    ·exact bp (Vs _ _)
  ·trivial
 |store t x v=>
  dsimp only
  split
  ·split
   ·((repeat (first |refine bQ ?_ |refine bR ?_ |refine bT fun _=> ?_ |refine aZ fun _=> ?_ |refine bU fun _=> ?_ |refine bV fun _=> ?_))<;>(try dsimp only))
    cases Nat.beq _ _ with
    |true=>exact yk (jI ⟨rfl,rfl,rfl,oK.refl _,by first |rfl |exact xH _ _⟩)
    |false=>exact yk (jI (Vq ((fp _).trans (Vp _ _)) _ _))
   ·rename_i q hnb e1
    ((repeat (first |refine bQ ?_ |refine bR ?_ |refine bT fun _=> ?_ |refine aZ fun _=> ?_ |refine bU fun _=> ?_ |refine bV fun _=> ?_))<;>(try dsimp only))
    refine aaV (p:=uh σ) ?_
    refine Q.acy (σ:=σ.freeze q) (p:=uh (σ.freeze q)) (fun r hr=> ?_) (kW (fun vs=>by ((repeat (first |refine bQ ?_ |refine bR ?_ |refine bT fun _=> ?_ |refine aZ fun _=> ?_ |refine bU fun _=> ?_ |refine bV fun _=> ?_))<;>(try dsimp only));exact Vv _ _) _)
    show uh σ _
    unfold uh at hr
    split at hr
    ·rename_i us e
     rw[e]
     exact jI ((fp _).trans (Fr.app _ us))
    ·rename_i s e
     rw[e]
     exact jI ((fp _).trans hr)
   ·split
    ·((repeat (first |refine bQ ?_ |refine bR ?_ |refine bT fun _=> ?_ |refine aZ fun _=> ?_ |refine bU fun _=> ?_ |refine bV fun _=> ?_))<;>(try dsimp only))
     exact yk (jI (Vq (fp _) _ _))
    ·trivial
   ·exact kW (fun vs=>by ((repeat (first |refine bQ ?_ |refine bR ?_ |refine bT fun _=> ?_ |refine aZ fun _=> ?_ |refine bU fun _=> ?_ |refine bV fun _=> ?_))<;>(try dsimp only));exact Vv _ _) _
  ·trivial
 |call c=>
  obtain⟨callee,args,ats⟩:=c
  cases callee with
  |value f=>
   dsimp only
   split
   ·((repeat (first |refine bQ ?_ |refine bR ?_ |refine bT fun _=> ?_ |refine aZ fun _=> ?_ |refine bU fun _=> ?_ |refine bV fun _=> ?_))<;>(try dsimp only))
    split
    ·rename_i t xs htr
     ((repeat (first |refine bQ ?_ |refine bR ?_ |refine bT fun _=> ?_ |refine aZ fun _=> ?_ |refine bU fun _=> ?_ |refine bV fun _=> ?_))<;>(try dsimp only))
     refine yk (jI ⟨rfl,rfl,rfl, .inr ⟨t,xs,[_],htr,rfl⟩,rfl⟩)
    ·trivial
   ·split
    ·cases ((args.toList.any fun x=>wO (av x))&& !(jU T (T.sig ((RU T st _ (args.toList.map av++List.map UW _)).getD 0)))) with
     |true=>
      ((repeat (first |refine bQ ?_ |refine bR ?_ |refine bT fun _=> ?_ |refine aZ fun _=> ?_ |refine bU fun _=> ?_ |refine bV fun _=> ?_))<;>(try dsimp only))
      refine aaV (p:=uh σ) ?_
      refine Q.acy (σ:=σ.va args.toList) (p:=sD) (fun r hr=> ?_) (YK _ _ _ _ _ _)
      show uh σ _
      unfold sD at hr
      split at hr
      ·rename_i us e
       rw[e]
       exact jI ((Du _ σ).trans (Fr.app _ us))
      ·exact hr.elim
     |false=>exact bp (YK _ _ _ _ _ _)
    ·trivial
  |builtin b=>
   cases b with
   |len=>
    dsimp only
    split
    ·split
     ·exact bp (aiX _ _)
     ·trivial
    ·trivial
   |max=>
    dsimp only
    split
    ·split
     ·exact bp (Pp (T:=T) (σ:=σ) _ _)
     ·trivial
    ·trivial
   |min=>
    dsimp only
    split
    ·split
     ·exact bp (Pp (T:=T) (σ:=σ) _ _)
     ·trivial
    ·trivial
   |append=>
    dsimp only
    split
    ·((repeat (first |refine bQ ?_ |refine bR ?_ |refine bT fun _=> ?_ |refine aZ fun _=> ?_ |refine bU fun _=> ?_ |refine bV fun _=> ?_))<;>(try dsimp only))
     split
     ·split
      ·((repeat (first |refine bQ ?_ |refine bR ?_ |refine bT fun _=> ?_ |refine aZ fun _=> ?_ |refine bU fun _=> ?_ |refine bV fun _=> ?_))<;>(try dsimp only))
       refine Dw _ _ _ fun ys=> ?_
       ((repeat (first |refine bQ ?_ |refine bR ?_ |refine bT fun _=> ?_ |refine aZ fun _=> ?_ |refine bU fun _=> ?_ |refine bV fun _=> ?_))<;>(try dsimp only))
       split
       ·((repeat (first |refine bQ ?_ |refine bR ?_ |refine bT fun _=> ?_ |refine aZ fun _=> ?_ |refine bU fun _=> ?_ |refine bV fun _=> ?_))<;>(try dsimp only))
        split
        ·exact yk (jI ⟨rfl,rfl,rfl,oK.refl _,by first |rfl |exact xH _ _⟩)
        ·trivial
       ·trivial
      ·((repeat (first |refine bQ ?_ |refine bR ?_ |refine bT fun _=> ?_ |refine aZ fun _=> ?_ |refine bU fun _=> ?_ |refine bV fun _=> ?_))<;>(try dsimp only))
       refine Dw _ _ _ fun ys=> ?_
       ((repeat (first |refine bQ ?_ |refine bR ?_ |refine bT fun _=> ?_ |refine aZ fun _=> ?_ |refine bU fun _=> ?_ |refine bV fun _=> ?_))<;>(try dsimp only));exact⟨bp (vh (T:=T) (σ:=σ) _),bp (E2 (T:=T) (σ:=σ) _ _ _ _)⟩
      ·split
       ·((repeat (first |refine bQ ?_ |refine bR ?_ |refine bT fun _=> ?_ |refine aZ fun _=> ?_ |refine bU fun _=> ?_ |refine bV fun _=> ?_))<;>(try dsimp only))
        refine Dw _ _ _ fun ys=> ?_
        ((repeat (first |refine bQ ?_ |refine bR ?_ |refine bT fun _=> ?_ |refine aZ fun _=> ?_ |refine bU fun _=> ?_ |refine bV fun _=> ?_))<;>(try dsimp only));exact⟨bp (vh (T:=T) (σ:=σ) _),bp (E2 (T:=T) (σ:=σ) _ _ _ _)⟩
       ·refine Dw _ _ _ fun ys=> ?_
        ((repeat (first |refine bQ ?_ |refine bR ?_ |refine bT fun _=> ?_ |refine aZ fun _=> ?_ |refine bU fun _=> ?_ |refine bV fun _=> ?_))<;>(try dsimp only));exact bp (Pq _ _)
      ·trivial
     ·trivial
    ·trivial
   |_=>trivial
  |invoke x n=>trivial
 |_=>trivial
end
end Go.Abs
namespace Go.Abs
open Go.RowKit Go.Lib
def mz (σ σ2:AS)(k:Nat):Prop:=(∀r,k=4*r→look σ2.rows r=look σ.rows r)∧(∀b,k=2*b+1→look σ2.boxes b=look σ.boxes b)∧
 (∀r,k=4*r+2→(look σ2.rows r).map (fun row=>row.xs.length)=(look σ.rows r).map (fun row=>row.xs.length))∧∀h,k=hk h→σ2.ae[h]? =σ.ae[h]?
def agx:lL→List Nat
 | .M r _=>r
 |_=>[]
def WU:lL→List Nat
 | .M _ w=>w
 |_=>[]
theorem mz.refl (σ:AS)(k:Nat):mz σ σ k:=⟨fun _ _=>rfl,fun _ _=>rfl,fun _ _=>rfl,fun _ _=>rfl⟩
theorem mz.trans {σ σ1 σ2:AS}{k:Nat}(h1:mz σ σ1 k)(h2:mz σ1 σ2 k):mz σ σ2 k:=
 ⟨fun r e=>(h2.1 r e).trans (h1.1 r e),fun b e=>(h2.2.1 b e).trans (h1.2.1 b e),fun r e=>(h2.2.2.1 r e).trans (h1.2.2.1 r e),fun r e=>(h2.2.2.2 r e).trans (h1.2.2.2 r e)⟩
theorem mz.symm {σ σ1:AS}{k:Nat}(h1:mz σ σ1 k):mz σ1 σ k:=⟨fun r e=>(h1.1 r e).symm,fun b e=>(h1.2.1 b e).symm,fun r e=>(h1.2.2.1 r e).symm,fun r e=>(h1.2.2.2 r e).symm⟩
section
variable {T:cj}{Φ:bE T}{α:Type}
abbrev Q.go (Φ:bE T)(σ:AS)(q:Q T α)(c:lL):Option (lL×α):=q.run Φ σ c fun c a=>some (c,a)
theorem RE {R:Type}{k:lL→α→Option R}:∀(q:Q T α) (σ:AS) (c:lL),q.run Φ σ c k=(q.go Φ σ c).bind fun p=>k p.1 p.2:=by
 intro q
 induction q with
 |ret a=>intro σ c;rfl
 |fail=>intro σ c;rfl
 |opt o q ih=>intro σ c;cases o with
  |none=>rfl
  |some y=>exact ih y σ c
 |fk b q ih=>intro σ c;cases b
             ·rfl
             ·exact ih σ c
 |ite b x y Kw HO=>intro σ c;cases b
                   ·exact HO σ c
                   ·exact Kw σ c
 |row r q ih=>intro σ c;simp only[Q.go,Q.run];split
              ·exact ih _ σ _
              ·rfl
 |len r q ih=>intro σ c;simp only[Q.go,Q.run];split
              ·exact ih _ σ _
              ·rfl
 |box r q ih=>intro σ c;simp only[Q.go,Q.run];split
              ·exact ih _ σ _
              ·rfl
 |heap r q ih=>intro σ c;simp only[Q.go,Q.run];split
               ·exact ih _ σ _
               ·rfl
 |pX r q ih=>intro σ c;simp only[Q.go,Q.run];split
             ·exact ih σ _
             ·rfl
 |pY r q ih=>intro σ c;simp only[Q.go,Q.run];split
             ·exact ih σ _
             ·rfl
 |call v x q ih=>intro σ c;simp only[Q.go,Q.run];cases Φ v x with
  |none=>rfl
  |some y=>exact ih y σ c
 |all q ih=>intro σ c;exact ih σ σ .X
 |on σ' q ih=>intro σ c;exact ih σ' .X
theorem am9:∀(q:Q T α) (σ:AS) (c':lL) (r:α),q.go Φ σ .X=some (c',r)→c'= .X:=by
 intro q
 induction q with
 |ret a=>intro σ c' r h;simp only[Q.go,Q.run,Option.some.injEq,Prod.mk.injEq] at h;exact h.1.symm
 |fail=>intro σ c' r h;cases h
 |opt o q ih=>intro σ c' r h;cases o with
  |none=>cases h
  |some y=>exact ih y σ c' r h
 |fk b q ih=>intro σ c' r h;cases b
             ·cases h
             ·exact ih σ c' r h
 |ite b x y Kw HO=>intro σ c' r h;cases b
                   ·exact HO σ c' r h
                   ·exact Kw σ c' r h
 |row q k ih=>intro σ c' r h;simp only[Q.go,Q.run] at h;split at h
              ·exact ih _ σ c' r h
              ·cases h
 |len q k ih=>intro σ c' r h;simp only[Q.go,Q.run] at h;split at h
              ·exact ih _ σ c' r h
              ·cases h
 |box q k ih=>intro σ c' r h;simp only[Q.go,Q.run] at h;split at h
              ·exact ih _ σ c' r h
              ·cases h
 |heap q k ih=>intro σ c' r h;simp only[Q.go,Q.run] at h;split at h
               ·exact ih _ σ c' r h
               ·cases h
 |pX q k ih=>intro σ c' r h;simp only[Q.go,Q.run] at h;split at h
             ·exact ih σ c' r h
             ·cases h
 |pY q k ih=>intro σ c' r h;simp only[Q.go,Q.run] at h;split at h
             ·exact ih σ c' r h
             ·cases h
 |call v x q ih=>intro σ c' r h;simp only[Q.go,Q.run,Option.bind_eq_some_iff] at h;obtain⟨y,_,h⟩:=h;exact ih y σ c' r h
 |all q ih=>intro σ c' r h;exact ih σ σ c' r h
 |on σ' q ih=>intro σ c' r h;exact ih σ' c' r h
theorem aiZ:∀(q:Q T α) (σ:AS) (rd wr:List Nat) (c':lL) (r:α),q.go Φ σ (.M rd wr)=some (c',r)→c'≠ .X→
  ∃l,c'= .M (l++rd) wr∧∀σ2,(∀k∈l,mz σ σ2 k)→q.go Φ σ2 (.M rd wr)=some (c',r):=by
 intro q
 induction q with
 |ret a=>intro σ rd wr c' r h hc;simp only[Q.go,Q.run,Option.some.injEq,Prod.mk.injEq] at h;obtain⟨rfl,rfl⟩:=h;exact⟨[],rfl,fun σ2 _=>rfl⟩
 |fail=>intro σ rd wr c' r h hc;cases h
 |opt o q ih=>intro σ rd wr c' r h hc;cases o with
  |none=>cases h
  |some y=>exact ih y σ rd wr c' r h hc
 |fk b q ih=>intro σ rd wr c' r h hc;cases b
             ·cases h
             ·exact ih σ rd wr c' r h hc
 |ite b x y Kw HO=>intro σ rd wr c' r h hc;cases b
                   ·exact HO σ rd wr c' r h hc
                   ·exact Kw σ rd wr c' r h hc
 |row q k ih=>
  intro σ rd wr c' r h hc
  simp only[Q.go,Q.run] at h
  split at h
  ·rename_i x hx
   obtain⟨l,h1,h2⟩:=ih x σ (4*q::rd) wr c' r h hc
   refine⟨l++[4*q],by rw[h1];simp,fun σ2 hs=> ?_⟩
   have:=(hs (4*q) (by simp)).1 q rfl
   simp only[Q.go,Q.run,this,hx]
   exact h2 σ2 (fun k hk=>hs k (by simp[hk]))
  ·cases h
 |len q k ih=>
  intro σ rd wr c' r h hc
  simp only[Q.go,Q.run] at h
  split at h
  ·rename_i x hx
   obtain⟨l,h1,h2⟩:=ih _ σ ((4*q+2)::rd) wr c' r h hc
   refine⟨l++[4*q+2],by rw[h1];simp,fun σ2 hs=> ?_⟩
   have:=(hs (4*q+2) (by simp)).2.2.1 q rfl
   rw[hx] at this
   obtain⟨x2,hx2,hl⟩:=Option.map_eq_some_iff.1 this
   simp only[Q.go,Q.run,hx2,hl]
   exact h2 σ2 (fun k hk=>hs k (by simp[hk]))
  ·cases h
 |box q k ih=>
  intro σ rd wr c' r h hc
  simp only[Q.go,Q.run] at h
  split at h
  ·rename_i x hx
   obtain⟨l,h1,h2⟩:=ih x σ ((2*q+1)::rd) wr c' r h hc
   refine⟨l++[2*q+1],by rw[h1];simp,fun σ2 hs=> ?_⟩
   have:=(hs (2*q+1) (by simp)).2.1 q rfl
   simp only[Q.go,Q.run,this,hx]
   exact h2 σ2 (fun k hk=>hs k (by simp[hk]))
  ·cases h
 |heap q k ih=>
  intro σ rd wr c' r h hc
  simp only[Q.go,Q.run] at h
  split at h
  ·rename_i x hx
   obtain⟨l,h1,h2⟩:=ih x σ (hk q::rd) wr c' r h hc
   refine⟨l++[hk q],by rw[h1];simp,fun σ2 hs=> ?_⟩
   have:=(hs (hk q) (by simp)).2.2.2 q rfl
   simp only[Q.go,Q.run,this,hx]
   exact h2 σ2 (fun k hk=>hs k (by simp[hk]))
  ·cases h
 |pX q k ih=>
  intro σ rd wr c' r h hc
  simp only[Q.go,Q.run] at h
  split at h
  ·rename_i hx
   obtain⟨l,h1,h2⟩:=ih σ (4*q::rd) wr c' r h hc
   refine⟨l++[4*q],by rw[h1];simp,fun σ2 hs=> ?_⟩
   have:=(hs (4*q) (by simp)).1 q rfl
   simp only[Q.go,Q.run,this,hx]
   exact h2 σ2 (fun k hk=>hs k (by simp[hk]))
  ·cases h
 |pY q k ih=>
  intro σ rd wr c' r h hc
  simp only[Q.go,Q.run] at h
  split at h
  ·rename_i hx
   obtain⟨l,h1,h2⟩:=ih σ ((2*q+1)::rd) wr c' r h hc
   refine⟨l++[2*q+1],by rw[h1];simp,fun σ2 hs=> ?_⟩
   have:=(hs (2*q+1) (by simp)).2.1 q rfl
   simp only[Q.go,Q.run,this,hx]
   exact h2 σ2 (fun k hk=>hs k (by simp[hk]))
  ·cases h
 |call v x q ih=>
  intro σ rd wr c' r h hc
  simp only[Q.go,Q.run,Option.bind_eq_some_iff] at h
  obtain⟨y,hy,h⟩:=h
  obtain⟨l,h1,h2⟩:=ih y σ rd wr c' r h hc
  exact⟨l,h1,fun σ2 hs=>by simp only[Q.go,Q.run,hy,Option.bind_some];exact h2 σ2 hs⟩
 |all q ih=>intro σ rd wr c' r h hc;exact absurd (am9 (q σ) σ c' r h) hc
 |on σ' q ih=>intro σ rd wr c' r h hc;exact absurd (am9 q σ' c' r h) hc
end
section
variable {T:cj}{av Pk:Operand→AV}
theorem Gz {d:Int}{x:Option Operand}(h:∀y,x=some y→Pk y=av y):iq Pk d x=iq av d x:=by
 cases x with
 |none=>rfl
 |some y=>simp only[iq,h y rfl]
theorem Lv {qj:List (Nat×Nat)}:∀(parts:List (Nat×Operand)) (cs:List CV),(∀p∈parts,Pk p.2=av p.2)→partsOf Pk qj parts cs=partsOf av qj parts cs
 | [],cs,h=>rfl
 | (i,x)::r,cs,h=>by
   have hx:=h (i,x) (by simp)
   simp only at hx
   have ih:=fun cs=>Lv (qj:=qj) r cs (fun p hp=>h p (by simp[hp]))
   simp only[partsOf,hx,ih]
theorem Qq {t:Ty}:∀(parts:List (Nat×Operand)) (xs:List t.den),(∀p∈parts,Pk p.2=av p.2)→elems Pk t parts xs=elems av t parts xs
 | [],cs,h=>rfl
 | (i,x)::r,cs,h=>by
   have hx:=h (i,x) (by simp)
   simp only at hx
   have ih:=fun cs=>Qq (t:=t) r cs (fun p hp=>h p (by simp[hp]))
   simp only[elems,hx,ih]
theorem WV {xs:List Operand}(h:∀x∈xs,Pk x=av x):xs.any (fun x=>wO (Pk x))=xs.any (fun x=>wO (av x)):=by
 induction xs with
 |nil=>rfl
 |cons x xs ih=>
  simp only[List.any_cons]
  rw[h x (by simp),ih (fun y hy=>h y (by simp[hy]))]
theorem Lw {α β:Type}{f g:α→Option β}:∀{xs:List α},(∀x∈xs,f x=g x)→k9 f xs=k9 g xs
 | [],_=>rfl
 |x::xs,h=>by simp only[k9,h x (by simp),Lw (xs:=xs) (fun y hy=>h y (by simp[hy]))]
theorem Vx {xs:List Operand}(h:∀x∈xs,Pk x=av x):xs.map Pk=xs.map av:=List.map_congr_left h
theorem YL {st:Option Site}{dst:Option Tmp}{f:FuncId}{aN:List Hi}{args:List Operand}(h:∀x∈args,Pk x=av x):Iy T Pk st dst f aN args=Iy T av st dst f aN args:=by
 unfold Iy
 rw[Vx h]
theorem adZ {sites:List (Nat×Site)}{o:Oper}(h:∀x∈o.op.operands,Pk x=av x):Dj T Pk sites o=Dj T av sites o:=by
 unfold Dj
 dsimp only
 generalize o.dst.bind (look sites)=st
 cases ho:o.op with
 |move x=>have hx:=h x (by simp[ho,Op.operands]);simp only[hx]
 |assign x=>have hx:=h x (by simp[ho,Op.operands]);simp only[hx]
 |pick c x y=>
  have h1:=h c (by simp[ho,Op.operands]);have h2:=h x (by simp[ho,Op.operands]);have h3:=h y (by simp[ho,Op.operands])
  simp only[h1,h2,h3]
 |nilCheck x=>have hx:=h x (by simp[ho,Op.operands]);simp only[hx]
 |load t x=>have hx:=h x (by simp[ho,Op.operands]);simp only[hx]
 |binOp b t x y u=>have h1:=h x (by simp[ho,Op.operands]);have h2:=h y (by simp[ho,Op.operands]);simp only[h1,h2]
 |unOp b t x=>have hx:=h x (by simp[ho,Op.operands]);simp only[hx]
 |convert s d x=>have hx:=h x (by simp[ho,Op.operands]);simp only[hx]
 |fieldAddr s x f=>have hx:=h x (by simp[ho,Op.operands]);simp only[hx]
 |indexAddr t x i=>have h1:=h x (by simp[ho,Op.operands]);have h2:=h i (by simp[ho,Op.operands]);simp only[h1,h2]
 |index t x i=>have h1:=h x (by simp[ho,Op.operands]);have h2:=h i (by simp[ho,Op.operands]);simp only[h1,h2]
 |extract x i=>have hx:=h x (by simp[ho,Op.operands]);simp only[hx]
 |makeFunc f fs cs=>
  cases f with
  |func g=>
   dsimp only
   split
   ·exact congrArg (jf _) (Lw fun x hx=>by
     have:=h x (by simp only[ho,Op.operands,Array.mem_append];exact .inr (by simpa using hx))
     rw[this])
   ·rfl
  |_=>rfl
 |slice t x l u m=>
  have hx:=h x (by simp[ho,Op.operands])
  have hl:∀d,iq Pk d l=iq av d l:=fun d=>Gz (fun y e=>h y (by subst e;simp[ho,Op.operands]))
  have hu:∀d,iq Pk d u=iq av d u:=fun d=>Gz (fun y e=>h y (by subst e;simp[ho,Op.operands]))
  have hm:∀d,iq Pk d m=iq av d m:=fun d=>Gz (fun y e=>h y (by subst e;simp[ho,Op.operands]))
  have hs:∀z,vb (T:=T) T.rows Pk t z l u m=vb T.rows av t z l u m:=fun z=>by
   unfold vb
   simp only[hl,hu]
   cases m with
   |none=>rfl
   |some mm=>cases u with
    |none=>rfl
    |some uu=>
     have e1:=hu 0
     have e2:=hm 0
     simp only[e1,e2]
  simp only[hx,hs]
  cases u with
  |none=>cases l<;>cases m<;>rfl
  |some uu=>
   have e1:=h uu (by simp[ho,Op.operands])
   cases l<;>cases m<;>first |rfl |simp only[e1]
 |build t ps=>
  have hp:∀p∈ps.toList,Pk p.2=av p.2:=fun p hp=>h p.2 (by simp only[ho,Op.operands,List.mem_toArray,List.mem_map];exact⟨p,hp,rfl⟩)
  have ha:=WV (xs:=ps.toList.map (·.2)) (fun x hx=>by obtain⟨p,h1,rfl⟩:=List.mem_map.1 hx;exact hp p h1)
  have hb:Bk (T:=T) T.rows Pk t ps.toList=Bk T.rows av t ps.toList:=by
   unfold Bk
   simp only[Lv _ _ hp]
  simp only[ha,hb]
 |buildSlice t len ps=>
  have hp:∀p∈ps.toList,Pk p.2=av p.2:=fun p hp=>h p.2 (by simp only[ho,Op.operands,List.mem_toArray,List.mem_map];exact⟨p,hp,rfl⟩)
  have ha:=WV (xs:=ps.toList.map (·.2)) (fun x hx=>by obtain⟨p,h1,rfl⟩:=List.mem_map.1 hx;exact hp p h1)
  have he:∀(u:Ty) (l:List u.den),elems Pk u ps.toList l=elems av u ps.toList l:=fun u l=>Qq _ _ hp
  simp only[ha,he]
 |makeSlice t l c=>have h1:=h l (by simp[ho,Op.operands]);have h2:=h c (by simp[ho,Op.operands]);simp only[h1,h2]
 |alloc t=>rfl
 |box t v=>have hx:=h v (by simp[ho,Op.operands]);simp only[hx]
 |store t x v=>have h1:=h x (by simp[ho,Op.operands]);have h2:=h v (by simp[ho,Op.operands]);simp only[h1,h2]
 |call c=>
  obtain⟨callee,args,ats⟩:=c
  have hargs:∀x∈args.toList,Pk x=av x:=fun x hx=>h x (by simp only[ho,Op.operands,Call.operands];cases callee<;>simp<;>(try right)<;>simpa using hx)
  cases callee with
  |value f=>
   have hf:=h f (by simp[ho,Op.operands,Call.operands])
   simp only[hf,Vx hargs,WV hargs,YL hargs]
  |builtin b=>
   cases b with
   |len=>
    dsimp only
    split
    ·rename_i x t hx ht
     have h1:=hargs x (by rw[hx];simp)
     simp only[h1]
    ·rfl
   |max=>
    dsimp only
    split
    ·rename_i x y hx
     have h1:=hargs x (by rw[hx];simp)
     have h2:=hargs y (by rw[hx];simp)
     simp only[h1,h2]
    ·rfl
   |min=>
    dsimp only
    split
    ·rename_i x y hx
     have h1:=hargs x (by rw[hx];simp)
     have h2:=hargs y (by rw[hx];simp)
     simp only[h1,h2]
    ·rfl
   |append=>
    dsimp only
    split
    ·rename_i s x t tx hx ht
     have h1:=hargs s (by rw[hx];simp)
     have h2:=hargs x (by rw[hx];simp)
     simp only[h1,h2]
    ·rfl
   |_=>rfl
  |invoke x n=>rfl
 |_=>rfl
end
end Go.Abs
namespace Go.Abs
open Go.RowKit Go.Lib
section
variable {P:Program}{T:cj}{E:Env}{σ σ1 σ2:AS}{Φ:bE T}{ops:Array Oper}
theorem agy (u:TU):(σ.one u).tmps=σ.tmps:=by cases u<;>rfl
theorem ad0 (u:TU):(σ.one u).sites=σ.sites:=by cases u<;>rfl
theorem IQ:∀(us:List TU) (σ:AS),(σ.app us).tmps=σ.tmps
 | [],σ=>rfl
 |u::us,σ=>by rw[AS.app,IQ us,agy]
theorem Ps:∀(us:List TU) (σ:AS),(σ.app us).sites=σ.sites
 | [],σ=>rfl
 |u::us,σ=>by rw[AS.app,Ps us,ad0]
theorem SK (d:Option Tmp)(v:AV):(σ.iH d v).sites=σ.sites:=by cases d<;>rfl
theorem agz (d:Option Tmp)(v:AV):(σ.iH d v).tmps.s=σ.tmps.s:=by
 cases d with
 |none=>rfl
 |some d=>simp only[AS.iH,C6];cases Nat.blt d σ.tmps.n<;>rfl
theorem YM (d:Option Tmp)(v:AV):(σ.iH d v).rows=σ.rows∧(σ.iH d v).boxes=σ.boxes∧(σ.iH d v).ae=σ.ae:=by cases d<;>exact⟨rfl,rfl,rfl⟩
theorem agA {R:Type}(o:Oper)(k:lL→AS→Option R):Kx T Φ σ o k=(Kx T Φ σ o (fun c s=>some (c,s))).bind fun p=>k p.1 p.2:=by
 rw[J4,J4]
 rw[RE]
 conv=>rhs;rw[RE]
 cases (Dj T σ.av σ.sites o).go Φ σ (.M [] []) with
 |none=>rfl
 |some p=>
  obtain⟨c,r1,r2⟩:=p
  cases r2<;>rfl
theorem YN {o:Oper}{c:lL}{σ':AS}(he:Kx T Φ σ o (fun c s=>some (c,s))=some (c,σ')):∃r,(Dj T σ.av σ.sites o).val Φ σ=some r∧σ'=aS σ o.dst r:=by
 rw[J4] at he
 obtain⟨c',r,h1,h2⟩:=acf _ _ he
 refine⟨r,h1, ?_⟩
 unfold aS
 split at h2
 ·rename_i us e;first | (rw[e];simp only[Option.some.injEq,Prod.mk.injEq] at h2;exact h2.2.symm) | (simp only[Option.some.injEq,Prod.mk.injEq] at h2;exact h2.2.symm)
 ·rename_i s e;first | (rw[e];simp only[Option.some.injEq,Prod.mk.injEq] at h2;exact h2.2.symm) | (simp only[Option.some.injEq,Prod.mk.injEq] at h2;exact h2.2.symm)
theorem ai0 {σ2:AS}{xs:Array Operand}(hs:σ2.tmps.s=σ.tmps.s)(h:∀t, .tmp t∈xs→nth σ2.tmps t=nth σ.tmps t):∀x∈xs,σ2.av x=σ.av x:=by
 intro x hx
 cases x with
 |tmp t=>exact h t hx
 |const v=>rfl
 |global g=>simp only[AS.av,eW.av,hs]
 |func f=>rfl
def Local (T:cj)(Φ:bE T)(σ:AS)(o:Oper)(c:lL)(σ':AS):Prop:=
 ∃v us,σ'=(σ.app us).iH o.dst v∧(∀u∈us,∀k∈u.keys,k∈WU c)∧Fits σ us∧∀σ2:AS,σ2.sites=σ.sites→(∀x∈o.op.operands,σ2.av x=σ.av x)→(∀k,k∈agx c∨k∈WU c→mz σ σ2 k)→
  Kx T Φ σ2 o (fun c s=>some (c,s))=some (c,(σ2.app us).iH o.dst v)
theorem agB {o:Oper}{c:lL}{σ':AS}(he:Kx T Φ σ o (fun c s=>some (c,s))=some (c,σ'))(hc:c≠ .X):Local T Φ σ o c σ':=by
 have he0:=he
 rw[J4] at he
 rw[RE,Option.bind_eq_some_iff] at he
 obtain⟨⟨c',r⟩,h1,h2⟩:=he
 have hv:(Dj T σ.av σ.sites o).val Φ σ=some r:=by
  obtain⟨c2,r2,h3,h4⟩:=acf _ _ h1
  simp only[Option.some.injEq,Prod.mk.injEq] at h4
  rw[←h4.2];exact h3
 have hok:=ags (akb σ.av σ.sites o) hv
 dsimp only at h2
 unfold uh at hok
 split at h2
 ·rename_i us e
  rw[e] at hok
  simp only[Option.some.injEq,Prod.mk.injEq] at h2
  obtain⟨rfl,rfl⟩:=h2
  have hc':c'≠ .X:=fun e'=>hc (by rw[e'];rfl)
  obtain⟨l,rfl,hl⟩:=aiZ _ _ _ _ _ _ h1 hc'
  refine⟨r.1,us,rfl,fun u hu k hk=> ?_,hok,fun σ2 hs p5 hk=> ?_⟩
  ·show k∈X6 us++[]
   rw[List.append_nil]
   exact List.mem_flatMap.2 ⟨u,hu,hk⟩
  ·rw[J4]
   rw[adZ (av:=σ.av) p5,hs,RE]
   rw[hl σ2 (fun k hk'=>hk k (.inl (by show k∈l++[];simpa using hk')))]
   simp only[Option.bind_some,e]
 ·simp only[Option.some.injEq,Prod.mk.injEq] at h2
  exact absurd h2.1.symm hc
theorem YO (l:eW)(t d:Nat)(v:AV)(h:t≠d):nth (C6 l d v) t=nth l t:=by
 unfold C6
 cases Nat.blt d l.n with
 |true=>simp only[cond_true,nth,UY,if_neg (Ne.symm h)]
 |false=>rfl
theorem ad1 {α:Type}(l:List (Nat×α)){i j:Nat}(u v:α)(h:i≠j):Mc (Mc l i u) j v=Mc (Mc l j v) i u:=by
 have Qg:∀{a b:Nat},a<b→Nat.blt a b=true:=fun h=>(te _ _).2 h
 have Qh:∀{a b:Nat},¬a<b→Nat.blt a b=false:=fun h=>by
  cases hb:Nat.blt _ _
  ·rfl
  ·exact absurd ((te _ _).1 hb) h
 induction l with
 |nil=>
  rcases Nat.lt_or_gt_of_ne h with h1 |h1
  ·simp[Mc,Qg h1,Qh (show ¬j<i by omega),lM (Ne.symm h)]
  ·simp[Mc,Qg h1,Qh (show ¬i<j by omega),lM h]
 |cons p r ih=>
  obtain⟨k,x⟩:=p
  rcases Nat.lt_trichotomy k i with h1 |h1 |h1<;>rcases Nat.lt_trichotomy k j with h2 |h2 |h2<;>rcases Nat.lt_or_gt_of_ne h with h3 |h3<;>
   first
   |omega
   | (try subst h1
      try subst h2
      simp (disch:=omega) [Mc,Qg,Qh,lM,beq_refl,ih])
theorem ad2 (l:eW)(i j:Nat)(u v:AV)(h:i≠j):C6 (C6 l i u) j v=C6 (C6 l j v) i u:=by
 unfold C6
 cases hi:Nat.blt i l.n<;>cases hj:Nat.blt j l.n<;>simp[hi,hj]
 exact ad1 _ _ _ h
theorem acz {α:Type}:∀{l:List (Nat×α)} {t:Nat} {x:α},look l t=some x→aix l t x=l
 | [],_,_,h=>by cases h
 | (k,u)::r,t,x,h=>by
   simp only[look] at h
   simp only[aix]
   cases hb:Nat.beq k t with
   |true=>rw[hb] at h;have e:u=x:=by simpa using h
          subst e;rfl
   |false=>rw[hb] at h;simp only[cond_false];rw[acz h]
theorem WW {t:Nat}{b:Bool}(h:nth σ.tmps t= .rv (.cv ⟨.bool,b⟩)):σ.Me t b=σ:=by
 unfold AS.Me
 have:look σ.tmps.l t=some (.rv (.cv ⟨.bool,b⟩)):=by
  unfold nth at h
  split at h
  ·rename_i x hx;rw[hx,h]
  ·cases h
 obtain⟨⟨n,l,sv⟩,rows,boxes,ae,trace,b4,sites⟩:=σ
 simp only at this ⊢
 rw[acz this]
theorem ad3 {R:Type}{o:Oper}(hg:o.guard=none)(k:lL→AS→Option R):Iz T Φ ops σ o k=Kx T Φ σ o k:=by
 unfold Iz;rw[hg]
theorem ad4 {R:Type}{o:Oper}{j t:Nat}{want b:Bool}(hg:o.guard=some (j,want))(ht:(ops[j]?).bind (·.dst)=some t)(hb:nth σ.tmps t= .rv (.cv ⟨.bool,b⟩))(k:lL→AS→Option R):
  Iz T Φ ops σ o k=if b=want then Kx T Φ σ o k else k (.M [] []) (σ.iH o.dst (.lit undef)):=by
 unfold Iz
 simp only[hg,ht,hb]
 cases b<;>cases want<;>simp[WW hb,RZ]
theorem agC {R:Type}{o:Oper}{j t:Nat}{want:Bool}{vs:Array Value}(hg:o.guard=some (j,want))(ht:(ops[j]?).bind (·.dst)=some t)(hb:nth σ.tmps t= .lit (.tuple vs))(k:lL→AS→Option R):
  Iz T Φ ops σ o k=k (.M [] []) (σ.iH o.dst (.lit undef)):=by
 unfold Iz
 simp only[hg,ht,hb,RZ]
theorem aaY {R:Type}{o:Oper}{j:Nat}{want:Bool}(hg:o.guard=some (j,want))(h:∀t,(ops[j]?).bind (·.dst)=some t→(∀b,nth σ.tmps t≠ .rv (.cv ⟨.bool,b⟩))∧∀vs,nth σ.tmps t≠ .lit (.tuple vs))(k:lL→AS→Option R):
  Iz T Φ ops σ o k=none:=by
 unfold Iz
 rw[hg]
 simp only
 split
 ·rename_i t ht
  obtain⟨h1,h2⟩:=h t ht
  split
  ·rename_i b hb;exact absurd hb (h1 b)
  ·rename_i vs hb;exact absurd hb (h2 vs)
  ·rfl
 ·rfl
def Way (ops:Array Oper)(o:Oper)(σ:AS)(run:Bool):Prop:=
 match o.guard with
 |none=>run=true
 |some (j,want)=>∃t,(ops[j]?).bind (·.dst)=some t∧((∃b,nth σ.tmps t= .rv (.cv ⟨.bool,b⟩)∧run=(b==want))∨(∃vs,nth σ.tmps t= .lit (.tuple vs)∧run=false))
theorem ak3 {R:Type}{o:Oper}{run:Bool}(h:Way ops o σ run)(k:lL→AS→Option R):Iz T Φ ops σ o k=if run then Kx T Φ σ o k else k (.M [] []) (σ.iH o.dst (.lit undef)):=by
 unfold Way at h
 split at h
 ·rename_i hg;subst h;rw[ad3 hg];rfl
 ·rename_i j want hg
  obtain⟨t,ht,⟨b,hb,rfl⟩ | ⟨vs,hb,rfl⟩⟩:=h
  ·rw[ad4 hg ht hb];cases b<;>cases want<;>rfl
  ·rw[agC hg ht hb];rfl
theorem ak4 {R:Type}{o:Oper}{k:lL→AS→Option R}{r:R}(h:Iz T Φ ops σ o k=some r):∃run,Way ops o σ run:=by
 cases hg:o.guard with
 |none=>exact⟨true,by unfold Way;rw[hg]⟩
 |some p=>
  obtain⟨j,want⟩:=p
  by_cases hx:∃t,(ops[j]?).bind (·.dst)=some t∧((∃b,nth σ.tmps t= .rv (.cv ⟨.bool,b⟩))∨∃vs,nth σ.tmps t= .lit (.tuple vs))
  ·obtain⟨t,ht,⟨b,hb⟩ | ⟨vs,hb⟩⟩:=hx
   ·exact⟨b==want,by unfold Way;rw[hg];exact⟨t,ht, .inl ⟨b,hb,rfl⟩⟩⟩
   ·exact⟨false,by unfold Way;rw[hg];exact⟨t,ht, .inr ⟨vs,hb,rfl⟩⟩⟩
  ·rw[aaY hg (fun t ht=>⟨fun b hb=>hx ⟨t,ht, .inl ⟨b,hb⟩⟩,fun vs hb=>hx ⟨t,ht, .inr ⟨vs,hb⟩⟩⟩)] at h
   cases h
def Tr (T:cj)(Φ:bE T)(ops:Array Oper)(o:Oper)(σ:AS)(c:lL)(σ':AS):Prop:=
 ∃run,Way ops o σ run∧(if run then Kx T Φ σ o (fun c s=>some (c,s))=some (c,σ') else c= .M [] []∧σ'=σ.iH o.dst (.lit undef))
theorem ai1 {R:Type}{o:Oper}{k:lL→AS→Option R}{r:R}(h:Iz T Φ ops σ o k=some r):∃c σ',Tr T Φ ops o σ c σ'∧k c σ'=some r:=by
 obtain⟨run,hw⟩:=ak4 h
 rw[ak3 hw] at h
 cases run with
 |true=>
  simp only[if_true] at h
  rw[agA] at h
  obtain⟨p,hp,h2⟩:=Option.bind_eq_some_iff.1 h
  exact⟨p.1,p.2,⟨true,hw,by simpa using hp⟩,h2⟩
 |false=>exact⟨.M [] [],_,⟨false,hw,rfl,rfl⟩,h⟩
theorem ana {o:Oper}{c:lL}{σ':AS}(h:Tr T Φ ops o σ c σ'):Fr σ σ':=by
 obtain⟨run,hw,h⟩:=h
 cases run with
 |true=>
  simp only[if_true] at h
  obtain⟨r,h1,rfl⟩:=YN h
  exact Fr.res (ags (akb σ.av σ.sites o) h1) _
 |false=>
  obtain⟨_,rfl⟩:=h
  exact(Fr.refl σ).iH _ _
theorem YP {o:Oper}{c:lL}{σ':AS}(h:Tr T Φ ops o σ c σ')(hc:c≠ .X):∃v us,σ'=(σ.app us).iH o.dst v∧(∀u∈us,∀k∈u.keys,k∈WU c)∧Fits σ us∧
  ∀σ2:AS,σ2.sites=σ.sites→σ2.tmps.s=σ.tmps.s→(∀t∈o.looksAt ops,nth σ2.tmps t=nth σ.tmps t)→(∀k,k∈agx c∨k∈WU c→mz σ σ2 k)→Tr T Φ ops o σ2 c ((σ2.app us).iH o.dst v):=by
 obtain⟨run,hw,h⟩:=h
 have anb:∀σ2:AS,(∀t∈o.looksAt ops,nth σ2.tmps t=nth σ.tmps t)→Way ops o σ2 run:=fun σ2 hs=>by
  unfold Way at hw ⊢
  cases hg:o.guard with
  |none=>simp only[hg] at hw;exact hw
  |some p=>
   obtain⟨j,want⟩:=p
   simp only[hg] at hw
   obtain⟨t,ht,hor⟩:=hw
   have:=hs t (by simp[Oper.looksAt,hg,ht])
   exact⟨t,ht,by rw[this];exact hor⟩
 cases run with
 |true=>
  simp only[if_true] at h
  obtain⟨v,us,h1,h2,h3,h4⟩:=agB h hc
  refine⟨v,us,h1,h2,h3,fun σ2 hsi hss hs hk=> ?_⟩
  have hop:∀x∈o.op.operands,σ2.av x=σ.av x:=ai0 hss (fun t ht=>hs t (by simp only[Oper.looksAt,List.mem_append,List.mem_filterMap];exact .inl ⟨.tmp t,by simpa using ht,rfl⟩))
  exact⟨true,anb σ2 hs,by simpa using h4 σ2 hsi hop hk⟩
 |false=>
  obtain⟨rfl,rfl⟩:=h
  exact⟨.lit undef,[],rfl,(fun u hu=>by cases hu),trivial,fun σ2 _ _ hs hk=>⟨false,anb σ2 hs,rfl,rfl⟩⟩
theorem SL:∀(us:List TU) (σ:AS) (d:Option Tmp) (v:AV),(σ.iH d v).app us=(σ.app us).iH d v
 | [],σ,d,v=>rfl
 |u::us,σ,d,v=>by
  have:(σ.iH d v).one u=(σ.one u).iH d v:=by cases u<;>cases d<;>rfl
  rw[AS.app,this,SL us];rfl
theorem agD {u:TU}{k:Nat}(h:k∉u.keys)(hf:u.fits σ):mz σ (σ.one u) k:=by
 cases u with
 |row q r=>
  simp only[TU.keys,List.mem_cons,List.not_mem_nil,or_false,not_or] at h
  refine⟨fun r' e=> ?_,fun b e=>rfl,fun r' e=> ?_,fun _ _=>rfl⟩
  ·simp only[AS.one,aA];rw[if_neg];intro e';exact h.1 (by rw[e,e'])
  ·simp only[AS.one,aA];rw[if_neg];intro e';exact h.2 (by rw[e,e'])
 |Iu q r=>
  simp only[TU.keys,List.mem_cons,List.not_mem_nil,or_false] at h
  refine⟨fun r' e=> ?_,fun b e=>rfl,fun r' e=> ?_,fun _ _=>rfl⟩
  ·simp only[AS.one,aA];rw[if_neg];intro e';exact h (by rw[e,e'])
  ·simp only[AS.one,aA]
   split
   ·rename_i e';subst e';exact hf.symm
   ·rfl
 |box q x=>
  simp only[TU.keys,List.mem_cons,List.not_mem_nil,or_false] at h
  refine⟨fun r' e=>rfl,fun b e=> ?_,fun r' e=>rfl,fun _ _=>rfl⟩
  simp only[AS.one,aA];rw[if_neg];intro e';exact h (by rw[e,e'])
 |heap q x=>
  simp only[TU.keys,List.mem_cons,List.not_mem_nil,or_false] at h
  refine⟨fun r' e=>rfl,fun b e=>rfl,fun r' e=>rfl,fun h' e=> ?_⟩
  simp only[AS.one]
  rw[List.getElem?_set_ne]
  intro e';exact h (by rw[e,e'])
theorem SM:∀(us:List TU) (σ:AS) (k:Nat),(∀u∈us,k∉u.keys)→Fits σ us→mz σ (σ.app us) k
 | [],σ,k,h,hf=>mz.refl _ _
 |u::us,σ,k,h,hf=>(agD (h u (by simp)) hf.1).trans (SM us (σ.one u) k (fun v hv=>h v (by simp[hv])) hf.2)
theorem aaZ {u:TU}{k:Nat}(h:mz σ σ2 k):mz (σ.one u) (σ2.one u) k:=by
 cases u with
 |row q r=>
  refine⟨fun r' e=> ?_,h.2.1,fun r' e=> ?_,h.2.2.2⟩
  ·simp only[AS.one,aA];split
   ·rfl
   ·exact h.1 r' e
  ·simp only[AS.one,aA];split
   ·rfl
   ·exact h.2.2.1 r' e
 |Iu q r=>
  refine⟨fun r' e=> ?_,h.2.1,fun r' e=> ?_,h.2.2.2⟩
  ·simp only[AS.one,aA];split
   ·rfl
   ·exact h.1 r' e
  ·simp only[AS.one,aA];split
   ·rfl
   ·exact h.2.2.1 r' e
 |box q x=>
  refine⟨h.1,fun r' e=> ?_,h.2.2.1,h.2.2.2⟩
  simp only[AS.one,aA];split
  ·rfl
  ·exact h.2.1 r' e
 |heap q x=>
  refine⟨h.1,h.2.1,h.2.2.1,fun h' e=> ?_⟩
  have h0:=h.2.2.2 h' e
  simp only[AS.one]
  by_cases e':q=h'
  ·subst e'
   by_cases hl:q<σ.ae.length
   ·have hl2:q<σ2.ae.length:=by
     have:=List.getElem?_eq_getElem hl
     rw[←h0] at this
     exact(List.getElem?_eq_some_iff.1 this).1
    rw[List.getElem?_set_self hl,List.getElem?_set_self hl2]
   ·have hl2:¬q<σ2.ae.length:=fun hl2=>by
     have:=List.getElem?_eq_getElem hl2
     rw[h0] at this
     exact hl (List.getElem?_eq_some_iff.1 this).1
    rw[List.getElem?_eq_none (by simp;omega),List.getElem?_eq_none (by simp;omega)]
  ·rw[List.getElem?_set_ne e',List.getElem?_set_ne e'];exact h0
theorem Vy:∀{us:List TU} {σ σ2:AS},Fits σ us→(∀u∈us,∀k∈u.keys,mz σ σ2 k)→Fits σ2 us
 | [],_,_,_,_=>trivial
 |u::us,σ,σ2,h,hs=>by
  refine⟨?_,Vy h.2 (fun v hv k hk=>aaZ (hs v (by simp[hv]) k hk))⟩
  have h1:=h.1
  cases u with
  |Iu q r=>
   have:=(hs (.Iu q r) (by simp) (4*q) (by simp[TU.keys])).1 q rfl
   show (look σ2.rows q).map _=_
   rw[this];exact h1
  |_=>trivial
theorem agE {u v:TU}(h:∀k∈u.keys,k∉v.keys):(σ.one u).one v=(σ.one v).one u:=by
 have rr:∀(q q':Nat) (r r':Row),q≠q'→put (put σ.rows q r) q' r'=put (put σ.rows q' r') q r:=fun q q' r r' e=>put_comm _ _ _ e
 cases u with
 |row q r=>cases v with
  |row q' r'=>simp only[AS.one];rw[rr];intro e;exact h (4*q) (by simp[TU.keys]) (by simp[TU.keys,e])
  |Iu q' r'=>simp only[AS.one];rw[rr];intro e;exact h (4*q) (by simp[TU.keys]) (by simp[TU.keys,e])
  |_=>rfl
 |Iu q r=>cases v with
  |row q' r'=>simp only[AS.one];rw[rr];intro e;exact h (4*q) (by simp[TU.keys]) (by simp[TU.keys,e])
  |Iu q' r'=>simp only[AS.one];rw[rr];intro e;exact h (4*q) (by simp[TU.keys]) (by simp[TU.keys,e])
  |_=>rfl
 |box q x=>cases v with
  |box q' x'=>simp only[AS.one];rw[put_comm];intro e;exact h (2*q+1) (by simp[TU.keys]) (by simp[TU.keys,e])
  |_=>rfl
 |heap q x=>cases v with
  |heap q' x'=>simp only[AS.one];rw[List.set_comm];intro e;exact h (hk q) (by simp[TU.keys]) (by simp[TU.keys,e])
  |_=>rfl
theorem acA:∀(us:List TU) (σ:AS) (u:TU),(∀v∈us,∀k∈u.keys,k∉v.keys)→(σ.one u).app us=(σ.app us).one u
 | [],σ,u,h=>rfl
 |v::us,σ,u,h=>by
  rw[AS.app,agE (h v (by simp)),acA us (σ.one v) u (fun x hx=>h x (by simp[hx]))];rfl
theorem YQ:∀(us vs:List TU) (σ:AS),(∀u∈us,∀v∈vs,∀k∈u.keys,k∉v.keys)→(σ.app us).app vs=(σ.app vs).app us
 | [],vs,σ,h=>rfl
 |u::us,vs,σ,h=>by
  rw[AS.app,YQ us vs (σ.one u) (fun x hx v hv=>h x (by simp[hx]) v hv),acA vs σ u (fun v hv=>h u (by simp) v hv)];rfl
theorem ad5 {σ:AS}{d d':Option Tmp}{u v:AV}(h:∀x,d=some x→d'≠some x):(σ.iH d u).iH d' v=(σ.iH d' v).iH d u:=by
 cases d with
 |none=>cases d'<;>rfl
 |some x=>
  cases d' with
  |none=>rfl
  |some y=>
   simp only[AS.iH]
   rw[ad2 _ _ _ _ _ (fun e=>h x rfl (by rw[e]))]
theorem Dx {a b:List Nat}(h:meets a b=false):∀x∈a,∀y∈b,x≠y:=by
 intro x hx y hy e
 have:meets a b=true:=by
  unfold meets
  rw[List.any_eq_true]
  exact⟨x,hx,by rw[List.any_eq_true];exact⟨y,hy,(beq_iff _ _).2 e⟩⟩
 rw[this] at h;cases h
theorem YR {c1 c2:lL}(h:Gj c1 c2=true):c1≠ .X∧c2≠ .X∧(∀x∈WU c1,∀y,y∈agx c2∨y∈WU c2→x≠y)∧(∀x∈WU c2,∀y,y∈agx c1∨y∈WU c1→x≠y):=by
 cases c1 with
 |X=>simp[Gj] at h
 |M r w=>
  cases c2 with
  |X=>simp[Gj] at h
  |M r' w'=>
   simp only[Gj,Bool.not_eq_true',Bool.or_eq_false_iff] at h
   obtain⟨⟨h1,h2⟩,h3⟩:=h
   refine⟨by simp,by simp,fun x hx y hy=> ?_,fun x hx y hy=> ?_⟩
   ·rcases hy with hy |hy
    ·exact Dx h1 x hx y hy
    ·exact Dx h2 x hx y hy
   ·rcases hy with hy |hy
    ·exact fun e=>Dx h3 y hy x hx e.symm
    ·exact fun e=>Dx h2 y hy x hx e.symm
theorem YS {σ:AS}{d:Option Tmp}{v:AV}{t:Nat}(h:d≠some t):nth (σ.iH d v).tmps t=nth σ.tmps t:=by
 cases d with
 |none=>rfl
 |some d=>exact YO _ _ _ _ (fun e=>h (by rw[e]))
theorem Vz {d:Option Tmp}{v:AV}(k:Nat):mz σ (σ.iH d v) k:=by
 obtain⟨h1,h2,h3⟩:=YM (σ:=σ) d v
 exact⟨fun _ _=>by rw[h1],fun _ _=>by rw[h2],fun _ _=>by rw[h1],fun _ _=>by rw[h3]⟩
theorem ai2 {o1 o2:Oper}{c1 c2:lL}(h1:Tr T Φ ops o1 σ c1 σ1)(h2:Tr T Φ ops o2 σ1 c2 σ2)(ha:o1.apart ops o2=true)(hn:Gj c1 c2=true):
  ∃σ1',Tr T Φ ops o2 σ c2 σ1'∧Tr T Φ ops o1 σ1' c1 σ2:=by
 obtain⟨n1,n2,n3,n4⟩:=YR hn
 obtain⟨v1,us1,rfl,k1,f1,l1⟩:=YP h1 n1
 obtain⟨v2,us2,rfl,k2,f2,l2⟩:=YP h2 n2
 obtain⟨p1,p2,p3⟩:=Oper.apart_spec ha
 have sa:∀k,k∈agx c2∨k∈WU c2→mz σ ((σ.app us1).iH o1.dst v1) k:=fun k hk=>
  (SM us1 σ k (fun u hu hm=>n3 k (k1 u hu k hm) k hk rfl) f1).trans (Vz k)
 have e2:=l2 σ (by rw[SK,Ps]) (by rw[agz,IQ]) (fun t ht=>by
   rw[YS (fun e=>p1 t e ht),IQ]) (fun k hk=>(sa k hk).symm)
 have f2':Fits σ us2:=Vy f2 (fun u hu k hk=>(sa k (.inr (k2 u hu k hk))).symm)
 refine⟨_,e2, ?_⟩
 have e1:=l1 ((σ.app us2).iH o2.dst v2) (by rw[SK,Ps]) (by rw[agz,IQ]) (fun t ht=>by
   rw[YS (fun e=>p3 t e ht),IQ]) (fun k hk=>(SM us2 σ k (fun u hu hm=>n4 k (k2 u hu k hm) k hk rfl) f2').trans (Vz k))
 rw[SL,YQ us2 us1 σ (fun u hu v hv k hk hk'=>n4 k (k2 u hu k hk) k (.inr (k1 v hv k hk')) rfl)] at e1
 rw[SL,ad5 (fun x e=>p2 x e)]
 exact e1
end
end Go.Abs
namespace Go.Abs
open Go.RowKit Go.Lib
def yl (E:Env):Prop:=∀tr tr',oK tr tr'→E.acc tr'→E.acc tr
section
variable {P:Program}{T:cj}{E:Env}{σ σ1 σ2 σe:AS}{a:Act}{w w':World}{ν ν':Nm→Value}{O:Nat→Prop}{Φ:bE T}{ops:Array Oper}{Q:Exit→Act→World→Prop}{rr:Option Nat}
theorem getD_some {l:Array Value}{t:Nat}{v:Value}(h:l.toList.getD t undef=v)(hv:v≠undef):l[t]? =some v:=by
 simp only[List.getD_eq_getElem?_getD,Array.getElem?_toList] at h
 cases hl:l[t]? with
 |none=>rw[hl] at h;exact absurd h.symm hv
 |some u=>rw[hl] at h;simpa using h
theorem aa0 (h:St E σ a w ν O){o:Oper}{run:Bool}(hw:Way ops o σ run):Region.wanted o (yielded ops a.tmps)=run:=by
 unfold Way at hw
 unfold Region.wanted
 cases hg:o.guard with
 |none=>simp only[hg] at hw ⊢;exact hw.symm
 |some p=>
  obtain⟨j,want⟩:=p
  simp only[hg] at hw ⊢
  obtain⟨t,ht,⟨b,hb,rfl⟩ | ⟨vs,hb,rfl⟩⟩:=hw
  ·have hr:=Nx (fun v=>by trivial) h.slots t
   rw[hb] at hr
   have h1:a.tmps.toList.getD t undef= .bool b:=U1 (V:=view E σ ν O w) hr
   have h2:=getD_some h1 (by intro e;cases e)
   unfold yielded
   rw[ht]
   simp[h2]
  ·have hr:=Nx (fun v=>by trivial) h.slots t
   rw[hb] at hr
   have h1:a.tmps.toList.getD t undef= .tuple vs:=hr
   unfold yielded
   rw[ht]
   simp only[Option.bind_some]
   cases hl:a.tmps[t]? with
   |none=>rfl
   |some u=>
    have:u= .tuple vs:=by
     simp only[List.getD_eq_getElem?_getD,Array.getElem?_toList,hl] at h1
     simpa using h1
    subst this
    rfl
theorem YT (C:Ctx P T Φ E)(h:St E σ a w ν O){i:Nat}{o:Oper}(ho:ops[i]? =some o){c:lL}{σ':AS}(ht:Tr T Φ ops o σ c σ')(hacc:E.acc σ'.trace)
  {K:Act→World→Prop} (hK:∀a' w',To E σ' a' w'→K a' w'):wpOpIn (FW rr) 0 P ops Q i K a w:=by
 obtain⟨run,hw,ht⟩:=ht
 unfold wpOpIn
 rw[ho]
 simp only[aa0 h hw]
 cases run with
 |true=>
  simp only[if_true] at ht ⊢
  obtain⟨r,h1,rfl⟩:=YN ht
  exact agr C h h1 hacc rr K Q hK
 |false=>
  obtain⟨rfl,rfl⟩:=ht
  exact⟨fun _ _=>trivial,hK _ _ ⟨ν,O,h.slot (x:= .lit undef) rfl⟩⟩
def aa1 (T:cj)(Φ:bE T)(ops:Array Oper):List (Nat×Oper×lL)→AS→AS→Prop
 | [],σ,σe=>σe=σ
 | (_,o,c)::r,σ,σe=>∃σ1,Tr T Φ ops o σ c σ1∧aa1 T Φ ops r σ1 σe
theorem SN:∀{L:List (Nat×Oper×lL)} {σ:AS},aa1 T Φ ops L σ σe→Fr σ σe
 | [],σ,h=>by have:σe=σ:=h;subst this;exact Fr.refl _
 | (_,o,c)::r,σ,⟨σ1,h1,h2⟩=>(ana h1).trans (SN h2)
def Bv:Nat→List Oper→List lL→List (Nat×Oper×lL)
 |i,o::l,c::cs=>(i,o,c)::Bv (i+1) l cs
 |_,_,_=>[]
theorem Pt {R:Type}:∀(l:List Oper) (i:Nat) (σ:AS) (cs:List lL) (k:List lL→AS→Option R) (r:R),UX T Φ ops l σ cs k=some r→
  ∃(t:List lL) (σe:AS),t.length=l.length∧aa1 T Φ ops (Bv i l t) σ σe∧k (t.reverse++cs) σe=some r
 | [],i,σ,cs,k,r,h=>⟨[],σ,rfl,rfl,h⟩
 |o::l,i,σ,cs,k,r,h=>by
  obtain⟨c,σ1,h1,h2⟩:=ai1 h
  obtain⟨t,σe,h3,h4,h5⟩:=Pt l (i+1) σ1 (c::cs) k r h2
  exact⟨c::t,σe,by simp[h3],⟨σ1,h1,h4⟩,by simpa using h5⟩
theorem NP:∀(l:List Oper) (i:Nat) (t:List lL) (x:Nat×Oper×lL),x∈Bv i l t→i≤x.1∧l[x.1 - i]? =some x.2.1∧t[x.1 - i]? =some x.2.2
 | [],i,t,x,h=>by simp[Bv] at h
 |o::l,i,[],x,h=>by simp[Bv] at h
 |o::l,i,c::t,x,h=>by
  simp only[Bv,List.mem_cons] at h
  rcases h with rfl |h
  ·exact⟨Nat.le_refl _,by simp,by simp⟩
  ·obtain⟨h1,h2,h3⟩:=NP l (i+1) t x h
   have:x.1 - i=(x.1 - (i+1))+1:=by omega
   exact⟨by omega,by rw[this];simpa using h2,by rw[this];simpa using h3⟩
theorem YU:∀(l:List Oper) (i:Nat) (t:List lL),t.length=l.length→∀p o,l[p]? =some o→∃c,(i+p,o,c)∈Bv i l t
 | [],i,t,ht,p,o,h=>by simp at h
 |o'::l,i,[],ht,p,o,h=>by simp at ht
 |o'::l,i,c::t,ht,0,o,h=>by
  simp at h;subst h
  exact⟨c,by simp[Bv]⟩
 |o'::l,i,c::t,ht,p+1,o,h=>by
  obtain⟨c',h1⟩:=YU l (i+1) t (by simpa using ht) p o (by simpa using h)
  refine⟨c', ?_⟩
  simp only[Bv,List.mem_cons]
  right
  have:i+(p+1)=i+1+p:=by omega
  rw[this];exact h1
theorem YV:∀(l:List Oper) (i:Nat) (t:List lL),(Bv i l t).length≤l.length
 | [],i,t=>by simp[Bv]
 |o::l,i,[]=>by simp[Bv]
 |o::l,i,c::t=>by simp[Bv,YV l (i+1) t]
theorem Qr:∀(l:List Oper) (i:Nat) (t:List lL),(Bv i l t).Pairwise fun x y=>x.1<y.1
 | [],i,t=>by simp[Bv]
 |o::l,i,[]=>by simp[Bv]
 |o::l,i,c::t=>by
  simp only[Bv,List.pairwise_cons]
  exact⟨fun y hy=>by have:=(NP l (i+1) t y hy).1;show i<y.1;omega,Qr l (i+1) t⟩
theorem YW (C:Ctx P T Φ E)(hD:yl E)(hacc:E.acc σe.trace):∀(l pre:List Oper) (t:List lL) (σ:AS) (a:Act) (w:World) (ν:Nm→Value) (O:Nat→Prop),ops.toList=pre++l→t.length=l.length→
  St E σ a w ν O→aa1 T Φ ops (Bv pre.length l t) σ σe→(∀a' w',To E σe a' w'→Q .normal a' w')→wpOpsIn (FW rr) 0 P ops Q (List.range' pre.length l.length) a w
 | [],pre,t,σ,a,w,ν,O,hop,ht,h,hr,hQ=>by
   have:σe=σ:=by cases t<;>exact hr
   subst this
   exact hQ _ _ ⟨ν,O,h⟩
 |o::l,pre,[],σ,a,w,ν,O,hop,ht,h,hr,hQ=>by simp at ht
 |o::l,pre,c::t,σ,a,w,ν,O,hop,ht,h,hr,hQ=>by
  obtain⟨σ1,h1,h2⟩:=hr
  rw[List.length_cons,List.range'_succ,wpOpsIn_cons]
  have ho:ops[pre.length]? =some o:=by
   rw[←Array.getElem?_toList,hop];simp
  refine YT C h ho h1 (hD _ _ (SN h2).tr hacc) (fun a' w' ⟨ν',O',h'⟩=> ?_)
  have:=YW C hD hacc l (pre++[o]) t σ1 a' w' ν' O' (by rw[hop];simp) (by simpa using ht) h' (by simpa using h2) hQ
  simpa using this
theorem VA:∀(L1 L2:List (Nat×Oper×lL)) (x:Nat×Oper×lL) (σ:AS),aa1 T Φ ops (L1++x::L2) σ σe→(∀y∈L1,y.2.1.apart ops x.2.1=true∧Gj y.2.2 x.2.2=true)→
  ∃σ1,Tr T Φ ops x.2.1 σ x.2.2 σ1∧aa1 T Φ ops (L1++L2) σ1 σe
 | [],L2,x,σ,h,_=>h
 |y::L1,L2,x,σ,h,hy=>by
  obtain⟨σ1,h1,h2⟩:=h
  obtain⟨σ2,h3,h4⟩:=VA L1 L2 x σ1 h2 (fun z hz=>hy z (by simp[hz]))
  obtain⟨p1,p2⟩:=hy y (by simp)
  obtain⟨σ1',h5,h6⟩:=ai2 h1 h3 p1 p2
  exact⟨σ1',h5,σ2,h6,h4⟩
theorem ai3 (C:Ctx P T Φ E)(hD:yl E)(hacc:E.acc σe.trace){A:Nat→Nat}(hQ:∀a' w',To E σe a' w'→Q .normal a' w')
  (anc:∀j o,ops[j]? =some o→∀e∈o.after,Region.binds .any e=true→e.on<j)
  (apg:∀j o i,ops[j]? =some o→(A j).testBit i=true→∃e∈o.after,Region.binds .any e=true∧(i=e.on∨(A e.on).testBit i=true)):
  ∀(fuel:Nat) (L:List (Nat×Oper×lL)) (listed:Array Bool) (σ:AS) (a:Act) (w:World) (ν:Nm→Value) (O:Nat→Prop),
   (∀x∈L,ops[x.1]? =some x.2.1)→(∀i,i<ops.size→(listed.getD i true=false↔∃x∈L,x.1=i))→listed.size=ops.size→
   (∀m om,listed.getD m false=true→ops[m]? =some om→∀e∈om.after,Region.binds .any e=true→listed.getD e.on false=true)→
   L.Pairwise (fun x y=>x.1<y.1)→L.Pairwise (fun x y=>(A y.1).testBit x.1=true∨(x.2.1.apart ops y.2.1=true∧Gj x.2.2 y.2.2=true))→
   aa1 T Φ ops L σ σe→St E σ a w ν O→L.length≤fuel→wpAnyIn (FW rr) 0 P .any ops Q fuel listed a w:=by
 intro fuel
 induction fuel with
 |zero=>
  intro L listed σ a w ν O hL SO hsz hcl hsort agF hrun h hf
  have hL0:L=[]:=List.eq_nil_of_length_eq_zero (by omega)
  subst hL0
  have hr:σe=σ:=hrun
  subst hr
  refine⟨?_,hQ _ _ ⟨ν,O,h⟩⟩
  apply List.eq_nil_iff_forall_not_mem.2
  intro i hi
  obtain⟨h1,o,ho,_⟩:=mem_ready.1 hi
  obtain⟨x,hx,_⟩:=(SO i (Array.getElem?_eq_some_iff.1 ho).1).1 h1
  cases hx
 |succ fuel ih=>
  intro L listed σ a w ν O hL SO hsz hcl hsort agF hrun h hf
  have agG:∀i,i<ops.size→listed.getD i true=listed.getD i false:=fun i hi=>by
   simp[Array.getD,hsz,hi]
  refine⟨fun aph=> ?_,fun i hi=> ?_⟩
  ·cases L with
   |nil=>
    have hr:σe=σ:=hrun
    subst hr
    exact hQ _ _ ⟨ν,O,h⟩
   |cons x L=>
    exfalso
    have hox:=hL x (by simp)
    have hlt:=(Array.getElem?_eq_some_iff.1 hox).1
    have:x.1∈Region.ready .any ops listed:=by
     refine mem_ready.2 ⟨(SO x.1 hlt).2 ⟨x,by simp,rfl⟩,x.2.1,hox,fun e he hb=> ?_⟩
     have h1:=anc x.1 x.2.1 hox e he hb
     have h2:¬listed.getD e.on true=false:=fun hf'=>by
      obtain⟨y,hy,hye⟩:=(SO e.on (by omega)).1 hf'
      rcases List.mem_cons.1 hy with rfl |hy
      ·omega
      ·have:=(List.pairwise_cons.1 hsort).1 y hy;omega
     rw[←agG e.on (by omega)]
     cases hb':listed.getD e.on true
     ·exact absurd hb' h2
     ·rfl
    rw[aph] at this;cases this
  ·obtain⟨h1,o,ho,hall⟩:=mem_ready.1 hi
   have hlt:=(Array.getElem?_eq_some_iff.1 ho).1
   obtain⟨x,hx,rfl⟩:=(SO i hlt).1 h1
   obtain⟨L1,L2,rfl⟩:=List.append_of_mem hx
   have hox:=hL x hx
   rw[ho] at hox
   have hoe:o=x.2.1:=by simpa using hox
   -- what api before x is done
   have ane:∀j,j≤x.1→∀oj,ops[j]? =some oj→(∀e∈oj.after,Region.binds .any e=true→listed.getD e.on false=true)→∀i,(A j).testBit i=true→listed.getD i false=true:=by
    intro j
    induction j using Nat.strongRecOn with
    |_ j ihj=>
     intro hj oj hoj anf i hi'
     obtain⟨e,he,hb,h2⟩:=apg j oj i hoj hi'
     have hd:=anf e he hb
     rcases h2 with rfl |h2
     ·exact hd
     ·have apk:=anc j oj hoj e he hb
      have hlt3:e.on<ops.size:=by have:=(Array.getElem?_eq_some_iff.1 hoj).1;omega
      exact ihj e.on apk (by omega) ops[e.on] (Array.getElem?_eq_getElem hlt3) (hcl e.on _ hd (Array.getElem?_eq_getElem hlt3)) i h2
   have hfree:∀y∈L1,y.2.1.apart ops x.2.1=true∧Gj y.2.2 x.2.2=true:=fun y hy=>by
    have h2:=(List.pairwise_append.1 agF).2.2 y hy x (by simp)
    rcases h2 with h2 |h2
    ·exfalso
     have h3:=ane x.1 (Nat.le_refl _) o ho hall y.1 h2
     have hylt:=(Array.getElem?_eq_some_iff.1 (hL y (by simp[hy]))).1
     have h4:=(SO y.1 hylt).2 ⟨y,by simp[hy],rfl⟩
     rw[agG y.1 hylt,h3] at h4
     cases h4
    ·exact h2
   obtain⟨σ1,ht,akc⟩:=VA L1 L2 x σ hrun hfree
   rw[←hoe] at ht
   refine YT C h ho ht (hD _ _ (SN akc).tr hacc) (fun a' w' ⟨ν',O',h'⟩=> ?_)
   have hne:∀y,y∈L1++L2→y.1≠x.1:=fun y hy=>by
    rcases List.mem_append.1 hy with hy |hy
    ·have:=(List.pairwise_append.1 hsort).2.2 y hy x (by simp);omega
    ·have:=(List.pairwise_cons.1 (List.pairwise_append.1 hsort).2.1).1 y hy;omega
   have hsub:(L1++L2).Sublist (L1++x::L2):=(List.Sublist.refl L1).append (List.sublist_cons_self x L2)
   refine ih (L1++L2) _ σ1 a' w' ν' O' (fun y hy=>hL y (hsub.subset hy)) (fun i hi'=> ?_) (by simpa using hsz) (fun m om hm hom e he hb=> ?_) (hsort.sublist hsub) (agF.sublist hsub) akc h' (by simp at hf ⊢;omega)
   ·by_cases hix:x.1=i
    ·subst hix
     constructor
     ·intro hf'
      have h5:listed.getD x.1 false=false:=by rw[←agG x.1 hlt];exact h1
      have h6:x.1<listed.size:=by omega
      simp[Array.getD,h6] at hf'
     ·rintro ⟨y,hy,hye⟩;exact absurd hye (hne y hy)
    ·rw[getD_set_ne true hix,SO i hi']
     constructor
     ·rintro ⟨y,hy,hye⟩
      refine⟨y, ?_,hye⟩
      rcases List.mem_append.1 hy with hy |hy
      ·exact List.mem_append.2 (.inl hy)
      ·rcases List.mem_cons.1 hy with rfl |hy
       ·exact absurd hye hix
       ·exact List.mem_append.2 (.inr hy)
     ·rintro ⟨y,hy,hye⟩;exact⟨y,hsub.subset hy,hye⟩
   ·by_cases hmx:x.1=m
    ·subst hmx
     rw[ho] at hom
     obtain rfl:o=om:=by simpa using hom
     exact getD_set_true (hall e he hb)
    ·rw[getD_set_ne false hmx] at hm
     exact getD_set_true (hcl m om hm hom e he hb)
theorem Qs:∀(l:List Oper) (i:Nat),IB i l=true→∀p o,l[p]? =some o→∀e∈o.after,Region.binds .any e=true→e.on<i+p
 | [],i,h,p,o,hp,e,he,hb=>by simp at hp
 |o'::l,i,h,0,o,hp,e,he,hb=>by
  simp at hp;subst hp
  simp only[IB,Bool.and_eq_true,List.all_eq_true] at h
  have:=h.1 e (by simpa using he)
  rw[hb] at this
  have:Nat.blt e.on i=true:=by simpa using this
  have:=Nat.le_of_ble_eq_true this
  omega
 |o'::l,i,h,p+1,o,hp,e,he,hb=>by
  simp only[IB,Bool.and_eq_true] at h
  have:=Qs l (i+1) h.2 p o (by simpa using hp) e he hb
  omega
theorem Qt:∀(l:List Oper) (acc:List Nat),∃r,Ky l acc=acc++r∧r.length=l.length
 | [],acc=>⟨[],by simp[Ky]⟩
 |o::l,acc=>by
  obtain⟨r,h1,h2⟩:=Qt l (acc++[Ls acc o])
  exact⟨Ls acc o::r,by simp[Ky,h1],by simp[h2]⟩
theorem ad6 {acc:List Nat}{o:Oper}{i:Nat}(h:(Ls acc o).testBit i=true):∃e∈o.after,Region.binds .any e=true∧(i=e.on∨((acc[e.on]?).getD 0).testBit i=true):=by
 unfold Ls at h
 have key:∀l:List Edge,(l.foldr (fun e s=>bif Region.binds .any e then (s|||2^e.on)||| (acc[e.on]?).getD 0 else s) 0).testBit i=true→
   ∃e∈l,Region.binds .any e=true∧(i=e.on∨((acc[e.on]?).getD 0).testBit i=true):=by
  intro l
  induction l with
  |nil=>intro h;simp at h
  |cons e l ih=>
   intro h
   simp only[List.foldr_cons] at h
   cases hb:Region.binds .any e with
   |false=>
    rw[hb] at h
    obtain⟨e',h1,h2⟩:=ih h
    exact⟨e',by simp[h1],h2⟩
   |true=>
    rw[hb] at h
    simp only[cond_true,Nat.testBit_or,Bool.or_eq_true] at h
    rcases h with (h |h) |h
    ·obtain⟨e',h1,h2⟩:=ih h
     exact⟨e',by simp[h1],h2⟩
    ·refine⟨e,by simp,hb, .inl ?_⟩
     rw[Nat.testBit_two_pow] at h
     simpa using (of_decide_eq_true h).symm
    ·exact⟨e,by simp,hb, .inr h⟩
 obtain⟨e,h1,h2⟩:=key _ h
 exact⟨e,by simpa using h1,h2⟩
theorem YX:∀(l:List Oper) (acc:List Nat) (p:Nat) (o:Oper),l[p]? =some o→(Ky l acc)[acc.length+p]? =some (Ls ((Ky l acc).take (acc.length+p)) o)
 | [],acc,p,o,h=>by simp at h
 |o'::l,acc,0,o,h=>by
  simp at h;subst h
  obtain⟨r,h1,h2⟩:=Qt l (acc++[Ls acc o'])
  simp[Ky,h1]
 |o'::l,acc,p+1,o,h=>by
  have:=YX l (acc++[Ls acc o']) p o (by simpa using h)
  simp only[Ky]
  have e:acc.length+(p+1)=(acc++[Ls acc o']).length+p:=by simp;omega
  rw[e];exact this
theorem Qu:∀(r:List (Oper×lL)) (ms:List Nat) (i:Nat) (a:Oper×lL),R1 ops i a r ms=true→∀(p:Nat) (b:Oper×lL) (m:Nat),r[p]? =some b→ms[p]? =some m→Wz ops i a m b=true
 | [],ms,i,a,h,p,b,m,hb,hm=>by simp at hb
 |b'::r,m'::ms,i,a,h,0,b,m,hb,hm=>by
  simp at hb hm;subst hb hm
  simp only[R1,Bool.and_eq_true] at h;exact h.1
 |b'::r,m'::ms,i,a,h,p+1,b,m,hb,hm=>by
  simp only[R1,Bool.and_eq_true] at h
  exact Qu r ms i a h.2 p b m (by simpa using hb) (by simpa using hm)
 |b'::r,[],i,a,h,p,b,m,hb,hm=>by simp at hm
theorem Qv:∀(l:List (Oper×lL)) (ms:List Nat) (i:Nat),IA ops i l ms=true→∀(p q:Nat) (a b:Oper×lL) (m:Nat),p<q→l[p]? =some a→l[q]? =some b→ms[q]? =some m→Wz ops (i+p) a m b=true
 | [],ms,i,h,p,q,a,b,m,hpq,ha,hb,hm=>by simp at ha
 |x::l,[],i,h,p,q,a,b,m,hpq,ha,hb,hm=>by simp at hm
 |x::l,m'::ms,i,h,0,q,a,b,m,hpq,ha,hb,hm=>by
  simp at ha;subst ha
  simp only[IA,Bool.and_eq_true] at h
  cases q with
  |zero=>omega
  |succ q=>exact Qu l ms i x h.1 q b m (by simpa using hb) (by simpa using hm)
 |x::l,m'::ms,i,h,p+1,q,a,b,m,hpq,ha,hb,hm=>by
  simp only[IA,Bool.and_eq_true] at h
  cases q with
  |zero=>omega
  |succ q=>
   have:=Qv l ms (i+1) h.2 p q a b m (by omega) (by simpa using ha) (by simpa using hb) (by simpa using hm)
   have e:i+(p+1)=i+1+p:=by omega
   rw[e];exact this
theorem SP (R:(Nat×Oper×lL)→(Nat×Oper×lL)→Prop):∀(l:List Oper) (i:Nat) (t:List lL),
  (∀p q o1 c1 o2 c2,p<q→l[p]? =some o1→t[p]? =some c1→l[q]? =some o2→t[q]? =some c2→R (i+p,o1,c1) (i+q,o2,c2))→(Bv i l t).Pairwise R
 | [],i,t,h=>by simp[Bv]
 |o::l,i,[],h=>by simp[Bv]
 |o::l,i,c::t,h=>by
  simp only[Bv,List.pairwise_cons]
  refine⟨fun y hy=> ?_,SP R l (i+1) t (fun p q o1 c1 o2 c2 hpq h1 h2 h3 h4=> ?_)⟩
  ·obtain⟨h1,h2,h3⟩:=NP l (i+1) t y hy
   have:=h 0 (y.1 - i) o c y.2.1 y.2.2 (by omega) (by simp) (by simp) (by
    have e:y.1 - i=(y.1 - (i+1))+1:=by omega
    rw[e];simpa using h2) (by
    have e:y.1 - i=(y.1 - (i+1))+1:=by omega
    rw[e];simpa using h3)
   have e:i+(y.1 - i)=y.1:=by omega
   rw[e] at this
   exact this
  ·have:=h (p+1) (q+1) o1 c1 o2 c2 (by omega) (by simpa using h1) (by simpa using h2) (by simpa using h3) (by simpa using h4)
   have e1:i+(p+1)=i+1+p:=by omega
   have e2:i+(q+1)=i+1+q:=by omega
   rw[e1,e2] at this
   exact this
theorem YY (hE:aB E)(h:St E σ a w ν O)(d:Nat):St E (σ.Yc d) a w ν O:=by
 unfold AS.Yc
 split
 ·exact h
 ·exact h.bf hE d
theorem YZ (hE:aB E)(h:St E σ a w ν O)(d:Nat):St E (σ.Yd d) a w ν O:=by
 unfold AS.Yd
 split
 ·exact h
 ·exact h.dE hE d
theorem NQ (hE:aB E):∀(ds:List Nat) (σ:AS),St E σ a w ν O→St E (σ.O5 ds) a w ν O
 | [],σ,h=>h
 |d::ds,σ,h=>by
  simp only[AS.O5]
  split
  ·exact h
  ·exact NQ hE ds _ (YY hE h d)
theorem NR (hE:aB E):∀(ds:List Nat) (σ:AS),St E σ a w ν O→St E (σ.O6 ds) a w ν O
 | [],σ,h=>h
 |d::ds,σ,h=>by
  simp only[AS.O6]
  split
  ·exact h
  ·exact NR hE ds _ (YZ hE h d)
theorem aa2 (hE:aB E)(l:List Oper)(σ:AS)(h:St E σ a w ν O):St E (AS.aiG σ l) a w ν O:=NR hE _ _ (NQ hE _ _ h)
theorem agH (d:Nat):Fr σ (σ.Yc d):=by
 unfold AS.Yc
 split
 ·exact Fr.refl _
 ·exact aaW d
theorem agI (d:Nat):Fr σ (σ.Yd d):=by
 unfold AS.Yd
 split
 ·exact Fr.refl _
 ·exact SG d
theorem VB:∀(ds:List Nat) (σ:AS),Fr σ (σ.O5 ds)
 | [],σ=>Fr.refl _
 |d::ds,σ=>by
  simp only[AS.O5]
  split
  ·exact Fr.refl _
  ·exact(agH d).trans (VB ds _)
theorem VC:∀(ds:List Nat) (σ:AS),Fr σ (σ.O6 ds)
 | [],σ=>Fr.refl _
 |d::ds,σ=>by
  simp only[AS.O6]
  split
  ·exact Fr.refl _
  ·exact(agI d).trans (VC ds _)
theorem SQ:∀(ds:List Nat) (σ:AS),Fr σ (σ.jw ds)
 | [],σ=>Fr.refl _
 |d::ds,σ=>(SG d).trans (SQ ds _)
theorem acB (l:List Oper)(σ:AS):Fr σ (AS.aiG σ l):=(VB _ _).trans (VC _ _)
theorem aa3 {R:Type}{draw:Bool}{k:AS→Option R}{r:R}(he:vc T Φ ops draw σ k=some r):∃σ',k σ'=some r∧Fr σ σ':=by
 unfold vc at he
 obtain⟨t,σe,h1,h2,h3⟩:=Pt (ops:=ops) ops.toList 0 _ [] _ r he
 have hf:=(acB ops.toList σ).trans (SN h2)
 cases draw with
 |false=>exact⟨σe,by simpa using h3,hf⟩
 |true=>
  simp only[cond_true,List.append_nil,List.reverse_reverse] at h3
  cases hok:(IB 0 ops.toList&&IA ops 0 (ops.toList.zip t) (Ky ops.toList [])) with
  |false=>simp[hok] at h3
  |true=>exact⟨σe,by simpa [hok] using h3,hf⟩
theorem WX {R:Type}(C:Ctx P T Φ E)(hD:yl E)(hm:P.follows .mixedOrders=true)(h:St E σ a w ν O){id:Nat}{draw:Bool}{k:AS→Option R}{r:R}
  (he:vc T Φ ops draw σ k=some r) (hk:∀σ',k σ'=some r→Fr σ σ'→E.acc σ'.trace) (hQ:∀σ' a' w',k σ'=some r→Fr σ σ'→To E σ' a' w'→Q .normal a' w'):(Code.region id ops draw).wpIn (FW rr) 0 P Q a w:=by
 unfold vc at he
 obtain⟨t,σe,h1,h2,h3⟩:=Pt (ops:=ops) ops.toList 0 _ [] _ r he
 have hp:=aa2 C.env ops.toList σ h
 have hf:=(acB ops.toList σ).trans (SN h2)
 cases draw with
 |false=>
  simp only[cond_false] at h3
  have:=YW (rr:=rr) C hD (hk σe (by simpa using h3) hf) ops.toList [] t _ a w ν O rfl h1 hp h2 (fun a' w'=>hQ σe a' w' (by simpa using h3) hf)
  refine wpIn_region ?_
  rw[List.range_eq_range']
  simpa using this
 |true=>
  simp only[cond_true,List.append_nil,List.reverse_reverse] at h3
  cases hok:(IB 0 ops.toList&&IA ops 0 (ops.toList.zip t) (Ky ops.toList [])) with
  |false=>simp[hok] at h3
  |true=>
   simp only[hok,cond_true] at h3
   rw[Bool.and_eq_true] at hok
   obtain⟨hd,hok⟩:=hok
   have hw:St E (AS.aiG σ ops.toList) a {w with drawn:=w.drawn+1} ν O:=hp.grow C.env ⟨rfl,rfl,rfl,Nat.le_refl _,fun _ _=>rfl⟩
   refine wpIn_region_any hm ?_
   have ah:∀j o,ops[j]? =some o→(Ky ops.toList [])[j]? =some (Ls ((Ky ops.toList []).take j) o):=fun j o ho=>by
    have:=YX ops.toList [] j o (by rw[Array.getElem?_toList];exact ho)
    simpa using this
   refine ai3 C hD (hk σe h3 hf) (A:=fun j=>((Ky ops.toList [])[j]?).getD 0) (fun a' w'=>hQ σe a' w' h3 hf) (fun j o ho e he' hb=>by
     have:=Qs ops.toList 0 hd j o (by rw[Array.getElem?_toList];exact ho) e he' hb
     omega) (fun j o i ho hi=> ?_) ops.size (Bv 0 ops.toList t) _ _ a _ ν O (fun x hx=> ?_) (fun i hi=> ?_) (by simp) (fun m om hmm=> ?_) (Qr _ _ _) (SP _ _ _ _ fun p q o1 c1 o2 c2 hpq e1 e2 e3 e4=> ?_) h2 hw ?_
   ·simp only[ah j o ho,Option.getD_some] at hi
    obtain⟨e,h4,h5,h6⟩:=ad6 hi
    refine⟨e,h4,h5,h6.imp (fun h7=>h7) fun h7=> ?_⟩
    cases hh:((Ky ops.toList []).take j)[e.on]? with
    |none=>rw[hh] at h7;simp at h7
    |some v=>
     rw[hh] at h7
     rw[List.getElem?_take] at hh
     split at hh
     ·simp only[hh];exact h7
     ·cases hh
   ·obtain⟨_,h4,_⟩:=NP _ _ _ x hx
    rw[←Array.getElem?_toList];simpa using h4
   ·constructor
    ·intro _
     obtain⟨c,hc⟩:=YU ops.toList 0 t h1 i ops[i] (by simp[hi])
     exact⟨_,hc,by simp⟩
    ·intro _;simp[hi]
   ·exfalso
    by_cases hlt:m<ops.size
    ·simp[hlt] at hmm
    ·simp[hlt] at hmm
   ·have hz1:(ops.toList.zip t)[p]? =some (o1,c1):=by rw[List.getElem?_zip_eq_some];exact⟨e1,e2⟩
    have hz2:(ops.toList.zip t)[q]? =some (o2,c2):=by rw[List.getElem?_zip_eq_some];exact⟨e3,e4⟩
    have hg:=ah q o2 (by rw[←Array.getElem?_toList];exact e3)
    have:=Qv (ops.toList.zip t) _ 0 hok p q _ _ _ hpq hz1 hz2 hg
    simp only[Wz,Bool.or_eq_true,Bool.and_eq_true,Nat.zero_add] at this ⊢
    rw[hg]
    exact this
   ·have:=YV ops.toList 0 t
    simpa using this
end
end Go.Abs
namespace Go.Abs
open Go.RowKit Go.Lib
section
variable {P:Program}{T:cj}{E:Env}{σ σ1 σ2 σe:AS}{a:Act}{w w':World}{ν ν':Nm→Value}{O:Nat→Prop}{Φ:bE T}
theorem SR:∀(h:List (Nat×Bool)) (σ:AS),Fr σ (σ.share h)
 | [],σ=>Fr.refl _
 | (j,true)::h,σ=>(agu _).trans (SR h _)
 | (j,false)::h,σ=>SR h σ
theorem mA (h:List (Nat×Bool))(σ:AS):Fr σ (σ.forget h):=by
 refine(SR h σ).trans ?_
 unfold AS.forget
 exact⟨rfl,rfl,rfl,oK.refl _,rfl⟩
structure FrX (σ0 σ:AS):Prop where
 b4:∃x,σ.b4=[x]
 sites:σ.sites=σ0.sites
 s:σ.tmps.n=σ0.tmps.n
 tr:oK σ0.trace σ.trace
 ks:∃ls:List Nat,σ.tmps.s.map (·.1)=ls++σ0.tmps.s.map (·.1)∧∀i∈ls,km 1 i=true
theorem FrX.fr {σ0 σ σ':AS}(h:FrX σ0 σ)(g:Fr σ σ'):FrX σ0 σ':=⟨by rw[g.b4];exact h.b4,g.sites.trans h.sites,g.s.trans h.s,h.tr.trans g.tr,by rw[g.ks];exact h.ks⟩
theorem Y0 {l:List (Nat×AV)}{ls ms:List Nat}(h:l.map (·.1)=ls++ms)(h1:∀i∈ls,km 1 i=true)(h2:∀i∈ms,km 1 i=false):(l.filter fun p=> !(km 1 p.1)).map (·.1)=ms:=by
 have:(l.filter fun p=> !(km 1 p.1)).map (·.1)=(l.map (·.1)).filter fun i=> !(km 1 i):=by
  rw[List.filter_map];rfl
 rw[this,h,List.filter_append,List.filter_eq_nil_iff.2 (fun i hi=>by rw[h1 i hi];simp),List.filter_eq_self.2 (fun i hi=>by rw[h2 i hi];rfl)]
 rfl
theorem VD {σ0:AS}(h:FrX σ0 σ)(h0:∀i∈σ0.tmps.s.map (·.1),km 1 i=false):(σ.Bi).tmps.s.map (·.1)=σ0.tmps.s.map (·.1):=by
 obtain⟨x,hx⟩:=h.b4
 obtain⟨ls,h1,h2⟩:=h.ks
 unfold AS.Bi
 rw[hx]
 exact Y0 h1 h2 h0
theorem Kj {R:Type}{r:R}{h:List (Nat×Bool)}{body:AS→(Ex→AS→Option R)→Option R}{k:Ex→AS→Option R}{I:AS→Prop}(hf:∀σ,I σ→I (σ.forget h))
  (hb:∀σ k',I σ→body σ k'=some r→∃e σ',k' e σ'=some r∧I σ'):∀(n:Nat) (σ:AS),I σ→lh h body k n σ=some r→∃e σ',k e σ'=some r∧I σ'
 |0,σ,hi,he=>by cases he
 |n+1,σ,hi,he=>by
  simp only[lh] at he
  obtain⟨e,σ',h1,h2⟩:=hb σ _ hi he
  cases e with
  |normal=>exact Kj hf hb n _ (hf _ h2) h1
  |exit i=>exact⟨_,_,h1,h2⟩
  |ret=>exact⟨_,_,h1,h2⟩
theorem ak6 (s:eW)(i:Nat)(x:AV):(C6 s i x).n=s.n:=by unfold C6;cases Nat.blt i s.n<;>rfl
theorem ak7 (s:eW)(i:Nat)(x:AV):(C6 s i x).s=s.s:=by unfold C6;cases Nat.blt i s.n<;>rfl
theorem Kk:∀{ps:List Tmp} {ts:List Ty} {s s':eW} {x:(jv ts).den},Hl s ps ts x=some s'→s'.n=s.n∧s'.s=s.s
 | [],[],s,s',x,h=>by simp only[Hl,Option.some.injEq] at h;subst h;exact⟨rfl,rfl⟩
 |p::ps,t::ts,s,s',x,h=>by
  simp only[Hl] at h
  obtain⟨h1,h2⟩:=Kk h
  exact⟨h1.trans (ak6 _ _ _),h2.trans (ak7 _ _ _)⟩
 | [],_::_,_,_,_,h=>by simp[Hl] at h
 |_::_,[],_,_,_,h=>by simp[Hl] at h
theorem WY {f:AV}{R:Type}{k:Rng→List Nat→Option R}{r:R}(h:vd T Φ σ f k=some r):∃g bs,k g bs=some r:=by
 unfold vd at h
 repeat' split at h
 all_goals first | (cases h;done) |skip
 simp only[Option.bind_eq_some_iff] at h
 obtain⟨yh,_,h⟩:=h
 cases hb:(wP (bg _)&&(T.sig _).ae.isEmpty&&Nat.beq (T.real _) _) with
 |false=>rw[hb] at h;cases h
 |true=>
  rw[hb,cond_true] at h
  split at h
  ·exact⟨_,_,h⟩
  ·cases h
theorem SU {R:Type}{n:Nat}{r:R}:∀(c:Code) (hs:List (List (Nat×Bool))) (σ:AS) (k:Ex→AS→Option R),aG T Φ n c hs σ k=some r→∃e σ',k e σ'=some r∧Fr σ σ':=by
 intro c
 induction c with
 |skip=>intro hs σ k he;exact⟨_,σ,he,Fr.refl _⟩
 |region id ops draw=>intro hs σ k he;obtain⟨σ',h1,h2⟩:=aa3 he;exact⟨_,σ',h1,h2⟩
 |seq x y Kw HO=>
  intro hs σ k he
  simp only[aG] at he
  obtain⟨e,σ',h1,h2⟩:=Kw _ _ _ he
  cases e with
  |normal=>obtain⟨e,σ'',h3,h4⟩:=HO _ _ _ h1;exact⟨e,σ'',h3,h2.trans h4⟩
  |exit i=>exact⟨_,_,h1,h2⟩
  |ret=>exact⟨_,_,h1,h2⟩
 |cond x y z HO ihz=>
  intro hs σ k he
  simp only[aG] at he
  have je:∀t b,Fr σ (σ.Me t b):=fun t b=>⟨rfl,rfl,rfl,oK.refl _,rfl⟩
  split at he
  ·split at he
   ·rename_i t _ b hb
    have main:∀b:Bool,(bif b then aG T Φ n y hs (σ.Me t true) k else aG T Φ n z (hs.drop (loops y)) (σ.Me t false) k)=some r→∃e σ',k e σ'=some r∧Fr σ σ':=fun b he=>by
     cases b
     ·obtain⟨e,σ',h1,h2⟩:=ihz _ _ _ he;exact⟨e,σ',h1,(je _ _).trans h2⟩
     ·obtain⟨e,σ',h1,h2⟩:=HO _ _ _ he;exact⟨e,σ',h1,(je _ _).trans h2⟩
    exact main b he
   ·cases he
  ·rename_i b
   cases b
   ·exact ihz _ _ _ he
   ·exact HO _ _ _ he
  ·cases he
 |block id c ih=>
  intro hs σ k he
  simp only[aG] at he
  obtain⟨e,σ',h1,h2⟩:=ih _ _ _ he
  cases e with
  |normal=>exact⟨_,_,h1,h2⟩
  |exit i=>
   cases hb:Nat.beq i id with
   |true=>simp only[hb,cond_true] at h1;exact⟨_,_,h1,h2⟩
   |false=>simp only[hb,cond_false] at h1;exact⟨_,_,h1,h2⟩
  |ret=>exact⟨_,_,h1,h2⟩
 |loop c ih=>
  intro hs σ k he
  simp only[aG] at he
  split at he
  ·rename_i hd hs'
   exact Kj (I:=Fr σ) (fun σ' h=>h.trans (mA hd σ')) (fun σ' k' hi hb=>by
    obtain⟨e,σ'',h1,h2⟩:=ih _ _ _ hb
    exact⟨e,σ'',h1,hi.trans h2⟩) n _ (mA hd σ) he
  ·cases he
 |rangeFunc f ps x y Kw HO=>
  intro hs σ k he
  simp only[aG] at he
  split at he
  ·rename_i hd hs' u hrn htr
   obtain⟨g,bs,h1⟩:=WY he
   cases hok:xw ((σ.jw bs).forget hd) with
   |false=>rw[hok] at h1;cases h1
   |true=>
    rw[hok,cond_true] at h1
    have f1:Fr σ ((σ.jw bs).forget hd):=(SQ bs σ).trans (mA hd _)
    have Y1:=hok
    simp only[xw,Bool.and_eq_true,List.all_eq_true] at Y1
    have h0:FrX σ ({((σ.jw bs).forget hd) with b4:=[g]}:AS).save:=⟨⟨g,rfl⟩,f1.sites,f1.s,f1.tr,by
     refine⟨((σ.jw bs).forget hd).tmps.l.map fun p=>p.1+10000, ?_,fun i hi=> ?_⟩
     ·show (List.map _ _++_).map _=_
      rw[List.map_append,List.map_map, ←f1.ks]
      rfl
     ·obtain⟨p,hp,rfl⟩:=List.mem_map.1 hi
      have:=Y1.1 p hp
      rw[te] at this
      simp only[km,Bool.and_eq_true,Nat.ble_eq,te]
      omega⟩
    obtain⟨e,σ',h2,h3⟩:=Kj (r:=r) (h:=hd) (k:=fm k) (body:=iu ps.toList (fun σ k'=>aG T Φ n x hs' σ k') (fun σ k'=>aG T Φ n y (hs'.drop (loops x)) σ k')) (I:=FrX σ) (fun σ' h=>h.fr (mA hd σ')) (fun σ' k' hi hb=>by
     unfold iu at hb
     obtain⟨x0,hx0⟩:=hi.b4
     rw[hx0] at hb
     obtain⟨ts,xs⟩:=x0
     cases xs with
     |nil=>exact⟨_,_,hb,hi⟩
     |cons x1 xs=>
      dsimp only at hb
      split at hb
      ·rename_i s hs
       obtain⟨e,σ1,h4,h5⟩:=Kw _ _ _ hb
       cases e with
       |normal=>
        dsimp only at h4
        obtain⟨e,σ2,h6,h7⟩:=HO _ _ _ h4
        cases e with
        |normal=>
         refine⟨_,_,h6, ?_⟩
         have f2:=h5.trans h7
         exact⟨⟨_,f2.b4⟩,f2.sites.trans hi.sites,(show σ2.tmps.n=_ from (f2.s.trans (Kk hs).1).trans hi.s),hi.tr.trans f2.tr,by
          show ∃ls:List Nat,σ2.tmps.s.map (·.1)=_∧_
          rw[f2.ks]
          show ∃ls:List Nat,s.s.map (·.1)=_∧_
          rw[(Kk hs).2];exact hi.ks⟩
        |_=>cases h6
       |_=>cases h4
      ·cases hb) n _ h0 h1
    unfold fm at h2
    split at h2
    ·refine⟨_,_,h2, ?_,h3.sites,h3.s,h3.tr,VD h3 (fun i hi=>by
      rw[←f1.ks] at hi
      obtain⟨p,hp,rfl⟩:=List.mem_map.1 hi
      have:=Y1.2 p hp
      rw[Nat.ble_eq] at this
      simp only[km,Bool.and_eq_false_iff]
      exact .inr (by cases hb:Nat.blt p.1 (10000*(1+1)) with
       |false=>rfl
       |true=>rw[te] at hb;omega))⟩
     obtain⟨x,hx⟩:=h3.b4
     show σ'.b4.tail=_
     rw[hx,hrn];rfl
    ·cases h2
  ·cases he
 |exit i=>intro hs σ k he;exact⟨_,σ,he,Fr.refl _⟩
 |ret=>intro hs σ k he;exact⟨_,σ,he,Fr.refl _⟩
 |_=>intros;rename_i he;cases he
end
end Go.Abs
