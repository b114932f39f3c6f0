/- YtcopbdamkjladaaXb: a part of the proof (AbsO6, AbsO7, AbsO8 ..). No condition. -/
import Derived.Test.YtcopbdamkjladaaXa
import Derived.OrdersIn
set_option linter.unusedVariables false
set_option linter.unusedSimpArgs false
set_option maxRecDepth 100000
set_option exponentiation.threshold 2000
namespace Go.Abs
open Go.RowKit Go.Lib
section
variable {P:Program}{T:cm}{E:Env}{σ af:AS}{a:Act}{w w':World}{ν aK:Nm→Value}{O:Nat→Prop}{Φ:bE T}{V:View}{Y:Value}
theorem made_eq (z:Array Value)(n:Nat):madeCells z (n*z.size)=((List.replicate n z.toList).flatten).toArray:=by
 apply Array.ext
 ·simp[madeCells]
 ·intro i h1 h2;have h3:i<n*z.size:=by simpa [madeCells] using h1
  have hz:0<z.size:=by
   rcases Nat.eq_zero_or_pos z.size with h |h
   ·rw[h] at h3;omega
   ·exact h
  have hm:i % z.size<z.size:=Nat.mod_lt _ hz;have key:∀(n i:Nat),i<n*z.size→(List.replicate n z.toList).flatten[i]? =some (z[i % z.size]'(Nat.mod_lt _ hz)):=by
   intro n;induction n with
   |zero=>intro i hi;omega
   |succ n ih=>
    intro i hi;rw[List.replicate_succ,List.flatten_cons];by_cases hlt:i<z.size
    ·rw[List.getElem?_append_left (by simpa using hlt)];simp[hlt,Nat.mod_eq_of_lt hlt]
    ·rw[List.getElem?_append_right (by simpa using Nat.not_lt.1 hlt)];rw[Nat.succ_mul] at hi;have:=ih (i - z.size) (by omega);simp only[Array.length_toList];rw[this]
     congr 2
     conv=>rhs;rw[←Nat.sub_add_cancel (Nat.not_lt.1 hlt)]
     simp
  have:=key n i h3;have h4:madeCells z (n*z.size)=(Array.range (n*z.size)).map (z[· % z.size]!):=rfl;simp only[h4,Array.getElem_map,Array.getElem_range,List.getElem_toArray];have h5:i<(List.replicate n z.toList).flatten.length:=by simpa using h2
  rw[List.getElem?_eq_getElem h5] at this;rw[Option.some.inj this];simp[hm]
theorem Ke {V:View}{t:Ty}{av:Operand→AV}(k8:∀x,al V σ ν Y (av x) (a.eval x)):∀(parts:List (Nat×Operand)) (xs xs':List t.den) (bl:List (List Value)),
  elems av t parts xs=some xs'→aE (Rel V t) xs bl→
  ∃HM,Instr.fill (fun i=>some (i*t.size,t.size)) bl.flatten.toArray (parts.map fun(i,x)=>(i,a.eval x))=some HM.flatten.toArray∧aE (Rel V t) xs' HM
 | [],xs,xs',bl,h,hr=>by simp only[elems,Option.some.injEq] at h;subst h;exact⟨bl,rfl,hr⟩
 | (i,x)::parts,xs,xs',bl,h,hr=>by
   simp only[elems] at h;split at h
   ·rename_i v hv;cases hb:Nat.blt i xs.length with
    |false=>simp[hb] at h
    |true=>
     simp only[hb,cond_true] at h;have hlt:i+1≤xs.length:=Nat.le_of_ble_eq_true hb;have hvr:=(xN hv (k8 x)).cells;have hvl:=Rel.length hvr;obtain⟨ys,hy1,ZV,hy3⟩:=tt hr i (xs[i]'(by omega)) (List.getElem?_eq_getElem (by omega));have hyl:=Rel.length ZV;have hsp:=tw (bl:=bl) i ys (a.eval x).cells.toList 0 (xP hr) hy1 (by rw[hvl];omega);rw[hvl] at hsp;simp only[Nat.zero_add,List.take_zero,List.nil_append,Nat.add_zero] at hsp;have hd:ys.drop t.size=[]:=List.drop_eq_nil_of_le (by omega);rw[hd,List.append_nil] at hsp;obtain⟨HM,h1,h2⟩:=Ke k8 parts (xs.set i v) xs' (bl.set i (a.eval x).cells.toList) h (hr.set hvr);refine⟨HM, ?_,h2⟩;have hsz:(a.eval x).cells.size=t.size:=by simpa using hvl
     have Pf:=eV hr;have hmul:i*t.size+t.size≤xs.length*t.size:=by rw[←Nat.succ_mul];exact Nat.mul_le_mul_right _ hlt
     simp only[List.map_cons,Instr.fill];rw[if_neg (by simp[hsz,Pf];omega)];have hfo:=zo (a.eval x).cells.toList 0 (i*t.size) bl.flatten.toArray (by simp[Pf,hsz];omega);have e:((a.eval x).cells.zipIdx.foldl (fun cs (p:Value×Nat)=>cs.setIfInBounds (i*t.size+p.2) p.1) bl.flatten.toArray)=(bl.set i (a.eval x).cells.toList).flatten.toArray:=by apply Array.ext';rw[←Array.foldl_toList,Array.toList_zipIdx];rw[hsp];simpa [hsz] using hfo
     rw[←h1]
     congr 1
   ·cases h
theorem Dg {t:Ty}{av:Operand→AV}:∀(parts:List (Nat×Operand)) (xs xs':List t.den),elems av t parts xs=some xs'→xs'.length=xs.length
 | [],xs,xs',h=>by simp only[elems,Option.some.injEq] at h;rw[h]
 | (i,x)::parts,xs,xs',h=>by
   simp only[elems] at h;split at h
   ·cases hb:Nat.blt i xs.length with
    |false=>simp[hb] at h
    |true=>simp only[hb,cond_true] at h;rw[Dg parts _ xs' h];simp
   ·cases h
theorem EL {V:View}{t:Ty}{zs:List Value}(h:Rel V t t.zero zs)(n:Nat):aE (Rel V t) (List.replicate n t.zero) (List.replicate n zs):=aE.replicate h n
theorem FF {w:World}{B:Nat}{e:TypeId}{size n cap:Nat}{cs:Array Value}{xs:List Value}(hB:B≤w.heap.size)(hn:n≤cap)(hm:cap≤maxLen)(hs:cs.size=cap*size)(hx:cs.toList.take (n*size)=xs)(hl:xs.length=n*size):
  (w.alloc (.cells cs e)).ownsRow B e size (.slice (some ⟨w.heap.size,0,none⟩) n cap) n xs:=
 ⟨hl, .inr ⟨w.heap.size,cap,cs,rfl,hB,heap_alloc_new w _,hn,hm,hs,hx⟩⟩
theorem Below.HP {w:World}{o:Go.Obj}:Below w.heap.size w (w.alloc o):=⟨rfl,rfl,rfl,by simp,fun k hk=>heap_alloc_old w _ k hk⟩
theorem Dh (hE:aB E)(h:St E σ a w ν O){i n1:Nat}{hr:bh}{l':List hr.t.den}{v0:Value}{C:Nat→Prop}(hh:σ.ab[i]? =some hr)(hn1:n1≤hr.xs.length)(hC:∀k,C k→Own σ ν (.hp i n1) k)(hg:dp C w w')
  (fS:∀k,cr v0=some k→Own σ ν (.hp i n1) k∨(w.heap.size≤k∧k<w'.heap.size)) (Wl:∃g n c,v0= .slice (some ⟨g,0,none⟩) n c) (bP:∀V',(∀key v,view E σ ν O w key v→V' key v)→fR V' w' v0 ⟨hr.e,hr.t,l'⟩)
  {r:bH} (he:(qq (T:=T) i hr (jB hr.xs n1) l').val Φ σ=some r):
  ∃us n,r=(.rv (.cv ⟨.ref i,n⟩), .kt us)∧∃aK,St E (σ.app us) a w' aK O∧bw (view E (σ.app us) aK O w') ⟨.ref i,n⟩ v0:=by
 unfold qq at he;rw[aC,fx] at he;obtain⟨hc,rfl⟩:=he;simp only[Bool.and_eq_true,beq_iff] at hc;obtain⟨hw,hk⟩:=hc;have OR:Ts v0:=by obtain⟨g,n,c,e⟩:=Wl;exact⟨_,_,_,e⟩
 obtain⟨h1,h2⟩:=h.Xy hE (n1:=n1) (l':=l') hh hw hn1 hC hg fS (.inl ⟨hk,Wl⟩) (fun V' hV=>by rw[hk];exact⟨OR,bP V' hV⟩);rw[kx];exact⟨_,_,rfl,_,h1,Wg (by omega) OR h2⟩
theorem QR (hE:aB E)(h:St E σ a w ν O){d:Option Tmp}{row:Row}{v':Value}(hg:Below w.heap.size w w')(o7:∀k,cr v'=some k→w.heap.size≤k∧k<w'.heap.size)
  (bP:∀V',(∀key v,view E σ ν O w key v→V' key v)→fR V' w' v' row) {r:bH} (he:(newRow (T:=T) d row).val Φ σ=some r):
  ∃q us,r=(.rv (.own q), .kt us)∧∃aK,St E (σ.app us) a w' aK O∧nf (view E (σ.app us) aK O w') (σ.app us) aK (.own q) v':=by
 unfold newRow at he;split at he
 ·rename_i d;rw[qu,fx] at he;obtain⟨hd,rfl⟩:=he;refine⟨_,_,rfl,_,h.newRow hE (row':=row) hd hg o7 (fun hV=>bP _ hV), ?_, ?_⟩
  ·rw[jN]
  ·show (look (put _ _ _) _).isSome=true;rw[aF,if_pos rfl];rfl
 ·cases he
theorem Nc (hE:aB E)(h:St E σ a w ν O){st:Option Site}{d:Option Tmp}{row:Row}{v':Value}(hg:Below w.heap.size w w')(o7:∀k,cr v'=some k→w.heap.size≤k∧k<w'.heap.size)
  (bP:∀V',(∀key v,view E σ ν O w key v→V' key v)→fR V' w' v' row) {r:bH} (he:(uN (T:=T) st d row).val Φ σ=some r):
  ∃x us,r=(x, .kt us)∧∃aK,St E (σ.app us) a w' aK O∧al (view E (σ.app us) aK O w') (σ.app us) aK E.Y x v':=by
 unfold uN at he;split at he
 ·rw[eR] at he;subst he;refine⟨_,[],rfl,ν,h.grow hE hg, ?_⟩;have hV:∀key u,view E σ ν O w key u→view E σ ν O w' key u:=fun key u hu=>ta (dp.rD (C:=fun _=>False) hg) (HSub.refl σ ν) (fun k h1 h2 h3 h4=>⟨h3,h4,id⟩) hu;obtain⟨bl,⟨e4,e5⟩,hall⟩:=bP _ hV;show bw (view E σ ν O w') ⟨.slice row.t,row.xs⟩ v';rcases e5 with ⟨e5,e6⟩ | ⟨g,cap,cur,e5,_,VR,hn,hm,hcs,yE⟩
  ·have hx:row.xs=[]:=List.eq_nil_of_length_eq_zero e6;rw[e5,hx];exact⟨none,0,[],rfl,Nat.le_refl _,trivial,fun _=>rfl,fun j u hj=>by simp at hj⟩
  ·have hb:=o7 g (by rw[e5];rfl);rw[e5];refine⟨some ⟨g,0,none⟩,cap,bl,rfl,hn,hall,(fun e=>by cases e),fun j u hj=>⟨_,rfl, ?_⟩⟩;have hcell:w'.cell? ⟨g,j,none⟩=some u:=by rw[cell_of_row w' g j cur row.e (0,0) VR];rw[←yE] at hj;simpa using wo hj
   rw[wq];refine .inr ⟨Nat.le_trans h.keep.size hb.1, ?_,fun ho=> ?_,hcell⟩
   ·rintro ⟨m,hm⟩;have:=(h.oW m g hm).2.1;omega
   ·have:=(h.out.2 g ho).1;omega
 ·obtain⟨q,us,rfl,aK,h1,h2⟩:=QR hE h hg o7 bP he;exact⟨_,us,rfl,aK,h1,h2⟩
theorem Nf {o:Oper}{t:TypeId}{l cc:Operand}(ho:o.op= .makeSlice t l cc){e:TypeId}{i:TypeInfo}{z:Value}{size bytes:Nat}(hu:P.underlying t=some (.slice e))(i1:P.info? e=some i)(i4:i.zero=some z)(i2:i.size=size)
  (hzs:z.cells.size=size) (i3:i.bytes=bytes) (hb:0<bytes) {k k':IntKind} {n m:Int} (el:a.eval l= .int k n) (ec:a.eval cc= .int k' m) (hok:fP bytes n m=true):
  (execOp a.eval o).run P w= .ok (.value (.slice (some ⟨w.heap.size,0,none⟩) n.toNat m.toNat)) (w.alloc (.cells (List.replicate m.toNat z.cells.toList).flatten.toArray e))∧
  (w.alloc (.cells (List.replicate m.toNat z.cells.toList).flatten.toArray e)).ownsRow 0 e size (.slice (some ⟨w.heap.size,0,none⟩) n.toNat m.toNat) n.toNat (List.replicate n.toNat z.cells.toList).flatten:=by
 simp only[fP,Bool.and_eq_true,decide_eq_true_eq] at hok;obtain⟨⟨h0,h1⟩,h2⟩:=hok;have hm0:0≤m:=Int.le_trans h0 h1;have hmb:m≤(bytes:Int)*m:=by have:1*m≤(bytes:Int)*m:=Int.mul_le_mul_of_nonneg_right (by omega) hm0;rwa [Int.one_mul] at this
 have R4:(i.bytes:Int)*m≤281474976710656:=by rw[i3];omega
 have hrun:=run_make (P:=P) w t e i z hu i1 i4 k k' n m h0 h1 R4 (by omega);have his:i.size=z.cells.size:=by rw[i2,hzs]
 rw[his,made_eq] at hrun;have hnm:n.toNat≤m.toNat:=by omega
 have hsz:((List.replicate m.toNat z.cells.toList).flatten.toArray).size=m.toNat*size:=by simp[hzs]
 have Pf:(List.replicate n.toNat z.cells.toList).flatten.length=n.toNat*size:=by simp[hzs]
 refine⟨by simp[execOp,ho,el,ec,hrun],FF (Nat.zero_le _) hnm ?_ hsz ?_ Pf⟩
 ·simp only[maxLen];omega
 ·have e1:m.toNat=n.toNat+(m.toNat - n.toNat):=by omega
  rw[e1, ←List.replicate_append_replicate,List.flatten_append];show List.take _ (_++_)=_;rw[←Pf,List.take_left]
theorem wy {w:World}{n c:Nat}{o:Go.Obj}(k:Nat)(hk:cr (.slice (some ⟨w.heap.size,0,none⟩) n c)=some k):w.heap.size≤k∧k<(w.alloc o).heap.size:=by simp only[cr,Option.some.injEq] at hk;subst hk;exact⟨Nat.le_refl _,by simp⟩
theorem Lw (hE:aB E)(hG:Cl E)(hT:fT P T.rows)(hH:uT P T)(hl:σ.ab.length=T.ab.length)(h:St E σ a w ν O){o:Oper}{r:bH}{t:TypeId}{l cc:Operand}(ho:o.op= .makeSlice t l cc)
  (he:(uI T σ.av σ.sites o).val Φ σ=some r):gM P o a w (To E (aV σ o.dst r)):=by
 have hd:∀c,o.op≠ .defer c:=by rw[ho];intro c e;cases e
 unfold uI at he;simp only[ho] at he;split at he
 ·rename_i u e bytes k n k' m hel R3 hc1;obtain⟨re,hu,GD,Jn,lF,hby,hpos⟩:=o9 hT hel;have el:=h.av hG l;rw[R3] at el;have ec:=h.av hG cc;rw[hc1] at ec;have el:=qw el rfl;have ec:=qw ec rfl;rw[aC] at he;obtain⟨hok,he⟩:=he;split at he
  ·rename_i hp Z0;rw[eK] at he;obtain⟨hr,hh,he⟩:=he;rw[aC] at he;obtain⟨hc,he⟩:=he;simp only[Bool.and_eq_true,beq_iff] at hc;obtain⟨e1,hc⟩:=hc;obtain⟨j,z,j1,j2,j3,j4⟩:=EK hH hc (by rw[←hl];exact(List.getElem?_eq_some_iff.1 hh).1);obtain⟨i,z',i1,i2,i3,i4,_⟩:=HL (V:=view E σ ν O w) GD;rw[Jn,e1,j1] at i1;obtain rfl:j=i:=by simpa using i1
   have hzs:z.cells.size=hr.t.size:=by simpa using Rel.length (j4 (fun _ _=>False))
   obtain⟨hrun,hown⟩:=Nf (P:=P) (w:=w) ho hu (by rw[e1];exact j1) j3 j2 hzs (by rw[i3,hby]) hpos el ec hok;rw[e1] at hrun hown;obtain⟨us,n',rfl,aK,hs,hv⟩:=Dh hE h (n1:=0) (C:=fun _=>False) (v0:= .slice (some ⟨w.heap.size,0,none⟩) n.toNat m.toNat) hh (Nat.zero_le _) (fun _ hk=>hk.elim) (dp.rD Below.HP) (fun k hk=> .inr (wy k hk)) ⟨_,_,_,rfl⟩
    (fun V' hV=>⟨_,by simpa using hown,EL (j4 V') _⟩) he
   exact bX hd hrun ⟨aK,O,hs.slot hv⟩
  ·obtain⟨i,z,i1,i2,i3,i4,i5⟩:=M7 GD (o.dst.bind (look σ.sites));rw[Jn] at i1;rw[lF] at i2 i5;have hzs:z.cells.size=u.size:=by have:=Rel.length (i5 (fun _ _=>False));rw[Cn] at this;simpa using this
   obtain⟨hrun,hown⟩:=Nf (P:=P) (w:=w) ho hu i1 i4 i2 hzs (by rw[i3,hby]) hpos el ec hok;obtain⟨q,us,rfl,aK,hs,hv⟩:=Nc hE h (v':= .slice (some ⟨w.heap.size,0,none⟩) n.toNat m.toNat) Below.HP (fun k hk=>wy k hk)
    (fun V' hV=>⟨_,by rw[Cn];simpa using hown,EL (i5 V') _⟩) he
   exact bX hd hrun ⟨aK,O,hs.slot (x:=q) hv⟩
 ·cases he
theorem EM {o:Oper}{t:TypeId}{len:Nat}{parts:Array (Nat×Operand)}(ho:o.op= .buildSlice t len parts){e:TypeId}{i:TypeInfo}{z:Value}{u:Ty}(hu:P.underlying t=some (.slice e))(i1:P.info? e=some i)(i4:i.zero=some z)(i2:i.size=u.size)
  (i5:Rel V u u.zero z.cells.toList) {av:Operand→AV} (k8:∀x,al V σ ν Y (av x) (a.eval x)) {xs:List u.den} (hxs:elems av u parts.toList (List.replicate len u.zero)=some xs) (hle:len*u.size≤16777216) (hlen:len≤16777216):
  ∃bl,(execOp a.eval o).run P w= .ok (.value (.slice (some ⟨w.heap.size,0,none⟩) len len)) (w.alloc (.cells bl.flatten.toArray e))∧aE (Rel V u) xs bl∧xs.length=len∧
   (w.alloc (.cells bl.flatten.toArray e)).ownsRow 0 e u.size (.slice (some ⟨w.heap.size,0,none⟩) len len) len bl.flatten:=by
 have hzs:z.cells.size=u.size:=by simpa using Rel.length i5
 obtain⟨bl,f1,f2⟩:=Ke k8 parts.toList _ xs (List.replicate len z.cells.toList) hxs (EL i5 len);have Z1:(Array.range (len*u.size)).map (z.cells[· % z.cells.size]!)=(List.replicate len z.cells.toList).flatten.toArray:=by rw[←made_eq,hzs];unfold madeCells;rw[hzs]
 have Z2:xs.length=len:=by rw[Dg _ _ _ hxs];simp
 have hsz:i.size=u.size:=i2;have Pf:=eV f2;have hrun:(execOp a.eval o).run P w= .ok (.value (.slice (some ⟨w.heap.size,0,none⟩) len len)) (w.alloc (.cells bl.flatten.toArray e)):=by
  have hn:¬len*u.size>16777216:=by omega
  have f1':Instr.fill (fun i=>some (i*u.size,u.size)) (List.replicate len z.cells.toList).flatten.toArray (List.map (fun x=>(x.fst,a.eval x.snd)) parts.toList)=some bl.flatten.toArray:=f1;have Ng:Array.map (fun x=>(default:Value)) (Array.range 0)= #[]:=by simp
  by_cases hz:len*u.size=0
  ·have he:(List.replicate len z.cells.toList).flatten=[]:=by apply List.eq_nil_of_length_eq_zero;simp[hzs,hz]
   rw[he] at f1';simp[execOp,ho,Instr.buildSlice,run_underlying hu,sizeOf,typeInfo,i1,hsz,hn,hz,Ng,f1',Go.newRow]
  ·simp[execOp,ho,Instr.buildSlice,run_underlying hu,sizeOf,typeInfo,zeroValue,i1,i4,hsz,hn,hz,Z1,f1',Go.newRow]
 have hlm:len≤maxLen:=by simp only[maxLen];omega
 refine⟨bl,hrun,f2,Z2,FF (Nat.zero_le _) (Nat.le_refl _) hlm (by simp[Pf,Z2]) (by show List.take (len*u.size) bl.flatten=_;rw[←Z2, ←Pf,List.take_length]) (by rw[Pf,Z2])⟩
theorem Jy (hE:aB E)(hG:Cl E)(hT:fT P T.rows)(hH:uT P T)(hl:σ.ab.length=T.ab.length)(h:St E σ a w ν O){o:Oper}{r:bH}{t:TypeId}{len:Nat}{parts:Array (Nat×Operand)}(ho:o.op= .buildSlice t len parts)
  (he:(uI T σ.av σ.sites o).val Φ σ=some r):gM P o a w (To E (aV σ o.dst r)):=by
 have hd:∀c,o.op≠ .defer c:=by rw[ho];intro c e;cases e
 unfold uI at he;simp only[ho] at he;generalize o.dst.bind (look σ.sites)=st at he;split at he
 ·rename_i u e bytes hel;obtain⟨re,hu,GD,Jn,lF,hby,hpos⟩:=o9 hT hel;split at he
  ·rename_i hp Z0;rw[eK] at he;obtain⟨hr,hh,he⟩:=he;rw[aC,bQ] at he;obtain⟨hc,ys,hys,he⟩:=he;simp only[Bool.and_eq_true,beq_iff] at hc;obtain⟨⟨⟨e1,hc⟩,Pn⟩,R4⟩:=hc;obtain⟨j,z,j1,j2,j3,j4⟩:=EK hH hc (by rw[←hl];exact(List.getElem?_eq_some_iff.1 hh).1);obtain⟨bl,hrun,f2,f3,hown⟩:=EM (P:=P) (w:=w) ho hu (by rw[e1];exact j1) j3 j2 (j4 _) (h.av hG) hys (Nat.le_of_ble_eq_true Pn) (Nat.le_of_ble_eq_true R4);rw[e1] at hrun hown;obtain⟨us,n',rfl,aK,hs,hv⟩:=Dh hE h (n1:=0) (C:=fun _=>False) (v0:= .slice (some ⟨w.heap.size,0,none⟩) len len) hh (Nat.zero_le _) (fun _ hk=>hk.elim) (dp.rD Below.HP) (fun k hk=> .inr (wy k hk)) ⟨_,_,_,rfl⟩
    (fun V' hV=>⟨bl,by rw[f3];exact hown,f2.mono (Rel.mono hV _)⟩) he
   exact bX hd hrun ⟨aK,O,hs.slot hv⟩
  ·rw[aC] at he;obtain⟨hc,he⟩:=he;simp only[Bool.and_eq_true] at hc;obtain⟨Pn,R4⟩:=hc;obtain⟨i,z,i1,i2,i3,i4,i5⟩:=M7 GD st;rw[Jn] at i1;rw[lF] at i2 i5;have i2':i.size=(BC st u).size:=by rw[Cn];exact i2
   cases hb:(List.map (fun x=>x.2) parts.toList).any fun x=>pS (σ.av x) with
   |true=>
    rw[hb,cond_true,jE,bQ] at he;obtain⟨ys,hys,he⟩:=he;have s1:=h.oR hE (parts.toList.map (·.2));split at he
    ·rename_i d EI;split at he
     ·rename_i hfree;rw[fx] at he;subst he;obtain⟨bl,hrun,f2,f3,hown⟩:=EM (P:=P) (w:=w) ho hu i1 i4 i2' (i5 _) (s1.av hG) hys (Nat.le_of_ble_eq_true Pn) (Nat.le_of_ble_eq_true R4);refine bX hd hrun ⟨n8 ν d (.slice (some ⟨w.heap.size,0,none⟩) len len),O, ?_⟩;simp only[aV,EI];have s2:=s1.newRow hE (w':=w.alloc (.cells bl.flatten.toArray e)) (row':=⟨e,BC st u,ys⟩) (v':= .slice (some ⟨w.heap.size,0,none⟩) len len) hfree Below.HP (fun k hk=>wy k hk) (fun hV=>⟨bl,by rw[f3];exact hown,f2.mono (Rel.mono hV _)⟩);refine s2.slot (x:= .rv (.own d)) ⟨?_, ?_⟩
      ·rw[jN]
      ·show (look (put _ _ _) _).isSome=true;rw[aF,if_pos rfl];rfl
     ·cases he
    ·cases he
   |false=>rw[hb,cond_false,bQ] at he;obtain⟨ys,hys,he⟩:=he;obtain⟨bl,hrun,f2,f3,hown⟩:=EM (P:=P) (w:=w) ho hu i1 i4 i2' (i5 _) (h.av hG) hys (Nat.le_of_ble_eq_true Pn) (Nat.le_of_ble_eq_true R4);obtain⟨q,us,rfl,aK,hs,hv⟩:=Nc hE h (v':= .slice (some ⟨w.heap.size,0,none⟩) len len) Below.HP (fun k hk=>wy k hk) (fun V' hV=>⟨bl,by rw[f3];exact hown,f2.mono (Rel.mono hV _)⟩) he;exact bX hd hrun ⟨aK,O,hs.slot (x:=q) hv⟩
 ·cases he
end
section
variable {P:Program}{T:cm}{E:Env}{σ af:AS}{a:Act}{w w':World}{ν aK:Nm→Value}{O:Nat→Prop}{Φ:bE T}{V:View}{Y:Value}
theorem xQ (base:Nat)(t ty e:TypeId)(i:TypeInfo)(z:Value)(size bytes:Nat)(ht:P.underlying t=some (.slice e))(hi:P.info? e=some i)(hz:i.zero=some z)
  (hsize:i.size=size) (hby:i.bytes=bytes) (hzs:z.cells.size=size) (hsz:0<size) (hb0:0<bytes)
  (v:Value) (n:Nat) (xs:List Value) (hown:w.ownsRow base e size v n xs)
  (A:Option Addr) (m c:Nat) (news:List Value) (hl:news.length=m*size) (hmc:m≤c) (hA:A=none→c=0) (hnews:∀j u,news[j]? =some u→∃ad,A=some ad∧w.cell? (ad.add j)=some u) (h1:∀u∈news,u.oneCell'=true)
  (hbytes:(n+m)*bytes≤140737488355328) (hbase:base≤w.heap.size):
  ∃v' w',(Builtin.append_ #[t,t] ty #[v, .slice A m c]).run P w= .ok v' w'∧w'.ownsRow base e size v' (n+m) (xs++news)∧w.grownBy w' v.ownBlock∧
   (∀k,v'.ownBlock=some k→v.ownBlock=some k∨w.heap.size≤k):=by
 cases A with
 |none=>
  have hc:=hA rfl;subst hc;obtain rfl:m=0:=by omega
  have:news=[]:=List.eq_nil_of_length_eq_zero (by simpa using hl);subst this;have hrun:=run_append_owned_none (P:=P) (w:=w) base t ty e i size ht hi v n xs hown;exact⟨v,w,hrun,by simpa using hown,⟨rfl,rfl,rfl,Nat.le_refl _,fun _ _ _=>rfl⟩,fun k hk=> .inl hk⟩
 |some ad=>
  have hn':∀j u,news[j]? =some u→w.cell? (ad.add j)=some u:=fun j u hj=>by
   obtain⟨RT,e',h⟩:=hnews j u hj;obtain rfl:ad=RT:=by simpa using e'
   exact h
  have hle:n+m≤(n+m)*bytes:=Nat.le_mul_of_pos_right _ hb0;have h63:n+m≤maxLen:=by simp only[maxLen];omega
  obtain⟨v',w',hr,h2,h3,h4⟩:=run_append_own (P:=P) w base t ty e i z size bytes ht hi hz hsize hby hzs hsz v n xs hown ad m c news hl hn' h1 h63 hbytes hbase;refine⟨v',w',hr,h2,h3,fun k hk=> ?_⟩;subst hsize hby;rcases hown.2 with ⟨rfl,rfl⟩ | ⟨g,cap,cur,rfl,hbg,hg,hnc,hcm,hcs,yE⟩
  ·by_cases hm:m=0
   ·have:=h4.2 ⟨rfl,hm⟩;rw[this] at hk;cases hk
   ·have yD:=run_append_nil (P:=P) w t ty e i z ht hi hz ad m c news hl hn' (by omega) (by omega) (by simp only[Nat.zero_add] at hbytes;omega);rw[yD] at hr;injection hr with EA hr3
    rw[←EA] at hk;simp[Value.ownBlock] at hk;exact .inr (by omega)
  ·by_cases hroom:n+m≤cap
   ·have hfit:n*i.size+news.length≤cur.size:=by rw[hl,hcs, ←Nat.add_mul];exact Nat.mul_le_mul_right _ hroom
    have yD:=run_append_room (P:=P) w t ty e i ht hi g n cap cur hg ad m c news hl hn' h1 hroom hfit;rw[yD] at hr;injection hr with EA hr3
    rw[←EA] at hk;exact .inl hk
   ·have holds:∀j u,xs[j]? =some u→w.cell? ((⟨g,0,none⟩:Addr).add j)=some u:=hown.cells (g:=g) rfl;have yD:=run_append_grow (P:=P) w t ty e i z ht hi hz ⟨g,0,none⟩ n cap xs hown.1 holds ad m c news hl hn' (by omega) (by omega) (growslice_fits (by omega) hbytes);rw[yD] at hr;injection hr with EA hr3
    rw[←EA] at hk;simp[Value.ownBlock] at hk;exact .inr (by omega)
theorem Di {V:View}{t:Ty}{xs:List t.den}{bl:List (List Value)}(h:aE (Rel V t) xs bl):∀u∈bl.flatten,u.oneCell'=true:=by intro u hu;obtain⟨l,hl,OU⟩:=List.mem_flatten.1 hu;obtain⟨i,hi⟩:=List.getElem?_of_mem hl;obtain⟨x,_,hr⟩:=h.get' i l hi;obtain⟨j,hj⟩:=List.getElem?_of_mem OU;obtain⟨c,_,hc⟩:=(fM hr).get' j u hj;exact Hm hc
theorem dp.of_grownBy {g:Option Nat}(h:w.grownBy w' g):dp (fun k=>g=some k) w w':=⟨h.os,h.tape,h.output,h.size,fun k hk hn=>h.block k hk fun e=>hn e.symm⟩
theorem FG (base:Nat)(t ty e:TypeId)(i:TypeInfo)(size:Nat)(ht:P.underlying t=some (.slice e))(hi:P.info? e=some i)
  (v:Value) (n:Nat) (xs:List Value) (hown:w.ownsRow base e size v n xs) (A:Option Addr) (c:Nat) (hA:A=none→c=0):
  (Builtin.append_ #[t,t] ty #[v, .slice A 0 c]).run P w= .ok v w:=by
 cases A with
 |none=>rw[hA rfl];exact run_append_owned_none (P:=P) (w:=w) base t ty e i size ht hi v n xs hown
 |some ad=>
  rcases hown.2 with ⟨rfl,rfl⟩ | ⟨g,cap,cur,rfl,_,_,hnc,_⟩
  ·simp[Builtin.append_,run_underlying ht,sizeOf,typeInfo,hi,Builtin.lenOf,Builtin.firstCells,loadCells,loadCellsFrom]
  ·simp[Builtin.append_,run_underlying ht,sizeOf,typeInfo,hi,Builtin.lenOf,Builtin.firstCells,hnc,storeCells,loadCells,loadCellsFrom]
theorem uU {v:Value}{A:Option Addr}{n c:Nat}(h:v= .slice A n c):cr v=v.ownBlock:=by subst h;cases A<;>rfl
theorem k9 {e:TypeId}{B size n:Nat}{v:Value}{xs:List Value}(h:w.ownsRow B e size v n xs):∃A c,v= .slice A n c:=by
 rcases h.2 with ⟨rfl,rfl⟩ | ⟨g,cap,cur,rfl,_⟩
 ·exact⟨_,_,rfl⟩
 ·exact⟨_,_,rfl⟩
theorem xR {e:TypeId}{B size n:Nat}{v:Value}{xs:List Value}(h:w.ownsRow B e size v n xs){k:Nat}(hk:v.ownBlock=some k):k<w.heap.size:=by
 rcases h.2 with ⟨rfl,rfl⟩ | ⟨g,cap,cur,rfl,_,hg,_⟩
 ·cases hk
 ·simp[Value.ownBlock] at hk;subst hk;exact(Array.getElem?_eq_some_iff.1 hg).1
theorem St.Dj (h:St E σ a w ν O){i n:Nat}{hr:bh}{l:List hr.t.den}{v:Value}(hh:σ.ab[i]? =some hr)(hl:ae hr.xs n=some l)(hv:bw (view E σ ν O w) ⟨.ref i,n⟩ v):
  fR (view E σ ν O w) w v ⟨hr.e,hr.t,l⟩∧(∀k,cr v=some k→Own σ ν (.hp i n) k)∧((n=0∧v= .slice none 0 0∧l=[])∨(1≤n∧hr.k=0∧v=ν (.hp i n))):=by
 rcases Da hv with ⟨rfl,rfl⟩ | ⟨h1,hs,_,h2,h3⟩
 ·simp only[ae,Option.some.injEq] at hl;subst hl;exact⟨⟨[],xO,trivial⟩,(fun k hk=>by cases hk), .inl ⟨rfl,rfl,rfl⟩⟩
 ·have bP:=h.hp hh h1 hl;have hk:hr.k=0:=by
   rcases h.nn i hr n hh h1 (sS hl) with ⟨e,_⟩ | ⟨_,g,e⟩
   ·exact e
   ·obtain⟨A,m,c,e2⟩:=hs;rw[h3,e] at e2;cases e2
  rw[hk] at bP;rw[←h3] at bP;exact⟨bP.2,fun k hk=>⟨aZ (Pa hh h1 hl),by rw[←h3];exact hk⟩, .inr ⟨h1,hk,h3⟩⟩
theorem Hb {v:Value}{row:Row}(h:fR V w v row):∃(A:Option Addr) (c:Nat) (bl:List (List Value)),v= .slice A row.xs.length c∧row.xs.length≤c∧aE (Rel V row.t) row.xs bl∧(A=none→c=0)∧
  ∀j u,bl.flatten[j]? =some u→∃ad,A=some ad∧w.cell? (ad.add j)=some u:=by
 obtain⟨bl,⟨e1,e2⟩,hall⟩:=h;rcases e2 with ⟨e2,e3⟩ | ⟨g,cap,cur,e2,_,hg,hn,hm,hcs,yE⟩
 ·have:row.xs=[]:=List.eq_nil_of_length_eq_zero e3;have hy:=eV hall;rw[e3,Nat.zero_mul] at hy;refine⟨none,0,bl,by rw[e2,e3],by omega,hall,fun _=>rfl,fun j u hj=> ?_⟩;rw[List.eq_nil_of_length_eq_zero hy] at hj;simp at hj
 ·refine⟨some ⟨g,0,none⟩,cap,bl,e2,hn,hall,(fun e=>by cases e),fun j u hj=>⟨_,rfl, ?_⟩⟩;rw[wq,cell_of_row w g j cur row.e (0,0) hg];rw[←yE] at hj;simpa using wo hj
theorem sT (hE:aB E)(h:St E σ a w ν O){t:Ty}{x:AV}{u:Value}(hx:al (view E σ ν O w) σ ν E.Y x u){k:List t.den→Q T bH}{r:bH}(he:(appended t x k).val Φ σ=some r):
  ∃ys:List t.den,(k ys).val Φ σ=some r∧∃(A:Option Addr) (c:Nat) (bl:List (List Value)),u= .slice A ys.length c∧ys.length≤c∧aE (Rel (view E σ ν O w) t) ys bl∧(A=none→c=0)∧
   ∀j u,bl.flatten[j]? =some u→∃ad,A=some ad∧w.cell? (ad.add j)=some u:=by
 have hc:=Hz hx;have cast:∀{e0:TypeId} {t':Ty} {l:List t'.den} {ys:List t.den},(cE (.slice t) [⟨.slice t',l⟩]).map (·.1)=some ys→fR (view E σ ν O w) w u ⟨e0,t',l⟩→∃(A:Option Addr) (c:Nat) (bl:List (List Value)),u= .slice A ys.length c∧ys.length≤c∧aE (Rel (view E σ ν O w) t) ys bl∧(A=none→c=0)∧
   ∀j u,bl.flatten[j]? =some u→∃ad,A=some ad∧w.cell? (ad.add j)=some u:=fun {e0 t' l ys} h1 h2=>by
  have:=uR h1;injection this with e1 e2
  injection e1 with e1
  subst e1;simp only[heq_eq_eq] at e2;subst e2;exact Hb h2
 unfold appended at he;split at he
 ·rename_i i n Yp;rw[Yp] at hc;rw[eK] at he;obtain⟨hr,hh,he⟩:=he;rw[bQ] at he;obtain⟨l,hl,he⟩:=he;rw[bQ] at he;obtain⟨ys,hys,he⟩:=he;refine⟨ys,he, ?_⟩;obtain⟨h1,_⟩:=h.Dj hh hl hc;exact cast hys h1
 ·rename_i c Yp;rw[Yp] at hc;rw[bQ] at he;obtain⟨ys,hys,he⟩:=he;refine⟨ys,he, ?_⟩;have:=uR hys;subst this;obtain⟨A,cc,bl,e1,e2,e3,e4,e5⟩:=lY hc;exact⟨A,cc,bl,e1,e2,e3,e4,fun j u hj=>by
   obtain⟨ad,e,hv⟩:=e5 j u hj;exact⟨ad,e,qt hE h.keep hv⟩⟩
 ·rename_i q Yp;rw[Yp] at hc;rw[lE] at he;obtain⟨row,hrow,he⟩:=he;rw[bQ] at he;obtain⟨ys,hys,he⟩:=he;refine⟨ys,he, ?_⟩;have h1:=h.row hrow;rw[←hc.1] at h1;exact cast hys h1
 ·rename_i Yp;rw[Yp] at hc;exact⟨[],he,none,0,[],hc,Nat.le_refl _,trivial,fun _=>rfl,fun j u hj=>by simp at hj⟩
 ·cases he
theorem R5 {t tx ty e e2:TypeId}{i:TypeInfo}(ht:P.underlying t=some (.slice e))(hi:P.info? e=some i)(hx:P.underlying tx=some (.slice e2))(v x:Value):(Builtin.append_ #[t,tx] ty #[v,x]).run P w=(Builtin.append_ #[t,t] ty #[v,x]).run P w:=by cases v<;>simp[Builtin.append_,run_underlying ht,run_underlying hx,sizeOf,typeInfo,hi]
theorem R6 (hE:aB E)(hG:Cl E)(hT:fT P T.rows)(h:St E σ a w ν O){o:Oper}{r:bH}{args:Array Operand}{ats:Array TypeId}(ho:o.op= .call {callee:= .builtin .append,args:=args,argTypes:=ats})
  (he:(uI T σ.av σ.sites o).val Φ σ=some r):gM P o a w (To E (aV σ o.dst r)):=by
 have hd:∀c,o.op≠ .defer c:=by rw[ho];intro c e;cases e
 unfold uI at he;simp only[ho] at he;generalize o.dst.bind (look σ.sites)=st at he;split at he
 ·rename_i s x t tx hargs Z3;have hx':args= #[s,x]:=by cases args;simp at hargs;subst hargs;rfl
  have ht':ats= #[t,tx]:=by cases ats;simp at Z3;subst Z3;rfl
  subst hx' ht';rw[aC] at he;obtain⟨Zs,he⟩:=he;split at he
  ·rename_i u e bytes hel;obtain⟨re,hu,GD,Jn,lF,hby,hpos⟩:=o9 hT hel;obtain⟨i,z,i1,i2,i3,i4,i5⟩:=HL (V:=view E σ ν O w) GD;rw[Jn] at i1;rw[lF] at i5 i2;rw[hby] at i3;have hzs:z.cells.size=u.size:=by simpa using Rel.length i5
   have htx:∀(v x:Value),(Builtin.append_ #[t,tx] o.type #[v,x]).run P w=(Builtin.append_ #[t,t] o.type #[v,x]).run P w:=by
    rw[Bool.or_eq_true] at Zs;rcases Zs with Zs |Zs
    ·have:=(beq_iff _ _).1 Zs;subst this;exact fun _ _=>rfl
    ·obtain⟨⟨u2,e2,b2⟩,ab8⟩:=Option.isSome_iff_exists.1 Zs;obtain⟨re2,hu2,_⟩:=o9 hT ab8;exact fun v x=>R5 hu i1 hu2 v x
   have Kf:∀(v':Value) (w':World),(Builtin.append_ #[t,t] o.type #[a.eval s,a.eval x]).run P w= .ok v' w'→(execOp a.eval o).run P w= .ok (.value v') w':=fun v' w' hv=>by rw[←htx] at hv;simp[execOp,ho,resolve,invoke,builtin,hv]
   have hs:=h.av hG s;have hx:=h.av hG x;split at he
   ·rename_i q hq;rw[hq] at hs;rw[lE] at he;obtain⟨row,hrow,he⟩:=he;rw[aC] at he;obtain⟨_,he⟩:=he;obtain⟨ys,he,A,cc,bl,ex,f1,f2,f3,f4⟩:=sT hE h hx he;rw[aC] at he;obtain⟨hc,he⟩:=he;simp only[Bool.and_eq_true,bj,beq_iff] at hc;obtain⟨⟨c1,c2⟩,c3,c4⟩:=hc;have Yq:0<u.size:=Nat.le_of_ble_eq_true c3;have Yr:=Nat.le_of_ble_eq_true c4;split at he
    ·rename_i d EI;rw[jE] at he;split at he
     ·rename_i hfree;rw[fx] at he;subst he;obtain⟨Zt,hown,hall⟩:=h.row hrow;rw[c1,c2] at hown;obtain⟨v',w',hrun,g1,g2,g3⟩:=xQ (P:=P) 0 t o.type e i z u.size bytes hu i1 i4 i2 i3 hzs Yq hpos (ν (.row q)) row.xs.length Zt.flatten hown A ys.length cc bl.flatten (by rw[eV f2,c2]) f1 f3 f4 (Di f2) Yr (Nat.zero_le _);refine bX hd (Kf v' w' (by rw[hs.1,ex];exact hrun)) ?_;simp only[aV,EI];obtain⟨A1,k1,Lv⟩:=k9 hown;obtain⟨A2,k2,Jz⟩:=k9 g1;refine⟨n8 ν d v',O,(h.QL hE (d:=d) (row':=⟨e,row.t,row.xs++ys⟩) hfree ((dp.of_grownBy g2).mono fun k _ hk=>Lr hrow (by rw[uU Lv];exact hk)) (fun k hk=> ?_) (fun hV=> ?_)).slot (x:= .rv (.own d)) ⟨?_, ?_⟩⟩
      ·rw[uU Jz] at hk;rcases g3 k hk with h1 |h1
       ·exact .inl (Lr hrow (by rw[uU Lv];exact h1))
       ·exact .inr ⟨h1,xR g1 hk⟩
      ·refine⟨Zt++bl, ?_,(hall.mono (Rel.mono hV _)).append (f2.mono (Rel.mono hV _))⟩;rw[List.flatten_append,c2,List.length_append];exact g1
      ·rw[jN]
      ·show (look (put _ _ _) _).isSome=true;rw[aF,if_pos rfl];rfl
     ·cases he
    ·cases he
   ·rename_i hp n hq;rw[hq] at hs;rw[eK] at he;obtain⟨hr,hh,he⟩:=he;rw[bQ] at he;obtain⟨l,hl,he⟩:=he;rw[aC] at he;obtain⟨hc,he⟩:=he;simp only[Bool.and_eq_true,beq_iff] at hc;obtain⟨c1,c2⟩:=hc;obtain⟨ys,he,A,cc,bl,ex,f1,f2,f3,f4⟩:=sT hE h hx he;rw[aC] at he;obtain⟨hc,he⟩:=he;simp only[Bool.and_eq_true,bj] at hc;obtain⟨c3,c4⟩:=hc;have Yq:0<hr.t.size:=Nat.le_of_ble_eq_true c3;have Yr:=Nat.le_of_ble_eq_true c4;obtain⟨hrow,fS,zq⟩:=h.Dj hh hl hs;obtain⟨Zt,hown,hall⟩:=hrow;rw[←c1] at hown;dsimp only at hown hall;rw[C7] at he;rcases he with ⟨hem,he⟩ | ⟨hne,he⟩
    ·have hys:ys=[]:=by cases ys with
      |nil=>rfl
      |cons _ _=>cases hem
     subst hys;rw[eR] at he;subst he;have hrun:=FG (P:=P) 0 t o.type e i hr.t.size hu i1 (a.eval s) l.length Zt.flatten hown A cc f3;exact bC hE hd h rfl (Kf _ _ (by rw[ex];exact hrun)) hs
    ·obtain⟨v',w',hrun,g1,g2,g3⟩:=xQ (P:=P) 0 t o.type e i z hr.t.size bytes hu i1 i4 (by rw[i2,c2]) i3 (by rw[hzs,c2]) Yq hpos (a.eval s) l.length Zt.flatten hown A ys.length cc bl.flatten (eV f2) f1 f3 f4 (Di f2) Yr (Nat.zero_le _);obtain⟨A1,k1,Lv⟩:=k9 hown;obtain⟨A2,k2,Jz⟩:=k9 g1;have Z4:0<ys.length:=by cases ys with
      |nil=>cases hne
      |cons _ _=>simp
     obtain⟨us,n',rfl,aK,s1,hv⟩:=Dh hE h (n1:=n) (C:=fun k=>cr (a.eval s)=some k) (v0:=v') (w':=w') (l':=l++ys) hh (sS hl) fS ((dp.of_grownBy g2).mono fun k _ hk=>by rw[uU Lv];exact hk) (fun k hk=>by
       rw[uU Jz] at hk;rcases g3 k hk with h1 |h1
       ·exact .inl (fS k (by rw[uU Lv];exact h1))
       ·exact .inr ⟨h1,xR g1 hk⟩) (by
       rcases g1.2 with ⟨_,e0⟩ | ⟨g,cap,cur,e0,_⟩
       ·omega
       ·exact⟨_,_,_,e0⟩)
      (fun V' hV=>⟨Zt++bl,by rw[List.flatten_append, ←c1,List.length_append];exact g1,(hall.mono (Rel.mono hV _)).append (f2.mono (Rel.mono hV _))⟩) he
     exact bX hd (Kf v' w' (by rw[ex];exact hrun)) ⟨aK,O,s1.slot hv⟩
   ·rename_i hq;rw[hq] at hs;have es:a.eval s= .slice none 0 0:=hs;split at he
    ·rename_i hp Z0;rw[eK] at he;obtain⟨hr,hh,he⟩:=he;rw[aC] at he;obtain⟨hc,he⟩:=he;simp only[Bool.and_eq_true,beq_iff] at hc;obtain⟨c1,c2⟩:=hc;obtain⟨ys,he,A,cc,bl,ex,f1,f2,f3,f4⟩:=sT hE h hx he;rw[aC] at he;obtain⟨hc,he⟩:=he;simp only[Bool.and_eq_true,bj] at hc;obtain⟨c3,c4⟩:=hc;have Yq:0<hr.t.size:=Nat.le_of_ble_eq_true c3;have Yr:=Nat.le_of_ble_eq_true c4;rw[C7] at he;rcases he with ⟨hem,he⟩ | ⟨hne,he⟩
     ·have hys:ys=[]:=by cases ys with
       |nil=>rfl
       |cons _ _=>cases hem
      subst hys;rw[eR] at he;subst he;have hrun:=FG (P:=P) 0 t o.type e i hr.t.size hu i1 (.slice none 0 0) 0 [] (World.ownsRow_nil w 0 e hr.t.size) A cc f3;exact bC hE hd h rfl (Kf _ _ (by rw[es,ex];exact hrun)) rfl
     ·obtain⟨v',w',hrun,g1,g2,g3⟩:=xQ (P:=P) 0 t o.type e i z hr.t.size bytes hu i1 i4 (by rw[i2,c2]) i3 (by rw[hzs,c2]) Yq hpos (.slice none 0 0) 0 [] (World.ownsRow_nil w 0 e hr.t.size) A ys.length cc bl.flatten (eV f2) f1 f3 f4 (Di f2) Yr (Nat.zero_le _);obtain⟨A2,k2,Jz⟩:=k9 g1;have Z4:0<ys.length:=by cases ys with
       |nil=>cases hne
       |cons _ _=>simp
      obtain⟨us,n',rfl,aK,s1,hv⟩:=Dh hE h (n1:=0) (C:=fun _=>False) (v0:=v') (w':=w') (l':=ys) hh (Nat.zero_le _) (fun _ hk=>hk.elim) ((dp.of_grownBy g2).mono fun k _ hk=>by cases hk) (fun k hk=>by
        rw[uU Jz] at hk;rcases g3 k hk with h1 |h1
        ·cases h1
        ·exact .inr ⟨h1,xR g1 hk⟩) (by
        rcases g1.2 with ⟨_,e0⟩ | ⟨g,cap,cur,e0,_⟩
        ·omega
        ·exact⟨_,_,_,e0⟩)
       (fun V' hV=>⟨bl,by rw[←c1];simpa using g1,f2.mono (Rel.mono hV _)⟩) he
      exact bX hd (Kf v' w' (by rw[es,ex];exact hrun)) ⟨aK,O,s1.slot hv⟩
    ·obtain⟨ys,he,A,cc,bl,ex,f1,f2,f3,f4⟩:=sT hE h hx he;rw[aC] at he;obtain⟨hc,he⟩:=he;simp only[Bool.and_eq_true,bj] at hc;obtain⟨c3,c4⟩:=hc;have Yq:0<u.size:=Nat.le_of_ble_eq_true c3;have Yr:=Nat.le_of_ble_eq_true c4;obtain⟨v',w',hrun,g1,g2,g3⟩:=xQ (P:=P) 0 t o.type e i z u.size bytes hu i1 i4 i2 i3 hzs Yq hpos (.slice none 0 0) 0 [] (World.ownsRow_nil w 0 e u.size) A ys.length cc bl.flatten (eV f2) f1 f3 f4 (Di f2) Yr (Nat.zero_le _);obtain⟨A2,k2,Jz⟩:=k9 g1;have aca:Below w.heap.size w w':=(((dp.of_grownBy g2).mono fun k _ hk=>by cases hk):dp (fun _=>False) w w').below;obtain⟨q,us,rfl,aK,s1,hv⟩:=QR hE h (v':=v') (w':=w') aca (fun k hk=>by
       rw[uU Jz] at hk;rcases g3 k hk with h1 |h1
       ·cases h1
       ·exact⟨h1,xR g1 hk⟩) (fun V' hV=>⟨bl,by simpa using g1,f2.mono (Rel.mono hV _)⟩) he
     exact bX hd (Kf v' w' (by rw[es,ex];exact hrun)) ⟨aK,O,s1.slot (x:= .rv (.own q)) hv⟩
   ·cases he
  ·cases he
 ·cases he
end
section
variable {P:Program}{T:cm}{E:Env}{σ af:AS}{a:Act}{w w':World}{ν aK:Nm→Value}{O:Nat→Prop}{Φ:bE T}{V:View}{Y:Value}
theorem HQ (hT:fT P T.rows){o:Oper}{t:TypeId}{x hi:Operand}(ho:o.op= .slice t x none (some hi) none){u:Ty}{e:TypeId}{bytes:Nat}(hel:fw T.rows t=some (u,e,bytes)){A:Option Addr}{len cap:Nat}{k:IntKind}{n:Int}
  (ex:a.eval x= .slice A len cap) (en:a.eval hi= .int k n) (h0:0≤n) (h1:n≤len) (hlen:len≤cap) (hn:A=none→cap=0):(execOp a.eval o).run P w= .ok (.value (.slice A n.toNat cap)) w:=by
 obtain⟨re,hu,GD,Jn,lF,hby,hpos⟩:=o9 hT hel;have hsz:(sizeOf e).run P w= .ok u.size w:=by rw[←Jn, ←lF];exact tu GD w
 have hb:=fun code=>ow (P:=P) (w:=w) (y:=cap) (code:=code) en h0 (by omega);have hA:(if cap=0 then A else A.map (·.add (0*u.size)))=A:=by
  split
  ·rfl
  ·cases A with
   |none=>rfl
   |some ad=>simp[Addr.add]
 have hb':(Instr.sliceBounds true len cap none (some (a.eval hi)) none).run P w= .ok (0,n.toNat,cap) w:=by simp[Instr.sliceBounds,hb]
 have hs:(Instr.slice t (.slice A len cap) none (some (a.eval hi)) none).run P w= .ok (.slice A n.toNat cap) w:=by simp only[Instr.slice,Sem.run_bind,run_underlying hu,Result.andThen_ok,hb',hsz,Sem.run_pure,hA,Nat.sub_zero]
 simp only[execOp,ho,Instr.sliceAt,Sem.run_bind,run_underlying hu,Result.andThen_ok,ex,Option.map_none,Option.map_some,hs,Sem.run_pure]
theorem Nh {A:Option Addr}{cap:Nat}{row:Row}(h:fR V w (.slice A row.xs.length cap) row){n:Nat}(hn:n≤row.xs.length):fR V w (.slice A n cap) ⟨row.e,row.t,row.xs.take n⟩:=by
 obtain⟨bl,⟨e1,e2⟩,hall⟩:=h;have hft:=xJ n hall;have Pf:=eV hall;have hmul:n*row.t.size≤row.xs.length*row.t.size:=Nat.mul_le_mul_right _ hn;have hln:(row.xs.take n).length=n:=by rw[List.length_take];omega
 refine⟨bl.take n, ?_,hall.take _⟩;show w.ownsRow 0 row.e row.t.size _ (row.xs.take n).length _;rw[hln,hft];refine⟨by rw[List.length_take,Pf];omega, ?_⟩;rcases e2 with ⟨e2,e3⟩ | ⟨g,cap',cur,e2,f1,f2,f3,f4,f5,f6⟩
 ·injection e2 with e4 e5 e6
  left;have:n=0:=by omega
  rw[this,e4,e6];exact⟨rfl,rfl⟩
 ·injection e2 with e4 e5 e6
  subst e4 e6;exact .inr ⟨g,cap,cur,rfl,f1,f2,by omega,f4,f5,by rw[←f6,List.take_take,Nat.min_eq_left hmul]⟩
theorem JA {q:Nat}{row:Row}(hq:look σ.rows q=some row)(d:Int)(x:Option Operand):fO (σ.freeze q).av d x=fO σ.av d x:=by
 cases x with
 |none=>rfl
 |some x=>
  simp only[fO];rw[AQ hq];cases σ.av x with
  |rv x=>cases x with
   |own k=>simp only[AV.n7,RV.n7];cases Nat.beq k q<;>rfl
   |_=>rfl
  |CX k sz i off=>simp only[AV.n7];cases Nat.beq k q<;>rfl
  |_=>rfl
theorem Lx {rows:List eI}{av EN:Operand→AV}(h:∀d x,fO av d x=fO EN d x)(t:TypeId)(x:AV)(lo hi mx:Option Operand):oY (T:=T) rows av t x lo hi mx=oY rows EN t x lo hi mx:=by unfold oY;simp only[h]
theorem T3 (hE:aB E)(hG:Cl E)(hT:fT P T.rows)(h:St E σ a w ν O){o:Oper}{r:bH}{t:TypeId}{x:Operand}{lo hi mx:Option Operand}(ho:o.op= .slice t x lo hi mx)
  (he:(uI T σ.av σ.sites o).val Φ σ=some r):gM P o a w (To E (aV σ o.dst r)):=by
 have hd:∀c,o.op≠ .defer c:=by rw[ho];intro c e;cases e
 have hx:=h.av hG x;unfold uI at he;simp only[ho] at he;split at he
 ·rename_i q hq;rw[hq] at hx;split at he
  ·rename_i hi';split at he
   ·rename_i u e bytes k n hel hn;rw[lE] at he;obtain⟨row,hrow,he⟩:=he;rw[aC] at he;obtain⟨hc,he⟩:=he;rw[Bool.and_eq_true] at hc;obtain⟨c1,c2,c3⟩:=qz.1 hc.2;split at he
    ·rename_i d EI;rw[jE] at he;split at he
     ·rename_i hfree;rw[fx] at he;subst he;have en:=h.av hG hi';rw[hn] at en;have bP:=h.row hrow;obtain⟨A,cap,er,hlen,hnone,_⟩:=uQ bP;have hrun:=HQ (P:=P) (w:=w) hT ho hel (by rw[hx.1,er]) (qw en rfl) c2 c3 hlen hnone;refine bX hd hrun ?_;simp only[aV,EI];refine⟨n8 ν d (.slice A n.toNat cap),O,(h.QL hE (w':=w) (d:=d) (row':=⟨row.e,row.t,row.xs.take n.toNat⟩) hfree (dp.refl _ _) (fun k hk=> .inl (Lr hrow ?_)) (fun hV=> ?_)).slot (x:= .rv (.own d)) ⟨?_, ?_⟩⟩
      ·rw[er];cases A<;>exact hk
      ·rw[er] at bP;exact fR.mono hV (fun _ _=>rfl) (Nh bP (by omega))
      ·rw[jN]
      ·show (look (put _ _ _) _).isSome=true;rw[aF,if_pos rfl];rfl
     ·cases he
    ·cases he
   ·cases he
  ·rw[lE] at he;obtain⟨row,hrow,he⟩:=he;rw[jE,G7] at he;obtain⟨y,he,rfl⟩:=he;have s1:=h.freeze hE q;have hx1:=s1.av hG x;rw[AQ hrow,hq] at hx1;simp only[AV.n7,RV.n7,beq_refl,cond_true] at hx1;rw[Lx (EN:=(σ.freeze q).av) (fun d x=>(JA hrow d x).symm)] at he;obtain⟨e1,v,h2,h3⟩:=HE (P:=P) (w:=w) hT (s1.av hG) hx1 he;exact bX hd (v:=v) (by simp[execOp,ho,h2]) ⟨ν,O,s1.slot h3⟩
 ·rename_i i n hq;rw[hq] at hx;split at he
  ·rename_i y;split at he
   ·rename_i ue k m hel hm;obtain⟨u,e,bytes⟩:=ue;rw[eK] at he;obtain⟨hr,hh,he⟩:=he;rw[bQ] at he;obtain⟨l,hl,he⟩:=he;rw[aC,C7] at he;obtain⟨hc,he⟩:=he;obtain⟨_,c2,c3⟩:=qz.1 hc;have en:=h.av hG y;rw[hm] at en;obtain⟨bP,fS,zq⟩:=h.Dj hh hl hx;obtain⟨A,cap,er,hlen,hnone,_⟩:=uQ bP;dsimp only at er hlen;have hrun:=HQ (P:=P) (w:=w) hT ho hel er (qw en rfl) c2 c3 hlen hnone;rcases he with ⟨h0,he⟩ | ⟨h0,he⟩
    ·have:=(beq_iff _ _).1 h0;subst this;rw[eR] at he;subst he;rcases zq with ⟨_,hv,hl0⟩ | ⟨h1,_⟩
     ·rw[er] at hv;injection hv with v1 v2 v3
      subst v1 v3;subst hl0;have:m.toNat=0:=by simp at c3;omega
      rw[this] at hrun;exact bC hE hd h rfl hrun rfl
     ·omega
    ·have hn0:=nv.1 h0;rcases zq with ⟨h1,_⟩ | ⟨h1,hk,hv⟩
     ·exact absurd h1 hn0
     ·have hhv:=h.nn i hr n hh h1 (sS hl);rw[hk, ←hv,er] at hhv;rcases hhv with ⟨_,g,n',c',e9⟩ | ⟨e9,_⟩
      ·injection e9 with v1 v2 v3
       subst v1;have hb:cr (.slice (some ⟨g,0,none⟩) m.toNat cap)=cr (a.eval x):=by rw[er];rfl
       rw[er] at bP;obtain⟨us,n2,rfl,aK,s1,Jz⟩:=Dh hE h (n1:=n) (C:=fun _=>False) (v0:= .slice (some ⟨g,0,none⟩) m.toNat cap) (w':=w) (l':=l.take m.toNat) hh (sS hl) (fun _ hk=>hk.elim) (dp.refl _ _) (fun k hk=> .inl (fS k (by rw[←hb];exact hk))) ⟨_,_,_,rfl⟩
        (fun V' hV=>fR.mono hV (fun _ _=>rfl) (Nh bP (by dsimp only;omega))) he
       exact bX hd hrun ⟨aK,O,s1.slot Jz⟩
      ·cases e9
   ·cases he
  ·cases he
 ·obtain⟨e1,v,h2,h3⟩:=HE (P:=P) (w:=w) hT (h.av hG) hx he;exact bC hE hd h e1 (v:=v) (by simp[execOp,ho,h2]) h3
end
theorem Rel.tr {hs:List Nat}{V V':View}(hc:∀(a:Addr) v,V (.cell a) v→V' (.cell a) v)(hr:∀h,hs.any (Nat.beq h)=true→∀n v,V (.ref h n) v→V' (.ref h n) v):
  ∀(t:Ty) (x:t.den) (cs:List Value),dH hs t=true→Rel V t x cs→Rel V' t x cs
 | .int k,x,cs,_,h=>h
 | .bool,x,cs,_,h=>h
 | .str,x,cs,_,h=>h
 | .slice t,xs,cs,hi,⟨A,c,bl,h1,h2,h3,h5,h4⟩=>⟨A,c,bl,h1,h2,h3.mono (fun x y=>Rel.tr hc hr t x y hi),h5,fun j u hj=>let ⟨ad,e,hv⟩:=h4 j u hj;⟨ad,e,hc _ _ hv⟩⟩
 | .unit,_,cs,_,h=>h
 | .pair a b,x,cs,hi,⟨c1,c2,e,h1,h2⟩=>by simp only[dH,Bool.and_eq_true] at hi;exact⟨c1,c2,e,Rel.tr hc hr a _ _ hi.1 h1,Rel.tr hc hr b _ _ hi.2 h2⟩
 | .st t,x,cs,hi,h=>Rel.tr hc hr t x cs hi h
 | .ref _,0,_,_,h=>h
 | .ref k,_+1,_,hi,⟨v,e,hs,hv⟩=>⟨v,e,hs,hr k hi _ _ hv⟩
 | .ptr _,0,_,_,h=>h
 | .ptr k,_+1,_,hi,⟨v,e,hs,hv⟩=>⟨v,e,hs,hr k hi _ _ hv⟩
 | .mp _,0,_,_,h=>h
 | .mp k,_+1,_,hi,⟨v,e,hs,hv⟩=>⟨v,e,hs,hr k hi _ _ hv⟩
 | .fn,_,_,_,h=>h
 | .mN t,none,cs,_,h=>h
 | .mN t,some xs,cs,hi,⟨ad,c,bl,h1,h2,h3,h4⟩=>⟨ad,c,bl,h1,h2,h3.mono (fun x y=>Rel.tr hc hr t x y hi),fun j u hj=>hc _ _ (h4 j u hj)⟩
theorem Rel.trN {V V':View}(hr:∀h n v,V (.ref h n) v→V' (.ref h n) v):
  ∀(t:Ty) (x:t.den) (cs:List Value),vD t=true→Rel V t x cs→Rel V' t x cs
 | .int k,x,cs,_,h=>h
 | .bool,x,cs,_,h=>h
 | .str,x,cs,_,h=>h
 | .slice t,xs,cs,hi,_=>by cases hi
 | .unit,_,cs,_,h=>h
 | .pair a b,x,cs,hi,⟨c1,c2,e,h1,h2⟩=>by simp only[vD,Bool.and_eq_true] at hi;exact⟨c1,c2,e,Rel.trN hr a _ _ hi.1 h1,Rel.trN hr b _ _ hi.2 h2⟩
 | .st t,x,cs,hi,h=>Rel.trN hr t x cs hi h
 | .ref _,0,_,_,h=>h
 | .ref k,_+1,_,hi,⟨v,e,hs,hv⟩=>⟨v,e,hs,hr _ _ _ hv⟩
 | .ptr _,0,_,_,h=>h
 | .ptr k,_+1,_,hi,⟨v,e,hs,hv⟩=>⟨v,e,hs,hr _ _ _ hv⟩
 | .mp _,0,_,_,h=>h
 | .mp k,_+1,_,hi,⟨v,e,hs,hv⟩=>⟨v,e,hs,hr _ _ _ hv⟩
 | .fn,_,_,_,h=>h
 | .mN t,_,cs,hi,_=>by cases hi
theorem qA.EO {V:View}{t:Ty}{x:t.den}{v:Value}(h:∀u,t≠ .st u)(hr:Rel V t x [v]):qA V t x v:=by
 cases t with
 |st u=>exact absurd rfl (h u)
 |_=>exact hr
theorem qA.tr {hs:List Nat}{V V':View}(hc:∀(a:Addr) v,V (.cell a) v→V' (.cell a) v)(hr:∀h,hs.any (Nat.beq h)=true→∀n v,V (.ref h n) v→V' (.ref h n) v){t:Ty}{x:t.den}{v:Value}(hi:dH hs t=true)(h:qA V t x v):qA V' t x v:=by
 cases t with
 |st t=>obtain⟨cs,h1,h2⟩:=h;exact⟨cs,h1,Rel.tr hc hr _ _ _ hi h2⟩
 |_=>exact Rel.tr hc hr _ _ _ hi h
def uV (V:View):(ts:List Ty)→nt ts→List Value→Prop
 | [],_,vs=>vs=[]
 | [t],x,vs=>∃v,vs=[v]∧ng V (flat t x) v
 |t::u::ts,x,vs=>∃v r,vs=v::r∧ng V (flat t x.1) v∧uV V (u::ts) x.2 r
def ArgRel (V:View):(p:jM)→p.den→Value→Prop
 | .v t,x,v=>qA V t x v
 | .fn f ts,x,v=>∃vs:List Value,v= .func (.func f) #[] vs.toArray∧uV V ts x vs
 | .c cs,_,v=>∃vs:List Value,v= .agg vs.toArray∧aE (bw V) cs vs
 | .rp t,x,v=>ng V (flat t x) v
 | .bx _,_,_=>False
 | .Gw,_,_=>False
def mQ (V:View):(ps:List jM)→xB ps→List Value→Prop
 | [],_,vs=>vs=[]
 | [p],x,vs=>∃v,vs=[v]∧ArgRel V p x v
 |p::q::ps,x,vs=>∃v r,vs=v::r∧ArgRel V p x.1 v∧mQ V (q::ps) x.2 r
section heaps
variable {T:cm}{σ:AS}{Φ:bE T}
theorem rG (wr:List Nat):∀(hs:List Nat) (x:wk T hs) (ab:List bh),(lW T wr hs x ab).length=ab.length
 | [],_,ab=>rfl
 | [h],x,ab=>by simp[lW,nJ]
 |h::i::r,x,ab=>by simp only[lW];rw[rG wr (i::r)];simp[nJ]
theorem hZ (wr:List Nat):∀(hs:List Nat) (x:wk T hs) (ab:List bh) (k:Nat),k∉hs→(lW T wr hs x ab)[k]? =ab[k]?
 | [],_,ab,k,_=>rfl
 | [h],x,ab,k,hk=>by simp only[lW,nJ];rw[List.getElem?_set_ne (by simp at hk;omega)]
 |h::i::r,x,ab,k,hk=>by simp only[List.mem_cons,not_or] at hk;simp only[lW];rw[hZ wr (i::r) _ _ k (by simp only[List.mem_cons,not_or];exact hk.2)];simp only[nJ];rw[List.getElem?_set_ne (by omega)]
theorem Kg (e:TypeId)(k:Nat)(w:Bool){s t:Ty}(h:s=t)(xs:List (Option (List s.den))):(⟨e,t,k,w,Fz h xs⟩:bh)=⟨e,s,k,w,xs⟩:=by subst h;rfl
theorem Ni {w:Bool}{ab:List bh}{h:Nat}{hr:bh}(e1:hr.e=(T.ht h).e)(e2:hr.k=(T.ht h).k)(e3:hr.t=(T.ht h).t):nJ T w ab h (Fz e3 hr.xs)=ab.set h ⟨hr.e,hr.t,hr.k,w,hr.xs⟩:=by unfold nJ;rw[Kg, ←e1, ←e2]
def Z5 (T:cm)(σ:AS)(wr:List Nat)(put:List bh→List bh)(h:Nat):Prop:=∃hr:bh,σ.ab[h]? =some hr∧(wr.any (Nat.beq h)=true→hr.w=true)∧hr.e=(T.ht h).e∧hr.k=(T.ht h).k∧hr.t=(T.ht h).t∧
 ∀HR:List bh,h<HR.length→(put HR)[h]? =some ⟨hr.e,hr.t,hr.k,wr.any (Nat.beq h),hr.xs⟩
theorem Kh (wr:List Nat):∀(hs:List Nat) (k:wk T hs→Q T bH) (r:bH),(Ho T wr hs k).val Φ σ=some r→∃x,(k x).val Φ σ=some r∧∀h∈hs,Z5 T σ wr (lW T wr hs x) h
 | [],k,r,h=>⟨(),h,fun h hh=>by simp at hh⟩
 | [h],k,r,he=>by
   simp only[Ho] at he;rw[eK] at he;obtain⟨hr,hh,he⟩:=he;rw[aC] at he;obtain⟨hc,he⟩:=he;simp only[Bool.and_eq_true,beq_iff,Bool.or_eq_true,Bool.not_eq_true'] at hc;obtain⟨⟨hw,e1⟩,e2⟩:=hc;split at he
   ·rename_i e3;refine⟨_,he,fun h' hm=> ?_⟩;simp only[List.mem_singleton] at hm;subst hm;refine⟨hr,hh,fun ha=> ?_,e1,e2,e3,fun HR hlt=> ?_⟩
    ·rcases hw with hw |hw
     ·exact hw
     ·rw[ha] at hw;cases hw
    ·simp only[lW];rw[Ni e1 e2 e3,List.getElem?_set_self hlt]
   ·cases he
 |h::i::rs,k,r,he=>by
  simp only[Ho] at he;rw[eK] at he;obtain⟨hr,hh,he⟩:=he;rw[aC] at he;obtain⟨hc,he⟩:=he;simp only[Bool.and_eq_true,beq_iff,Bool.or_eq_true,Bool.not_eq_true'] at hc;obtain⟨⟨hw,e1⟩,e2⟩:=hc;split at he
  ·rename_i e3;obtain⟨x,hx,HJ⟩:=Kh wr (i::rs) _ r he;refine⟨_,hx,fun h' hm=> ?_⟩;by_cases hm2:h'∈i::rs
   ·obtain⟨hr',g1,g2,g3,g4,g5,g6⟩:=HJ h' hm2;refine⟨hr',g1,g2,g3,g4,g5,fun HR hlt=> ?_⟩;simp only[lW];exact g6 _ (by simpa [nJ] using hlt)
   ·have:h'=h:=by
     rcases List.mem_cons.1 hm with e |e
     ·exact e
     ·exact absurd e hm2
    subst this;refine⟨hr,hh,fun ha=> ?_,e1,e2,e3,fun HR hlt=> ?_⟩
    ·rcases hw with hw |hw
     ·exact hw
     ·rw[ha] at hw;cases hw
    ·simp only[lW];rw[hZ wr (i::rs) _ _ h' hm2,Ni e1 e2 e3,List.getElem?_set_self hlt]
  ·cases he
theorem qB (h:Nat)(hr:bh)(e:(ek T)[h]? =some hr):hr.xs=[]:=by unfold ek at e;rw[List.getElem?_map,Option.map_eq_some_iff] at e;obtain⟨g,_,rfl⟩:=e;rfl
theorem lZ:(ek T).length=T.ab.length:=by simp[ek]
end heaps
open Go.RowKit Go.Lib
section
variable {P:Program}{T:cm}{E:Env}{σ af:AS}{a:Act}{w w':World}{ν aK:Nm→Value}{O:Nat→Prop}{Φ:bE T}{V V':View}{Y:Value}{ab:List bh}{hs:List Nat}
def Src (V V':View)(t:Ty)(l:List t.den)(v:Value):Prop:=∃(A:Option Addr) (c:Nat) (bl:List (List Value)),v= .slice A l.length c∧l.length≤c∧aE (Rel V t) l bl∧(A=none→c=0)∧
 ∀j u,bl.flatten[j]? =some u→∃ad,A=some ad∧V' (.cell (ad.add j)) u
theorem FH {α β γ:Type}{R:α→γ→Prop}{S:β→γ→Prop}{f:α→Option β}(hf:∀x y c,f x=some y→R x c→S y c):∀{xs:List α} {ys:List β} {cs:List γ},mO f xs=some ys→aE R xs cs→aE S ys cs
 | [],ys,[],h,_=>by simp only[mO,Option.some.injEq] at h;subst h;trivial
 |x::xs,ys,c::cs,h,hr=>by
  simp only[mO] at h;split at h
  ·rename_i y hy;split at h
   ·rename_i l hl;simp only[Option.some.injEq] at h;subst h;exact⟨hf _ _ _ hy hr.1,FH hf hl hr.2⟩
   ·cases h
  ·cases h
 | [],ys,_::_,_,hr=>hr.elim
 |_::_,ys,[],_,hr=>hr.elim
theorem Src.tr {t:Ty}{l:List t.den}{v:Value}(hc:∀(a:Addr) v,V (.cell a) v→V' (.cell a) v)(hr:∀h,hs.any (Nat.beq h)=true→∀n v,V (.ref h n) v→V' (.ref h n) v)(hi:dH hs t=true)(h:Src V V' t l v):bw V' ⟨.slice t,l⟩ v:=by obtain⟨A,c,bl,h1,h2,h3,h4,h5⟩:=h;exact⟨A,c,bl,by rw[h1],h2,h3.mono (fun x y=>Rel.tr hc hr t x y hi),h4,h5⟩
theorem zr (hc:∀(a:Addr) v,V (.cell a) v→V' (.cell a) v)(hr:∀h,hs.any (Nat.beq h)=true→∀n v,V (.ref h n) v→V' (.ref h n) v)
  (hsrc:∀(i n:Nat) (hr:bh) (l:List hr.t.den) (v:Value),ab[i]? =some hr→ae hr.xs n=some l→bw V ⟨.ref i,n⟩ v→Src V V' hr.t l v):
  ∀{t:Ty} {l:List CV} {x:t.den} {r:List CV} {vs:List Value},dH hs t=true→snap ab t l=some (x,r)→aE (bw V) l vs→∃v1 v2,vs=v1++v2∧Rel V' t x v1∧aE (bw V) r v2
 | .unit,l,x,r,vs,_,h,hl=>by simp only[snap,Option.some.injEq,Prod.mk.injEq] at h;obtain⟨_,rfl⟩:=h;exact⟨[],vs,rfl,rfl,hl⟩
 | .pair a b,l,x,r,vs,hi,h,hl=>by
   simp only[dH,Bool.and_eq_true] at hi;simp only[snap] at h;split at h
   ·rename_i y l' h1;split at h
    ·rename_i z VO h2;simp only[Option.some.injEq,Prod.mk.injEq] at h;obtain⟨rfl,rfl⟩:=h;obtain⟨v1,v2,rfl,r1,r2⟩:=zr hc hr hsrc hi.1 h1 hl;obtain⟨v3,v4,rfl,r3,r4⟩:=zr hc hr hsrc hi.2 h2 r2;exact⟨v1++v3,v4,by rw[List.append_assoc],⟨v1,v3,rfl,r1,r3⟩,r4⟩
    ·cases h
   ·cases h
 | .st t,l,x,r,vs,hi,h,hl=>zr (t:=t) hc hr hsrc hi h hl
 | .slice t,l,x,r,vs,hi,h,hl=>by
   have hi':dH hs t=true:=hi;simp only[snap] at h;unfold OY at h;split at h
   ·rename_i i n l';cases vs with
    |nil=>exact hl.elim
    |cons v vs=>
     cases hb:Nat.beq n 0 with
     |true=>rw[hb,cond_true] at h;simp only[Option.some.injEq,Prod.mk.injEq] at h;obtain⟨rfl,rfl⟩:=h;have:=(beq_iff _ _).1 hb;subst this;exact⟨[v],vs,rfl,J8 hl.1,hl.2⟩
     |false=>
     rw[hb,cond_false] at h;split at h
     ·rename_i Ng hh;simp only[Option.bind_eq_some_iff,Option.some.injEq,Prod.mk.injEq] at h;obtain⟨ys,hys,xs,hxs,rfl,rfl⟩:=h;obtain⟨A,c,bl,e1,e2,e3,e4,e5⟩:=hsrc i n Ng ys v hh hys hl.1;have hall:aE (Rel V' t) xs bl:=FH (R:=Rel V Ng.t) (fun y z cs hy bP=>by
       split at hy
       ·rename_i x' hsn;simp only[Option.some.injEq] at hy;subst hy;obtain⟨v1,v2,rfl,h1,h2⟩:=zr hc hr hsrc hi' hsn (fM bP);cases v2 with
        |nil=>simpa using h1
        |cons _ _=>exact h2.elim
       ·cases hy) hxs e3
      have hlen:xs.length=ys.length:=by rw[hall.length,e3.length]
      exact⟨[v],vs,rfl,⟨A,c,bl,by rw[e1,hlen],by rw[hlen];exact e2,hall,e4,e5⟩,hl.2⟩
     ·cases h
   ·rename_i t' o l';cases vs with
    |nil=>exact hl.elim
    |cons v vs=>
     simp only[Option.map_eq_some_iff,Prod.mk.injEq] at h;obtain⟨⟨y,r'⟩,h1,h2,h3⟩:=h;simp only at h2 h3;subst h2 h3;have he:=bG h1;simp only[List.cons.injEq] at he;have h4:bw V ⟨.slice t',K7 o⟩ v:=Hy hl.1;rw[he.1] at h4;exact⟨[v],vs,rfl,Rel.tr hc hr _ _ _ hi h4,by
      have:=he.2;subst this;exact hl.2⟩
   ·rw[bG h] at hl;cases vs with
    |nil=>exact hl.elim
    |cons v vs=>exact⟨[v],vs,rfl,Rel.tr hc hr _ _ _ hi hl.1,hl.2⟩
 | .mN t,l,x,r,vs,hi,h,hl=>by
   simp only[snap] at h;unfold K8 at h;split at h
   ·rename_i t' xs l';cases vs with
    |nil=>exact hl.elim
    |cons v vs=>
     cases xs with
     |nil=>cases h
     |cons x0 xs=>
      simp only[Option.map_eq_some_iff,Prod.mk.injEq] at h;obtain⟨⟨y,r'⟩,h1,h2,h3⟩:=h;simp only at h2 h3;subst h2 h3;have he:=bG h1;simp only[List.cons.injEq] at he;obtain⟨A,c,bl,e1,e2,e3,e4,e5⟩:=lY hl.1;have h4:bw V ⟨.mN t',(some (x0::xs):Option (List t'.den))⟩ v:=by
       cases A with
       |none=>have:=e4 rfl;simp at e2;omega
       |some ad=>
        refine⟨ad,c,bl,by rw[e1],e2,e3,fun j u hj=> ?_⟩;obtain⟨RT,h5,h6⟩:=e5 j u hj;obtain rfl:ad=RT:=by simpa using h5
        exact h6
      rw[he.1] at h4;exact⟨[v],vs,rfl,Rel.tr hc hr _ _ _ hi h4,by
       have:=he.2;subst this;exact hl.2⟩
   ·rw[bG h] at hl;cases vs with
    |nil=>exact hl.elim
    |cons v vs=>exact⟨[v],vs,rfl,Rel.tr hc hr _ _ _ hi hl.1,hl.2⟩
 | .int k,l,x,r,vs,hi,h,hl=>leaf hi h hl
 | .bool,l,x,r,vs,hi,h,hl=>leaf hi h hl
 | .str,l,x,r,vs,hi,h,hl=>leaf hi h hl
 | .ref k,l,x,r,vs,hi,h,hl=>by
   simp only[snap] at h;unfold K9 at h;split at h
   ·rename_i h' n l';cases hc:Nat.beq k h' with
    |true=>rw[hc,cond_true] at h;exact leaf hi h hl
    |false=>
    rw[hc,cond_false] at h;cases hb:Nat.beq n 0 with
    |false=>rw[hb] at h;cases h
    |true=>
     rw[hb] at h;have e1:some ((0:Nat),l')=some (x,r):=h;simp only[Option.some.injEq,Prod.mk.injEq] at e1;obtain⟨rfl,rfl⟩:=e1;obtain rfl:n=0:=Nat.eq_of_beq_eq_true hb;cases vs with
     |nil=>exact hl.elim
     |cons v vs=>exact⟨[v],vs,rfl,(show [v]=[Value.slice none 0 0] from hl.1),hl.2⟩
   ·exact leaf hi h hl
 | .ptr k,l,x,r,vs,hi,h,hl=>leaf hi h hl
 | .mp k,l,x,r,vs,hi,h,hl=>leaf hi h hl
 | .fn,l,x,r,vs,hi,h,hl=>leaf hi h hl
where
 leaf {t:Ty} {l:List CV} {x:t.den} {r:List CV} {vs:List Value} (hi:dH hs t=true) (h:cE t l=some (x,r)) (hl:aE (bw V) l vs):∃v1 v2,vs=v1++v2∧Rel V' t x v1∧aE (bw V) r v2:=by
  rw[bG h] at hl;cases vs with
  |nil=>exact hl.elim
  |cons v vs=>exact⟨[v],vs,rfl,Rel.tr hc hr _ _ _ hi hl.1,hl.2⟩
theorem AR (hc:∀(a:Addr) v,V (.cell a) v→V' (.cell a) v)(hr:∀h,hs.any (Nat.beq h)=true→∀n v,V (.ref h n) v→V' (.ref h n) v)
  (hsrc:∀(i n:Nat) (hr:bh) (l:List hr.t.den) (v:Value),ab[i]? =some hr→ae hr.xs n=some l→bw V ⟨.ref i,n⟩ v→Src V V' hr.t l v)
  {t:Ty} {av:AV} {x:t.den} {v:Value} (hi:dH hs t=true) (h:typed ab t av=some x) (ha:al V σ ν Y av v):qA V' t x v:=by
 have s1:∀{t:Ty} {l:List CV} {x:t.den} {vs:List Value},dH hs t=true→sB ab t l=some x→aE (bw V) l vs→Rel V' t x vs:=fun {t l x vs} hi h hl=>by
  unfold sB at h;split at h
  ·rename_i y h1;simp only[Option.some.injEq] at h;subst h;obtain⟨v1,v2,rfl,h2,h3⟩:=zr hc hr hsrc hi h1 hl;cases v2 with
   |nil=>simpa using h2
   |cons _ _=>exact h3.elim
  ·cases h
 unfold typed at h;split at h
 ·rename_i cs;obtain⟨vs,h1,h2⟩:=ha;exact⟨vs,h1,s1 hi h h2⟩
 ·rename_i t vs;split at h
  ·rename_i cs hl;obtain⟨l1,h1,h2⟩:=fU (V:=V') hl;refine⟨vs.toList, ?_,fN ?_⟩
   ·have:v= .agg vs:=ha;simpa using this
   ·rw[←lU h,h1,List.append_nil];exact h2
  ·cases h
 ·cases h
 ·rename_i c hn;exact qA.EO (fun u e=>by subst e;exact hn u rfl) (s1 hi h (vs:=[v]) ⟨ha,trivial⟩)
 ·rename_i v' hn1 hn2;split at h
  ·rename_i c hl;obtain⟨l1,h1,h2⟩:=fU (V:=V') hl;have h3:v=v':=ha;rw[List.append_nil] at h1;subst h1;subst h3;have:=uR h;subst this;exact qA.EO (fun u e=>by subst e;exact hn2 u rfl) h2.1
  ·cases h
 ·cases h
end
open Go.RowKit Go.Lib
def R7 (σ:AS)(ν:Nm→Value)(hout:List Nat)(k:Nat):Prop:=∃i n,hout.any (Nat.beq i)=true∧Own σ ν (.hp i n) k
theorem qC (ad:Addr)(j:Nat):(ad.add j).block=ad.block:=by unfold Addr.add;split<;>rfl
section
variable {P:Program}{T:cm}{E:Env}{σ af:AS}{a:Act}{w w':World}{ν aK:Nm→Value}{O:Nat→Prop}{Φ:bE T}{V V':View}{Y:Value}{hs hout:List Nat}
structure JB (V V':View) (σ:AS) (ν:Nm→Value) (w:World) (hin hout:List Nat) (c7:Bool):Prop where
 cell:∀(a:Addr) v,V (.cell a) v→V' (.cell a) v
 ref:∀h,hin.any (Nat.beq h)=true→∀n v,V (.ref h n) v→V' (.ref h n) v
 all:c7=true→∀(ad:Addr) u,w.cell? ad=some u→¬R7 σ ν hout ad.block→V' (.cell ad) u
theorem JB.src {c7:Bool}(hl:JB V V' σ ν w hs hout c7)(h1:c7=true){v:Value}{row:Row}(hr:fR V w v row)(hb:∀k,cr v=some k→¬R7 σ ν hout k):Src V V' row.t row.xs v:=by obtain⟨A,c,bl,e1,e2,e3,e4,e5⟩:=Hb hr;refine⟨A,c,bl,e1,e2,e3,e4,fun j u hj=> ?_⟩;obtain⟨ad,rfl,hc⟩:=e5 j u hj;refine⟨ad,rfl,hl.all h1 _ _ hc ?_⟩;rw[qC];exact hb _ (by rw[e1];rfl)
theorem R8 (h:St E σ a w ν O){q:Nat}(hq:(look σ.rows q).isSome=true)(k:Nat)(hk:cr (ν (.row q))=some k):¬R7 σ ν hout k:=fun⟨i,n,_,ho⟩=>by have:=h.inj _ _ k ⟨by simpa [AS.obj] using hq,hk⟩ ho;cases this
theorem R9 (h:St E σ a w ν O){q:Nat}(hq:(look σ.boxes q).isSome=true)(k:Nat)(hk:cr (ν (.box q))=some k):¬R7 σ ν hout k:=fun⟨i,n,_,ho⟩=>by have:=h.inj _ _ k ⟨by simpa [AS.obj] using hq,hk⟩ ho;cases this
theorem BF {k:List bh→Q T bH}{r:bH}:∀(is:List Nat) (acc:List bh),(s9 is acc k).val Φ σ=some r→∃l:List bh,(k (acc.reverse++l)).val Φ σ=some r∧aE (fun i hr=>σ.ab[i]? =some hr) is l
 | [],acc,h=>⟨[],by simpa [s9] using h,trivial⟩
 |i::is,acc,h=>by simp only[s9] at h;rw[eK] at h;obtain⟨hr,h1,h⟩:=h;obtain⟨l,h2,h3⟩:=BF is (hr::acc) h;exact⟨hr::l,by simpa using h2,h1,h3⟩
theorem Nj {c7:Bool}(h:St E σ a w ν O)(hl:JB (view E σ ν O w) V' σ ν w hs hout c7)(h1:c7=true){q:Nat}{row:Row}{t:Ty}{x:t.den}(hi:dH hs t=true)(hrow:look σ.rows q=some row)
  (hx:(cE t [⟨.slice row.t,row.xs⟩]).map (·.1)=some x):bw V' ⟨t,x⟩ (ν (.row q))∧(∀u,t≠ .st u)∧ [(⟨.slice row.t,row.xs⟩:CV)]=flat t x:=by
 have:=uR hx;obtain⟨e,t',xs⟩:=row;dsimp only at this;injection this with e1 e2
 subst e1;simp only[heq_eq_eq] at e2;subst e2;exact⟨(hl.src h1 (h.row hrow) (R8 h (aZ hrow))).tr hl.cell hl.ref hi,(fun u e=>by cases e),rfl⟩
theorem xS {c7:Bool}(h:St E σ a w ν O)(hl:JB (view E σ ν O w) V' σ ν w hs hout c7){t:Ty}(hi:dH hs t=true){k:t.den→Q T bH}{r:bH}{c:yy}{v:Value}(hc:nw (view E σ ν O w) σ ν c v)(h1:c7=true∨∃cs,c= .pO cs)
  (he:(zg t k c).val Φ σ=some r):∃x,(k x).val Φ σ=some r∧ng V' (flat t x) v:=by
 unfold zg at he;split at he
 ·rename_i b;have h1:c7=true:=by
   rcases h1 with h1 | ⟨cs,e⟩
   ·exact h1
   ·cases e
  obtain⟨Ph,g,GF,rfl⟩:=hc;rw[uP] at he;obtain⟨bx,hb,he⟩:=he;obtain⟨g',hg',Pg⟩:=h.box hb;obtain rfl:g=g':=by rw[GF] at hg';simpa using hg'
  have hnx:=R9 (hout:=hout) h (aZ hb) g (by rw[GF];rfl);split at he
  ·rename_i cs;obtain⟨cur,e,hg,bP⟩:=Pg;rw[bQ] at he;obtain⟨x,hx,he⟩:=he;have e1:=lU hx;subst e1;refine⟨x,he,⟨g,0,none⟩,cur.toList,rfl,fM (Rel.tr hl.cell hl.ref _ _ _ hi (fN bP)),fun j u hj=>hl.all h1 _ _ ?_ (by rw[qC];exact hnx)⟩;rw[wq,cell_of_row w g j cur e (0,0) hg];simpa using hj
  ·rename_i q;obtain⟨e,hg,_⟩:=Pg;rw[lE] at he;obtain⟨row,hrow,he⟩:=he;rw[bQ] at he;obtain⟨x,hx,he⟩:=he;obtain⟨h2,_,h3⟩:=Nj h hl h1 hi hrow hx;refine⟨x,he,⟨g,0,none⟩,[ν (.row q)],rfl, ?_,fun j u hj=>hl.all h1 _ _ ?_ (by rw[qC];exact hnx)⟩
   ·exact fM h2
   ·rw[wq,cell_of_row w g j _ e (0,0) hg];simpa using hj
  ·cases he
 ·rename_i cs;rw[bQ] at he;obtain⟨x,hx,he⟩:=he;have e1:=lU hx;subst e1;obtain⟨ad,vs,e2,e3,e4⟩:=hc;exact⟨x,he,ad,vs,e2,fM (Rel.tr hl.cell hl.ref _ _ _ hi (fN e3)),fun j u hj=>hl.cell _ _ (e4 j u hj)⟩
theorem FI {c7:Bool}(h:St E σ a w ν O)(hl:JB (view E σ ν O w) V' σ ν w hs hout c7){r:bH}:∀{ts:List Ty} {aP:List yy} {vs:List Value} {k:nt ts→Q T bH},(ts.all (dH hs))=true→aE (nw (view E σ ν O w) σ ν) aP vs→(c7=true∨aP=[])→
  (ra ts aP k).val Φ σ=some r→∃x,(k x).val Φ σ=some r∧uV V' ts x vs
 | [],[],[],k,_,_,_,he=>⟨(),he,rfl⟩
 | [t],[c],[v],k,hi,hc,h1,he=>by simp only[List.all_cons,List.all_nil,Bool.and_true] at hi;simp only[ra] at he;obtain⟨x,h2,h3⟩:=xS h hl hi hc.1 (.inl (h1.resolve_right (fun e=>by cases e))) he;exact⟨x,h2,v,rfl,h3⟩
 |t::u::ts,c::cs,v::vs,k,hi,hc,h1,he=>by simp only[List.all_cons,Bool.and_eq_true] at hi;simp only[ra] at he;obtain⟨x,h2,h3⟩:=xS h hl hi.1 hc.1 (.inl (h1.resolve_right (fun e=>by cases e))) he;obtain⟨y,h4,h5⟩:=FI h hl (ts:=u::ts) (by simp only[List.all_cons,Bool.and_eq_true];exact hi.2) hc.2 (.inl (h1.resolve_right (fun e=>by cases e))) h2;exact⟨(x,y),h4,v,vs,rfl,h3,h5⟩
 | [],_::_,_,k,_,_,_,he=>by simp only[ra,rE] at he
 | [_],[],_,k,_,_,_,he=>by simp only[ra,rE] at he
 | [_],_::_::_,_,k,_,_,_,he=>by simp only[ra,rE] at he
 |_::_::_,[],_,k,_,_,_,he=>by simp only[ra,rE] at he
 | [],[],_::_,k,_,hc,_,_=>hc.elim
 | [_],[_],[],k,_,hc,_,_=>hc.elim
 | [_],[_],_::_::_,k,_,hc,_,_=>hc.2.elim
 |_::_::_,_::_,[],k,_,hc,_,_=>hc.elim
theorem T4 {a b:CV}(h:Tw a b=true):a=b:=by
 unfold Tw at h;split at h
 ·rename_i i x j y;simp only[Bool.and_eq_true,decide_eq_true_eq,beq_iff_eq] at h;obtain⟨rfl,rfl⟩:=h;rfl
 ·rename_i x y;have:x=y:=by simpa using h
  subst this;rfl
 ·rename_i x y;have:x=y:=(beq_iff _ _).1 h;subst this;rfl
 ·cases h
theorem Ki:∀{a b:List CV},Ld a b=true→a=b
 | [],[],_=>rfl
 |a::r,b::s,h=>by simp only[Ld,Bool.and_eq_true] at h;rw[T4 h.1,Ki h.2]
 | [],_::_,h=>by cases h
 |_::_,[],h=>by cases h
theorem HS {av:AV}{v:Value}(ha:al V σ ν Y av v){g:FuncId}{aP:List yy}(h:Et av=some (g,aP)):∃vs:List Value,v= .func (.func g) #[] vs.toArray∧aE (nw V σ ν) aP vs:=by
 unfold Et at h;split at h
 ·simp only[Option.some.injEq,Prod.mk.injEq] at h;obtain⟨rfl,rfl⟩:=h;exact ha
 ·rename_i n;split at h
  ·simp only[Option.some.injEq,Prod.mk.injEq] at h;obtain⟨rfl,rfl⟩:=h;have: [v]=[fnV _]:=ha;simp only[List.cons.injEq,and_true] at this;exact⟨[],this,trivial⟩
  ·cases h
 ·cases h
theorem Nk {c7:Bool}{nh:Nat}(h:St E σ a w ν O)(hl:JB (view E σ ν O w) V' σ ν w hs hout c7){p:jM}(hi:G5 hs p=true){av:AV}{v:Value}(ha:al (view E σ ν O w) σ ν E.Y av v){k:p.den→Q T bH}{r:bH}
  (he:(RM c7 nh hout p av k).val Φ σ=some r):∃x,(k x).val Φ σ=some r∧ArgRel V' p x v:=by
 have Z6:∀(i n:Nat) (hr:bh) (l:List hr.t.den) (v:Value),([]:List bh)[i]? =some hr→ae hr.xs n=some l→bw (view E σ ν O w) ⟨.ref i,n⟩ v→Src (view E σ ν O w) V' hr.t l v:=fun i n hr l v e=>by simp at e
 unfold RM at he;split at he
 ·rename_i t k;split at he
  ·rename_i q;rw[aC] at he;obtain⟨h1,he⟩:=he;rw[lE] at he;obtain⟨row,hrow,he⟩:=he;rw[bQ] at he;obtain⟨x,hx,he⟩:=he;obtain⟨h2,h3,_⟩:=Nj h hl h1 hi hrow hx;exact⟨x,he,qA.EO h3 (by rw[ha.1];exact h2)⟩
  ·rename_i hno;have fin:(Q.opt (typed [] t av) k).val Φ σ=some r→∃x,(k x).val Φ σ=some r∧ArgRel V' (.v t) x v:=fun he=>by rw[bQ] at he;obtain⟨x,hx,he⟩:=he;exact⟨x,he,AR hl.cell hl.ref Z6 hi hx ha⟩
   cases hb:(Eu av&& !(O5 t)&&c7) with
   |false=>rw[hb] at he;exact fin he
   |true=>
    rw[hb,cond_true] at he;have h1:c7=true:=by simp only[Bool.and_eq_true] at hb;exact hb.2
    obtain⟨l,he,hall⟩:=BF _ _ he;rw[bQ] at he;obtain⟨x,hx,he⟩:=he;refine⟨x,he,AR hl.cell hl.ref (fun i n hr l' v e hg hv=> ?_) hi hx ha⟩;simp only[List.reverse_nil,List.nil_append,List.getElem?_map,Option.map_eq_some_iff] at e;obtain⟨p,hp,e⟩:=e;rw[List.getElem?_zipIdx] at hp;simp only[Option.map_eq_some_iff,Nat.zero_add] at hp;obtain⟨Ng,ai,rfl⟩:=hp;obtain⟨i',hi1,hi2⟩:=hall.get' i Ng ai;have hii:i'=i:=by obtain⟨h5,h6⟩:=List.getElem?_eq_some_iff.1 hi1;simpa using h6.symm
    subst hii;dsimp only at e;cases ho:hout.any (Nat.beq i') with
    |true=>
     rw[ho,cond_true] at e;subst e;cases n with
     |zero=>simp only[ae,Option.some.injEq] at hg;subst hg;have: [v]=[_]:=hv;simp only[List.cons.injEq,and_true] at this;exact⟨none,0,[],this,Nat.le_refl _,trivial,fun _=>rfl,fun j u hj=>by simp at hj⟩
     |succ m=>simp[ae] at hg
    |false=>
     rw[ho,cond_false] at e;subst e;obtain⟨h2,h3,_⟩:=h.Dj hi2 hg hv;exact hl.src h1 h2 (fun k hk ⟨i2,n2,h4,h5⟩=>by
      have:=h.inj _ _ k (h3 k hk) h5;injection this with e1 e2
      subst e1;rw[ho] at h4;cases h4)
 ·rename_i f ts k;split at he
  ·rename_i g aP hg;rw[aC] at he;obtain⟨hb,he⟩:=he;simp only[Bool.and_eq_true,Bool.or_eq_true,beq_iff] at hb;obtain⟨rfl,hb⟩:=hb;obtain⟨vs,e1,e2⟩:=HS ha hg;obtain⟨x,h2,h3⟩:=FI h hl hi e2 (hb.imp id (fun e=>by simpa using e)) he;exact⟨x,h2,vs,e1,h3⟩
  ·cases he
 ·rename_i cs k;rw[aC] at he;obtain⟨hf,he⟩:=he;refine⟨(),he, ?_⟩;unfold Tx at hf;split at hf
  ·rename_i e;cases e
  ·rename_i cs1 cs2 e;injection e with e
   subst e;obtain⟨vs,e1,e2⟩:=ha;have:=Ki hf;subst this;refine⟨vs,e1, ?_⟩;have hi':∀c∈cs,dH hs c.1=true:=by simpa [G5] using hi
   exact tv (fun c hc u hu=>Rel.tr hl.cell hl.ref _ _ _ (hi' c hc) hu) e2
  ·cases hf
  ·rename_i hx1 hx2 hx3 hx4
   first |exact absurd rfl (hx3 cs) |exact absurd rfl (hx4 cs) |exact(hx3 cs rfl).elim |exact(hx4 cs rfl).elim
 ·rename_i t k;split at he
  ·rename_i b;rw[aC] at he;obtain⟨h1,he⟩:=he;exact xS (c:= .box b) h hl hi ha (.inl h1) he
  ·rename_i cs;exact xS (c:= .pO cs) h hl hi ha (.inr ⟨cs,rfl⟩) he
  ·cases he
 ·cases he
 ·cases he
theorem Kj {c7:Bool}{nh:Nat}(h:St E σ a w ν O)(hl:JB (view E σ ν O w) V' σ ν w hs hout c7){r:bH}:∀{ps:List jM} {Jq:List AV} {vs:List Value} {k:xB ps→Q T bH},(ps.all (G5 hs))=true→aE (al (view E σ ν O w) σ ν E.Y) Jq vs→
  (BD c7 nh hout ps Jq k).val Φ σ=some r→∃x,(k x).val Φ σ=some r∧mQ V' ps x vs
 | [],[],[],k,_,_,he=>⟨(),he,rfl⟩
 | [p],[c],[v],k,hi,hc,he=>by simp only[List.all_cons,List.all_nil,Bool.and_true] at hi;simp only[BD] at he;obtain⟨x,h2,h3⟩:=Nk h hl hi hc.1 he;exact⟨x,h2,v,rfl,h3⟩
 |t::u::ts,c::cs,v::vs,k,hi,hc,he=>by simp only[List.all_cons,Bool.and_eq_true] at hi;simp only[BD] at he;obtain⟨x,h2,h3⟩:=Nk h hl hi.1 hc.1 he;obtain⟨y,h4,h5⟩:=Kj h hl (ps:=u::ts) (by simp only[List.all_cons,Bool.and_eq_true];exact hi.2) hc.2 h2;exact⟨(x,y),h4,v,vs,rfl,h3,h5⟩
 | [],_::_,_,k,_,_,he=>by simp only[BD,rE] at he
 | [_],[],_,k,_,_,he=>by simp only[BD,rE] at he
 | [_],_::_::_,_,k,_,_,he=>by simp only[BD,rE] at he
 |_::_::_,[],_,k,_,_,he=>by simp only[BD,rE] at he
 | [],[],_::_,k,_,hc,_=>hc.elim
 | [_],[_],[],k,_,hc,_=>hc.elim
 | [_],[_],_::_::_,k,_,hc,_=>hc.2.elim
 |_::_::_,_::_,[],k,_,hc,_=>hc.elim
end
open Go.RowKit Go.Lib
def bm (ab:List bh):AS:=⟨⟨0,[],[]⟩,[],[],ab,⟨.unit,()⟩,[],[]⟩
def ia (d:Nat):(ts:List Ba)→nt (ts.map (·.1))→List TU
 | [],_=>[]
 | [(t,some e)],x=>match ownRow t e x with
   |some row=>[.row d row]
   |none=>[]
 | [(t,none)],x=>[]
 | (t,some e)::u::ts,x=>match ownRow t e x.1 with
   |some row=> .row d row::ia (d+1) (u::ts) x.2
   |none=>ia (d+1) (u::ts) x.2
 | (t,none)::u::ts,x=>ia (d+1) (u::ts) x.2
def rH (d:Nat):(ts:List Ty)→nt ts→List TU
 | [],_=>[]
 | [t],x=>[.box d (.cells (flat t x))]
 |t::u::ts,x=> .box d (.cells (flat t x.1))::rH (d+1) (u::ts) x.2
def FJ (d:Nat):(ts:List Ty)→List yy
 | []=>[]
 | [t]=>[.box d]
 |t::u::ts=> .box d::FJ (d+1) (u::ts)
def Co (d:Nat)(s:za)(y:Ce s):List TU:=match s,y with
 | ⟨_,res,none,_,none⟩,y=>ia d res y
 | ⟨_,_,some (f,ts),_,none⟩,y=>rH d ts y
 |_,_=>[]
def Nl (d:Nat)(s:za)(y:Ce s):AV:=match s,y with
 | ⟨_,res,none,_,none⟩,y=>ML (sC d res y)
 | ⟨_,_,some (f,ts),_,none⟩,y=> .fn f (FJ d ts)
 |_,_=> .nil
def aU (T:cm)(v:Nat)(xh:wj T v):List bh:=lW T (T.sig v).hout (T.sig v).hin (vC _ xh) (ek T)
def ni (T:cm)(v:Nat)(xh:wj T v)(yh:pP T v):List bh:=lW T (T.sig v).hout (T.sig v).hout (vC _ yh) (aU T v xh)
def wA (T:cm)(v d:Nat)(xh:wj T v)(yh:pP T v):AS:=(bm (ni T v xh yh)).app (Co d (T.sig v) (oX _ yh))
def pV (σ:AS)(us:List TU):Prop:=∀u∈us,match u with
 | .row k _=>look σ.rows k=none
 | .box k _=>look σ.boxes k=none
 |_=>False
section
variable {P:Program}{T:cm}{E:Env}{σ af:AS}{a:Act}{w w':World}{ν aK:Nm→Value}{O:Nat→Prop}{Φ:bE T}{V V':View}{Y:Value}{hs hout:List Nat}
theorem pV.cons {u:TU}{us:List TU}(h:pV σ us)(hu:match u with | .row k _=>look σ.rows k=none | .box k _=>look σ.boxes k=none |_=>False):pV σ (u::us):=fun x hx=>by
 rcases List.mem_cons.1 hx with rfl |hx
 ·exact hu
 ·exact h x hx
theorem pV.nil:pV σ []:=fun x hx=>by simp at hx
theorem zt {r:bH}:∀(ts:List Ba) (d:Nat) (y:nt (ts.map (·.1))) (k:List TU→Q T bH),(rb d ts y k).val Φ σ=some r→(k (ia d ts y)).val Φ σ=some r∧pV σ (ia d ts y)
 | [],d,y,k,h=>⟨h,pV.nil⟩
 | [(t,none)],d,y,k,h=>⟨h,pV.nil⟩
 | [(t,some e)],d,y,k,h=>by
   simp only[rb] at h;simp only[ia];split at h
   ·rename_i row hrow;rw[qu] at h;rw[hrow];exact⟨h.2,pV.nil.cons h.1⟩
   ·cases h
 | (t,none)::u::ts,d,y,k,h=>by simp only[rb] at h;exact zt (u::ts) (d+1) y.2 k h
 | (t,some e)::u::ts,d,y,k,h=>by
   simp only[rb] at h;simp only[ia];split at h
   ·rename_i row hrow;rw[qu] at h;rw[hrow];obtain⟨h1,h2⟩:=zt (u::ts) (d+1) y.2 _ h.2;exact⟨h1,h2.cons h.1⟩
   ·cases h
theorem Dk {r:bH}:∀(ts:List Ty) (d:Nat) (y:nt ts) (k:List TU→List yy→Q T bH),(wm d ts y k).val Φ σ=some r→(k (rH d ts y) (FJ d ts)).val Φ σ=some r∧pV σ (rH d ts y)
 | [],d,y,k,h=>⟨h,pV.nil⟩
 | [t],d,y,k,h=>by simp only[wm] at h;rw[qv] at h;exact⟨h.2,pV.nil.cons h.1⟩
 |t::u::ts,d,y,k,h=>by simp only[wm] at h;rw[qv] at h;obtain⟨h1,h2⟩:=Dk (u::ts) (d+1) y.2 _ h.2;exact⟨h1,h2.cons h.1⟩
theorem T5 {d:Nat}{s:za}{y:Ce s}{us:List TU}{r:bH}(h:(Tz T d s y us).val Φ σ=some r):r=(Nl d s y, .kt (us++Co d s y))∧pV σ (Co d s y)∧s.gen=none:=by
 unfold Tz at h;split at h
 ·obtain⟨h1,h2⟩:=zt _ _ _ _ h;rw[fx] at h1;exact⟨h1.symm,h2,rfl⟩
 ·obtain⟨h1,h2⟩:=Dk _ _ _ _ h;rw[fx] at h1;exact⟨h1.symm,h2,rfl⟩
 ·cases h
theorem Po (us vs:List TU):σ.app (us++vs)=(σ.app us).app vs:=by
 induction us generalizing σ with
 |nil=>rfl
 |cons u us ih=>exact ih
theorem HU (wr:List Nat):∀(hs:List Nat) (x:wk T hs) (σ:AS),(∀h∈hs,wr.any (Nat.beq h)=true)→σ.app (sc T hs x)={σ with ab:=lW T wr hs x σ.ab}
 | [],_,σ,_=>rfl
 | [h],x,σ,hw=>by simp only[sc,lW,nJ,AS.app,AS.one];rw[hw h (by simp)]
 |h::i::r,x,σ,hw=>by simp only[sc,lW,AS.app];rw[HU wr (i::r) x.2 _ (fun h' hm=>hw h' (by simp only[List.mem_cons] at hm ⊢;exact .inr hm))];simp only[nJ,AS.one];rw[hw h (by simp)]
def Cp (us:List TU):Prop:=∀u∈us,(∃k r,u= .row k r)∨∃k x,u= .box k x
theorem pV.only {us:List TU}(h:pV σ us):Cp us:=fun u hu=>by
 have:=h u hu;cases u with
 |row k r=>exact .inl ⟨k,r,rfl⟩
 |box k x=>exact .inr ⟨k,x,rfl⟩
 |_=>exact this.elim
theorem HV {us:List TU}(h:Cp us)(σ:AS):(σ.app us).tmps=σ.tmps∧(σ.app us).ab=σ.ab∧(σ.app us).trace=σ.trace∧(σ.app us).cd=σ.cd∧(σ.app us).sites=σ.sites:=by
 induction us generalizing σ with
 |nil=>exact⟨rfl,rfl,rfl,rfl,rfl⟩
 |cons u us ih=>
  have pM:=ih (fun x hx=>h x (by simp[hx])) (σ.one u);rcases h u (by simp) with ⟨k,r,rfl⟩ | ⟨k,x,rfl⟩
  ·exact pM
  ·exact pM
theorem T6 {us:List TU}(h:Cp us)(σ Eo cV:AS)(hr:∀k,look cV.rows k=(look Eo.rows k).or (look σ.rows k))(hb:∀k,look cV.boxes k=(look Eo.boxes k).or (look σ.boxes k)):
  (∀k,look (cV.app us).rows k=(look (Eo.app us).rows k).or (look σ.rows k))∧∀k,look (cV.app us).boxes k=(look (Eo.app us).boxes k).or (look σ.boxes k):=by
 induction us generalizing Eo cV with
 |nil=>exact⟨hr,hb⟩
 |cons u us ih=>
  refine ih (fun x hx=>h x (by simp[hx])) (Eo.one u) (cV.one u) (fun k=> ?_) (fun k=> ?_)
  ·rcases h u (by simp) with ⟨j,r,rfl⟩ | ⟨j,x,rfl⟩
   ·show look (put _ _ _) k=(look (put _ _ _) k).or _;rw[aF,aF];split
    ·rfl
    ·exact hr k
   ·exact hr k
  ·rcases h u (by simp) with ⟨j,r,rfl⟩ | ⟨j,x,rfl⟩
   ·exact hb k
   ·show look (put _ _ _) k=(look (put _ _ _) k).or _;rw[aF,aF];split
    ·rfl
    ·exact hb k
theorem rI {us:List TU}(h:Cp us)(σ:AS)(k:Nat):(∀r,look (σ.app us).rows k=some r→look σ.rows k=some r∨TU.row k r∈us)∧∀x,look (σ.app us).boxes k=some x→look σ.boxes k=some x∨TU.box k x∈us:=by
 induction us generalizing σ with
 |nil=>exact⟨fun r h=> .inl h,fun r h=> .inl h⟩
 |cons u us ih=>
  obtain⟨h1,h2⟩:=ih (fun x hx=>h x (by simp[hx])) (σ.one u);rcases h u (by simp) with ⟨j,r0,rfl⟩ | ⟨j,x0,rfl⟩
  ·refine⟨fun r hr=> ?_,fun x hx=>(h2 x hx).imp id (fun h=>by simp[h])⟩;rcases h1 r hr with h3 |h3
   ·have h3':look (put σ.rows j r0) k=some r:=h3;rw[aF] at h3';split at h3'
    ·rename_i e;subst e;simp only[Option.some.injEq] at h3';subst h3';exact .inr (by simp)
    ·exact .inl h3'
   ·exact .inr (by simp[h3])
  ·refine⟨fun r hr=>(h1 r hr).imp id (fun h=>by simp[h]),fun x hx=> ?_⟩;rcases h2 x hx with h3 |h3
   ·have h3':look (put σ.boxes j x0) k=some x:=h3;rw[aF] at h3';split at h3'
    ·rename_i e;subst e;simp only[Option.some.injEq] at h3';subst h3';exact .inr (by simp)
    ·exact .inl h3'
   ·exact .inr (by simp[h3])
theorem QS (wr:List Nat):∀(hs:List Nat) (x:wk T hs) (l l':List bh) (h:Nat),h∈hs→h<l.length→h<l'.length→(lW T wr hs x l)[h]? =(lW T wr hs x l')[h]?
 | [],_,_,_,h,hm,_,_=>by simp at hm
 | [i],x,l,l',h,hm,h1,h2=>by simp only[List.mem_singleton] at hm;subst hm;simp only[lW,nJ];rw[List.getElem?_set_self h1,List.getElem?_set_self h2]
 |i::j::r,x,l,l',h,hm,h1,h2=>by
  by_cases hm2:h∈j::r
  ·simp only[lW];exact QS wr (j::r) x.2 _ _ h hm2 (by simpa [nJ] using h1) (by simpa [nJ] using h2)
  ·have:h=i:=by
    rcases List.mem_cons.1 hm with e |e
    ·exact e
    ·exact absurd e hm2
   subst this;simp only[lW];rw[hZ wr _ _ _ h hm2,hZ wr _ _ _ h hm2];simp only[nJ];rw[List.getElem?_set_self h1,List.getElem?_set_self h2]
def Pp (T:cm)(V:View):Prop:=∀i x,look T.Xr i=some x→∃g cs,i=gk g∧x= .pO cs∧ng V cs (.pointer (some ⟨g,0,none⟩))
def zu (T:cm)(E:Env):Prop:=Cl E∧Pp T (fun key v=>∃ad:Addr,key= .cell ad∧ad.block<E.w0.heap.size∧E.V0 (.cell ad) v)
def ib:CV→(Nat→Prop)→World→Prop:=fun tr _ _=>tr=⟨.unit,()⟩
def Left (T:cm)(E:Env)(v:Nat)(xh:wj T v)(yh:pP T v)(d:Nat)(e:Ending)(w':World):Prop:=
 ∃r aK,e= .returned r∧St E (wA T v d xh yh) ⟨#[],[]⟩ w' aK (fun _=>False)∧al (view E (wA T v d xh yh) aK (fun _=>False) w') (wA T v d xh yh) aK E.Y (Nl d (T.sig v) (oX _ yh)) r
structure Callee (T:cm) (E:Env) (v:Nat) (xh:wj T v):Prop where
 j:E.J=ib
 m:∀r,¬E.M r
 om:∀k,¬E.Om k
 acc:∀tr,E.acc tr
 hx:∀i k,i∉(T.sig v).hin→¬E.XH i k
 ro:∀i,E.ro i=bif (T.sig v).hin.any (Nat.beq i)&& !((T.sig v).hout.any (Nat.beq i)) then (aU T v xh)[i]? else none
def Ly (P:Program)(T:cm)(Φ:bE T):Prop:=∀v xh yh,Φ v xh=some yh→(T.sig v).gen=none→(∃fn,P.funcs[T.real v]? =some fn∧fn.body.isSome=true∧(fn.name== "runtime.NumGoroutine")=false)∧
 ∀(E:Env) (ν:Nm→Value) (args:Array Value) (d:Nat),aB E→zu T E→Callee T E v xh→St E (bm (aU T v xh)) ⟨#[],[]⟩ E.w0 ν (fun _=>False)→
  mQ (view E (bm (aU T v xh)) ν (fun _=>False) E.w0) (T.sig v).args (oX _ xh) args.toList→Calls P (T.real v) args E.w0 (Left T E v xh yh d)
end
open Go.RowKit Go.Lib
theorem xT {w:World}{a:Addr}{v:Value}(h:w.cell? a=some v):a.block<w.heap.size:=by
 unfold World.cell? at h;cases hb:w.heap[a.block]? with
 |none=>simp[hb] at h
 |some o=>exact(Array.getElem?_eq_some_iff.1 hb).1
theorem iv {l:List Nat}{h:Nat}:l.any (Nat.beq h)=true↔h∈l:=by rw[List.any_eq_true];exact⟨fun⟨x,hx,e⟩=>by rw[(beq_iff _ _).1 e];exact hx,fun hx=>⟨h,hx,beq_refl h⟩⟩
theorem Nn {T:cm}{A:Type}{x:A}:∀{hs:List Nat} {h:wk T hs} {y:CY T A hs},zb x hs (some h)=some y→oX hs y=x∧vC hs y=h
 | [],h,y,e=>by simp only[zb,Option.some.injEq] at e;exact⟨e.symm,rfl⟩
 |_::_,h,y,e=>by simp only[zb,Option.some.injEq] at e;subst e;exact⟨rfl,rfl⟩
section
variable {P:Program}{T:cm}{E:Env}{σ af:AS}{a:Act}{w w':World}{ν aK:Nm→Value}{O:Nat→Prop}{Φ:bE T}{V V':View}{Y:Value}
def rf (T:cm)(E:Env)(σ:AS)(ν:Nm→Value)(O:Nat→Prop)(w:World)(v:Nat)(xh:wj T v)(c7:Bool):Env where
 V0:=fun key u=>∃ad:Addr,key= .cell ad∧(view E σ ν O w (.cell ad) u∨(c7=true∧w.cell? ad=some u∧¬R7 σ ν (T.sig v).hout ad.block))
 w0:=w
 X:=R7 σ ν (T.sig v).hout
 J:=ib
 XS:=E.XS
 Y:= .nilFunc
 ro:=fun i=>bif (T.sig v).hin.any (Nat.beq i)&& !((T.sig v).hout.any (Nat.beq i)) then (aU T v xh)[i]? else none
 h0:=aU T v xh
 n0:=fun h n=>ν (.hp h n)
 M:=fun _=>False
 base:=w
 CB:=R7 σ ν (T.sig v).hout
 Om:=fun _=>False
 acc:=fun _=>True
 XH:=fun i k=>i∈(T.sig v).hin∧∃n,Own σ ν (.hp i n) k
def sU (T:cm)(σ:AS)(v:Nat)(xh:wj T v):Prop:=∀h∈(T.sig v).hin,Z5 T σ (T.sig v).hout (lW T (T.sig v).hout (T.sig v).hin (vC _ xh)) h
theorem AT {v:Nat}{xh:wj T v}(hI:sU T σ v xh){i:Nat}{hr':bh}(e:(aU T v xh)[i]? =some hr'):
  (i∈(T.sig v).hin∧∃hr,σ.ab[i]? =some hr∧hr'=⟨hr.e,hr.t,hr.k,(T.sig v).hout.any (Nat.beq i),hr.xs⟩∧((T.sig v).hout.any (Nat.beq i)=true→hr.w=true)∧hr.t=(T.ht i).t)∨(i∉(T.sig v).hin∧hr'.xs=[]):=by
 by_cases hi:i∈(T.sig v).hin
 ·left;obtain⟨hr,h1,h2,h3,h4,h5,h6⟩:=hI i hi;have hlt:i<(ek T).length:=by have:=(List.getElem?_eq_some_iff.1 e).1;unfold aU at this;rwa [rG] at this
  have h7:=h6 (ek T) hlt;unfold aU at e;rw[e] at h7;simp only[Option.some.injEq] at h7;exact⟨hi,hr,h1,h7,h2,h5⟩
 ·right;unfold aU at e;rw[hZ _ _ _ _ _ hi] at e;exact⟨hi,qB i hr' e⟩
theorem Kk {v:Nat}{xh:wj T v}(hI:sU T σ v xh){i n:Nat}{o:Obj}(e:ki (aU T v xh) i n=some o):i∈(T.sig v).hin∧ki σ.ab i n=some o:=by
 cases n with
 |zero=>cases e
 |succ m=>
  simp only[ki] at e;split at e
  ·rename_i hr' hh;rcases AT hI hh with ⟨h1,hr,h2,rfl,_⟩ | ⟨_,h1⟩
   ·refine⟨h1, ?_⟩;simp only[ki,h2];exact e
   ·rw[h1] at e;simp[yC] at e
  ·cases e
theorem Sa (hE:aB E)(h:St E σ a w ν O){hout:List Nat}(hw:∀i,hout.any (Nat.beq i)=true→∃hr,σ.ab[i]? =some hr∧hr.w=true){ad:Addr}{u:Value}(hv:view E σ ν O w (.cell ad) u):¬R7 σ ν hout ad.block:=fun⟨i,n,h1,h2⟩=>by
 rcases hv with ⟨hlt,hv⟩ | ⟨hge,hn,_⟩
 ·rcases (h.oW _ _ h2).1 with h3 |h3 | ⟨j,m,hr',e,h3⟩
  ·omega
  ·exact(hE.cell _ _ hv).2 h3
  ·injection e with e1 e2
   subst e1;obtain⟨hr,h4,h5⟩:=hw i h1;obtain⟨h6,h7⟩:=h.ro i hr' h3;rw[h4] at h6;obtain rfl:hr=hr':=by simpa using h6
   rw[h5] at h7;cases h7
 ·exact hn ⟨_,h2⟩
theorem Pq {v:Nat}{xh:wj T v}(hI:sU T σ v xh)(i:Nat)(hi:(T.sig v).hout.any (Nat.beq i)=true):∃hr,σ.ab[i]? =some hr∧hr.w=true:=by
 have hm:i∈(T.sig v).hin:=by have:=iv.1 hi;simp only[za.hout,za.hin,List.mem_map,List.mem_filter] at this ⊢;obtain⟨p,⟨hp,_⟩,e⟩:=this;exact⟨p,hp,e⟩
 obtain⟨hr,h1,h2,_⟩:=hI i hm;exact⟨hr,h1,h2 hi⟩
theorem Pr (hE:aB E)(h:St E σ a w ν O){v:Nat}{xh:wj T v}(hI:sU T σ v xh)(c7:Bool):aB (rf T E σ ν O w v xh c7):=by
 refine⟨fun ad u hv=> ?_,fun _ _ _ _ _ h _ _=>h⟩;obtain⟨RT,e,hv⟩:=hv;injection e with e
 subst e;rcases hv with hv | ⟨_,h1,h2⟩
 ·exact⟨qt hE h.keep hv,Sa hE h (Pq hI) hv⟩
 ·exact⟨h1,h2⟩
theorem ng.of {V V':View}(hV:∀a v,V a v→V' a v){cs:List CV}{v:Value}(h:ng V cs v):ng V' cs v:=ng.mono hV h
theorem No (hG:zu T E)(hE:aB E)(h:St E σ a w ν O){v:Nat}{xh:wj T v}(c7:Bool):zu T (rf T E σ ν O w v xh c7):=by refine⟨hG.1,fun i x hx=> ?_⟩;obtain⟨g,cs,h1,h2,h3⟩:=hG.2 i x hx;refine⟨g,cs,h1,h2,h3.of fun key u ⟨ad,e,hlt,hv⟩=>⟨ad,e,Nat.lt_of_lt_of_le hlt h.keep.size,ad,rfl, .inl (.inl ⟨hlt,hv⟩)⟩⟩
theorem FK (hE:aB E)(h:St E σ a w ν O){v:Nat}{xh:wj T v}(hI:sU T σ v xh)(pR:σ.ab.length=T.ab.length)(c7:Bool):
  JB (view E σ ν O w) (view (rf T E σ ν O w v xh c7) (bm (aU T v xh)) ν (fun _=>False) w) σ ν w (T.sig v).hin (T.sig v).hout c7:=by
 refine⟨fun ad u hv=> .inl ⟨xT (qt hE h.keep hv),ad,rfl, .inl hv⟩,fun k hk n u hv=> ?_,fun hl ad u hc hx=> .inl ⟨xT hc,ad,rfl, .inr ⟨hl,hc,hx⟩⟩⟩;obtain⟨h1,h2,h3⟩:=hv;refine⟨h1, ?_,h3⟩;obtain⟨hr,g1,g2,g3,g4,g5,g6⟩:=hI k (iv.1 hk);have hlt:k<(ek T).length:=by rw[lZ, ←pR];exact(List.getElem?_eq_some_iff.1 g1).1
 show n≤hlen (aU T v xh) k;rw[AO g1] at h2;rw[AO (ab:=aU T v xh) (g6 (ek T) hlt)];exact h2
theorem Lz (hE:aB E)(h:St E σ a w ν O){v:Nat}{xh:wj T v}(hI:sU T σ v xh)(pR:σ.ab.length=T.ab.length)(hs:yA T (T.sig v)=true)(c7:Bool):
  St (rf T E σ ν O w v xh c7) (bm (aU T v xh)) ⟨#[],[]⟩ w ν (fun _=>False):=by
 have hl:=FK hE h hI pR c7;have hown:∀m k,Own (bm (aU T v xh)) ν m k→∃i n,m= .hp i n∧i∈(T.sig v).hin∧Own σ ν m k:=fun m k hm=>by
  obtain⟨h1,h2⟩:=hm;cases m with
  |row r=>simp[AS.obj,bm,look] at h1
  |box r=>simp[AS.obj,bm,look] at h1
  |hp i n=>obtain⟨o,ho⟩:=Option.isSome_iff_exists.1 h1;obtain⟨h3,h4⟩:=Kk hI ho;exact⟨i,n,rfl,h3,aZ (show σ.obj (.hp i n)=some o from h4),h2⟩
 have Z7:∀m k,Own (bm (aU T v xh)) ν m k→(rf T E σ ν O w v xh c7).pQ m∨R7 σ ν (T.sig v).hout k:=fun m k hm=>by
  obtain⟨i,n,rfl,h3,h4⟩:=hown m k hm;by_cases ho:(T.sig v).hout.any (Nat.beq i)=true
  ·exact .inr ⟨i,n,ho,h4⟩
  ·have ho':(T.sig v).hout.any (Nat.beq i)=false:=eq_false_of_ne_true ho;obtain⟨hr,g1,g2,g3,g4,g5,g6⟩:=hI i h3;have hlt:i<(ek T).length:=by rw[lZ, ←pR];exact(List.getElem?_eq_some_iff.1 g1).1
   refine .inl ⟨i,n,⟨hr.e,hr.t,hr.k,(T.sig v).hout.any (Nat.beq i),hr.xs⟩,rfl, ?_⟩;show (bif _ then _ else _)=_;have g7:=g6 (ek T) hlt;rw[ho'] at g7;rw[iv.2 h3,ho'];exact g7
 refine⟨dp.refl _ _,(fun d hd=>by cases hd),⟨rfl,(fun i x e=>by cases e),(fun i x e=>by cases e)⟩,fun m o ho=> ?_,fun m m' k h1 h2=> ?_,fun m k hm=> ?_,fun r k hk=> ?_,⟨rfl,fun k hk=>hk.elim⟩,fun i hr n e h1 h2=> ?_,fun i hr e=> ?_,⟨rfl,fun i hr e=>⟨hr,e,sE.refl _,Nat.le_refl _⟩,fun _ _ _ _=>rfl⟩,fun _ hf=>hf.elim,dp.refl _ _,fun m k hm=> ?_,fun _ hf=>hf,List.nodup_nil⟩
 ·cases m with
  |row r=>simp[AS.obj,bm,look] at ho
  |box r=>simp[AS.obj,bm,look] at ho
  |hp i n=>
   have ho':ki (aU T v xh) i n=some o:=ho;obtain⟨h3,h4⟩:=Kk hI ho';obtain⟨k,row,rfl⟩:=De ho';have bP:sD (view E σ ν O w) w k (ν (.hp i n)) row:=h.sQ (.hp i n) _ h4;have hrt:dH (T.sig v).hin row.t=true:=by
    obtain⟨hr,g1,g2,g3,g4,g5,g6⟩:=hI i h3;have:row.t=hr.t:=by
     cases n with
     |zero=>cases h4
     |succ m=>
      simp only[ki,g1,yC] at h4;split at h4
      ·simp only[Option.some.injEq,Obj.hp.injEq] at h4;rw[←h4.2]
      ·cases h4
    rw[this,g5];simp only[yA,Bool.and_eq_true] at hs;exact List.all_eq_true.1 hs.1.2 i h3
   have oS:=fun x cs=>Rel.tr hl.cell hl.ref row.t x cs hrt;show sD _ w k _ row
   match k,bP with
   |0,⟨h5,bl,h6,h7⟩=>exact⟨h5,bl,h6,h7.mono oS⟩
   |1,⟨g,cur,ys,x,h5,h6,h7,h8,h9⟩=>exact⟨g,cur,ys,x,h5,h6,h7,h8,oS _ _ h9⟩
 ·obtain⟨_,_,_,_,h3⟩:=hown m k h1;obtain⟨_,_,_,_,h4⟩:=hown m' k h2;exact h.inj m m' k h3 h4
 ·obtain⟨i,n,rfl,h3,h4⟩:=hown m k hm;exact⟨(Z7 _ k hm).elim (fun e=> .inr (.inr e)) (fun e=> .inr (.inl e)),(h.oW _ k h4).2.1,fun hf=>hf⟩
 ·obtain⟨i,n,e,h3,h4⟩:=hown _ k hk;subst e;exact .inr ⟨h3,n,h4⟩
 ·rcases AT hI e with ⟨_,yD,g1,rfl,_⟩ | ⟨_,g1⟩
  ·exact h.nn i yD n g1 h1 h2
  ·rw[g1] at h2;simp at h2;omega
 ·have e':(bif (T.sig v).hin.any (Nat.beq i)&& !((T.sig v).hout.any (Nat.beq i)) then (aU T v xh)[i]? else none)=some hr:=e;cases hb:((T.sig v).hin.any (Nat.beq i)&& !((T.sig v).hout.any (Nat.beq i))) with
  |false=>rw[hb] at e';cases e'
  |true=>
   rw[hb,cond_true] at e';refine⟨e', ?_⟩;simp only[Bool.and_eq_true,Bool.not_eq_true'] at hb;rcases AT hI e' with ⟨_,yD,g1,rfl,_⟩ | ⟨g1,_⟩
   ·exact hb.2
   ·exact absurd (iv.1 hb.1) g1
 ·exact(Z7 m k hm).imp id .inl
end
open Go.RowKit Go.Lib
theorem AU:∀{t:Ty} {x:t.den},vD t=true→∀c∈flat t x,vD c.1=true
 | .unit,_,_,c,hc=>by simp[flat] at hc
 | .pair a b,x,h,c,hc=>by
   simp only[vD,Bool.and_eq_true] at h;simp only[flat,List.mem_append] at hc;rcases hc with hc |hc
   ·exact AU h.1 c hc
   ·exact AU h.2 c hc
 | .st t,x,h,c,hc=>AU (t:=t) h c hc
 | .int k,x,h,c,hc=>by simp only[flat,List.mem_singleton] at hc;subst hc;rfl
 | .bool,x,h,c,hc=>by simp only[flat,List.mem_singleton] at hc;subst hc;rfl
 | .str,x,h,c,hc=>by simp only[flat,List.mem_singleton] at hc;subst hc;rfl
 | .slice t,x,h,c,hc=>by cases h
 | .mN t,x,h,c,hc=>by cases h
 | .ref k,x,h,c,hc=>by simp only[flat,List.mem_singleton] at hc;subst hc;rfl
 | .ptr k,x,h,c,hc=>by simp only[flat,List.mem_singleton] at hc;subst hc;rfl
 | .mp k,x,h,c,hc=>by simp only[flat,List.mem_singleton] at hc;subst hc;rfl
 | .fn,x,h,c,hc=>by simp only[flat,List.mem_singleton] at hc;subst hc;rfl
theorem Kl {t:Ty}{e:TypeId}{x:t.den}{row:Row}(h:ownRow t e x=some row):t= .slice row.t:=by
 unfold ownRow at h;split at h
 ·simp only[Option.some.injEq] at h;subst h;rfl
 ·cases h
theorem qD:∀(ts:List Ba) (d:Nat) (y:nt (ts.map (·.1))) (u:TU),u∈ia d ts y→∃k row t e,u= .row k row∧(t,some e)∈ts∧t= .slice row.t
 | [],d,y,u,h=>by simp[ia] at h
 | [(t,none)],d,y,u,h=>by simp[ia] at h
 | [(t,some e)],d,y,u,h=>by
   simp only[ia] at h;split at h
   ·rename_i row hr;simp only[List.mem_singleton] at h;exact⟨d,row,t,e,h,by simp,Kl hr⟩
   ·simp at h
 | (t,none)::p::ts,d,y,u,h=>by simp only[ia] at h;obtain⟨k,row,t',e,h1,h2,h3⟩:=qD (p::ts) _ _ _ h;exact⟨k,row,t',e,h1,List.mem_cons_of_mem _ h2,h3⟩
 | (t,some e)::p::ts,d,y,u,h=>by
   simp only[ia] at h;split at h
   ·rename_i row hr;rcases List.mem_cons.1 h with h |h
    ·exact⟨d,row,t,e,h,List.mem_cons_self,Kl hr⟩
    ·obtain⟨k,row,t',e,h1,h2,h3⟩:=qD (p::ts) _ _ _ h;exact⟨k,row,t',e,h1,List.mem_cons_of_mem _ h2,h3⟩
   ·obtain⟨k,row,t',e,h1,h2,h3⟩:=qD (p::ts) _ _ _ h;exact⟨k,row,t',e,h1,List.mem_cons_of_mem _ h2,h3⟩
def RvT (t:Ty):RV→Prop
 | .cv c=>c.1=t
 | .agg cs=>∃(u:Ty) (y:u.den),t= .st u∧cs=flat u y
 | .own _=>False
theorem EP:∀(ts:List Ba) (d:Nat) (y:nt (ts.map (·.1))) (x:RV),x∈sC d ts y→(∃q,x= .own q)∨∃t,(t,none)∈ts∧RvT t x
 | [],d,y,x,h=>by simp[sC] at h
 | [(t,some e)],d,y,x,h=>by
   have:x∈[RV.own d]:=by cases t<;>exact h
   simp only[List.mem_singleton] at this;exact .inl ⟨d,this⟩
 | [(t,none)],d,y,x,h=>by
   refine .inr ⟨t,by simp, ?_⟩;cases t<;>(simp only[sC,List.mem_singleton] at h;subst h;first |rfl |exact⟨_,_,rfl,rfl⟩)
 | (t,some e)::p::ts,d,y,x,h=>by
   have:x∈RV.own d::sC (d+1) (p::ts) y.2:=by cases t<;>exact h
   rcases List.mem_cons.1 this with h |h
   ·exact .inl ⟨d,h⟩
   ·exact(EP (p::ts) _ _ _ h).imp id (fun⟨t,h1,h2⟩=>⟨t,List.mem_cons_of_mem _ h1,h2⟩)
 | (t,none)::p::ts,d,y,x,h=>by
   have:RvT t x∨x∈sC (d+1) (p::ts) y.2:=by
    cases t<;>(simp only[sC,List.mem_cons] at h;exact h.imp (fun h=>by subst h;first |rfl |exact⟨_,_,rfl,rfl⟩) id)
   rcases this with h |h
   ·exact .inr ⟨t,List.mem_cons_self,h⟩
   ·exact(EP (p::ts) _ _ _ h).imp id (fun⟨t,h1,h2⟩=>⟨t,List.mem_cons_of_mem _ h1,h2⟩)
section
variable {P:Program}{T:cm}{E:Env}{σ af:AS}{a:Act}{w w':World}{ν aK:Nm→Value}{O:Nat→Prop}{Φ:bE T}{V V':View}{Y:Value}
def LA (e:AS)(hout:List Nat):Nm→Bool
 | .row k=>(look e.rows k).isSome
 | .box k=>(look e.boxes k).isSome
 | .hp i _=>hout.any (Nat.beq i)
def Km (e:AS)(hout:List Nat)(ν aK:Nm→Value)(m:Nm):Value:=bif LA e hout m then aK m else ν m
def zv (T:cm)(σ:AS)(v d:Nat)(yh:pP T v):AS:=(σ.app (sc T (T.sig v).hout (vC _ yh))).app (Co d (T.sig v) (oX _ yh))
structure T7 (CW es σ:AS) (hout:List Nat):Prop where
 tmps:CW.tmps=σ.tmps
 trace:CW.trace=σ.trace
 num:CW.ab.length=σ.ab.length
 rows:∀k,look CW.rows k=(look es.rows k).or (look σ.rows k)
 boxes:∀k,look CW.boxes k=(look es.boxes k).or (look σ.boxes k)
 fr:∀k,(look es.rows k).isSome=true→look σ.rows k=none
 fb:∀k,(look es.boxes k).isSome=true→look σ.boxes k=none
 hin:∀i,hout.any (Nat.beq i)=true→CW.ab[i]? =es.ab[i]?
 hout:∀i,hout.any (Nat.beq i)=false→CW.ab[i]? =σ.ab[i]?
theorem T8 (pR:σ.ab.length=T.ab.length){v d:Nat}{xh:wj T v}{yh:pP T v}(hI:sU T σ v xh)(hf:pV σ (Co d (T.sig v) (oX _ yh))):T7 (zv T σ v d yh) (wA T v d xh yh) σ (T.sig v).hout:=by
 have ho:=hf.only;have e1:σ.app (sc T (T.sig v).hout (vC _ yh))={σ with ab:=lW T (T.sig v).hout (T.sig v).hout (vC _ yh) σ.ab}:=HU (T.sig v).hout _ _ σ (fun h hm=>iv.2 hm);obtain⟨a1,a2,a3,_,_⟩:=HV ho (σ.app (sc T (T.sig v).hout (vC _ yh)));obtain⟨_,b2,_,_,_⟩:=HV ho (bm (ni T v xh yh));have hh:(zv T σ v d yh).ab=lW T (T.sig v).hout (T.sig v).hout (vC _ yh) σ.ab:=by unfold zv;rw[a2,e1]
 have hh2:(wA T v d xh yh).ab=ni T v xh yh:=b2;obtain⟨r1,r2⟩:=T6 ho σ (bm (ni T v xh yh)) (σ.app (sc T (T.sig v).hout (vC _ yh))) (fun k=>by rw[e1];rfl) (fun k=>by rw[e1];rfl);have hl:(ek T).length=σ.ab.length:=by rw[lZ,pR]
 refine⟨by unfold zv;rw[a1,e1],by unfold zv;rw[a3,e1],by rw[hh,rG],r1,r2,fun k hk=> ?_,fun k hk=> ?_,fun i hi=> ?_,fun i hi=> ?_⟩
 ·obtain⟨r,hr⟩:=Option.isSome_iff_exists.1 hk;rcases (rI ho (bm (ni T v xh yh)) k).1 r hr with h1 |h1
  ·cases h1
  ·exact hf _ h1
 ·obtain⟨r,hr⟩:=Option.isSome_iff_exists.1 hk;rcases (rI ho (bm (ni T v xh yh)) k).2 r hr with h1 |h1
  ·cases h1
  ·exact hf _ h1
 ·obtain⟨hr,h1,_⟩:=Pq hI i hi;have hlt:=(List.getElem?_eq_some_iff.1 h1).1;rw[hh,hh2];unfold ni;exact QS _ _ _ _ _ i (iv.1 hi) hlt (by unfold aU;rw[rG,hl];exact hlt)
 ·rw[hh];exact hZ _ _ _ _ i (fun hm=>by rw[iv.2 hm] at hi;cases hi)
theorem T9 {CW es:AS}{hout:List Nat}(hc:T7 CW es σ hout)(m:Nm):(LA es hout m=true→CW.obj m=es.obj m)∧(LA es hout m=false→CW.obj m=σ.obj m):=by
 cases m with
 |row k=>
  simp only[LA,AS.obj,hc.rows k];refine⟨fun h=> ?_,fun h=> ?_⟩
  ·obtain⟨r,hr⟩:=Option.isSome_iff_exists.1 h;rw[hr];rfl
  ·cases hr:look es.rows k with
   |none=>rfl
   |some r=>rw[hr] at h;cases h
 |box k=>
  simp only[LA,AS.obj,hc.boxes k];refine⟨fun h=> ?_,fun h=> ?_⟩
  ·obtain⟨r,hr⟩:=Option.isSome_iff_exists.1 h;rw[hr];rfl
  ·cases hr:look es.boxes k with
   |none=>rfl
   |some r=>rw[hr] at h;cases h
 |hp i n=>
  refine⟨fun h=> ?_,fun h=> ?_⟩
  ·cases n with
   |zero=>rfl
   |succ n=>simp only[AS.obj,ki];rw[hc.hin i h]
  ·cases n with
   |zero=>rfl
   |succ n=>simp only[AS.obj,ki];rw[hc.hout i h]
end
open Go.RowKit Go.Lib
section
variable {P:Program}{T:cm}{E:Env}{σ af:AS}{a:Act}{w w':World}{ν aK:Nm→Value}{O:Nat→Prop}{Φ:bE T}{V V':View}{Y:Value}
theorem Sb {h0:List bh}{n0:Nat→Nat→Value}{hs:List bh}(hk:HK h0 n0 hs ν){i:Nat}{hr:bh}(h:h0[i]? =some hr):∃hr',hs[i]? =some hr'∧sE hr hr'∧hr.xs.length≤hr'.xs.length∧∀n,1≤n→n≤hr.xs.length→ν (.hp i n)=n0 i n:=by obtain⟨hr',h1,h2,h3⟩:=hk.row i hr h;exact⟨hr',h1,h2,h3,fun n h4 h5=>hk.nm i n h4 (by rw[AO h];exact h5)⟩
theorem Dl {s:za}{i:Nat}(hi:s.hout.any (Nat.beq i)=true):i∈s.hin:=by have:=iv.1 hi;simp only[za.hout,za.hin,List.mem_map,List.mem_filter] at this ⊢;obtain⟨p,⟨hp,_⟩,e⟩:=this;exact⟨p,hp,e⟩
theorem Np {v d:Nat}{xh:wj T v}{yh:pP T v}(hf:pV σ (Co d (T.sig v) (oX _ yh))):(wA T v d xh yh).ab=ni T v xh yh:=(HV hf.only (bm (ni T v xh yh))).2.1
theorem AW {s:za}(h:hU T s=true)(hg:s.gen=none):s.Xq=none∧(∀i∈s.hout,vD (T.ht i).t=true)∧∀t o,(t,o)∈s.res→(o=none→vD t=true)∧∀u e,t= .slice u→o=some e→vD u=true:=by
 unfold hU at h;rw[hg] at h;simp only[Bool.and_eq_true,Option.isNone_iff_eq_none,List.all_eq_true] at h;refine⟨h.1.1,h.1.2,fun t o hm=> ?_⟩;have h1:=h.2 (t,o) hm;refine⟨fun e=> ?_,fun u e e1 e2=> ?_⟩
 ·subst e;cases t<;>first |exact h1 |rfl
 ·subst e1 e2;exact h1
theorem QT {d:Nat}{s:za}{y:Ce s}(hl:hU T s=true){u:TU}(h:u∈Co d s y):∃k row,u= .row k row∧vD row.t=true:=by
 unfold Co at h;split at h
 ·rename_i args res hps y;obtain⟨k,row,t,e,rfl,h2,h3⟩:=qD _ _ _ _ h;obtain⟨_,_,h4⟩:=AW hl rfl;exact⟨k,row,rfl,(h4 _ _ h2).2 _ _ h3 rfl⟩
 ·obtain⟨h4,_⟩:=AW hl rfl;cases h4
 ·simp at h
theorem St.called (hE:aB E)(h:St E σ a w ν O)(pR:σ.ab.length=T.ab.length){v d:Nat}{xh:wj T v}{yh:pP T v}{c7:Bool}(Nq:c7=true→hU T (T.sig v)=true)(hI:sU T σ v xh)(tz:(T.sig v).gen=none)
  (hf:pV σ (Co d (T.sig v) (oX _ yh))) (hend:St (rf T E σ ν O w v xh c7) (wA T v d xh yh) ⟨#[],[]⟩ w' aK (fun _=>False)):
  St E (zv T σ v d yh) a w' (Km (wA T v d xh yh) (T.sig v).hout ν aK) O∧
   ∀t,(c7=true→vD t=true)→∀x cs,Rel (view (rf T E σ ν O w v xh c7) (wA T v d xh yh) aK (fun _=>False) w') t x cs→Rel (view E (zv T σ v d yh) (Km (wA T v d xh yh) (T.sig v).hout ν aK) O w') t x cs:=by
 have hc:=T8 (xh:=xh) pR hI hf;have heh:=Np (xh:=xh) hf;generalize QU:wA T v d xh yh=es at hc hend heh ⊢;generalize hsn:zv T σ v d yh=CW at hc ⊢;have R2:=fun m=>T9 hc m;have hw:∀i,(T.sig v).hout.any (Nat.beq i)=true→∃hr,σ.ab[i]? =some hr∧hr.w=true:=fun i hi=>Pq hI i hi;have RY:∀i n,(T.sig v).hout.any (Nat.beq i)=true→¬E.pQ (.hp i n):=fun i n hi ⟨j,m,hr',e,h3⟩=>by
  injection e with e1 e2
  subst e1;obtain⟨hr,h4,h5⟩:=hw i hi;obtain⟨h6,h7⟩:=h.ro i hr' h3;rw[h4] at h6;obtain rfl:hr=hr':=by simpa using h6
  rw[h5] at h7;cases h7
 have Sc:∀m,LA es (T.sig v).hout m=true→Km es (T.sig v).hout ν aK m=aK m:=fun m hm=>by unfold Km;rw[hm];rfl
 have Ps:∀m,LA es (T.sig v).hout m=false→Km es (T.sig v).hout ν aK m=ν m:=fun m hm=>by unfold Km;rw[hm];rfl
 -- zw Z8 ab
 have hstart:∀i hr,σ.ab[i]? =some hr→i∈(T.sig v).hin→(aU T v xh)[i]? =some ⟨hr.e,hr.t,hr.k,(T.sig v).hout.any (Nat.beq i),hr.xs⟩∧hr.t=(T.ht i).t:=fun i hr h1 h2=>by
  obtain⟨hr',g1,g2,g3,g4,g5,g6⟩:=hI i h2;rw[h1] at g1;obtain rfl:hr=hr':=by simpa using g1
  have hlt:i<(ek T).length:=by rw[lZ, ←pR];exact(List.getElem?_eq_some_iff.1 h1).1
  have:=g6 (ek T) hlt;refine⟨?_,g5⟩;unfold aU;exact this
 have QV:∀i hr,σ.ab[i]? =some hr→i∈(T.sig v).hin→∃hr',es.ab[i]? =some hr'∧hr'.e=hr.e∧hr'.t=hr.t∧hr'.k=hr.k∧hr'.w=(T.sig v).hout.any (Nat.beq i)∧hr.xs.length≤hr'.xs.length∧∀n,1≤n→n≤hr.xs.length→aK (.hp i n)=ν (.hp i n):=fun i hr h1 h2=>by obtain⟨hr',k1,k2,k3,k4⟩:=Sb hend.kept (hstart i hr h1 h2).1;exact⟨hr',k1,k2.e,k2.t,k2.k,k2.w,k3,k4⟩
 -- what is owned
 have hown:∀m k,Own CW (Km es (T.sig v).hout ν aK) m k→(LA es (T.sig v).hout m=true∧Own es aK m k)∨(LA es (T.sig v).hout m=false∧Own σ ν m k):=fun m k ⟨h1,h2⟩=>by
  cases hm:LA es (T.sig v).hout m with
  |true=>rw[(R2 m).1 hm] at h1;rw[Sc m hm] at h2;exact .inl ⟨rfl,h1,h2⟩
  |false=>rw[(R2 m).2 hm] at h1;rw[Ps m hm] at h2;exact .inr ⟨rfl,h1,h2⟩
 have Ua:∀m k,LA es (T.sig v).hout m=true→Own es aK m k→w.heap.size≤k∨R7 σ ν (T.sig v).hout k:=fun m k hm ho=>by
  rcases (hend.oW m k ho).1 with h1 |h1 | ⟨i,n,hr,e,h1⟩
  ·exact .inl h1
  ·right;exact h1
  ·subst e;have hm':(T.sig v).hout.any (Nat.beq i)=true:=hm;have h1':(bif (T.sig v).hin.any (Nat.beq i)&& !((T.sig v).hout.any (Nat.beq i)) then (aU T v xh)[i]? else none)=some hr:=h1;rw[hm'] at h1';simp at h1'
 have Xz:∀m k,LA es (T.sig v).hout m=false→Own σ ν m k→¬R7 σ ν (T.sig v).hout k:=fun m k hm ho ⟨i,n,h1,h2⟩=>by have:=h.inj m _ k ho h2;subst this;have hm':(T.sig v).hout.any (Nat.beq i)=false:=hm;rw[h1] at hm';cases hm'
 have Wm:dp (R7 σ ν (T.sig v).hout) w w':=hend.keep
 -- zw ab
 have hsub:HSub σ ν CW (Km es (T.sig v).hout ν aK):=by
  refine⟨hc.num,fun i hr e=> ?_,fun i n h1 h2=> ?_⟩
  ·cases hi:(T.sig v).hout.any (Nat.beq i) with
   |true=>
    obtain⟨hr',k1,k2,k3,k4,k5,k6,_⟩:=QV i hr e (Dl (s:=T.sig v) hi);obtain⟨yD,h3,h4⟩:=hw i hi;rw[e] at h3;obtain rfl:hr=yD:=by simpa using h3
    exact⟨hr',by rw[hc.hin i hi];exact k1,⟨k2,k3,k4,by rw[k5,hi,h4]⟩,k6⟩
   |false=>exact⟨hr,by rw[hc.hout i hi];exact e,sE.refl _,Nat.le_refl _⟩
  ·cases hi:(T.sig v).hout.any (Nat.beq i) with
   |true=>rw[Sc (.hp i n) hi];obtain⟨hr,e,h3⟩:=zm h1 h2;obtain⟨hr',_,_,_,_,_,_,k7⟩:=QV i hr e (Dl (s:=T.sig v) hi);exact k7 n h1 h3
   |false=>exact Ps (.hp i n) hi
 -- what can be seen
 have Ys:c7=false→∀(ad:Addr) u,view (rf T E σ ν O w v xh c7) es aK (fun _=>False) w' (.cell ad) u→(∀key u,view E σ ν O w key u→view E CW (Km es (T.sig v).hout ν aK) O w' key u)→view E CW (Km es (T.sig v).hout ν aK) O w' (.cell ad) u:=fun hl ad u hv hV=>by
  rcases hv with ⟨hlt,RT,e,hv⟩ | ⟨hge,hn,_,hcell⟩
  ·injection e with e
   subst e;rcases hv with hv | ⟨h1,_⟩
   ·exact hV _ _ hv
   ·rw[hl] at h1;cases h1
  ·have acd:w.heap.size≤ad.block:=hge;refine .inr ⟨Nat.le_trans h.keep.size acd,fun⟨m,hm⟩=> ?_,fun ho=> ?_,hcell⟩
   ·rcases hown m _ hm with ⟨_,h1⟩ | ⟨_,h1⟩
    ·exact hn ⟨m,h1⟩
    ·exact absurd (h.oW _ _ h1).2.1 (by omega)
   ·exact absurd (h.out.2 _ ho).1 (by omega)
 have Ub:∀(i n:Nat) u,view (rf T E σ ν O w v xh c7) es aK (fun _=>False) w' (.ref i n) u→view E CW (Km es (T.sig v).hout ν aK) O w' (.ref i n) u:=fun i n u ⟨h1,h2,h3⟩=>by
  cases hi:(T.sig v).hout.any (Nat.beq i) with
  |true=>refine⟨h1, ?_,by rw[Sc (.hp i n) hi];exact h3⟩;unfold hlen at h2 ⊢;rw[hc.hin i hi];exact h2
  |false=>
   obtain⟨hr',e',h4⟩:=zm h1 h2;have hil:i<(aU T v xh).length:=by have h9:es.ab.length=(aU T v xh).length:=hend.kept.num;rw[←h9];exact(List.getElem?_eq_some_iff.1 e').1
   have hro:es.ab[i]? =(aU T v xh)[i]? :=by rw[heh];unfold ni;exact hZ _ _ _ _ i (fun hm=>by rw[iv.2 hm] at hi;cases hi)
   rw[e'] at hro;rcases AT hI hro.symm with ⟨g1,hr,g2,g3,_,_⟩ | ⟨_,g1⟩
   ·have hlen:n≤hr.xs.length:=by rw[g3] at h4;exact h4
    obtain⟨_,_,_,_,_,_,_,k7⟩:=QV i hr g2 g1;refine⟨h1, ?_,by rw[Ps (.hp i n) hi, ←k7 n h1 hlen];exact h3⟩;unfold Abs.hlen;rw[hc.hout i hi,g2];exact hlen
   ·rw[g1] at h4;simp at h4;omega
 have oS:(∀key u,view E σ ν O w key u→view E CW (Km es (T.sig v).hout ν aK) O w' key u)→∀t,(c7=true→vD t=true)→∀x cs,Rel (view (rf T E σ ν O w v xh c7) es aK (fun _=>False) w') t x cs→Rel (view E CW (Km es (T.sig v).hout ν aK) O w') t x cs:=fun hV t ht x cs hr=>by
  cases hl:c7 with
  |true=>rw[hl] at hr Ub;exact Rel.trN Ub t x cs (ht hl) hr
  |false=>
   refine Rel.mono (fun key u hu=> ?_) t x cs hr;cases key with
   |cell ad=>exact Ys hl ad u hu hV
   |ref i n=>exact Ub i n u hu
 -- no ace in what comes out of a Wq call
 have Z9:∀k row,look es.rows k=some row→c7=true→vD row.t=true:=fun k row hk hl=>by
  have hld:=Nq hl;rw[←QU] at hk;rcases (rI hf.only (bm (ni T v xh yh)) k).1 row hk with h1 |h1
  ·cases h1
  ·obtain⟨k',row',e,hn⟩:=QT hld h1;injection e with _ e
   subst e;exact hn
 have acf:∀(i n:Nat) kk (row:Row),(T.sig v).hout.any (Nat.beq i)=true→ki es.ab i n=some (.hp kk row)→c7=true→vD row.t=true:=fun i n kk row hi e hl=>by
  obtain⟨hr,h1,_⟩:=hw i hi;have hin:=Dl hi;obtain⟨yD,k1,k2,k3,_⟩:=QV i hr h1 hin
  have:row.t=yD.t:=by
   cases n with
   |zero=>cases e
   |succ n=>
    simp only[ki,k1,yC] at e;split at e
    ·simp only[Option.some.injEq,Obj.hp.injEq] at e;rw[←e.2]
    ·cases e
  rw[this,k3,(hstart i hr h1 hin).2];exact(AW (Nq hl) tz).2.1 i (iv.1 hi)
 have aaa:∀k x,look es.boxes k=some x→c7=true→False:=fun k x hk hl=>by
  rw[←QU] at hk;rcases (rI hf.only (bm (ni T v xh yh)) k).2 x hk with h1 |h1
  ·cases h1
  ·obtain⟨k',row',e,hn⟩:=QT (Nq hl) h1;cases e
 have hV:∀key u,view E σ ν O w key u→view E CW (Km es (T.sig v).hout ν aK) O w' key u:=fun key u hu=>ta Wm hsub (fun k h1 h2 h3 h4=>⟨fun⟨m,hm⟩=>by
   rcases hown m k hm with ⟨hm1,h5⟩ | ⟨_,h5⟩
   ·rcases Ua m k hm1 h5 with h6 | ⟨i,n,_,h6⟩
    ·omega
    ·exact h3 ⟨_,h6⟩
   ·exact h3 ⟨_,h5⟩,h4,fun⟨i,n,_,h6⟩=>h3 ⟨_,h6⟩⟩) hu
 have VT:=oS hV;have XA:∀r,(look es.rows r).isSome=true→Km es (T.sig v).hout ν aK (.row r)=aK (.row r)∧(look CW.rows r).isSome=true:=fun r hr=>by refine⟨Sc (.row r) hr, ?_⟩;obtain⟨row,e⟩:=Option.isSome_iff_exists.1 hr;rw[hc.rows r,e];rfl
 have Uc:∀r row,look σ.rows r=some row→Km es (T.sig v).hout ν aK (.row r)=ν (.row r)∧look CW.rows r=some row:=fun r row hr=>by
  have hn:look es.rows r=none:=by
   cases e:look es.rows r with
   |none=>rfl
   |some x=>have:=hc.fr r (by rw[e];rfl);rw[hr] at this;cases this
  exact⟨Ps (.row r) (by simp only[LA];rw[hn];rfl),by rw[hc.rows r,hn];exact hr⟩
 have aab:∀b,(look σ.boxes b).isSome=true→Km es (T.sig v).hout ν aK (.box b)=ν (.box b)∧(look CW.boxes b).isSome=true:=fun b hb=>by
  have hn:look es.boxes b=none:=by
   cases e:look es.boxes b with
   |none=>rfl
   |some x=>have:=hc.fb b (by rw[e];rfl);rw[this] at hb;cases hb
  exact⟨Ps (.box b) (by simp only[LA];rw[hn];rfl),by rw[hc.boxes b,hn];exact hb⟩
 have XB:∀m m' k,LA es (T.sig v).hout m=true→Own es aK m k→LA es (T.sig v).hout m'=false→Own σ ν m' k→False:=fun m m' k h1 h2 h3 h4=>by
  rcases Ua m k h1 h2 with h5 |h5
  ·exact absurd (h.oW _ _ h4).2.1 (by omega)
  ·exact Xz m' k h3 h4 h5
 refine⟨h.step hE Wm (fun k ⟨i,n,h1,h2⟩=>⟨_,h2,RY i n h1⟩) hsub (fun m k hm=> ?_) (fun m k hm=> ?_) (fun m m' k h1 h2=> ?_) (fun q k hk=> ?_) hc.trace rfl (fun i hr n e h1 h2=> ?_) (fun i hr e=> ?_) (fun _ m o ho=> ?_) (fun _=> ?_),VT⟩
 ·rcases hown m k hm with ⟨hm1,h5⟩ | ⟨_,h5⟩
  ·rcases Ua m k hm1 h5 with h6 | ⟨i,n,h7,h6⟩
   ·exact .inr h6
   ·exact .inl ⟨_,h6,fun e=>absurd e (RY i n h7)⟩
  ·exact .inl ⟨_,h5,id⟩
 ·rcases hown m k hm with ⟨hm1,h5⟩ | ⟨_,h5⟩
  ·exact(hend.oW _ _ h5).2.1
  ·exact Nat.lt_of_lt_of_le (h.oW _ _ h5).2.1 Wm.size
 ·rcases hown m k h1 with ⟨hm1,h5⟩ | ⟨hm1,h5⟩<;>rcases hown m' k h2 with ⟨hm2,h6⟩ | ⟨hm2,h6⟩
  ·exact hend.inj m m' k h5 h6
  ·exact(XB m m' k hm1 h5 hm2 h6).elim
  ·exact(XB m' m k hm2 h6 hm1 h5).elim
  ·exact h.inj m m' k h5 h6
 ·rcases hown _ k hk with ⟨hm1,h5⟩ | ⟨_,h5⟩
  ·rcases hend.new q k h5 with h6 |h6
   ·exact .inl (Nat.le_trans h.keep.size h6)
   ·cases q with
    |row q=>exact h6.elim
    |box q=>exact .inr trivial
    |hp i n=>obtain⟨_,n',h7⟩:=h6;exact h.new (.hp i n') k h7
  ·exact h.new q k h5
 ·cases hi:(T.sig v).hout.any (Nat.beq i) with
  |true=>rw[Sc (.hp i n) hi];rw[hc.hin i hi] at e;exact hend.nn i hr n e h1 h2
  |false=>rw[Ps (.hp i n) hi];rw[hc.hout i hi] at e;exact h.nn i hr n e h1 h2
 ·obtain⟨h1,h2⟩:=h.ro i hr e;cases hi:(T.sig v).hout.any (Nat.beq i) with
  |true=>
   obtain⟨yD,h3,h4⟩:=hw i hi;rw[h1] at h3;obtain rfl:hr=yD:=by simpa using h3
   rw[h2] at h4;cases h4
  |false=>rw[hc.hout i hi];exact h1
 ·cases hm:LA es (T.sig v).hout m with
  |true=>
   rw[(R2 m).1 hm] at ho;rw[Sc m hm];have bP:=hend.sQ m o ho;cases m with
   |row k=>simp only[AS.obj,Option.map_eq_some_iff] at ho;obtain⟨row,e,rfl⟩:=ho;obtain⟨bl,h1,h2⟩:=bP;exact⟨bl,h1,h2.mono (VT row.t (Z9 k row e))⟩
   |box k=>
    simp only[AS.obj,Option.map_eq_some_iff] at ho;obtain⟨x,e,rfl⟩:=ho;obtain⟨g,h1,h2⟩:=bP;refine⟨g,h1, ?_⟩;cases x with
    |cells cs=>obtain⟨cur,e1,h3,h4⟩:=h2;exact⟨cur,e1,h3,h4.mono (fun c u hu=>VT c.1 (fun hl=>(aaa k _ e hl).elim) _ _ hu)⟩
    |own r=>obtain⟨e1,h3,h4⟩:=h2;exact⟨e1,by rw[(XA r h4).1];exact h3,(XA r h4).2⟩
    |nil=>exact h2
   |hp i n=>
    have ho':ki es.ab i n=some o:=ho;obtain⟨kk,row,rfl⟩:=De ho';have hN:=acf i n kk row hm ho';have aac:sD _ w' kk (aK (.hp i n)) row:=bP;show sD _ w' kk (aK (.hp i n)) row
    match kk,aac with
    |0,⟨h5,bl,h6,h7⟩=>exact⟨h5,bl,h6,h7.mono (VT row.t hN)⟩
    |1,⟨g,cur,ys,x,h5,h6,h7,h8,h9⟩=>exact⟨g,cur,ys,x,h5,h6,h7,h8,VT row.t hN _ _ h9⟩
  |false=>
   rw[(R2 m).2 hm] at ho;rw[Ps m hm];exact h.old Wm ho (fun k hk hx=>Xz m k hm ⟨aZ ho,hk⟩ hx) hV (fun r _ hr=>by
    obtain⟨row,e⟩:=Option.isSome_iff_exists.1 hr;obtain⟨h1,h2⟩:=Uc r row e;exact⟨h1,by rw[h2];rfl⟩)
 ·rw[hc.tmps];exact h.slots.mono (al.mono hV {hsub with rows:=fun r row hr=>⟨(Uc r row hr).1,row,(Uc r row hr).2,rfl⟩,boxes:=fun b hb=>aab b hb})
end
open Go.RowKit Go.Lib
structure Nr (P:Program) (T:cm):Prop where
 m:∀t n f,MH T.Gx t n=some f→∀v w,(Go.method (P.types.size+Made.depth) t v n).run P w= .ok (f,v) w
 i:∀t,(T.Gx.any fun p=>Nat.beq p.1 t)=true→∀v w,(Instr.makeInterface t v).run P w= .ok (.iface t v) w
def Cq (T:cm):Prop:=∀v,yA T (T.sig v)=true
theorem HY {P:Program}{r:Option Nat}{n:Nat}{f:FuncId}{args:Array Value}{w:World}{R:Ending→World→Prop}(h:Calls P f args w R):CallsIn (FW r) n P f args w R:=
 ⟨trivial,fun cs _=>let ⟨e,w',fr,q,s,x⟩:=h cs;⟨e,w',fr,q,(comesIn_wide (P:=P)).2 s,x⟩⟩
section
variable {P:Program}{T:cm}{E:Env}{σ af:AS}{a:Act}{w w':World}{ν aK:Nm→Value}{O:Nat→Prop}{Φ:bE T}{V V':View}{Y:Value}
theorem Wr {CW es:AS}{Vn Ve:View}{s:za}{d:Nat}{y:Ce s}{c7:Bool}{Y':Value}{Sd:Nm→Value}(Nq:c7=true→hU T s=true)(tz:s.gen=none)
  (VT:∀t,(c7=true→vD t=true)→∀x cs,Rel Ve t x cs→Rel Vn t x cs) (hrow:∀r,(look es.rows r).isSome=true→Sd (.row r)=aK (.row r)∧(look CW.rows r).isSome=true)
  (Yk:∀r,(look es.boxes r).isSome=true→Sd (.box r)=aK (.box r)∧(look CW.boxes r).isSome=true) {v:Value} (h:al Ve es aK Y' (Nl d s y) v):al Vn CW Sd Y (Nl d s y) v:=by
 unfold Nl at h ⊢;split at h
 ·rename_i args res hps y;have Wk:∀x∈sC d res y,∀u,nf Ve es aK x u→nf Vn CW Sd x u:=fun x hx u hu=>by
   rcases EP _ _ _ _ hx with ⟨q,rfl⟩ | ⟨t,h1,h2⟩
   ·obtain⟨h3,h4⟩:=hrow q hu.2;exact⟨by rw[h3];exact hu.1,h4⟩
   ·have hno:c7=true→vD t=true:=fun hl=>((AW (Nq hl) rfl).2.2 _ _ h1).1 rfl;cases x with
    |own q=>exact h2.elim
    |cv c=>obtain⟨ct,cx⟩:=c;have h2:ct=t:=h2;subst h2;exact VT _ hno _ _ hu
    |agg cs=>obtain⟨u',z,rfl,rfl⟩:=h2;obtain⟨vs,e1,e2⟩:=hu;refine⟨vs,e1,tv (fun c hc u hu=>VT c.1 (fun hl=>AU (hno hl) c hc) _ _ hu) e2⟩
  have key:∀(l:List RV),(∀x∈l,∀u,nf Ve es aK x u→nf Vn CW Sd x u)→al Ve es aK Y' (ML l) v→al Vn CW Sd Y (ML l) v:=fun l hl h=>by
   match l,hl,h with
   | [],_,⟨vs,e1,e2⟩=>exact⟨vs,e1,by cases vs with
     |nil=>trivial
     |cons _ _=>exact e2.elim⟩
   | [x],hl,h=>exact hl x (by simp) v h
   |x::z::l,hl,⟨vs,e1,e2⟩=>exact⟨vs,e1,tv hl e2⟩
  exact key _ Wk h
 ·rename_i args res f ts hps y;obtain⟨vs,e1,e2⟩:=h;refine⟨vs,e1,tv (fun c hc u hu=> ?_) e2⟩;have:∃b,c= .box b:=by
   have hb:∀(ts:List Ty) (d:Nat),∀c∈FJ d ts,∃b,c= .box b:=by
    intro ts;induction ts with
    |nil=>intro d c hc;simp[FJ] at hc
    |cons t ts ih=>
     intro d c hc;cases ts with
     |nil=>simp only[FJ,List.mem_singleton] at hc;exact⟨_,hc⟩
     |cons t2 ts=>
      simp only[FJ] at hc;rcases List.mem_cons.1 hc with e |hc
      ·exact⟨_,e⟩
      ·exact ih _ c hc
   exact hb ts d c hc
  obtain⟨b,rfl⟩:=this;obtain⟨h1,g,h2,h3⟩:=hu;obtain⟨h4,h5⟩:=Yk b h1;exact⟨h5,g,by rw[h4];exact h2,h3⟩
 ·exact h
theorem Pt {st:Option Site}{f:FuncId}{Jq:List AV}{v:Nat}(h:Hn T st f Jq=some v):T.real v=f:=by
 unfold Hn at h;split at h
 ·cases hb:Nat.beq (T.real _) f with
  |true=>rw[hb] at h;simp only[cond_true,Option.some.injEq] at h;subst h;exact(beq_iff _ _).1 hb
  |false=>rw[hb] at h;cases h
 ·split at h
  ·cases hb:Nat.beq (T.real _) f with
   |true=>rw[hb] at h;simp only[cond_true,Option.some.injEq] at h;subst h;exact(beq_iff _ _).1 hb
   |false=>rw[hb] at h;cases h
  ·cases h
theorem Dm (k8:∀x,al V σ ν Y (σ.av x) (a.eval x)):∀(xs:List Operand),aE (al V σ ν Y) (xs.map σ.av) (xs.map a.eval)
 | []=>trivial
 |x::xs=>⟨k8 x,Dm k8 xs⟩
theorem ER:∀{aP:List yy} {vs:List Value},aE (nw V σ ν) aP vs→aE (al V σ ν Y) (aP.map JY) vs
 | [],[],_=>trivial
 | .box b::cs,v::vs,h=>⟨h.1,ER h.2⟩
 | .pO l::cs,v::vs,h=>⟨h.1,ER h.2⟩
 | [],_::_,h=>h.elim
 |_::_,[],h=>h.elim
theorem uV.mono {V V':View}(hV:∀a v,V a v→V' a v):∀{ts:List Ty} {x:nt ts} {vs:List Value},uV V ts x vs→uV V' ts x vs
 | [],_,_,h=>h
 | [t],x,_,⟨v,e,h⟩=>⟨v,e,h.of hV⟩
 |t::u::ts,x,_,⟨v,r,e,h,h2⟩=>⟨v,r,e,h.of hV,uV.mono hV h2⟩
theorem ArgRel.mono {V V':View}(hV:∀a v,V a v→V' a v):∀{p:jM} {x:p.den} {v:Value},ArgRel V p x v→ArgRel V' p x v
 | .v t,x,v,h=>qA.mono hV h
 | .fn f ts,x,v,⟨vs,e,h⟩=>⟨vs,e,h.mono hV⟩
 | .c cs,_,v,⟨vs,e,h⟩=>⟨vs,e,h.mono (bw.mono hV)⟩
 | .rp t,x,v,h=>ng.of hV h
 | .bx _,_,_,h=>h
 | .Gw,_,_,h=>h
theorem mQ.mono {V V':View}(hV:∀a v,V a v→V' a v):∀{ps:List jM} {x:xB ps} {vs:List Value},mQ V ps x vs→mQ V' ps x vs
 | [],_,_,h=>h
 | [p],x,_,⟨v,e,h⟩=>⟨v,e,h.mono hV⟩
 |p::q::ps,x,_,⟨v,r,e,h,h2⟩=>⟨v,r,e,h.mono hV,mQ.mono hV h2⟩
def XC (E:Env)(σ:AS)(ν:Nm→Value)(O:Nat→Prop)(w:World)(hin hout:List Nat)(c7:Bool):View:=fun key u=>match key with
 | .cell ad=>view E σ ν O w (.cell ad) u∨(c7=true∧w.cell? ad=some u∧¬R7 σ ν hout ad.block)
 | .ref i n=>hin.any (Nat.beq i)=true∧view E σ ν O w (.ref i n) u
theorem Pu (hin hout:List Nat)(c7:Bool):JB (view E σ ν O w) (XC E σ ν O w hin hout c7) σ ν w hin hout c7:=
 ⟨fun ad u hv=> .inl hv,fun i hi n u hv=>⟨hi,hv⟩,fun hl ad u h1 h2=> .inr ⟨hl,h1,h2⟩⟩
theorem Pv {hs hout:List Nat}{c7:Bool}(hl:JB (view E σ ν O w) V' σ ν w hs hout c7)(key:Key)(u:Value)(h:XC E σ ν O w hs hout c7 key u):V' key u:=by
 cases key with
 |cell ad=>
  rcases h with h | ⟨h1,h2,h3⟩
  ·exact hl.cell _ _ h
  ·exact hl.all h1 _ _ h2 h3
 |ref i n=>exact hl.ref i h.1 n u h.2
theorem Ns (hE:aB E)(hG:zu T E)(hS:Cq T)(Bh:Ly P T Φ)(pR:σ.ab.length=T.ab.length)(h:St E σ a w ν O){o:Oper}(acg:∀c,o.op≠ .defer c)
  {g:FuncId} {Jq:List AV} {vals:List Value} (hargs:aE (al (view E σ ν O w) σ ν E.Y) Jq vals) (aad:∀fn:Func,P.funcs[g]? =some fn→fn.body.isNone=false→¬fn.name= "runtime.NumGoroutine" →(execOp a.eval o).run P w= .ok (.enter g vals.toArray) w)
  {st:Option Site} {r:bH} (he:(JZ T st o.dst g Jq).val Φ σ=some r):
  ∃us,r.2= .kt us∧gM P o a w (To E ((σ.app us).fG o.dst r.1)):=by
 unfold JZ at he;dsimp only at he;split at he
 ·rename_i v hv;have aae:=Pt hv;have hal:=hS v;have aci:=hal;simp only[yA,Bool.and_eq_true] at hal;obtain⟨x,he,hx⟩:=Kj h (Pu (T.sig v).hin (T.sig v).hout (hU T (T.sig v))) hal.1.1 hargs he;obtain⟨hh,he,hI⟩:=Kh _ _ _ _ he;rw[bQ] at he;obtain⟨xh,hxh,he⟩:=he;obtain⟨ex,eh⟩:=Nn hxh;rw[C8] at he;obtain⟨yh,hy,he⟩:=he;obtain⟨rfl,hfree,tz⟩:=T5 he;have hIn:sU T σ v xh:=fun i hi=>by rw[eh];exact hI i hi
  obtain⟨⟨fn,hfn,hbody,hname⟩,Kn⟩:=Bh v xh yh hy tz;have hE':=Pr hE h hIn (hU T (T.sig v));have hG':=No (v:=v) (xh:=xh) hG hE h (hU T (T.sig v));have hst:=Lz hE h hIn pR aci (hU T (T.sig v));have hl':=FK hE h hIn pR (hU T (T.sig v));rw[aae] at hfn Kn;have hc:=Kn _ ν vals.toArray (C0 o.dst) hE' hG' ⟨rfl,fun _ h=>h,fun _ h=>h,fun _=>trivial,fun _ _ h1 h2=>h1 h2.1,fun _=>rfl⟩ hst (by
   rw[ex];exact hx.mono (Pv hl'))
  refine⟨_,rfl,fun rr next Q hn=> ?_⟩;have hrun:(execOp a.eval o).run P w= .ok (.enter g vals.toArray) w:=by
   have hb:fn.body.isNone=false:=by cases VV:fn.body<;>simp_all
   have hn1:¬fn.name= "runtime.NumGoroutine" :=by simpa using hname
   exact aad fn hfn hb hn1
  refine⟨fun _ _=>trivial, ?_⟩;rw[Oper.semAt_eq _ _ _ acg,hrun,Oper.uponIn_enter];refine⟨fun e=>(by cases e),HY (Calls.mono hc ?_)⟩;rintro e w' ⟨rv,aK,rfl,hend,hres⟩;obtain⟨s1,VT⟩:=h.called hE pR (fun hl=>hl) hIn tz hfree hend;have hcs:=T8 (xh:=xh) pR hIn hfree;refine hn _ _ ⟨Km (wA T v (C0 o.dst) xh yh) (T.sig v).hout ν aK,O, ?_⟩;show St E (((σ.app (sc T (T.sig v).hout (vC (T.sig v).hout yh)++Co (C0 o.dst) (T.sig v) (oX (T.sig v).hout yh)))).fG o.dst (Nl (C0 o.dst) (T.sig v) (oX (T.sig v).hout yh))) _ _ _ _;rw[Po];refine s1.slot (Wr (es:=wA T v (C0 o.dst) xh yh) (fun hl=>hl) tz VT (fun k hk=>⟨?_, ?_⟩) (fun k hk=>⟨?_, ?_⟩) hres)
  ·unfold Km;simp only[LA];rw[hk];rfl
  ·obtain⟨row,e⟩:=Option.isSome_iff_exists.1 hk;rw[hcs.rows k,e];rfl
  ·unfold Km;simp only[LA];rw[hk];rfl
  ·obtain⟨row,e⟩:=Option.isSome_iff_exists.1 hk;rw[hcs.boxes k,e];rfl
 ·cases he
theorem HZ (hE:aB E)(hG:zu T E)(hS:Cq T)(Bh:Ly P T Φ)(pR:σ.ab.length=T.ab.length)(h:St E σ a w ν O){o:Oper}{f:Operand}{args:Array Operand}{ats:Array TypeId}(ho:o.op= .call {callee:= .value f,args:=args,argTypes:=ats})
  {g:FuncId} {aP:List yy} {cvs:List Value} (hf:a.eval f= .func (.func g) #[] cvs.toArray) (G9:aE (nw (view E σ ν O w) σ ν) aP cvs) {st:Option Site} {r:bH} (he:(C1 T σ.av st o.dst g aP args.toList).val Φ σ=some r):
  ∃us,r.2= .kt us∧gM P o a w (To E ((σ.app us).fG o.dst r.1)):=by
 refine Ns hE hG hS Bh pR h (by rw[ho];intro c e;cases e) (aE.append (Dm (h.av hG.1) args.toList) (ER (Y:=E.Y) G9)) (fun fn hfn hb hn1=> ?_) he;have e1:(args.toList.map a.eval++cvs).toArray=args.map a.eval++cvs.toArray:=by simp
 rw[e1];have Pn:¬fn.body=none:=by intro e;rw[e] at hb;cases hb
 simp[execOp,ho,resolve,hf,Deferred.ofValue,invoke,callFunc,hfn,hn1,Pn]
theorem Se (hE:aB E)(hG:zu T E)(hS:Cq T)(Bh:Ly P T Φ)(hM:Nr P T)(pR:σ.ab.length=T.ab.length)(h:St E σ a w ν O){o:Oper}{x:Operand}{m:String}{args:Array Operand}{ats:Array TypeId}(ho:o.op= .call {callee:= .invoke x m,args:=args,argTypes:=ats})
  {st:Option Site} {r:bH} (he:(xD T σ.av st o.dst x m args.toList).val Φ σ=some r):
  ∃us,r.2= .kt us∧gM P o a w (To E ((σ.app us).fG o.dst r.1)):=by
 unfold xD at he;have hx:=h.av hG.1 x;split at he
 ·rename_i t cs k8;rw[k8] at hx;obtain⟨vs,e1,e2⟩:=hx;split at he
  ·rename_i g hg;refine Ns hE hG hS Bh pR h (Jq:= .rv (.agg cs)::args.toList.map σ.av) (vals:= .agg vs.toArray::args.toList.map a.eval) (by rw[ho];intro c e;cases e) ⟨⟨vs,rfl,e2⟩,Dm (h.av hG.1) args.toList⟩ (fun fn hfn hb hn1=> ?_) he;have Pn:¬fn.body=none:=by intro e;rw[e] at hb;cases hb
   have hm:=hM.m t m g hg (.agg vs.toArray) w;have e3:(Value.agg vs.toArray::args.toList.map a.eval).toArray= #[Value.agg vs.toArray]++args.map a.eval:=by simp
   have e4:(#[Value.iface t (.agg vs.toArray)]++args.map a.eval)[0]? =some (.iface t (.agg vs.toArray)):=by rw[Array.getElem?_append_left (by simp)];rfl
   have e5:(#[Value.iface t (.agg vs.toArray)]++args.map a.eval).extract 1 (#[Value.iface t (.agg vs.toArray)]++args.map a.eval).size=args.map a.eval:=by apply Array.ext';simp;exact List.take_of_length_le (by simp)
   rw[e3];unfold execOp;simp only[ho,resolve,e1,Sem.run_bind,Sem.run_pure];show (invoke (.fn (.method m) #[]) (#[Value.iface t (.agg vs.toArray)]++args.map a.eval)).run P w=_;simp only[invoke];rw[e4];simp only[];rw[e5];simp[callMethod,callFunc,hm,hfn,hn1,Pn]
  ·cases he
 ·cases he
theorem Sf (q:Nat)(c:CV)(hc:∀n,c≠⟨.fn,n⟩)(x:AV):Et (x.n7 q c)=Et x:=by
 cases x with
 |rv x=>cases x with
  |own k=>
   simp only[AV.n7,RV.n7];cases Nat.beq k q with
   |true=>obtain⟨t,z⟩:=c;cases t<;>first |rfl |exact absurd rfl (hc z)
   |false=>rfl
  |_=>rfl
 |CX k sz i off=>simp only[AV.n7];cases Nat.beq k q<;>rfl
 |_=>rfl
theorem Nt (q:Nat)(x:Operand):Et ((σ.freeze q).av x)=Et (σ.av x):=by
 cases hq:look σ.rows q with
 |none=>unfold AS.freeze;rw[hq]
 |some row=>rw[AQ hq];exact Sf q _ (fun n e=>by injection e with e;cases e) _
theorem Ko (x:Operand):∀(xs:List Operand) (σ:AS),Et ((σ.oR xs).av x)=Et (σ.av x)
 | [],σ=>rfl
 |y::ys,σ=>by
  show Et (((σ.OZ y).oR ys).av x)=_;rw[Ko x ys];unfold AS.OZ;split
  ·exact Nt _ _
  ·rfl
theorem H3:∀(xs:List Operand) (σ:AS),(σ.oR xs).ab=σ.ab
 | [],σ=>rfl
 |y::ys,σ=>by
  show ((σ.OZ y).oR ys).ab=_;rw[H3 ys];unfold AS.OZ;split
  ·unfold AS.freeze;split<;>rfl
  ·rfl
end
open Go.RowKit Go.Lib
theorem Rel.BG {V V':View}:∀(t:Ty) (x:t.den) (cs:List Value),yz t=true→Rel V t x cs→Rel V' t x cs
 | .int k,x,cs,_,h=>h
 | .bool,x,cs,_,h=>h
 | .str,x,cs,_,h=>h
 | .slice t,xs,cs,hi,_=>by cases hi
 | .unit,_,cs,_,h=>h
 | .pair a b,x,cs,hi,⟨c1,c2,e,h1,h2⟩=>by simp only[yz,Bool.and_eq_true] at hi;exact⟨c1,c2,e,Rel.BG a _ _ hi.1 h1,Rel.BG b _ _ hi.2 h2⟩
 | .st t,x,cs,hi,h=>Rel.BG t x cs hi h
 | .ref _,_,_,hi,_=>by cases hi
 | .ptr _,_,_,hi,_=>by cases hi
 | .mp _,_,_,hi,_=>by cases hi
 | .fn,_,_,_,h=>h
 | .mN t,_,cs,hi,_=>by cases hi
theorem qA.BG {V V':View}{t:Ty}{x:t.den}{v:Value}(hi:yz t=true)(h:qA V t x v):qA V' t x v:=by
 cases t with
 |st t=>obtain⟨cs,h1,h2⟩:=h;exact⟨cs,h1,Rel.BG _ _ _ hi h2⟩
 |_=>exact Rel.BG (V:=V) _ _ _ hi h
def JC (V:View):(t:Ty)→t.den→List Value→Prop
 | .unit,_,vs=>vs=[]
 | .pair a b,x,vs=>∃v r,vs=v::r∧qA V a x.1 v∧JC V b x.2 r
 |_,_,_=>False
theorem JC.BG {V V':View}:∀{t:Ty} {x:t.den} {vs:List Value},yz t=true→JC V t x vs→JC V' t x vs
 | .unit,x,vs,_,h=>h
 | .pair a b,x,vs,hi,⟨v,r,e,h1,h2⟩=>by simp only[yz,Bool.and_eq_true] at hi;exact⟨v,r,e,qA.BG hi.1 h1,JC.BG hi.2 h2⟩
 | .int _,_,_,_,h=>h.elim
 | .bool,_,_,_,h=>h.elim
 | .str,_,_,_,h=>h.elim
 | .slice _,_,_,_,h=>h.elim
 | .st _,_,_,_,h=>h.elim
 | .ref _,_,_,_,h=>h.elim
 | .ptr _,_,_,_,h=>h.elim
 | .mp _,_,_,_,h=>h.elim
 | .fn,_,_,_,h=>h.elim
 | .mN _,_,_,_,h=>h.elim
section
variable {P:Program}{T:cm}{E:Env}{σ af:AS}{a:Act}{w w':World}{ν aK:Nm→Value}{O O':Nat→Prop}{Φ:bE T}{V V':View}{Y:Value}
theorem H4:∀{t:Ty} {Jq:List AV} {x:t.den} {vs:List Value},lX t Jq=some x→aE (al V σ ν Y) Jq vs→JC V t x vs
 | .unit,[],x,[],_,_=>rfl
 | .pair a b,av::r,x,v::vs,h,hr=>by
   simp only[lX] at h;split at h
   ·rename_i y hy;split at h
    ·rename_i z hz;simp only[Option.some.injEq] at h;subst h;exact⟨v,vs,rfl,xN hy hr.1,H4 hz hr.2⟩
    ·cases h
   ·cases h
 | .unit,[],_,_::_,_,hr=>hr.elim
 | .unit,_::_,_,_,h,_=>by simp[lX] at h
 | .pair _ _,[],_,_,h,_=>by simp[lX] at h
 | .pair _ _,_::_,_,[],_,hr=>hr.elim
 | .int _,_,_,_,h,_=>by simp[lX] at h
 | .bool,_,_,_,h,_=>by simp[lX] at h
 | .str,_,_,_,h,_=>by simp[lX] at h
 | .slice _,_,_,_,h,_=>by simp[lX] at h
 | .st _,_,_,_,h,_=>by simp[lX] at h
 | .ref _,_,_,_,h,_=>by simp[lX] at h
 | .ptr _,_,_,_,h,_=>by simp[lX] at h
 | .mp _,_,_,_,h,_=>by simp[lX] at h
 | .fn,_,_,_,h,_=>by simp[lX] at h
 | .mN _,_,_,_,h,_=>by simp[lX] at h
def xU (P:Program)(E:Env):Prop:=∀(r:Option Nat) (t:Ty) (xs:List t.den) (x:t.den) (vs:List Value) (O:Nat→Prop) (w:World),E.J ⟨.slice t,xs⟩ O w→E.acc ⟨.slice t,xs++[x]⟩→(∀V,JC V t x vs)→
 (E.base=E.w0∧∀k,E.X k→E.CB k)∧∃(l:Nat) (f:FuncId) (tmps:Array Value) (Gy body:Code),E.Y= .func (.yield l) #[] #[]∧(Instr.yield l vs.toArray).run P w= .ok (.round l f tmps Gy body) w∧
   RoundIn (FW r) 0 P l f tmps Gy body w fun e w'=>e= .returned (.bool true)∧∃O',E.J ⟨.slice t,xs++[x]⟩ O' w'∧dp O w w'∧(∀k,O k→O' k)∧∀k,O' k→O k∨(w.heap.size≤k∧k<w'.heap.size)
theorem vE (h:E.J=ib):xU P E:=fun r t xs x vs O w hJ=>by
 rw[h] at hJ;have:(⟨.slice t,xs⟩:CV)=⟨.unit,()⟩:=hJ;injection this with e
 cases e
theorem St.yielded (hE:aB E)(h:St E σ a w ν O){tr:CV}(hJ:E.J tr O' w')(hg:dp O w w')(hO:∀k,O k→O' k)(Ws:∀k,O' k→O k∨(w.heap.size≤k∧k<w'.heap.size))(hb:E.base=E.w0∧∀k,E.X k→E.CB k):
  St E {σ with trace:=tr} a w' ν O':=by
 have hs:Bg {σ with trace:=tr} {σ with trace:=tr}:=⟨rfl,rfl,rfl,rfl⟩
 have R2:({σ with trace:=tr}:AS).obj=σ.obj:=by funext m;cases m<;>rfl
 have hown:∀m k,Own {σ with trace:=tr} ν m k→Own σ ν m k:=fun m k hm=>by unfold Own at hm ⊢;rw[R2] at hm;exact hm
 have hV:∀key u,view E σ ν O w key u→view E {σ with trace:=tr} ν O' w' key u:=fun key u hu=>ta hg (HSub.of_eq rfl (fun _ _=>rfl)) (fun k h1 h2 h3 h4=>⟨fun⟨m,hm⟩=>h3 ⟨m,hown m k hm⟩,fun h5=>by
  rcases Ws k h5 with h6 |h6
  ·exact h4 h6
  ·omega,h4⟩) hu
 have fS:∀r o,w.heap[r]? =some o→¬O r→w'.heap[r]? =some o∧¬O' r:=fun r o h1 h2=>by
  have hlt:=(Array.getElem?_eq_some_iff.1 h1).1;refine⟨by rw[hg.block r hlt h2];exact h1,fun h3=> ?_⟩;rcases Ws r h3 with h4 |h4
  ·exact h2 h4
  ·omega
 refine⟨h.keep.trans hg (fun k hk ho=>(h.out.2 k ho).2 hk),fun d hd=> ?_,h.slots.mono (al.mono hV ⟨HSub.of_eq rfl (fun _ _=>rfl),fun r row hr=>⟨rfl,row,hr,rfl⟩,fun b hb=>⟨rfl,hb⟩⟩),fun m o ho=> ?_,fun m m' k h1 h2=>h.inj m m' k (hown _ _ h1) (hown _ _ h2),fun m k hm=> ?_,fun r k hk=>h.new r k (hown _ _ hk),⟨hJ,fun k hk=> ?_⟩,h.nn,h.ro,h.kept,fun r hr=> ?_,h.o6.trans hg (fun k hk ho=> ?_),fun m k hm=>h.pU m k (hown _ _ hm),fun k hk=>hO k (h.C5 k hk),h.nd⟩
 ·obtain⟨r,h1,h2,h3,h4⟩:=h.marks d hd;obtain⟨h5,h6⟩:=fS r _ h3 h4;exact⟨r,h1,h2,h5,h6⟩
 ·rw[R2] at ho;exact(h.sQ m o ho).mono hV (fun k hk=>hg.block k (h.oW m k ⟨aZ ho,hk⟩).2.1 (h.oW m k ⟨aZ ho,hk⟩).2.2) (fun r _ hr=>⟨rfl,hr⟩)
 ·obtain⟨h1,h2,h3⟩:=h.oW m k (hown _ _ hm);refine⟨h1,Nat.lt_of_lt_of_le h2 hg.size,fun h4=> ?_⟩;rcases Ws k h4 with h5 |h5
  ·exact h3 h5
  ·omega
 ·rcases Ws k hk with h5 |h5
  ·exact⟨Nat.lt_of_lt_of_le (h.out.2 k h5).1 hg.size,(h.out.2 k h5).2⟩
  ·exact⟨h5.2,fun h6=>by have:=h.keep.size;omega⟩
 ·obtain⟨h1,h2⟩:=h.waits r hr;exact fS r _ h1 h2
 ·rw[hb.1] at hk;exact hb.2 k ((h.out.2 k ho).2 hk)
structure Ctx (P:Program) (T:cm) (Φ:bE T) (E:Env):Prop where
 env:aB E
 ES:zu T E
 Zu:fT P T.rows
 hps:uT P T
 eqs:TL P T
 sigs:Cq T
 Gx:Nr P T
 fns:Ly P T Φ
 num:E.h0.length=T.ab.length
 Yt:xU P E
 jj:∀O w,E.J ⟨.unit,()⟩ O w→E.J=ib
theorem Ud (C:Ctx P T Φ E)(h:St E σ a w ν O){o:Oper}{r:bH}{f:Operand}{args:Array Operand}{ats:Array TypeId}(ho:o.op= .call {callee:= .value f,args:=args,argTypes:=ats})
  (he:(uI T σ.av σ.sites o).val Φ σ=some r) (hacc:E.acc (aV σ o.dst r).trace):gM P o a w (To E (aV σ o.dst r)):=by
 have pR:σ.ab.length=T.ab.length:=by rw[h.kept.num,C.num]
 have hd:∀c,o.op≠ .defer c:=by rw[ho];intro c e;cases e
 have hf:=h.av C.ES.1 f;unfold uI at he;simp only[ho] at he;generalize o.dst.bind (look σ.sites)=st at he;split at he
 ·rename_i hfy;rw[hfy] at hf;have hf':a.eval f=E.Y:=hf;rw[jE] at he;split at he
  ·rename_i t xs oS;rw[aC,bQ] at he;obtain⟨Pf,x,hx,he⟩:=he;rw[fx] at he;subst he;have hJ:=h.out.1;rw[oS] at hJ;have hvs:=H4 hx (Dm (h.av C.ES.1) args.toList);have aag:E.acc ⟨.slice t,xs++[x]⟩:=by
    have:(aV σ o.dst (AV.rv (.cv ⟨.bool,true⟩),RH.set {σ with trace:=⟨.slice t,xs++[x]⟩})).trace=⟨.slice t,xs++[x]⟩:=by unfold aV;dsimp only;cases o.dst<;>rfl
    rw[this] at hacc;exact hacc
   intro rr next Q hn
   obtain⟨hb,l,f',tmps,Gy,body,hY,hrun,Yu⟩:=C.Yt rr t xs x _ O w hJ aag (fun V=>JC.BG Pf hvs);refine⟨fun _ _=>trivial, ?_⟩;have hev:(execOp a.eval o).run P w= .ok (.round l f' tmps Gy body) w:=by
    have e1:(args.map a.eval)=(args.toList.map a.eval).toArray:=by rw[←Array.toList_map]
    rw[←e1] at hrun;simp[execOp,ho,resolve,hf',hY,Deferred.ofValue,invoke,hrun]
   rw[Oper.semAt_eq _ _ _ hd,hev,Oper.uponIn_round];refine⟨fun e=>(by cases e),RoundIn.mono Yu ?_⟩;rintro e w' ⟨rfl,O',h1,h2,h3,h4⟩;exact hn _ _ ⟨ν,O',(h.yielded C.env h1 h2 h3 h4 hb).slot (x:= .rv (.cv ⟨.bool,true⟩)) qy⟩
  ·cases he
 ·rename_i hny;split at he
  ·rename_i g aP hg;cases hb:((args.toList.any fun x=>pS (σ.av x))&& !(hU T (T.sig ((Hn T st g (args.toList.map σ.av++aP.map JY)).getD 0)))) with
   |true=>rw[hb,cond_true,jE,G7] at he;obtain⟨y,he,rfl⟩:=he;rw[Hw] at he;have s1:=h.oR C.env args.toList;have hf1:=s1.av C.ES.1 f;obtain⟨vs,e1,e2⟩:=HS hf1 (by rw[Ko];exact hg);obtain⟨us,e3,hx⟩:=HZ C.env C.ES C.sigs C.fns (by rw[H3];exact pR) s1 ho e1 e2 he;unfold aV;dsimp only;rw[e3];exact hx
   |false=>rw[hb,cond_false] at he;obtain⟨vs,e1,e2⟩:=HS hf hg;obtain⟨us,e3,hx⟩:=HZ C.env C.ES C.sigs C.fns pR h ho e1 e2 he;unfold aV;rw[e3];exact hx
  ·cases he
theorem Ue (C:Ctx P T Φ E)(h:St E σ a w ν O){o:Oper}{r:bH}(he:(uI T σ.av σ.sites o).val Φ σ=some r)(hacc:E.acc (aV σ o.dst r).trace):gM P o a w (To E (aV σ o.dst r)):=by
 have pR:σ.ab.length=T.ab.length:=by rw[h.kept.num,C.num]
 have hE:=C.env;have hG:=C.ES.1;have hT:=C.Zu;have bad:∀{op:Op},o.op=op→(∀(he:(uI T σ.av σ.sites {o with op:=op}).val Φ σ=some r),False)→False:=fun {op} e hb=>by subst e;exact hb he
 cases ho:o.op with
 |move x=>exact jO hE hG hT C.eqs h (.inl ⟨_,ho⟩) he
 |pick c x y=>exact jO hE hG hT C.eqs h (.inr (.inl ⟨_,_,_,ho⟩)) he
 |nilCheck x=>exact jO hE hG hT C.eqs h (.inr (.inr (.inl ⟨_,ho⟩))) he
 |load t x=>exact jO hE hG hT C.eqs h (.inr (.inr (.inr (.inl ⟨_,_,ho⟩)))) he
 |binOp b t x y u=>exact jO hE hG hT C.eqs h (.inr (.inr (.inr (.inr (.inl ⟨_,_,_,_,_,ho⟩))))) he
 |unOp b t x=>exact jO hE hG hT C.eqs h (.inr (.inr (.inr (.inr (.inr (.inl ⟨_,_,_,ho⟩)))))) he
 |convert s d x=>exact jO hE hG hT C.eqs h (.inr (.inr (.inr (.inr (.inr (.inr (.inl ⟨_,_,_,ho⟩))))))) he
 |fieldAddr s x f=>exact jO hE hG hT C.eqs h (.inr (.inr (.inr (.inr (.inr (.inr (.inr (.inl ⟨_,_,_,ho⟩)))))))) he
 |indexAddr t x i=>exact jO hE hG hT C.eqs h (.inr (.inr (.inr (.inr (.inr (.inr (.inr (.inr (.inl ⟨_,_,_,ho⟩))))))))) he
 |index t x i=>exact jO hE hG hT C.eqs h (.inr (.inr (.inr (.inr (.inr (.inr (.inr (.inr (.inr (.inl ⟨_,_,_,ho⟩)))))))))) he
 |extract x i=>exact jO hE hG hT C.eqs h (.inr (.inr (.inr (.inr (.inr (.inr (.inr (.inr (.inr (.inr ⟨_,_,ho⟩)))))))))) he
 |assign x=>exact RZ hE hG hT h ho he
 |store t x v=>exact T0 hE hG hT h ho he
 |alloc t=>exact T1 hE hG hT C.hps pR h ho he
 |box t v=>exact Yo hE hG hT h ho he
 |build t ps=>exact T2 hE hG hT h ho he
 |buildSlice t l ps=>exact Jy hE hG hT C.hps pR h ho he
 |makeSlice t l c=>exact Lw hE hG hT C.hps pR h ho he
 |slice t x l u m=>exact T3 hE hG hT h ho he
 |makeFunc f fs cs=>exact Nb hE hG h ho he
 |makeInterface t x=>
  unfold uI at he;simp only[ho] at he;have hx:=h.av hG x;unfold TA at he;split at he
  ·rename_i cs k8;rw[k8] at hx;obtain⟨vs,e1,e2⟩:=hx;rw[aC,eR] at he;obtain⟨h1,rfl⟩:=he;have hi:=C.Gx.i t h1 (a.eval x) w;exact bC hE (by rw[ho];intro c e;cases e) h rfl (v:= .iface t (a.eval x)) (by simp[execOp,ho,hi]) ⟨vs,by rw[e1],e2⟩
  ·cases he
 |call c=>
  obtain⟨callee,args,ats⟩:=c;cases callee with
  |value f=>exact Ud C h ho he hacc
  |builtin b=>
   cases b with
   |len=>exact Ym hE hG hT h ho he
   |max=>exact Kb hE hG h (.inl rfl) ho he
   |min=>exact Kb hE hG h (.inr rfl) ho he
   |append=>exact R6 hE hG hT h ho he
   |_=>unfold uI at he;simp only[ho] at he;cases he
  |invoke x n=>unfold uI at he;simp only[ho] at he;obtain⟨us,e3,hx⟩:=Se hE C.ES C.sigs C.fns C.Gx pR h ho he;unfold aV;rw[e3];exact hx
 |_=>unfold uI at he;simp only[ho] at he;cases he
end
open Go.RowKit Go.Lib
section
variable {T:cm}{α:Type}
def Q.ok (p:α→Prop):AS→Q T α→Prop
 |_, .ret a=>p a
 |_, .fail=>True
 |σ, .opt o k=>∀y,o=some y→(k y).ok p σ
 |σ, .gG b k=>k.ok p σ
 |σ, .ite b x y=>x.ok p σ∧y.ok p σ
 |σ, .row q k=>∀x,look σ.rows q=some x→(k x).ok p σ
 |σ, .len q k=>∀x,(k x).ok p σ
 |σ, .box q k=>∀x,(k x).ok p σ
 |σ, .heap q k=>∀x,(k x).ok p σ
 |σ, .lC q k=>k.ok p σ
 |σ, .lD q k=>k.ok p σ
 |σ, .call v x k=>∀y,(k y).ok p σ
 |σ, .all k=>(k σ).ok p σ
 |_, .on af k=>k.ok p af
theorem Uf {p:α→Prop}{Φ:bE T}:∀{q:Q T α} {σ:AS} {r:α},q.ok p σ→q.val Φ σ=some r→p r:=by
 intro q;induction q with
 |ret a=>intro σ r h he;rw[fx] at he;subst he;exact h
 |fail=>intro σ r h he;cases he
 |opt o k ih=>intro σ r h he;rw[bQ] at he;obtain⟨y,h1,h2⟩:=he;exact ih y (h y h1) h2
 |gG b k ih=>intro σ r h he;rw[aC] at he;exact ih h he.2
 |ite b x y Bb yR=>intro σ r h he;rw[C7] at he;rcases he with ⟨_,he⟩ | ⟨_,he⟩
                   ·exact Bb h.1 he
                   ·exact yR h.2 he
 |row q k ih=>intro σ r h he;rw[lE] at he;obtain⟨y,h1,h2⟩:=he;exact ih y (h y h1) h2
 |len q k ih=>intro σ r h he;rw[G6] at he;obtain⟨y,h1,h2⟩:=he;exact ih _ (h _) h2
 |box q k ih=>intro σ r h he;rw[uP] at he;obtain⟨y,h1,h2⟩:=he;exact ih y (h y) h2
 |heap q k ih=>intro σ r h he;rw[eK] at he;obtain⟨y,h1,h2⟩:=he;exact ih y (h y) h2
 |lC q k ih=>intro σ r h he;rw[qu] at he;exact ih h he.2
 |lD q k ih=>intro σ r h he;rw[qv] at he;exact ih h he.2
 |call v x k ih=>intro σ r h he;rw[C8] at he;obtain⟨y,h1,h2⟩:=he;exact ih y (h y) h2
 |all k ih=>intro σ r h he;rw[jE] at he;exact ih σ h he
 |on af k ih=>intro σ r h he;rw[Hw] at he;exact ih h he
theorem Pw {β:Type}{f:α→β}{p:β→Prop}:∀{q:Q T α} {σ:AS},q.ok (fun x=>p (f x)) σ→(q.map f).ok p σ:=by
 intro q;induction q with
 |ret a=>intro σ h;exact h
 |fail=>intro σ h;trivial
 |opt o k ih=>intro σ h y hy;exact ih y (h y hy)
 |gG b k ih=>intro σ h;exact ih h
 |ite b x y Bb yR=>intro σ h;exact⟨Bb h.1,yR h.2⟩
 |row q k ih=>intro σ h y hy;exact ih y (h y hy)
 |len q k ih=>intro σ h y;exact ih y (h y)
 |box q k ih=>intro σ h y;exact ih y (h y)
 |heap q k ih=>intro σ h y;exact ih y (h y)
 |lC q k ih=>intro σ h;exact ih h
 |lD q k ih=>intro σ h;exact ih h
 |call v x k ih=>intro σ h y;exact ih y (h y)
 |all k ih=>intro σ h;exact ih σ h
 |on af k ih=>intro σ h;exact ih (σ:=af) h
end
def kS (a b:CV):Prop:=b=a∨∃(t:Ty) (xs ys:List t.den),a=⟨.slice t,xs⟩∧b=⟨.slice t,xs++ys⟩
theorem kS.refl (a:CV):kS a a:= .inl rfl
theorem kS.trans {a b c:CV}(h:kS a b)(g:kS b c):kS a c:=by
 rcases h with rfl | ⟨t,xs,ys,rfl,rfl⟩
 ·exact g
 ·rcases g with rfl | ⟨t',xs',ys',e,rfl⟩
  ·exact .inr ⟨t,xs,ys,rfl,rfl⟩
  ·injection e with e1 e2
   injection e1 with e1
   subst e1;simp only[heq_eq_eq] at e2;subst e2;exact .inr ⟨t,xs,ys++ys',rfl,by rw[List.append_assoc]⟩
structure Fr (σ af:AS):Prop where
 cd:af.cd=σ.cd
 sites:af.sites=σ.sites
 s:af.tmps.n=σ.tmps.n
 tr:kS σ.trace af.trace
 ks:af.tmps.s.map (·.1)=σ.tmps.s.map (·.1)
theorem Fr.refl (σ:AS):Fr σ σ:=⟨rfl,rfl,rfl,kS.refl _,rfl⟩
theorem Fr.trans {a b c:AS}(h:Fr a b)(g:Fr b c):Fr a c:=⟨g.cd.trans h.cd,g.sites.trans h.sites,g.s.trans h.s,h.tr.trans g.tr,g.ks.trans h.ks⟩
theorem Fr.fG {σ af:AS}(h:Fr σ af)(d:Option Tmp)(x:AV):Fr σ (af.fG d x):=by
 cases d with
 |none=>exact h
 |some d=>
  refine⟨h.cd,h.sites, ?_,h.tr, ?_⟩
  ·show (uG af.tmps d x).n=_;unfold uG;cases Nat.blt d af.tmps.n<;>exact h.s
  ·show (uG af.tmps d x).s.map (·.1)=_;unfold uG;cases Nat.blt d af.tmps.n<;>exact h.ks
theorem qE (f:AV→AV)(l:List (Nat×AV)):(Jp f l).map (·.1)=l.map (·.1):=by simp[Jp]
def TU.fits (σ:AS):TU→Prop
 | .zd q r=>(look σ.rows q).map (fun row=>row.xs.length)=some r.xs.length
 |_=>True
def TU.ET:TU→Bool
 | .zd _ _=>false
 |_=>true
def Fits:AS→List TU→Prop
 |_,[]=>True
 |σ,u::us=>u.fits σ∧Fits (σ.one u) us
theorem TU.Sg {σ:AS}{u:TU}(h:u.ET=true):u.fits σ:=by cases u<;>first |trivial |cases h
theorem Fits.Ug:∀{us:List TU} {σ:AS},us.all TU.ET=true→Fits σ us
 | [],_,_=>trivial
 |u::us,σ,h=>by simp only[List.all_cons,Bool.and_eq_true] at h;exact⟨TU.Sg h.1,Fits.Ug h.2⟩
def oz (σ:AS)(r:bH):Prop:=match r.2 with
 | .kt us=>Fits σ us
 | .set af=>Fr σ af
section
variable {T:cm}{σ:AS}
theorem Fr.app (σ:AS):∀us,Fr σ (σ.app us):=by
 intro us;induction us generalizing σ with
 |nil=>exact Fr.refl _
 |cons u us ih=>exact Fr.trans (b:=σ.one u) (by cases u<;>exact⟨rfl,rfl,rfl,kS.refl _,rfl⟩) (ih (σ.one u))
theorem Fr.res {r:bH}(h:oz σ r)(d:Option Tmp):Fr σ (aV σ d r):=by
 unfold aV;unfold oz at h;split at h
 ·rename_i us e;first | (rw[e];exact(Fr.app σ us).fG d _) |exact(Fr.app σ us).fG d _
 ·rename_i s e;first | (rw[e];exact Fr.fG h d _) |exact Fr.fG h d _
theorem eL (r:Nat):Fr σ (σ.freeze r):=by unfold AS.freeze;split<;>first |exact⟨rfl,rfl,rfl,kS.refl _,rfl⟩ |exact⟨rfl,rfl,rfl,kS.refl _,qE _ _⟩
theorem Kp (r d:Nat):Fr σ (σ.rename r d):=by unfold AS.rename;split<;>first |exact⟨rfl,rfl,rfl,kS.refl _,rfl⟩ |exact⟨rfl,rfl,rfl,kS.refl _,qE _ _⟩
theorem Px (r:Nat):Fr σ (σ.bd r):=⟨rfl,rfl,rfl,kS.refl _,qE _ _⟩
theorem H5 (r:Nat):Fr σ (σ.dr r):=⟨rfl,rfl,rfl,kS.refl _,qE _ _⟩
theorem Uh (x:Operand):Fr σ (σ.OZ x):=by unfold AS.OZ;split<;>first |exact eL _ |exact Fr.refl _
theorem uW:∀(xs:List Operand) (σ:AS),Fr σ (σ.oR xs)
 | [],σ=>Fr.refl _
 |x::xs,σ=>(Uh x).trans (uW xs _)
theorem Kq {af:AS}(h:Fr σ af)(rows:List (Nat×Row))(boxes:List (Nat×BX)):Fr σ {af with rows:=rows,boxes:=boxes}:=⟨h.cd,h.sites,h.s,h.tr,h.ks⟩
def lT (r:bH):Prop:=match r.2 with
 | .kt us=>us.all TU.ET=true
 | .set _=>False
theorem lT.eff {r:bH}(h:lT r):oz σ r:=by
 unfold lT at h;unfold oz;split at h
 ·rename_i us e;exact Fits.Ug h
 ·exact h.elim
theorem bk {q:Q T bH}(h:q.ok lT σ):q.ok (oz σ) σ:=by
 have key:∀(q:Q T bH) (cV:AS),q.ok lT cV→q.ok (oz σ) cV:=by
  intro q;induction q with
  |ret a=>intro cV h;exact lT.eff h
  |fail=>intro cV h;trivial
  |opt o k ih=>intro cV h y hy;exact ih y cV (h y hy)
  |gG b k ih=>intro cV h;exact ih cV h
  |ite b x y Bb yR=>intro cV h;exact⟨Bb cV h.1,yR cV h.2⟩
  |row q k ih=>intro cV h y hy;exact ih y cV (h y hy)
  |len q k ih=>intro cV h y;exact ih y cV (h y)
  |box q k ih=>intro cV h y;exact ih y cV (h y)
  |heap q k ih=>intro cV h y;exact ih y cV (h y)
  |lC q k ih=>intro cV h;exact ih cV h
  |lD q k ih=>intro cV h;exact ih cV h
  |call v x k ih=>intro cV h y;exact ih y cV (h y)
  |all k ih=>intro cV h;exact ih cV cV h
  |on af k ih=>intro cV h;exact ih af h
 exact key q σ h
theorem oA (z:AV):(pv (T:=T) z).ok lT σ:=rfl
theorem EV (t:Ty)(x:t.den):(uH (T:=T) t x).ok lT σ:=rfl
theorem iG {β:Type}{f:β→Q T bH}{p:bH→Prop}(hf:∀y,(f y).ok p σ)(o:Option β):(gL f o).ok p σ:=by
 cases o with
 |none=>trivial
 |some y=>exact hf y
theorem Py (op:BinOp)(b:Bool):(O4 (T:=T) op b).ok lT σ:=by unfold O4;split<;>first |exact rfl |trivial
theorem Ui (rows:List eI)(t:TypeId)(x:AV):(JW (T:=T) rows t x).ok lT σ:=by
 unfold JW;split
 ·trivial
 ·split
  ·intro bx;cases bx with
   |cells cs=>exact iG (fun y=>oA _) _
   |own q=>dsimp only;split<;>first |exact rfl |trivial
   |nil=>trivial
  ·intro row _;intro y hy;exact iG (fun y=>oA _) _
  ·exact iG (fun y=>oA _) _
  ·intro hr;intro l hl;intro y hy;exact iG (fun y=>oA _) _
  ·intro hr;intro l hl;intro y hy;exact iG (fun y=>oA _) _
  ·trivial
theorem H6 (rows:List eI)(ty:TypeId)(x:AV):(BB (T:=T) rows ty x).ok lT σ:=by
 unfold BB
 repeat' split
 all_goals first |exact rfl |trivial
theorem QW (op:BinOp)(x y:AV):(RI (T:=T) op x y).ok lT σ:=by
 unfold RI
 repeat' split
 all_goals first |exact rfl |trivial |exact iG (fun y=>EV _ _) _
theorem Wu (op:BinOp)(x y:AV):(RJ (T:=T) op x y).ok lT σ:=by
 unfold RJ
 repeat' split
 all_goals first |exact Py _ _ |trivial
theorem Wv (ty:Ty)(op:BinOp)(x y:AV):(RK (T:=T) ty op x y).ok lT σ:=by
 unfold RK
 repeat' split
 all_goals first |exact Py _ _ |trivial
theorem Ww (t:Ty)(op:BinOp)(x y:AV):(Tv (T:=T) t op x y).ok lT σ:=by
 unfold Tv;split
 ·exact(Py op _:Q.ok lT σ (O4 op _))
 ·trivial
theorem Wx (ty:Ty)(x:AV):(RL (T:=T) ty x).ok lT σ:=by
 unfold RL;split
 ·exact rfl
 ·exact rfl
 ·intro n;exact rfl
 ·exact rfl
 ·intro hr;intro l hl;exact rfl
 ·trivial
theorem Si (rows:List eI)(t:TypeId)(x i:AV):(Ep (T:=T) rows t x i).ok lT σ:=by
 unfold Ep;split
 ·split
  ·split
   ·intro y hy;exact rfl
   ·intro row _ y hy;exact rfl
   ·intro hr l hl y hy;exact rfl
   ·split
    ·show Q.ok _ _ _;split
     ·split<;>first |exact rfl |trivial
     ·trivial
    ·trivial
   ·trivial
  ·trivial
 ·trivial
theorem Sj (rows:List eI)(s:TypeId)(x:AV)(f:Nat):(Er (T:=T) rows s x f).ok lT σ:=by
 unfold Er;split
 ·show Q.ok _ _ _;split
  ·split<;>first |exact rfl |trivial
  ·trivial
 ·trivial
theorem Uj (rows:List eI)(s d:TypeId)(x:AV):(JX (T:=T) rows s d x).ok lT σ:=by
 unfold JX;split
 ·split
  ·exact rfl
  ·exact rfl
  ·exact rfl
  ·intro row _;dsimp only;split
   ·exact rfl
   ·trivial
  ·exact rfl
  ·trivial
 ·trivial
theorem Sk (rows:List eI)(av:Operand→AV)(t:TypeId)(x:AV)(lo hi mx:Option Operand):(oY (T:=T) rows av t x lo hi mx).ok lT σ:=by
 unfold oY
 repeat' split
 all_goals first |exact rfl |trivial
theorem Sl (rows:List eI)(av:Operand→AV)(t:TypeId)(ps:List (Nat×Operand)):(tk (T:=T) rows av t ps).ok lT σ:=by
 unfold tk
 repeat' split
 all_goals first |exact iG (fun y=>oA _) _ |trivial
theorem Kr (d:Option Tmp)(row:Row):(newRow (T:=T) d row).ok lT σ:=by unfold newRow;split<;>first |exact rfl |trivial
theorem H7 (st:Option Site)(d:Option Tmp)(row:Row):(uN (T:=T) st d row).ok lT σ:=by
 unfold uN;split
 ·exact rfl
 ·exact Kr d row
theorem Ks (d:Option Tmp)(x:BX):(rZ (T:=T) d x).ok lT σ:=by unfold rZ;split<;>first |exact rfl |trivial
theorem wB (h:Nat)(hr:bh)(xs:List (Option (List hr.t.den)))(l:List hr.t.den):(qq (T:=T) h hr xs l).ok lT σ:=rfl
theorem Kt (h:Nat)(hr:bh)(x:hr.t.den):(Ch (T:=T) h hr x).ok lT σ:=rfl
theorem Ku (h n i off:Nat)(vs:List CV):(Es (T:=T) h n i off vs).ok lT σ:=fun hr l hl y hy y' hy'=>rfl
theorem Kv (x:AV)(vs:List CV):(zf (T:=T) x vs).ok (oz σ) σ:=by
 unfold zf;split
 ·exact bk (q:= .box _ _) (by intro bx;dsimp only;split<;>exact rfl)
 ·intro row hrow y hy y' hy';refine show oz σ (AV.nil,RH.kt _) from ?_
  refine⟨?_,trivial⟩;show (look σ.rows _).map _=_;rw[hrow];simp
 ·exact bk (Ku _ _ _ _ _)
 ·exact bk (Ku _ _ _ _ _)
 ·trivial
theorem uX {p:bH→Prop}(t:Ty)(x:AV)(k:List t.den→Q T bH)(hk:∀l,(k l).ok p σ):(appended t x k).ok p σ:=by
 unfold appended;split
 ·intro hr l hl y hy;exact hk _
 ·intro y hy;exact hk _
 ·intro row _ y hy;exact hk _
 ·exact hk _
 ·trivial
theorem AX {p:bH→Prop}(t:Ty)(k:t.den→Q T bH)(hk:∀l,(k l).ok p σ)(c:yy):(zg t k c).ok p σ:=by
 unfold zg;split
 ·intro bx;dsimp only;split
  ·intro y hy;exact hk _
  ·intro row _ y hy;exact hk _
  ·trivial
 ·intro y hy;exact hk _
theorem H8 {p:bH→Prop}:∀(ts:List Ty) (cs:List yy) (k:nt ts→Q T bH),(∀l,(k l).ok p σ)→(ra ts cs k).ok p σ
 | [],[],k,hk=>hk ()
 | [t],[c],k,hk=>AX t k hk c
 |t::u::ts,c::cs,k,hk=>AX t _ (fun x=>H8 (u::ts) cs _ fun y=>hk (x,y)) c
 | [],_::_,k,hk=>trivial
 | [_],[],k,hk=>trivial
 | [_],_::_::_,k,hk=>trivial
 |_::_::_,[],k,hk=>trivial
theorem Dn {p:bH→Prop}:∀(hs:List Nat) (acc:List bh) (k:List bh→Q T bH),(∀l,(k l).ok p σ)→(s9 hs acc k).ok p σ
 | [],acc,k,hk=>hk _
 |h::hs,acc,k,hk=>fun hr=>Dn hs _ k hk
theorem QX {q:bH→Prop}(c7:Bool)(nh:Nat)(hout:List Nat)(p:jM)(a:AV)(k:p.den→Q T bH)(hk:∀l,(k l).ok q σ):(RM c7 nh hout p a k).ok q σ:=by
 unfold RM;split
 ·rename_i t k;split
  ·intro row _ y hy;exact hk _
  ·cases (Eu a&& !(O5 t)&&c7) with
   |true=>exact Dn _ _ _ (fun l y hy=>hk _)
   |false=>intro y hy;exact hk _
 ·split
  ·exact H8 _ _ _ hk
  ·trivial
 ·exact hk ()
 ·split
  ·exact AX _ _ hk _
  ·exact AX _ _ hk _
  ·trivial
 ·trivial
 ·trivial
theorem Nu {q:bH→Prop}(c7:Bool)(nh:Nat)(hout:List Nat):∀(ps:List jM) (as:List AV) (k:xB ps→Q T bH),(∀l,(k l).ok q σ)→(BD c7 nh hout ps as k).ok q σ
 | [],[],k,hk=>hk ()
 | [p],[a],k,hk=>QX c7 nh hout p a k hk
 |p::p'::ps,a::as,k,hk=>QX c7 nh hout p a _ (fun x=>Nu c7 nh hout (p'::ps) as _ fun y=>hk (x,y))
 | [],_::_,k,hk=>trivial
 | [_],[],k,hk=>trivial
 | [_],_::_::_,k,hk=>trivial
 |_::_::_,[],k,hk=>trivial
theorem Nv {q:bH→Prop}(wr:List Nat):∀(hs:List Nat) (k:wk T hs→Q T bH),(∀l,(k l).ok q σ)→(Ho T wr hs k).ok q σ
 | [],k,hk=>hk ()
 | [h],k,hk=>fun hr=>by
   show Q.ok q σ (if e:hr.t=(T.ht h).t then k (Fz e hr.xs) else .fail);split
   ·exact hk _
   ·trivial
 |h::i::r,k,hk=>fun hr=>by
  show Q.ok q σ (if e:hr.t=(T.ht h).t then Ho T wr (i::r) fun y=>k (Fz e hr.xs,y) else .fail);split
  ·exact Nv wr (i::r) _ fun y=>hk _
  ·trivial
theorem zx {q:bH→Prop}:∀(ts:List Ba) (d:Nat) (y:nt (ts.map (·.1))) (k:List TU→Q T bH),(∀l,l.all TU.ET=true→(k l).ok q σ)→(rb d ts y k).ok q σ
 | [],d,y,k,hk=>hk _ rfl
 | [(t,none)],d,y,k,hk=>hk _ rfl
 | [(t,some e)],d,y,k,hk=>by
   simp only[rb];split
   ·exact hk _ rfl
   ·trivial
 | (t,none)::u::ts,d,y,k,hk=>zx (u::ts) (d+1) y.2 k hk
 | (t,some e)::u::ts,d,y,k,hk=>by
   simp only[rb];split
   ·exact zx (u::ts) (d+1) y.2 _ fun l hl=>hk _ (by simp only[List.all_cons,TU.ET,Bool.true_and];exact hl)
   ·trivial
theorem Dp {q:bH→Prop}:∀(ts:List Ty) (d:Nat) (y:nt ts) (k:List TU→List yy→Q T bH),(∀l m,l.all TU.ET=true→(k l m).ok q σ)→(wm d ts y k).ok q σ
 | [],d,y,k,hk=>hk _ _ rfl
 | [t],d,y,k,hk=>hk _ _ rfl
 |t::u::ts,d,y,k,hk=>Dp (u::ts) (d+1) y.2 _ fun l m hl=>hk _ _ (by simp only[List.all_cons,TU.ET,Bool.true_and];exact hl)
theorem Sn:∀(ts:List Ba) (d:Nat) (y:nt (ts.map (·.1))),(ia d ts y).all TU.ET=true:=fun ts d y=>by rw[List.all_eq_true];intro u hu;obtain⟨k,row,_,_,rfl,_⟩:=qD ts d y u hu;rfl
theorem H9:∀(hs:List Nat) (x:wk T hs),(sc T hs x).all TU.ET=true
 | [],_=>rfl
 | [h],_=>rfl
 |h::i::r,x=>by simp only[sc,List.all_cons,TU.ET,Bool.true_and];exact H9 (i::r) _
theorem Wy (d:Nat)(s:za)(y:Ce s)(us:List TU)(hu:us.all TU.ET=true):(Tz T d s y us).ok lT σ:=by
 unfold Tz;have key:∀(x:AV) (vs:List TU),vs.all TU.ET=true→lT (x, .kt (us++vs)):=fun x vs hv=>by show (us++vs).all TU.ET=true;rw[List.all_append,hu,hv];rfl
 split
 ·rename_i a res hps y;have:=Sn res d y;exact zx _ _ _ _ (fun l hl=>key _ _ hl)
 ·exact Dp _ _ _ _ fun l m hl=>key _ _ hl
 ·trivial
theorem Nw (st:Option Site)(dst:Option Tmp)(f:FuncId)(Jq:List AV):(JZ T st dst f Jq).ok lT σ:=by
 unfold JZ;dsimp only;split
 ·exact Nu _ _ _ _ _ _ fun x=>Nv _ _ _ fun h xh hxh yh=>Wy _ _ _ _ (H9 _ _)
 ·trivial
theorem Nx (av:Operand→AV)(st:Option Site)(dst:Option Tmp)(f:FuncId)(aP:List yy)(args:List Operand):(C1 T av st dst f aP args).ok lT σ:=Nw _ _ _ _
theorem Pz (av:Operand→AV)(st:Option Site)(dst:Option Tmp)(x:Operand)(m:String)(args:List Operand):(xD T av st dst x m args).ok lT σ:=by
 unfold xD;split
 ·split
  ·exact Nw _ _ _ _
  ·trivial
 ·trivial
theorem Wz (t:TypeId)(x:AV):(TA T t x).ok lT σ:=by
 unfold TA;split
 ·exact oA (T:=T) (σ:=σ) _
 ·trivial
end
open Go.RowKit Go.Lib
section
variable {T:cm}{σ:AS}
theorem bR {p:bH→Prop}{k:AS→Q T bH}(h:(k σ).ok p σ):(Q.all k).ok p σ:=h
theorem bT {p:bH→Prop}{b:Bool}{k:Q T bH}(h:k.ok p σ):(Q.gG b k).ok p σ:=h
theorem bU {p:bH→Prop}{q:Nat}{k:Row→Q T bH}(h:∀x,(k x).ok p σ):(Q.row q k).ok p σ:=fun x _=>h x
theorem bb {p:bH→Prop}{q:Nat}{k:bh→Q T bH}(h:∀x,(k x).ok p σ):(Q.heap q k).ok p σ:=h
theorem bV {p:bH→Prop}{q:Nat}{k:BX→Q T bH}(h:∀x,(k x).ok p σ):(Q.box q k).ok p σ:=h
theorem bW {p:bH→Prop}{β:Type}{q:Option β}{k:β→Q T bH}(h:∀x,(k x).ok p σ):(Q.opt q k).ok p σ:=fun y _=>h y
theorem rh {p:bH→Prop}{r:bH}(h:p r):(Q.ret (T:=T) r).ok p σ:=h
theorem Q.QY {p p':bH→Prop}(hp:∀r,p r→p' r):∀{q:Q T bH} {σ:AS},q.ok p σ→q.ok p' σ:=by
 intro q;induction q with
 |ret a=>intro σ h;exact hp _ h
 |fail=>intro σ h;trivial
 |opt o k ih=>intro σ h y hy;exact ih y (h y hy)
 |gG b k ih=>intro σ h;exact ih h
 |ite b x y Bb yR=>intro σ h;exact⟨Bb h.1,yR h.2⟩
 |row q k ih=>intro σ h y hy;exact ih y (h y hy)
 |len q k ih=>intro σ h y;exact ih y (h y)
 |box q k ih=>intro σ h y;exact ih y (h y)
 |heap q k ih=>intro σ h y;exact ih y (h y)
 |lC q k ih=>intro σ h;exact ih h
 |lD q k ih=>intro σ h;exact ih h
 |call v x k ih=>intro σ h y;exact ih y (h y)
 |all k ih=>intro σ h;exact ih σ h
 |on af k ih=>intro σ h;exact ih (σ:=af) h
theorem gY {z:AV}{af:AS}(h:Fr σ af):oz σ (z, .set af):=h
theorem Kw {q:Q T bH}{af:AS}(h:Fr σ af):(q.map fun p=>(p.1,RH.set af)).ok (oz σ) σ:=by
 refine Pw (p:=oz σ) ?_;have key:∀(q:Q T bH) (cV:AS),q.ok (fun x=>oz σ (x.1,RH.set af)) cV:=by
  intro q;induction q with
  |ret a=>intro cV;exact h
  |fail=>intro cV;trivial
  |opt o k ih=>intro cV y hy;exact ih y cV
  |gG b k ih=>intro cV;exact ih cV
  |ite b x y Bb yR=>intro cV;exact⟨Bb cV,yR cV⟩
  |row q k ih=>intro cV y hy;exact ih y cV
  |len q k ih=>intro cV y;exact ih y cV
  |box q k ih=>intro cV y;exact ih y cV
  |heap q k ih=>intro cV y;exact ih y cV
  |lC q k ih=>intro cV;exact ih cV
  |lD q k ih=>intro cV;exact ih cV
  |call v x k ih=>intro cV y;exact ih y cV
  |all k ih=>intro cV;exact ih cV cV
  |on af k ih=>intro cV;exact ih af
 exact key q σ
theorem XD (av:Operand→AV)(sites:List (Nat×Site))(o:Oper):(uI T av sites o).ok (oz σ) σ:=by
 unfold uI;dsimp only;generalize o.dst.bind (look sites)=st;cases ho:o.op with
 |move x=>exact bk (H6 _ _ _)
 |assign x=>
  dsimp only;split
  ·((repeat (first |refine bR ?_ |refine bT ?_ |refine bU fun _=> ?_ |refine bb fun _=> ?_ |refine bV fun _=> ?_ |refine bW fun _=> ?_))<;>(try dsimp only))
   refine rh (gY ?_);cases Nat.beq _ _ with
   |true=>exact Fr.refl _
   |false=>exact(eL _).trans (Kp _ _)
  ·split
   ·exact bk (oA _)
   ·split
    ·((repeat (first |refine bR ?_ |refine bT ?_ |refine bU fun _=> ?_ |refine bb fun _=> ?_ |refine bV fun _=> ?_ |refine bW fun _=> ?_))<;>(try dsimp only))
     exact rh (gY ⟨(eL _).cd,(eL _).sites,(eL _).s,(eL _).tr,(eL _).ks⟩)
    ·exact bk (H6 _ _ _)
  ·exact bk (H6 _ _ _)
 |pick c x y=>
  dsimp only;split
  ·exact⟨bk (oA (T:=T) (σ:=σ) _),bk (oA (T:=T) (σ:=σ) _)⟩
  ·trivial
 |nilCheck x=>
  dsimp only;split
  ·((repeat (first |refine bR ?_ |refine bT ?_ |refine bU fun _=> ?_ |refine bb fun _=> ?_ |refine bV fun _=> ?_ |refine bW fun _=> ?_))<;>(try dsimp only));exact bk (oA (T:=T) (σ:=σ) _)
  ·exact bk (oA (T:=T) (σ:=σ) _)
  ·exact bk (oA (T:=T) (σ:=σ) _)
  ·exact bk (oA (T:=T) (σ:=σ) _)
  ·exact bk (oA (T:=T) (σ:=σ) _)
  ·trivial
 |load t x=>exact bk (Ui _ _ _)
 |binOp b t x y u=>
  dsimp only;split
  ·split
   ·exact bk (Wu _ _ _)
   ·exact bk (QW _ _ _)
   ·exact bk (QW _ _ _)
   ·((repeat (first |refine bR ?_ |refine bT ?_ |refine bU fun _=> ?_ |refine bb fun _=> ?_ |refine bV fun _=> ?_ |refine bW fun _=> ?_))<;>(try dsimp only));exact bk (Ww _ _ _ _)
   ·exact bk (Wv _ _ _ _)
  ·trivial
 |unOp b t x=>
  dsimp only;split
  ·exact bk (EV (T:=T) (σ:=σ) _ _)
  ·exact bk (EV (T:=T) (σ:=σ) _ _)
  ·trivial
 |convert s d x=>exact bk (Uj _ _ _ _)
 |fieldAddr s x f=>exact bk (Sj _ _ _ _)
 |indexAddr t x i=>exact bk (Si _ _ _ _)
 |index t x i=>
  dsimp only;split
  ·split
   ·((repeat (first |refine bR ?_ |refine bT ?_ |refine bU fun _=> ?_ |refine bb fun _=> ?_ |refine bV fun _=> ?_ |refine bW fun _=> ?_))<;>(try dsimp only));exact bk (EV (T:=T) (σ:=σ) _ _)
   ·trivial
  ·trivial
 |extract x i=>
  dsimp only;split
  ·exact bk (iG (fun y=>oA _) _)
  ·trivial
 |makeFunc f fs cs=>
  cases f with
  |func g=>
   dsimp only;split
   ·exact bk (iG (fun y=>oA _) _)
   ·trivial
  |_=>trivial
 |slice t x l u m=>
  dsimp only;split
  ·split
   ·split
    ·((repeat (first |refine bR ?_ |refine bT ?_ |refine bU fun _=> ?_ |refine bb fun _=> ?_ |refine bV fun _=> ?_ |refine bW fun _=> ?_))<;>(try dsimp only))
     split
     ·((repeat (first |refine bR ?_ |refine bT ?_ |refine bU fun _=> ?_ |refine bb fun _=> ?_ |refine bV fun _=> ?_ |refine bW fun _=> ?_))<;>(try dsimp only))
      split
      ·exact rh (gY ⟨rfl,rfl,rfl,kS.refl _,by first |rfl |exact qE _ _⟩)
      ·trivial
     ·trivial
    ·trivial
   ·((repeat (first |refine bR ?_ |refine bT ?_ |refine bU fun _=> ?_ |refine bb fun _=> ?_ |refine bV fun _=> ?_ |refine bW fun _=> ?_))<;>(try dsimp only))
    exact Kw (eL _)
  ·split
   ·split
    ·((repeat (first |refine bR ?_ |refine bT ?_ |refine bU fun _=> ?_ |refine bb fun _=> ?_ |refine bV fun _=> ?_ |refine bW fun _=> ?_))<;>(try dsimp only))
     exact⟨bk (oA (T:=T) (σ:=σ) _),bk (wB (T:=T) (σ:=σ) _ _ _ _)⟩
    ·trivial
   ·trivial
  ·exact bk (Sk _ _ _ _ _ _ _)
 |build t ps=>
  dsimp only;cases ((ps.toList.map (·.2)).any fun x=>pS (av x)) with
  |true=>exact Kw (uW _ _)
  |false=>exact bk (Sl _ _ _ _)
 |buildSlice t len ps=>
  dsimp only;split
  ·split
   ·((repeat (first |refine bR ?_ |refine bT ?_ |refine bU fun _=> ?_ |refine bb fun _=> ?_ |refine bV fun _=> ?_ |refine bW fun _=> ?_))<;>(try dsimp only))
    exact bk (wB (T:=T) (σ:=σ) _ _ _ _)
   ·((repeat (first |refine bR ?_ |refine bT ?_ |refine bU fun _=> ?_ |refine bb fun _=> ?_ |refine bV fun _=> ?_ |refine bW fun _=> ?_))<;>(try dsimp only))
    cases ((ps.toList.map (·.2)).any fun x=>pS (av x)) with
    |true=>
     ((repeat (first |refine bR ?_ |refine bT ?_ |refine bU fun _=> ?_ |refine bb fun _=> ?_ |refine bV fun _=> ?_ |refine bW fun _=> ?_))<;>(try dsimp only))
     split
     ·split
      ·exact rh (gY ⟨(uW _ σ).cd,(uW _ σ).sites,(uW _ σ).s,(uW _ σ).tr,(uW _ σ).ks⟩)
      ·trivial
     ·trivial
    |false=>((repeat (first |refine bR ?_ |refine bT ?_ |refine bU fun _=> ?_ |refine bb fun _=> ?_ |refine bV fun _=> ?_ |refine bW fun _=> ?_))<;>(try dsimp only));exact bk (H7 _ _ _)
  ·trivial
 |makeSlice t l c=>
  dsimp only;split
  ·((repeat (first |refine bR ?_ |refine bT ?_ |refine bU fun _=> ?_ |refine bb fun _=> ?_ |refine bV fun _=> ?_ |refine bW fun _=> ?_))<;>(try dsimp only))
   split
   ·((repeat (first |refine bR ?_ |refine bT ?_ |refine bU fun _=> ?_ |refine bb fun _=> ?_ |refine bV fun _=> ?_ |refine bW fun _=> ?_))<;>(try dsimp only));exact bk (wB (T:=T) (σ:=σ) _ _ _ _)
   ·exact bk (H7 _ _ _)
  ·trivial
 |alloc t=>
  dsimp only;split
  ·split
   ·((repeat (first |refine bR ?_ |refine bT ?_ |refine bU fun _=> ?_ |refine bb fun _=> ?_ |refine bV fun _=> ?_ |refine bW fun _=> ?_))<;>(try dsimp only));exact bk (Kt (T:=T) (σ:=σ) _ _ _)
   ·split
    ·exact bk (q:= .lD _ (.lC _ (.ret _))) rfl
    ·exact bk (Ks _ _)
  ·trivial
 |box t v=>
  dsimp only;split
  ·split
   ·((repeat (first |refine bR ?_ |refine bT ?_ |refine bU fun _=> ?_ |refine bb fun _=> ?_ |refine bV fun _=> ?_ |refine bW fun _=> ?_))<;>(try dsimp only))
    split
    ·split
     ·exact rh (gY ⟨(eL _).cd,(eL _).sites,(eL _).s,(eL _).tr,(eL _).ks⟩)
     ·trivial
    ·trivial
   ·refine iG (fun vs=> ?_) _
    ((repeat (first |refine bR ?_ |refine bT ?_ |refine bU fun _=> ?_ |refine bb fun _=> ?_ |refine bV fun _=> ?_ |refine bW fun _=> ?_))<;>(try dsimp only))
    split
    ·((repeat (first |refine bR ?_ |refine bT ?_ |refine bU fun _=> ?_ |refine bb fun _=> ?_ |refine bV fun _=> ?_ |refine bW fun _=> ?_))<;>(try dsimp only));exact bk (Kt (T:=T) (σ:=σ) _ _ _)
    ·exact bk (Ks _ _)
  ·trivial
 |store t x v=>
  dsimp only;split
  ·split
   ·((repeat (first |refine bR ?_ |refine bT ?_ |refine bU fun _=> ?_ |refine bb fun _=> ?_ |refine bV fun _=> ?_ |refine bW fun _=> ?_))<;>(try dsimp only))
    cases Nat.beq _ _ with
    |true=>exact rh (gY ⟨rfl,rfl,rfl,kS.refl _,by first |rfl |exact qE _ _⟩)
    |false=>exact rh (gY (Kq ((eL _).trans (Kp _ _)) _ _))
   ·rename_i q hnb e1
    ((repeat (first |refine bR ?_ |refine bT ?_ |refine bU fun _=> ?_ |refine bb fun _=> ?_ |refine bV fun _=> ?_ |refine bW fun _=> ?_))<;>(try dsimp only))
    refine Pw (p:=oz σ) ?_;refine Q.QY (σ:=σ.freeze q) (p:=oz (σ.freeze q)) (fun r hr=> ?_) (iG (fun vs=>by ((repeat (first |refine bR ?_ |refine bT ?_ |refine bU fun _=> ?_ |refine bb fun _=> ?_ |refine bV fun _=> ?_ |refine bW fun _=> ?_))<;>(try dsimp only));exact Kv _ _) _);show oz σ _;unfold oz at hr;split at hr
    ·rename_i us e;rw[e];exact gY ((eL _).trans (Fr.app _ us))
    ·rename_i s e;rw[e];exact gY ((eL _).trans hr)
   ·split
    ·((repeat (first |refine bR ?_ |refine bT ?_ |refine bU fun _=> ?_ |refine bb fun _=> ?_ |refine bV fun _=> ?_ |refine bW fun _=> ?_))<;>(try dsimp only))
     exact rh (gY (Kq (eL _) _ _))
    ·trivial
   ·exact iG (fun vs=>by ((repeat (first |refine bR ?_ |refine bT ?_ |refine bU fun _=> ?_ |refine bb fun _=> ?_ |refine bV fun _=> ?_ |refine bW fun _=> ?_))<;>(try dsimp only));exact Kv _ _) _
  ·trivial
 |call c=>
  obtain⟨callee,args,ats⟩:=c;cases callee with
  |value f=>
   dsimp only;split
   ·((repeat (first |refine bR ?_ |refine bT ?_ |refine bU fun _=> ?_ |refine bb fun _=> ?_ |refine bV fun _=> ?_ |refine bW fun _=> ?_))<;>(try dsimp only))
    split
    ·rename_i t xs oS
     ((repeat (first |refine bR ?_ |refine bT ?_ |refine bU fun _=> ?_ |refine bb fun _=> ?_ |refine bV fun _=> ?_ |refine bW fun _=> ?_))<;>(try dsimp only))
     refine rh (gY ⟨rfl,rfl,rfl, .inr ⟨t,xs,[_],oS,rfl⟩,rfl⟩)
    ·trivial
   ·split
    ·cases ((args.toList.any fun x=>pS (av x))&& !(hU T (T.sig ((Hn T st _ (args.toList.map av++List.map JY _)).getD 0)))) with
     |true=>
      ((repeat (first |refine bR ?_ |refine bT ?_ |refine bU fun _=> ?_ |refine bb fun _=> ?_ |refine bV fun _=> ?_ |refine bW fun _=> ?_))<;>(try dsimp only))
      refine Pw (p:=oz σ) ?_;refine Q.QY (σ:=σ.oR args.toList) (p:=lT) (fun r hr=> ?_) (Nx _ _ _ _ _ _);show oz σ _;unfold lT at hr;split at hr
      ·rename_i us e;rw[e];exact gY ((uW _ σ).trans (Fr.app _ us))
      ·exact hr.elim
     |false=>exact bk (Nx _ _ _ _ _ _)
    ·trivial
  |builtin b=>
   cases b with
   |len=>
    dsimp only;split
    ·split
     ·exact bk (Wx _ _)
     ·trivial
    ·trivial
   |max=>
    dsimp only;split
    ·split
     ·exact bk (EV (T:=T) (σ:=σ) _ _)
     ·trivial
    ·trivial
   |min=>
    dsimp only;split
    ·split
     ·exact bk (EV (T:=T) (σ:=σ) _ _)
     ·trivial
    ·trivial
   |append=>
    dsimp only;split
    ·((repeat (first |refine bR ?_ |refine bT ?_ |refine bU fun _=> ?_ |refine bb fun _=> ?_ |refine bV fun _=> ?_ |refine bW fun _=> ?_))<;>(try dsimp only))
     split
     ·split
      ·((repeat (first |refine bR ?_ |refine bT ?_ |refine bU fun _=> ?_ |refine bb fun _=> ?_ |refine bV fun _=> ?_ |refine bW fun _=> ?_))<;>(try dsimp only))
       refine uX _ _ _ fun ys=> ?_
       ((repeat (first |refine bR ?_ |refine bT ?_ |refine bU fun _=> ?_ |refine bb fun _=> ?_ |refine bV fun _=> ?_ |refine bW fun _=> ?_))<;>(try dsimp only))
       split
       ·((repeat (first |refine bR ?_ |refine bT ?_ |refine bU fun _=> ?_ |refine bb fun _=> ?_ |refine bV fun _=> ?_ |refine bW fun _=> ?_))<;>(try dsimp only))
        split
        ·exact rh (gY ⟨rfl,rfl,rfl,kS.refl _,by first |rfl |exact qE _ _⟩)
        ·trivial
       ·trivial
      ·((repeat (first |refine bR ?_ |refine bT ?_ |refine bU fun _=> ?_ |refine bb fun _=> ?_ |refine bV fun _=> ?_ |refine bW fun _=> ?_))<;>(try dsimp only))
       refine uX _ _ _ fun ys=> ?_
       ((repeat (first |refine bR ?_ |refine bT ?_ |refine bU fun _=> ?_ |refine bb fun _=> ?_ |refine bV fun _=> ?_ |refine bW fun _=> ?_))<;>(try dsimp only));exact⟨bk (oA (T:=T) (σ:=σ) _),bk (wB (T:=T) (σ:=σ) _ _ _ _)⟩
      ·split
       ·((repeat (first |refine bR ?_ |refine bT ?_ |refine bU fun _=> ?_ |refine bb fun _=> ?_ |refine bV fun _=> ?_ |refine bW fun _=> ?_))<;>(try dsimp only))
        refine uX _ _ _ fun ys=> ?_
        ((repeat (first |refine bR ?_ |refine bT ?_ |refine bU fun _=> ?_ |refine bb fun _=> ?_ |refine bV fun _=> ?_ |refine bW fun _=> ?_))<;>(try dsimp only));exact⟨bk (oA (T:=T) (σ:=σ) _),bk (wB (T:=T) (σ:=σ) _ _ _ _)⟩
       ·refine uX _ _ _ fun ys=> ?_
        ((repeat (first |refine bR ?_ |refine bT ?_ |refine bU fun _=> ?_ |refine bb fun _=> ?_ |refine bV fun _=> ?_ |refine bW fun _=> ?_))<;>(try dsimp only));exact bk (Kr _ _)
      ·trivial
     ·trivial
    ·trivial
   |_=>trivial
  |invoke x n=>exact bk (Pz _ _ _ _ _ _)
 |makeInterface t x=>exact bk (Wz _ _)
 |_=>trivial
end
open Go.RowKit Go.Lib
def jP (σ jr:AS)(k:Nat):Prop:=(∀r,k=4*r→look jr.rows r=look σ.rows r)∧(∀b,k=2*b+1→look jr.boxes b=look σ.boxes b)∧
 (∀r,k=4*r+2→(look jr.rows r).map (fun row=>row.xs.length)=(look σ.rows r).map (fun row=>row.xs.length))∧∀h,k=hk h→jr.ab[h]? =σ.ab[h]?
def Uk:js→List Nat
 | .M r _=>r
 |_=>[]
def LB:js→List Nat
 | .M _ w=>w
 |_=>[]
theorem jP.refl (σ:AS)(k:Nat):jP σ σ k:=⟨fun _ _=>rfl,fun _ _=>rfl,fun _ _=>rfl,fun _ _=>rfl⟩
theorem jP.trans {σ cV jr:AS}{k:Nat}(h1:jP σ cV k)(h2:jP cV jr k):jP σ jr k:=
 ⟨fun r e=>(h2.1 r e).trans (h1.1 r e),fun b e=>(h2.2.1 b e).trans (h1.2.1 b e),fun r e=>(h2.2.2.1 r e).trans (h1.2.2.1 r e),fun r e=>(h2.2.2.2 r e).trans (h1.2.2.2 r e)⟩
theorem jP.symm {σ cV:AS}{k:Nat}(h1:jP σ cV k):jP cV σ k:=⟨fun r e=>(h1.1 r e).symm,fun b e=>(h1.2.1 b e).symm,fun r e=>(h1.2.2.1 r e).symm,fun r e=>(h1.2.2.2 r e).symm⟩
section
variable {T:cm}{Φ:bE T}{α:Type}
abbrev Q.go (Φ:bE T)(σ:AS)(q:Q T α)(c:js):Option (js×α):=q.run Φ σ c fun c a=>some (c,a)
theorem Hc {R:Type}{k:js→α→Option R}:∀(q:Q T α) (σ:AS) (c:js),q.run Φ σ c k=(q.go Φ σ c).bind fun p=>k p.1 p.2:=by
 intro q;induction q with
 |ret a=>intro σ c;rfl
 |fail=>intro σ c;rfl
 |opt o q ih=>intro σ c;cases o with
  |none=>rfl
  |some y=>exact ih y σ c
 |gG b q ih=>intro σ c;cases b
             ·rfl
             ·exact ih σ c
 |ite b x y Bb yR=>intro σ c;cases b
                   ·exact yR σ c
                   ·exact Bb σ c
 |row r q ih=>intro σ c;simp only[Q.go,Q.run];split
              ·exact ih _ σ _
              ·rfl
 |len r q ih=>intro σ c;simp only[Q.go,Q.run];split
              ·exact ih _ σ _
              ·rfl
 |box r q ih=>intro σ c;simp only[Q.go,Q.run];split
              ·exact ih _ σ _
              ·rfl
 |heap r q ih=>intro σ c;simp only[Q.go,Q.run];split
               ·exact ih _ σ _
               ·rfl
 |lC r q ih=>intro σ c;simp only[Q.go,Q.run];split
             ·exact ih σ _
             ·rfl
 |lD r q ih=>intro σ c;simp only[Q.go,Q.run];split
             ·exact ih σ _
             ·rfl
 |call v x q ih=>intro σ c;simp only[Q.go,Q.run];cases Φ v x with
  |none=>rfl
  |some y=>exact ih y σ c
 |all q ih=>intro σ c;exact ih σ σ .X
 |on af q ih=>intro σ c;exact ih af .X
theorem aah:∀(q:Q T α) (σ:AS) (c':js) (r:α),q.go Φ σ .X=some (c',r)→c'= .X:=by
 intro q;induction q with
 |ret a=>intro σ c' r h;simp only[Q.go,Q.run,Option.some.injEq,Prod.mk.injEq] at h;exact h.1.symm
 |fail=>intro σ c' r h;cases h
 |opt o q ih=>intro σ c' r h;cases o with
  |none=>cases h
  |some y=>exact ih y σ c' r h
 |gG b q ih=>intro σ c' r h;cases b
             ·cases h
             ·exact ih σ c' r h
 |ite b x y Bb yR=>intro σ c' r h;cases b
                   ·exact yR σ c' r h
                   ·exact Bb σ c' r h
 |row q k ih=>intro σ c' r h;simp only[Q.go,Q.run] at h;split at h
              ·exact ih _ σ c' r h
              ·cases h
 |len q k ih=>intro σ c' r h;simp only[Q.go,Q.run] at h;split at h
              ·exact ih _ σ c' r h
              ·cases h
 |box q k ih=>intro σ c' r h;simp only[Q.go,Q.run] at h;split at h
              ·exact ih _ σ c' r h
              ·cases h
 |heap q k ih=>intro σ c' r h;simp only[Q.go,Q.run] at h;split at h
               ·exact ih _ σ c' r h
               ·cases h
 |lC q k ih=>intro σ c' r h;simp only[Q.go,Q.run] at h;split at h
             ·exact ih σ c' r h
             ·cases h
 |lD q k ih=>intro σ c' r h;simp only[Q.go,Q.run] at h;split at h
             ·exact ih σ c' r h
             ·cases h
 |call v x q ih=>intro σ c' r h;simp only[Q.go,Q.run,Option.bind_eq_some_iff] at h;obtain⟨y,_,h⟩:=h;exact ih y σ c' r h
 |all q ih=>intro σ c' r h;exact ih σ σ c' r h
 |on af q ih=>intro σ c' r h;exact ih af c' r h
theorem WA:∀(q:Q T α) (σ:AS) (rd wr:List Nat) (c':js) (r:α),q.go Φ σ (.M rd wr)=some (c',r)→c'≠ .X→
  ∃l,c'= .M (l++rd) wr∧∀jr,(∀k∈l,jP σ jr k)→q.go Φ jr (.M rd wr)=some (c',r):=by
 intro q;induction q with
 |ret a=>intro σ rd wr c' r h hc;simp only[Q.go,Q.run,Option.some.injEq,Prod.mk.injEq] at h;obtain⟨rfl,rfl⟩:=h;exact⟨[],rfl,fun jr _=>rfl⟩
 |fail=>intro σ rd wr c' r h hc;cases h
 |opt o q ih=>intro σ rd wr c' r h hc;cases o with
  |none=>cases h
  |some y=>exact ih y σ rd wr c' r h hc
 |gG b q ih=>intro σ rd wr c' r h hc;cases b
             ·cases h
             ·exact ih σ rd wr c' r h hc
 |ite b x y Bb yR=>intro σ rd wr c' r h hc;cases b
                   ·exact yR σ rd wr c' r h hc
                   ·exact Bb σ rd wr c' r h hc
 |row q k ih=>
  intro σ rd wr c' r h hc;simp only[Q.go,Q.run] at h;split at h
  ·rename_i x hx;obtain⟨l,h1,h2⟩:=ih x σ (4*q::rd) wr c' r h hc;refine⟨l++[4*q],by rw[h1];simp,fun jr hs=> ?_⟩;have:=(hs (4*q) (by simp)).1 q rfl;simp only[Q.go,Q.run,this,hx];exact h2 jr (fun k hk=>hs k (by simp[hk]))
  ·cases h
 |len q k ih=>
  intro σ rd wr c' r h hc;simp only[Q.go,Q.run] at h;split at h
  ·rename_i x hx;obtain⟨l,h1,h2⟩:=ih _ σ ((4*q+2)::rd) wr c' r h hc;refine⟨l++[4*q+2],by rw[h1];simp,fun jr hs=> ?_⟩;have:=(hs (4*q+2) (by simp)).2.2.1 q rfl;rw[hx] at this;obtain⟨x2,hx2,hl⟩:=Option.map_eq_some_iff.1 this;simp only[Q.go,Q.run,hx2,hl];exact h2 jr (fun k hk=>hs k (by simp[hk]))
  ·cases h
 |box q k ih=>
  intro σ rd wr c' r h hc;simp only[Q.go,Q.run] at h;split at h
  ·rename_i x hx;obtain⟨l,h1,h2⟩:=ih x σ ((2*q+1)::rd) wr c' r h hc;refine⟨l++[2*q+1],by rw[h1];simp,fun jr hs=> ?_⟩;have:=(hs (2*q+1) (by simp)).2.1 q rfl;simp only[Q.go,Q.run,this,hx];exact h2 jr (fun k hk=>hs k (by simp[hk]))
  ·cases h
 |heap q k ih=>
  intro σ rd wr c' r h hc;simp only[Q.go,Q.run] at h;split at h
  ·rename_i x hx;obtain⟨l,h1,h2⟩:=ih x σ (hk q::rd) wr c' r h hc;refine⟨l++[hk q],by rw[h1];simp,fun jr hs=> ?_⟩;have:=(hs (hk q) (by simp)).2.2.2 q rfl;simp only[Q.go,Q.run,this,hx];exact h2 jr (fun k hk=>hs k (by simp[hk]))
  ·cases h
 |lC q k ih=>
  intro σ rd wr c' r h hc;simp only[Q.go,Q.run] at h;split at h
  ·rename_i hx;obtain⟨l,h1,h2⟩:=ih σ (4*q::rd) wr c' r h hc;refine⟨l++[4*q],by rw[h1];simp,fun jr hs=> ?_⟩;have:=(hs (4*q) (by simp)).1 q rfl;simp only[Q.go,Q.run,this,hx];exact h2 jr (fun k hk=>hs k (by simp[hk]))
  ·cases h
 |lD q k ih=>
  intro σ rd wr c' r h hc;simp only[Q.go,Q.run] at h;split at h
  ·rename_i hx;obtain⟨l,h1,h2⟩:=ih σ ((2*q+1)::rd) wr c' r h hc;refine⟨l++[2*q+1],by rw[h1];simp,fun jr hs=> ?_⟩;have:=(hs (2*q+1) (by simp)).2.1 q rfl;simp only[Q.go,Q.run,this,hx];exact h2 jr (fun k hk=>hs k (by simp[hk]))
  ·cases h
 |call v x q ih=>intro σ rd wr c' r h hc;simp only[Q.go,Q.run,Option.bind_eq_some_iff] at h;obtain⟨y,hy,h⟩:=h;obtain⟨l,h1,h2⟩:=ih y σ rd wr c' r h hc;exact⟨l,h1,fun jr hs=>by simp only[Q.go,Q.run,hy,Option.bind_some];exact h2 jr hs⟩
 |all q ih=>intro σ rd wr c' r h hc;exact absurd (aah (q σ) σ c' r h) hc
 |on af q ih=>intro σ rd wr c' r h hc;exact absurd (aah q af c' r h) hc
end
section
variable {T:cm}{av EN:Operand→AV}
theorem xV {d:Int}{x:Option Operand}(h:∀y,x=some y→EN y=av y):fO EN d x=fO av d x:=by
 cases x with
 |none=>rfl
 |some y=>simp only[fO,h y rfl]
theorem BH {lV:List (Nat×Nat)}:∀(parts:List (Nat×Operand)) (cs:List CV),(∀p∈parts,EN p.2=av p.2)→partsOf EN lV parts cs=partsOf av lV parts cs
 | [],cs,h=>rfl
 | (i,x)::r,cs,h=>by have hx:=h (i,x) (by simp);simp only at hx;have ih:=fun cs=>BH (lV:=lV) r cs (fun p hp=>h p (by simp[hp]));simp only[partsOf,hx,ih]
theorem FL {t:Ty}:∀(parts:List (Nat×Operand)) (xs:List t.den),(∀p∈parts,EN p.2=av p.2)→elems EN t parts xs=elems av t parts xs
 | [],cs,h=>rfl
 | (i,x)::r,cs,h=>by have hx:=h (i,x) (by simp);simp only at hx;have ih:=fun cs=>FL (t:=t) r cs (fun p hp=>h p (by simp[hp]));simp only[elems,hx,ih]
theorem LC {xs:List Operand}(h:∀x∈xs,EN x=av x):xs.any (fun x=>pS (EN x))=xs.any (fun x=>pS (av x)):=by
 induction xs with
 |nil=>rfl
 |cons x xs ih=>simp only[List.any_cons];rw[h x (by simp),ih (fun y hy=>h y (by simp[hy]))]
theorem BI {α β:Type}{f g:α→Option β}:∀{xs:List α},(∀x∈xs,f x=g x)→mO f xs=mO g xs
 | [],_=>rfl
 |x::xs,h=>by simp only[mO,h x (by simp),BI (xs:=xs) (fun y hy=>h y (by simp[hy]))]
theorem EW {xs:List Operand}(h:∀x∈xs,EN x=av x):xs.map EN=xs.map av:=List.map_congr_left h
theorem Ny {st:Option Site}{dst:Option Tmp}{f:FuncId}{aP:List yy}{args:List Operand}(h:∀x∈args,EN x=av x):C1 T EN st dst f aP args=C1 T av st dst f aP args:=by unfold C1;rw[EW h]
theorem So {sites:List (Nat×Site)}{o:Oper}(h:∀x∈o.op.operands,EN x=av x):uI T EN sites o=uI T av sites o:=by
 unfold uI;dsimp only;generalize o.dst.bind (look sites)=st;cases ho:o.op with
 |move x=>have hx:=h x (by simp[ho,Op.operands]);simp only[hx]
 |assign x=>have hx:=h x (by simp[ho,Op.operands]);simp only[hx]
 |pick c x y=>have h1:=h c (by simp[ho,Op.operands]);have h2:=h x (by simp[ho,Op.operands]);have h3:=h y (by simp[ho,Op.operands]);simp only[h1,h2,h3]
 |nilCheck x=>have hx:=h x (by simp[ho,Op.operands]);simp only[hx]
 |load t x=>have hx:=h x (by simp[ho,Op.operands]);simp only[hx]
 |binOp b t x y u=>have h1:=h x (by simp[ho,Op.operands]);have h2:=h y (by simp[ho,Op.operands]);simp only[h1,h2]
 |unOp b t x=>have hx:=h x (by simp[ho,Op.operands]);simp only[hx]
 |convert s d x=>have hx:=h x (by simp[ho,Op.operands]);simp only[hx]
 |fieldAddr s x f=>have hx:=h x (by simp[ho,Op.operands]);simp only[hx]
 |indexAddr t x i=>have h1:=h x (by simp[ho,Op.operands]);have h2:=h i (by simp[ho,Op.operands]);simp only[h1,h2]
 |index t x i=>have h1:=h x (by simp[ho,Op.operands]);have h2:=h i (by simp[ho,Op.operands]);simp only[h1,h2]
 |extract x i=>have hx:=h x (by simp[ho,Op.operands]);simp only[hx]
 |makeFunc f fs cs=>
  cases f with
  |func g=>
   dsimp only;split
   ·exact congrArg (gL _) (BI fun x hx=>by
     have:=h x (by simp only[ho,Op.operands,Array.mem_append];exact .inr (by simpa using hx));rw[this])
   ·rfl
  |_=>rfl
 |slice t x l u m=>
  have hx:=h x (by simp[ho,Op.operands]);have hl:∀d,fO EN d l=fO av d l:=fun d=>xV (fun y e=>h y (by subst e;simp[ho,Op.operands]));have hu:∀d,fO EN d u=fO av d u:=fun d=>xV (fun y e=>h y (by subst e;simp[ho,Op.operands]));have hm:∀d,fO EN d m=fO av d m:=fun d=>xV (fun y e=>h y (by subst e;simp[ho,Op.operands]));have hs:∀z,oY (T:=T) T.rows EN t z l u m=oY T.rows av t z l u m:=fun z=>by
   unfold oY;simp only[hl,hu];cases m with
   |none=>rfl
   |some mm=>cases u with
    |none=>rfl
    |some uu=>have e1:=hu 0;have e2:=hm 0;simp only[e1,e2]
  simp only[hx,hs];cases u with
  |none=>cases l<;>cases m<;>rfl
  |some uu=>have e1:=h uu (by simp[ho,Op.operands]);cases l<;>cases m<;>first |rfl |simp only[e1]
 |build t ps=>
  have hp:∀p∈ps.toList,EN p.2=av p.2:=fun p hp=>h p.2 (by simp only[ho,Op.operands,List.mem_toArray,List.mem_map];exact⟨p,hp,rfl⟩);have ha:=LC (xs:=ps.toList.map (·.2)) (fun x hx=>by obtain⟨p,h1,rfl⟩:=List.mem_map.1 hx;exact hp p h1);have hb:tk (T:=T) T.rows EN t ps.toList=tk T.rows av t ps.toList:=by unfold tk;simp only[BH _ _ hp]
  simp only[ha,hb]
 |buildSlice t len ps=>have hp:∀p∈ps.toList,EN p.2=av p.2:=fun p hp=>h p.2 (by simp only[ho,Op.operands,List.mem_toArray,List.mem_map];exact⟨p,hp,rfl⟩);have ha:=LC (xs:=ps.toList.map (·.2)) (fun x hx=>by obtain⟨p,h1,rfl⟩:=List.mem_map.1 hx;exact hp p h1);have he:∀(u:Ty) (l:List u.den),elems EN u ps.toList l=elems av u ps.toList l:=fun u l=>FL _ _ hp;simp only[ha,he]
 |makeSlice t l c=>have h1:=h l (by simp[ho,Op.operands]);have h2:=h c (by simp[ho,Op.operands]);simp only[h1,h2]
 |alloc t=>rfl
 |box t v=>have hx:=h v (by simp[ho,Op.operands]);simp only[hx]
 |store t x v=>have h1:=h x (by simp[ho,Op.operands]);have h2:=h v (by simp[ho,Op.operands]);simp only[h1,h2]
 |call c=>
  obtain⟨callee,args,ats⟩:=c;have hargs:∀x∈args.toList,EN x=av x:=fun x hx=>h x (by simp only[ho,Op.operands,Call.operands];cases callee<;>simp<;>(try right)<;>simpa using hx);cases callee with
  |value f=>have hf:=h f (by simp[ho,Op.operands,Call.operands]);simp only[hf,EW hargs,LC hargs,Ny hargs]
  |builtin b=>
   cases b with
   |len=>
    dsimp only;split
    ·rename_i x t hx ht;have h1:=hargs x (by rw[hx];simp);simp only[h1]
    ·rfl
   |max=>
    dsimp only;split
    ·rename_i x y hx;have h1:=hargs x (by rw[hx];simp);have h2:=hargs y (by rw[hx];simp);simp only[h1,h2]
    ·rfl
   |min=>
    dsimp only;split
    ·rename_i x y hx;have h1:=hargs x (by rw[hx];simp);have h2:=hargs y (by rw[hx];simp);simp only[h1,h2]
    ·rfl
   |append=>
    dsimp only;split
    ·rename_i s x t tx hx ht;have h1:=hargs s (by rw[hx];simp);have h2:=hargs x (by rw[hx];simp);simp only[h1,h2]
    ·rfl
   |_=>rfl
  |invoke x n=>have hf:=h x (by simp[ho,Op.operands,Call.operands]);simp only[xD,hf,EW hargs]
 |makeInterface t x=>have hx:=h x (by simp[ho,Op.operands]);simp only[hx]
 |_=>rfl
end
open Go.RowKit Go.Lib
section
variable {P:Program}{T:cm}{E:Env}{σ cV jr:AS}{Φ:bE T}{ops:Array Oper}
theorem Ul (u:TU):(σ.one u).tmps=σ.tmps:=by cases u<;>rfl
theorem Sp (u:TU):(σ.one u).sites=σ.sites:=by cases u<;>rfl
theorem zy:∀(us:List TU) (σ:AS),(σ.app us).tmps=σ.tmps
 | [],σ=>rfl
 |u::us,σ=>by rw[AS.app,zy us,Ul]
theorem EX:∀(us:List TU) (σ:AS),(σ.app us).sites=σ.sites
 | [],σ=>rfl
 |u::us,σ=>by rw[AS.app,EX us,Sp]
theorem Ia (d:Option Tmp)(v:AV):(σ.fG d v).sites=σ.sites:=by cases d<;>rfl
theorem Um (d:Option Tmp)(v:AV):(σ.fG d v).tmps.s=σ.tmps.s:=by
 cases d with
 |none=>rfl
 |some d=>simp only[AS.fG,uG];cases Nat.blt d σ.tmps.n<;>rfl
theorem Nz (d:Option Tmp)(v:AV):(σ.fG d v).rows=σ.rows∧(σ.fG d v).boxes=σ.boxes∧(σ.fG d v).ab=σ.ab:=by cases d<;>exact⟨rfl,rfl,rfl⟩
theorem Un {R:Type}(o:Oper)(k:js→AS→Option R):Bc T Φ σ o k=(Bc T Φ σ o (fun c s=>some (c,s))).bind fun p=>k p.1 p.2:=by
 rw[AK,AK];rw[Hc]
 conv=>rhs;rw[Hc]
 cases (uI T σ.av σ.sites o).go Φ σ (.M [] []) with
 |none=>rfl
 |some p=>obtain⟨c,r1,r2⟩:=p;cases r2<;>rfl
theorem NA {o:Oper}{c:js}{af:AS}(he:Bc T Φ σ o (fun c s=>some (c,s))=some (c,af)):∃r,(uI T σ.av σ.sites o).val Φ σ=some r∧af=aV σ o.dst r:=by
 rw[AK] at he;obtain⟨c',r,h1,h2⟩:=QG _ _ he;refine⟨r,h1, ?_⟩;unfold aV;split at h2
 ·rename_i us e;first | (rw[e];simp only[Option.some.injEq,Prod.mk.injEq] at h2;exact h2.2.symm) | (simp only[Option.some.injEq,Prod.mk.injEq] at h2;exact h2.2.symm)
 ·rename_i s e;first | (rw[e];simp only[Option.some.injEq,Prod.mk.injEq] at h2;exact h2.2.symm) | (simp only[Option.some.injEq,Prod.mk.injEq] at h2;exact h2.2.symm)
theorem WB {jr:AS}{xs:Array Operand}(hs:jr.tmps.s=σ.tmps.s)(h:∀t, .tmp t∈xs→nth jr.tmps t=nth σ.tmps t):∀x∈xs,jr.av x=σ.av x:=by
 intro x hx;cases x with
 |tmp t=>exact h t hx
 |const v=>rfl
 |global g=>simp only[AS.av,dW.av,hs]
 |func f=>rfl
def Local (T:cm)(Φ:bE T)(σ:AS)(o:Oper)(c:js)(af:AS):Prop:=
 ∃v us,af=(σ.app us).fG o.dst v∧(∀u∈us,∀k∈u.keys,k∈LB c)∧Fits σ us∧∀jr:AS,jr.sites=σ.sites→(∀x∈o.op.operands,jr.av x=σ.av x)→(∀k,k∈Uk c∨k∈LB c→jP σ jr k)→
  Bc T Φ jr o (fun c s=>some (c,s))=some (c,(jr.app us).fG o.dst v)
theorem Uo {o:Oper}{c:js}{af:AS}(he:Bc T Φ σ o (fun c s=>some (c,s))=some (c,af))(hc:c≠ .X):Local T Φ σ o c af:=by
 have he0:=he;rw[AK] at he;rw[Hc,Option.bind_eq_some_iff] at he;obtain⟨⟨c',r⟩,h1,h2⟩:=he;have hv:(uI T σ.av σ.sites o).val Φ σ=some r:=by obtain⟨c2,r2,h3,h4⟩:=QG _ _ h1;simp only[Option.some.injEq,Prod.mk.injEq] at h4;rw[←h4.2];exact h3
 have hok:=Uf (XD σ.av σ.sites o) hv;dsimp only at h2;unfold oz at hok;split at h2
 ·rename_i us e;rw[e] at hok;simp only[Option.some.injEq,Prod.mk.injEq] at h2;obtain⟨rfl,rfl⟩:=h2;have Lk:c'≠ .X:=fun e'=>hc (by rw[e'];rfl);obtain⟨l,rfl,hl⟩:=WA _ _ _ _ _ _ h1 Lk;refine⟨r.1,us,rfl,fun u hu k hk=> ?_,hok,fun jr hs k8 hk=> ?_⟩
  ·show k∈MJ us++[]
   rw[List.append_nil];exact List.mem_flatMap.2 ⟨u,hu,hk⟩
  ·rw[AK];rw[So (av:=σ.av) k8,hs,Hc];rw[hl jr (fun k hk'=>hk k (.inl (by show k∈l++[];simpa using hk')))];simp only[Option.bind_some,e]
 ·simp only[Option.some.injEq,Prod.mk.injEq] at h2;exact absurd h2.1.symm hc
theorem NB (l:dW)(t d:Nat)(v:AV)(h:t≠d):nth (uG l d v) t=nth l t:=by
 unfold uG;cases Nat.blt d l.n with
 |true=>simp only[cond_true,nth,J1,if_neg (Ne.symm h)]
 |false=>rfl
theorem Sq {α:Type}(l:List (Nat×α)){i j:Nat}(u v:α)(h:i≠j):Cg (Cg l i u) j v=Cg (Cg l j v) i u:=by
 have FA:∀{a b:Nat},a<b→Nat.blt a b=true:=fun h=>(nU _ _).2 h;have FB:∀{a b:Nat},¬a<b→Nat.blt a b=false:=fun h=>by
  cases hb:Nat.blt _ _
  ·rfl
  ·exact absurd ((nU _ _).1 hb) h
 induction l with
 |nil=>
  rcases Nat.lt_or_gt_of_ne h with h1 |h1
  ·simp[Cg,FA h1,FB (show ¬j<i by omega),jt (Ne.symm h)]
  ·simp[Cg,FA h1,FB (show ¬i<j by omega),jt h]
 |cons p r ih=>
  obtain⟨k,x⟩:=p;rcases Nat.lt_trichotomy k i with h1 |h1 |h1<;>rcases Nat.lt_trichotomy k j with h2 |h2 |h2<;>rcases Nat.lt_or_gt_of_ne h with h3 |h3<;>
   first
   |omega
   | (try subst h1
      try subst h2
      simp (disch:=omega) [Cg,FA,FB,jt,beq_refl,ih])
theorem Sr (l:dW)(i j:Nat)(u v:AV)(h:i≠j):uG (uG l i u) j v=uG (uG l j v) i u:=by unfold uG;cases hi:Nat.blt i l.n<;>cases hj:Nat.blt j l.n<;>simp[hi,hj];exact Sq _ _ _ h
theorem QZ {α:Type}:∀{l:List (Nat×α)} {t:Nat} {x:α},look l t=some x→V5 l t x=l
 | [],_,_,h=>by cases h
 | (k,u)::r,t,x,h=>by
   simp only[look] at h;simp only[V5];cases hb:Nat.beq k t with
   |true=>rw[hb] at h;have e:u=x:=by simpa using h
          subst e;rfl
   |false=>rw[hb] at h;simp only[cond_false];rw[QZ h]
theorem LD {t:Nat}{b:Bool}(h:nth σ.tmps t= .rv (.cv ⟨.bool,b⟩)):σ.Ci t b=σ:=by
 unfold AS.Ci;have:look σ.tmps.l t=some (.rv (.cv ⟨.bool,b⟩)):=by
  unfold nth at h;split at h
  ·rename_i x hx;rw[hx,h]
  ·cases h
 obtain⟨⟨n,l,sv⟩,rows,boxes,ab,trace,cd,sites⟩:=σ;simp only at this ⊢;rw[QZ this]
theorem Ss {R:Type}{o:Oper}(hg:o.guard=none)(k:js→AS→Option R):zh T Φ ops σ o k=Bc T Φ σ o k:=by unfold zh;rw[hg]
theorem Su {R:Type}{o:Oper}{j t:Nat}{want b:Bool}(hg:o.guard=some (j,want))(ht:(ops[j]?).bind (·.dst)=some t)(hb:nth σ.tmps t= .rv (.cv ⟨.bool,b⟩))(k:js→AS→Option R):
  zh T Φ ops σ o k=if b=want then Bc T Φ σ o k else k (.M [] []) (σ.fG o.dst (.lit undef)):=by
 unfold zh;simp only[hg,ht,hb];cases b<;>cases want<;>simp[LD hb,Hr]
theorem Up {R:Type}{o:Oper}{j t:Nat}{want:Bool}{vs:Array Value}(hg:o.guard=some (j,want))(ht:(ops[j]?).bind (·.dst)=some t)(hb:nth σ.tmps t= .lit (.tuple vs))(k:js→AS→Option R):
  zh T Φ ops σ o k=k (.M [] []) (σ.fG o.dst (.lit undef)):=by
 unfold zh;simp only[hg,ht,hb,Hr]
theorem PA {R:Type}{o:Oper}{j:Nat}{want:Bool}(hg:o.guard=some (j,want))(h:∀t,(ops[j]?).bind (·.dst)=some t→(∀b,nth σ.tmps t≠ .rv (.cv ⟨.bool,b⟩))∧∀vs,nth σ.tmps t≠ .lit (.tuple vs))(k:js→AS→Option R):
  zh T Φ ops σ o k=none:=by
 unfold zh;rw[hg];simp only;split
 ·rename_i t ht;obtain⟨h1,h2⟩:=h t ht;split
  ·rename_i b hb;exact absurd hb (h1 b)
  ·rename_i vs hb;exact absurd hb (h2 vs)
  ·rfl
 ·rfl
def Way (ops:Array Oper)(o:Oper)(σ:AS)(run:Bool):Prop:=
 match o.guard with
 |none=>run=true
 |some (j,want)=>∃t,(ops[j]?).bind (·.dst)=some t∧((∃b,nth σ.tmps t= .rv (.cv ⟨.bool,b⟩)∧run=(b==want))∨(∃vs,nth σ.tmps t= .lit (.tuple vs)∧run=false))
theorem Yv {R:Type}{o:Oper}{run:Bool}(h:Way ops o σ run)(k:js→AS→Option R):zh T Φ ops σ o k=if run then Bc T Φ σ o k else k (.M [] []) (σ.fG o.dst (.lit undef)):=by
 unfold Way at h;split at h
 ·rename_i hg;subst h;rw[Ss hg];rfl
 ·rename_i j want hg;obtain⟨t,ht,⟨b,hb,rfl⟩ | ⟨vs,hb,rfl⟩⟩:=h
  ·rw[Su hg ht hb];cases b<;>cases want<;>rfl
  ·rw[Up hg ht hb];rfl
theorem Yw {R:Type}{o:Oper}{k:js→AS→Option R}{r:R}(h:zh T Φ ops σ o k=some r):∃run,Way ops o σ run:=by
 cases hg:o.guard with
 |none=>exact⟨true,by unfold Way;rw[hg]⟩
 |some p=>
  obtain⟨j,want⟩:=p;by_cases hx:∃t,(ops[j]?).bind (·.dst)=some t∧((∃b,nth σ.tmps t= .rv (.cv ⟨.bool,b⟩))∨∃vs,nth σ.tmps t= .lit (.tuple vs))
  ·obtain⟨t,ht,⟨b,hb⟩ | ⟨vs,hb⟩⟩:=hx
   ·exact⟨b==want,by unfold Way;rw[hg];exact⟨t,ht, .inl ⟨b,hb,rfl⟩⟩⟩
   ·exact⟨false,by unfold Way;rw[hg];exact⟨t,ht, .inr ⟨vs,hb,rfl⟩⟩⟩
  ·rw[PA hg (fun t ht=>⟨fun b hb=>hx ⟨t,ht, .inl ⟨b,hb⟩⟩,fun vs hb=>hx ⟨t,ht, .inr ⟨vs,hb⟩⟩⟩)] at h;cases h
def Tr (T:cm)(Φ:bE T)(ops:Array Oper)(o:Oper)(σ:AS)(c:js)(af:AS):Prop:=
 ∃run,Way ops o σ run∧(if run then Bc T Φ σ o (fun c s=>some (c,s))=some (c,af) else c= .M [] []∧af=σ.fG o.dst (.lit undef))
theorem WC {R:Type}{o:Oper}{k:js→AS→Option R}{r:R}(h:zh T Φ ops σ o k=some r):∃c af,Tr T Φ ops o σ c af∧k c af=some r:=by
 obtain⟨run,hw⟩:=Yw h;rw[Yv hw] at h;cases run with
 |true=>simp only[if_true] at h;rw[Un] at h;obtain⟨p,hp,h2⟩:=Option.bind_eq_some_iff.1 h;exact⟨p.1,p.2,⟨true,hw,by simpa using hp⟩,h2⟩
 |false=>exact⟨.M [] [],_,⟨false,hw,rfl,rfl⟩,h⟩
theorem aai {o:Oper}{c:js}{af:AS}(h:Tr T Φ ops o σ c af):Fr σ af:=by
 obtain⟨run,hw,h⟩:=h;cases run with
 |true=>simp only[if_true] at h;obtain⟨r,h1,rfl⟩:=NA h;exact Fr.res (Uf (XD σ.av σ.sites o) h1) _
 |false=>obtain⟨_,rfl⟩:=h;exact(Fr.refl σ).fG _ _
theorem NC {o:Oper}{c:js}{af:AS}(h:Tr T Φ ops o σ c af)(hc:c≠ .X):∃v us,af=(σ.app us).fG o.dst v∧(∀u∈us,∀k∈u.keys,k∈LB c)∧Fits σ us∧
  ∀jr:AS,jr.sites=σ.sites→jr.tmps.s=σ.tmps.s→(∀t∈o.looksAt ops,nth jr.tmps t=nth σ.tmps t)→(∀k,k∈Uk c∨k∈LB c→jP σ jr k)→Tr T Φ ops o jr c ((jr.app us).fG o.dst v):=by
 obtain⟨run,hw,h⟩:=h;have aaj:∀jr:AS,(∀t∈o.looksAt ops,nth jr.tmps t=nth σ.tmps t)→Way ops o jr run:=fun jr hs=>by
  unfold Way at hw ⊢;cases hg:o.guard with
  |none=>simp only[hg] at hw;exact hw
  |some p=>obtain⟨j,want⟩:=p;simp only[hg] at hw;obtain⟨t,ht,hor⟩:=hw;have:=hs t (by simp[Oper.looksAt,hg,ht]);exact⟨t,ht,by rw[this];exact hor⟩
 cases run with
 |true=>simp only[if_true] at h;obtain⟨v,us,h1,h2,h3,h4⟩:=Uo h hc;refine⟨v,us,h1,h2,h3,fun jr hsi hss hs hk=> ?_⟩;have hop:∀x∈o.op.operands,jr.av x=σ.av x:=WB hss (fun t ht=>hs t (by simp only[Oper.looksAt,List.mem_append,List.mem_filterMap];exact .inl ⟨.tmp t,by simpa using ht,rfl⟩));exact⟨true,aaj jr hs,by simpa using h4 jr hsi hop hk⟩
 |false=>obtain⟨rfl,rfl⟩:=h;exact⟨.lit undef,[],rfl,(fun u hu=>by cases hu),trivial,fun jr _ _ hs hk=>⟨false,aaj jr hs,rfl,rfl⟩⟩
theorem Ib:∀(us:List TU) (σ:AS) (d:Option Tmp) (v:AV),(σ.fG d v).app us=(σ.app us).fG d v
 | [],σ,d,v=>rfl
 |u::us,σ,d,v=>by
  have:(σ.fG d v).one u=(σ.one u).fG d v:=by cases u<;>cases d<;>rfl
  rw[AS.app,this,Ib us];rfl
theorem Uq {u:TU}{k:Nat}(h:k∉u.keys)(hf:u.fits σ):jP σ (σ.one u) k:=by
 cases u with
 |row q r=>
  simp only[TU.keys,List.mem_cons,List.not_mem_nil,or_false,not_or] at h;refine⟨fun r' e=> ?_,fun b e=>rfl,fun r' e=> ?_,fun _ _=>rfl⟩
  ·simp only[AS.one,aF];rw[if_neg];intro e';exact h.1 (by rw[e,e'])
  ·simp only[AS.one,aF];rw[if_neg];intro e';exact h.2 (by rw[e,e'])
 |zd q r=>
  simp only[TU.keys,List.mem_cons,List.not_mem_nil,or_false] at h;refine⟨fun r' e=> ?_,fun b e=>rfl,fun r' e=> ?_,fun _ _=>rfl⟩
  ·simp only[AS.one,aF];rw[if_neg];intro e';exact h (by rw[e,e'])
  ·simp only[AS.one,aF];split
   ·rename_i e';subst e';exact hf.symm
   ·rfl
 |box q x=>simp only[TU.keys,List.mem_cons,List.not_mem_nil,or_false] at h;refine⟨fun r' e=>rfl,fun b e=> ?_,fun r' e=>rfl,fun _ _=>rfl⟩;simp only[AS.one,aF];rw[if_neg];intro e';exact h (by rw[e,e'])
 |heap q x=>simp only[TU.keys,List.mem_cons,List.not_mem_nil,or_false] at h;refine⟨fun r' e=>rfl,fun b e=>rfl,fun r' e=>rfl,fun h' e=> ?_⟩;simp only[AS.one];rw[List.getElem?_set_ne];intro e';exact h (by rw[e,e'])
theorem Ic:∀(us:List TU) (σ:AS) (k:Nat),(∀u∈us,k∉u.keys)→Fits σ us→jP σ (σ.app us) k
 | [],σ,k,h,hf=>jP.refl _ _
 |u::us,σ,k,h,hf=>(Uq (h u (by simp)) hf.1).trans (Ic us (σ.one u) k (fun v hv=>h v (by simp[hv])) hf.2)
theorem PB {u:TU}{k:Nat}(h:jP σ jr k):jP (σ.one u) (jr.one u) k:=by
 cases u with
 |row q r=>
  refine⟨fun r' e=> ?_,h.2.1,fun r' e=> ?_,h.2.2.2⟩
  ·simp only[AS.one,aF];split
   ·rfl
   ·exact h.1 r' e
  ·simp only[AS.one,aF];split
   ·rfl
   ·exact h.2.2.1 r' e
 |zd q r=>
  refine⟨fun r' e=> ?_,h.2.1,fun r' e=> ?_,h.2.2.2⟩
  ·simp only[AS.one,aF];split
   ·rfl
   ·exact h.1 r' e
  ·simp only[AS.one,aF];split
   ·rfl
   ·exact h.2.2.1 r' e
 |box q x=>
  refine⟨h.1,fun r' e=> ?_,h.2.2.1,h.2.2.2⟩;simp only[AS.one,aF];split
  ·rfl
  ·exact h.2.1 r' e
 |heap q x=>
  refine⟨h.1,h.2.1,h.2.2.1,fun h' e=> ?_⟩;have h0:=h.2.2.2 h' e;simp only[AS.one];by_cases e':q=h'
  ·subst e';by_cases hl:q<σ.ab.length
   ·have Wj:q<jr.ab.length:=by have:=List.getElem?_eq_getElem hl;rw[←h0] at this;exact(List.getElem?_eq_some_iff.1 this).1
    rw[List.getElem?_set_self hl,List.getElem?_set_self Wj]
   ·have Wj:¬q<jr.ab.length:=fun Wj=>by have:=List.getElem?_eq_getElem Wj;rw[h0] at this;exact hl (List.getElem?_eq_some_iff.1 this).1
    rw[List.getElem?_eq_none (by simp;omega),List.getElem?_eq_none (by simp;omega)]
  ·rw[List.getElem?_set_ne e',List.getElem?_set_ne e'];exact h0
theorem Kx:∀{us:List TU} {σ jr:AS},Fits σ us→(∀u∈us,∀k∈u.keys,jP σ jr k)→Fits jr us
 | [],_,_,_,_=>trivial
 |u::us,σ,jr,h,hs=>by
  refine⟨?_,Kx h.2 (fun v hv k hk=>PB (hs v (by simp[hv]) k hk))⟩;have h1:=h.1;cases u with
  |zd q r=>have:=(hs (.zd q r) (by simp) (4*q) (by simp[TU.keys])).1 q rfl;show (look jr.rows q).map _=_;rw[this];exact h1
  |_=>trivial
theorem Ur {u v:TU}(h:∀k∈u.keys,k∉v.keys):(σ.one u).one v=(σ.one v).one u:=by
 have rr:∀(q q':Nat) (r r':Row),q≠q'→put (put σ.rows q r) q' r'=put (put σ.rows q' r') q r:=fun q q' r r' e=>put_comm _ _ _ e;cases u with
 |row q r=>cases v with
  |row q' r'=>simp only[AS.one];rw[rr];intro e;exact h (4*q) (by simp[TU.keys]) (by simp[TU.keys,e])
  |zd q' r'=>simp only[AS.one];rw[rr];intro e;exact h (4*q) (by simp[TU.keys]) (by simp[TU.keys,e])
  |_=>rfl
 |zd q r=>cases v with
  |row q' r'=>simp only[AS.one];rw[rr];intro e;exact h (4*q) (by simp[TU.keys]) (by simp[TU.keys,e])
  |zd q' r'=>simp only[AS.one];rw[rr];intro e;exact h (4*q) (by simp[TU.keys]) (by simp[TU.keys,e])
  |_=>rfl
 |box q x=>cases v with
  |box q' x'=>simp only[AS.one];rw[put_comm];intro e;exact h (2*q+1) (by simp[TU.keys]) (by simp[TU.keys,e])
  |_=>rfl
 |heap q x=>cases v with
  |heap q' x'=>simp only[AS.one];rw[List.set_comm];intro e;exact h (hk q) (by simp[TU.keys]) (by simp[TU.keys,e])
  |_=>rfl
theorem Q0:∀(us:List TU) (σ:AS) (u:TU),(∀v∈us,∀k∈u.keys,k∉v.keys)→(σ.one u).app us=(σ.app us).one u
 | [],σ,u,h=>rfl
 |v::us,σ,u,h=>by rw[AS.app,Ur (h v (by simp)),Q0 us (σ.one v) u (fun x hx=>h x (by simp[hx]))];rfl
theorem ND:∀(us vs:List TU) (σ:AS),(∀u∈us,∀v∈vs,∀k∈u.keys,k∉v.keys)→(σ.app us).app vs=(σ.app vs).app us
 | [],vs,σ,h=>rfl
 |u::us,vs,σ,h=>by rw[AS.app,ND us vs (σ.one u) (fun x hx v hv=>h x (by simp[hx]) v hv),Q0 vs σ u (fun v hv=>h u (by simp) v hv)];rfl
theorem Sv {σ:AS}{d d':Option Tmp}{u v:AV}(h:∀x,d=some x→d'≠some x):(σ.fG d u).fG d' v=(σ.fG d' v).fG d u:=by
 cases d with
 |none=>cases d'<;>rfl
 |some x=>
  cases d' with
  |none=>rfl
  |some y=>simp only[AS.fG];rw[Sr _ _ _ _ _ (fun e=>h x rfl (by rw[e]))]
theorem uY {a b:List Nat}(h:meets a b=false):∀x∈a,∀y∈b,x≠y:=by
 intro x hx y hy e;have:meets a b=true:=by unfold meets;rw[List.any_eq_true];exact⟨x,hx,by rw[List.any_eq_true];exact⟨y,hy,(beq_iff _ _).2 e⟩⟩
 rw[this] at h;cases h
theorem NF {c1 c2:js}(h:xE c1 c2=true):c1≠ .X∧c2≠ .X∧(∀x∈LB c1,∀y,y∈Uk c2∨y∈LB c2→x≠y)∧(∀x∈LB c2,∀y,y∈Uk c1∨y∈LB c1→x≠y):=by
 cases c1 with
 |X=>simp[xE] at h
 |M r w=>
  cases c2 with
  |X=>simp[xE] at h
  |M r' w'=>
   simp only[xE,Bool.not_eq_true',Bool.or_eq_false_iff] at h;obtain⟨⟨h1,h2⟩,h3⟩:=h;refine⟨by simp,by simp,fun x hx y hy=> ?_,fun x hx y hy=> ?_⟩
   ·rcases hy with hy |hy
    ·exact uY h1 x hx y hy
    ·exact uY h2 x hx y hy
   ·rcases hy with hy |hy
    ·exact fun e=>uY h3 y hy x hx e.symm
    ·exact fun e=>uY h2 y hy x hx e.symm
theorem NG {σ:AS}{d:Option Tmp}{v:AV}{t:Nat}(h:d≠some t):nth (σ.fG d v).tmps t=nth σ.tmps t:=by
 cases d with
 |none=>rfl
 |some d=>exact NB _ _ _ _ (fun e=>h (by rw[e]))
theorem Ky {d:Option Tmp}{v:AV}(k:Nat):jP σ (σ.fG d v) k:=by obtain⟨h1,h2,h3⟩:=Nz (σ:=σ) d v;exact⟨fun _ _=>by rw[h1],fun _ _=>by rw[h2],fun _ _=>by rw[h1],fun _ _=>by rw[h3]⟩
theorem WD {o1 o2:Oper}{c1 c2:js}(h1:Tr T Φ ops o1 σ c1 cV)(h2:Tr T Φ ops o2 cV c2 jr)(ha:o1.apart ops o2=true)(hn:xE c1 c2=true):
  ∃WE,Tr T Φ ops o2 σ c2 WE∧Tr T Φ ops o1 WE c1 jr:=by
 obtain⟨n1,n2,n3,n4⟩:=NF hn;obtain⟨v1,us1,rfl,k1,f1,l1⟩:=NC h1 n1;obtain⟨v2,us2,rfl,k2,f2,l2⟩:=NC h2 n2;obtain⟨p1,p2,p3⟩:=Oper.apart_spec ha;have sa:∀k,k∈Uk c2∨k∈LB c2→jP σ ((σ.app us1).fG o1.dst v1) k:=fun k hk=>
  (Ic us1 σ k (fun u hu hm=>n3 k (k1 u hu k hm) k hk rfl) f1).trans (Ky k)
 have e2:=l2 σ (by rw[Ia,EX]) (by rw[Um,zy]) (fun t ht=>by
   rw[NG (fun e=>p1 t e ht),zy]) (fun k hk=>(sa k hk).symm)
 have f2':Fits σ us2:=Kx f2 (fun u hu k hk=>(sa k (.inr (k2 u hu k hk))).symm);refine⟨_,e2, ?_⟩;have e1:=l1 ((σ.app us2).fG o2.dst v2) (by rw[Ia,EX]) (by rw[Um,zy]) (fun t ht=>by
   rw[NG (fun e=>p3 t e ht),zy]) (fun k hk=>(Ic us2 σ k (fun u hu hm=>n4 k (k2 u hu k hm) k hk rfl) f2').trans (Ky k))
 rw[Ib,ND us2 us1 σ (fun u hu v hv k hk hk'=>n4 k (k2 u hu k hk) k (.inr (k1 v hv k hk')) rfl)] at e1;rw[Ib,Sv (fun x e=>p2 x e)];exact e1
end
open Go.RowKit Go.Lib
def ri (E:Env):Prop:=∀tr tr',kS tr tr'→E.acc tr'→E.acc tr
section
variable {P:Program}{T:cm}{E:Env}{σ cV jr yU:AS}{a:Act}{w w':World}{ν aK:Nm→Value}{O:Nat→Prop}{Φ:bE T}{ops:Array Oper}{Q:Exit→Act→World→Prop}{rr:Option Nat}
theorem getD_some {l:Array Value}{t:Nat}{v:Value}(h:l.toList.getD t undef=v)(hv:v≠undef):l[t]? =some v:=by
 simp only[List.getD_eq_getElem?_getD,Array.getElem?_toList] at h;cases hl:l[t]? with
 |none=>rw[hl] at h;exact absurd h.symm hv
 |some u=>rw[hl] at h;simpa using h
theorem PC (h:St E σ a w ν O){o:Oper}{run:Bool}(hw:Way ops o σ run):Region.wanted o (yielded ops a.tmps)=run:=by
 unfold Way at hw;unfold Region.wanted;cases hg:o.guard with
 |none=>simp only[hg] at hw ⊢;exact hw.symm
 |some p=>
  obtain⟨j,want⟩:=p;simp only[hg] at hw ⊢;obtain⟨t,ht,⟨b,hb,rfl⟩ | ⟨vs,hb,rfl⟩⟩:=hw
  ·have hr:=C6 (fun v=>by trivial) h.slots t;rw[hb] at hr;have h1:a.tmps.toList.getD t undef= .bool b:=J4 (V:=view E σ ν O w) hr;have h2:=getD_some h1 (by intro e;cases e);unfold yielded;rw[ht];simp[h2]
  ·have hr:=C6 (fun v=>by trivial) h.slots t;rw[hb] at hr;have h1:a.tmps.toList.getD t undef= .tuple vs:=hr;unfold yielded;rw[ht];simp only[Option.bind_some];cases hl:a.tmps[t]? with
   |none=>rfl
   |some u=>
    have:u= .tuple vs:=by simp only[List.getD_eq_getElem?_getD,Array.getElem?_toList,hl] at h1;simpa using h1
    subst this;rfl
theorem NH (C:Ctx P T Φ E)(h:St E σ a w ν O){i:Nat}{o:Oper}(ho:ops[i]? =some o){c:js}{af:AS}(ht:Tr T Φ ops o σ c af)(hacc:E.acc af.trace)
  {K:Act→World→Prop} (hK:∀a' w',To E af a' w'→K a' w'):wpOpIn (FW rr) 0 P ops Q i K a w:=by
 obtain⟨run,hw,ht⟩:=ht;unfold wpOpIn;rw[ho];simp only[PC h hw];cases run with
 |true=>simp only[if_true] at ht ⊢;obtain⟨r,h1,rfl⟩:=NA ht;exact Ue C h h1 hacc rr K Q hK
 |false=>obtain⟨rfl,rfl⟩:=ht;exact⟨fun _ _=>trivial,hK _ _ ⟨ν,O,h.slot (x:= .lit undef) rfl⟩⟩
def PD (T:cm)(Φ:bE T)(ops:Array Oper):List (Nat×Oper×js)→AS→AS→Prop
 | [],σ,yU=>yU=σ
 | (_,o,c)::r,σ,yU=>∃cV,Tr T Φ ops o σ c cV∧PD T Φ ops r cV yU
theorem Ie:∀{L:List (Nat×Oper×js)} {σ:AS},PD T Φ ops L σ yU→Fr σ yU
 | [],σ,h=>by have:yU=σ:=h;subst this;exact Fr.refl _
 | (_,o,c)::r,σ,⟨cV,h1,h2⟩=>(aai h1).trans (Ie h2)
def tA:Nat→List Oper→List js→List (Nat×Oper×js)
 |i,o::l,c::cs=>(i,o,c)::tA (i+1) l cs
 |_,_,_=>[]
theorem EY {R:Type}:∀(l:List Oper) (i:Nat) (σ:AS) (cs:List js) (k:List js→AS→Option R) (r:R),J0 T Φ ops l σ cs k=some r→
  ∃(t:List js) (yU:AS),t.length=l.length∧PD T Φ ops (tA i l t) σ yU∧k (t.reverse++cs) yU=some r
 | [],i,σ,cs,k,r,h=>⟨[],σ,rfl,rfl,h⟩
 |o::l,i,σ,cs,k,r,h=>by obtain⟨c,cV,h1,h2⟩:=WC h;obtain⟨t,yU,h3,h4,h5⟩:=EY l (i+1) cV (c::cs) k r h2;exact⟨c::t,yU,by simp[h3],⟨cV,h1,h4⟩,by simpa using h5⟩
theorem Dq:∀(l:List Oper) (i:Nat) (t:List js) (x:Nat×Oper×js),x∈tA i l t→i≤x.1∧l[x.1 - i]? =some x.2.1∧t[x.1 - i]? =some x.2.2
 | [],i,t,x,h=>by simp[tA] at h
 |o::l,i,[],x,h=>by simp[tA] at h
 |o::l,i,c::t,x,h=>by
  simp only[tA,List.mem_cons] at h;rcases h with rfl |h
  ·exact⟨Nat.le_refl _,by simp,by simp⟩
  ·obtain⟨h1,h2,h3⟩:=Dq l (i+1) t x h;have:x.1 - i=(x.1 - (i+1))+1:=by omega
   exact⟨by omega,by rw[this];simpa using h2,by rw[this];simpa using h3⟩
theorem NI:∀(l:List Oper) (i:Nat) (t:List js),t.length=l.length→∀p o,l[p]? =some o→∃c,(i+p,o,c)∈tA i l t
 | [],i,t,ht,p,o,h=>by simp at h
 |o'::l,i,[],ht,p,o,h=>by simp at ht
 |o'::l,i,c::t,ht,0,o,h=>by simp at h;subst h;exact⟨c,by simp[tA]⟩
 |o'::l,i,c::t,ht,p+1,o,h=>by
  obtain⟨c',h1⟩:=NI l (i+1) t (by simpa using ht) p o (by simpa using h);refine⟨c', ?_⟩;simp only[tA,List.mem_cons];right;have:i+(p+1)=i+1+p:=by omega
  rw[this];exact h1
theorem NJ:∀(l:List Oper) (i:Nat) (t:List js),(tA i l t).length≤l.length
 | [],i,t=>by simp[tA]
 |o::l,i,[]=>by simp[tA]
 |o::l,i,c::t=>by simp[tA,NJ l (i+1) t]
theorem FM:∀(l:List Oper) (i:Nat) (t:List js),(tA i l t).Pairwise fun x y=>x.1<y.1
 | [],i,t=>by simp[tA]
 |o::l,i,[]=>by simp[tA]
 |o::l,i,c::t=>by simp only[tA,List.pairwise_cons];exact⟨fun y hy=>by have:=(Dq l (i+1) t y hy).1;show i<y.1;omega,FM l (i+1) t⟩
theorem NK (C:Ctx P T Φ E)(hD:ri E)(hacc:E.acc yU.trace):∀(l pre:List Oper) (t:List js) (σ:AS) (a:Act) (w:World) (ν:Nm→Value) (O:Nat→Prop),ops.toList=pre++l→t.length=l.length→
  St E σ a w ν O→PD T Φ ops (tA pre.length l t) σ yU→(∀a' w',To E yU a' w'→Q .normal a' w')→wpOpsIn (FW rr) 0 P ops Q (List.range' pre.length l.length) a w
 | [],pre,t,σ,a,w,ν,O,hop,ht,h,hr,hQ=>by
   have:yU=σ:=by cases t<;>exact hr
   subst this;exact hQ _ _ ⟨ν,O,h⟩
 |o::l,pre,[],σ,a,w,ν,O,hop,ht,h,hr,hQ=>by simp at ht
 |o::l,pre,c::t,σ,a,w,ν,O,hop,ht,h,hr,hQ=>by
  obtain⟨cV,h1,h2⟩:=hr;rw[List.length_cons,List.range'_succ,wpOpsIn_cons];have ho:ops[pre.length]? =some o:=by rw[←Array.getElem?_toList,hop];simp
  refine NH C h ho h1 (hD _ _ (Ie h2).tr hacc) (fun a' w' ⟨aK,O',h'⟩=> ?_);have:=NK C hD hacc l (pre++[o]) t cV a' w' aK O' (by rw[hop];simp) (by simpa using ht) h' (by simpa using h2) hQ;simpa using this
theorem Kz:∀(L1 L2:List (Nat×Oper×js)) (x:Nat×Oper×js) (σ:AS),PD T Φ ops (L1++x::L2) σ yU→(∀y∈L1,y.2.1.apart ops x.2.1=true∧xE y.2.2 x.2.2=true)→
  ∃cV,Tr T Φ ops x.2.1 σ x.2.2 cV∧PD T Φ ops (L1++L2) cV yU
 | [],L2,x,σ,h,_=>h
 |y::L1,L2,x,σ,h,hy=>by obtain⟨cV,h1,h2⟩:=h;obtain⟨jr,h3,h4⟩:=Kz L1 L2 x cV h2 (fun z hz=>hy z (by simp[hz]));obtain⟨p1,p2⟩:=hy y (by simp);obtain⟨WE,h5,h6⟩:=WD h1 h3 p1 p2;exact⟨WE,h5,jr,h6,h4⟩
theorem WG (C:Ctx P T Φ E)(hD:ri E)(hacc:E.acc yU.trace){A:Nat→Nat}(hQ:∀a' w',To E yU a' w'→Q .normal a' w')
  (aak:∀j o,ops[j]? =some o→∀e∈o.after,Region.binds .any e=true→e.on<j)
  (acm:∀j o i,ops[j]? =some o→(A j).testBit i=true→∃e∈o.after,Region.binds .any e=true∧(i=e.on∨(A e.on).testBit i=true)):
  ∀(fuel:Nat) (L:List (Nat×Oper×js)) (listed:Array Bool) (σ:AS) (a:Act) (w:World) (ν:Nm→Value) (O:Nat→Prop),
   (∀x∈L,ops[x.1]? =some x.2.1)→(∀i,i<ops.size→(listed.getD i true=false↔∃x∈L,x.1=i))→listed.size=ops.size→
   (∀m om,listed.getD m false=true→ops[m]? =some om→∀e∈om.after,Region.binds .any e=true→listed.getD e.on false=true)→
   L.Pairwise (fun x y=>x.1<y.1)→L.Pairwise (fun x y=>(A y.1).testBit x.1=true∨(x.2.1.apart ops y.2.1=true∧xE x.2.2 y.2.2=true))→
   PD T Φ ops L σ yU→St E σ a w ν O→L.length≤fuel→wpAnyIn (FW rr) 0 P .any ops Q fuel listed a w:=by
 intro fuel;induction fuel with
 |zero=>intro L listed σ a w ν O hL Ig hsz Wn NL Us hrun h hf;have hL0:L=[]:=List.eq_nil_of_length_eq_zero (by omega);subst hL0;have hr:yU=σ:=hrun;subst hr;refine⟨?_,hQ _ _ ⟨ν,O,h⟩⟩;apply List.eq_nil_iff_forall_not_mem.2;intro i hi;obtain⟨h1,o,ho,_⟩:=mem_ready.1 hi;obtain⟨x,hx,_⟩:=(Ig i (Array.getElem?_eq_some_iff.1 ho).1).1 h1;cases hx
 |succ fuel ih=>
  intro L listed σ a w ν O hL Ig hsz Wn NL Us hrun h hf;have Ut:∀i,i<ops.size→listed.getD i true=listed.getD i false:=fun i hi=>by simp[Array.getD,hsz,hi]
  refine⟨fun acn=> ?_,fun i hi=> ?_⟩
  ·cases L with
   |nil=>have hr:yU=σ:=hrun;subst hr;exact hQ _ _ ⟨ν,O,h⟩
   |cons x L=>
    exfalso;have Zv:=hL x (by simp);have hlt:=(Array.getElem?_eq_some_iff.1 Zv).1;have:x.1∈Region.ready .any ops listed:=by
     refine mem_ready.2 ⟨(Ig x.1 hlt).2 ⟨x,by simp,rfl⟩,x.2.1,Zv,fun e he hb=> ?_⟩;have h1:=aak x.1 x.2.1 Zv e he hb;have h2:¬listed.getD e.on true=false:=fun hf'=>by
      obtain⟨y,hy,Yx⟩:=(Ig e.on (by omega)).1 hf';rcases List.mem_cons.1 hy with rfl |hy
      ·omega
      ·have:=(List.pairwise_cons.1 NL).1 y hy;omega
     rw[←Ut e.on (by omega)];cases hb':listed.getD e.on true
     ·exact absurd hb' h2
     ·rfl
    rw[acn] at this;cases this
  ·obtain⟨h1,o,ho,hall⟩:=mem_ready.1 hi;have hlt:=(Array.getElem?_eq_some_iff.1 ho).1;obtain⟨x,hx,rfl⟩:=(Ig i hlt).1 h1;obtain⟨L1,L2,rfl⟩:=List.append_of_mem hx;have Zv:=hL x hx;rw[ho] at Zv;have hoe:o=x.2.1:=by simpa using Zv
   -- what aco before x is done
   have aal:∀j,j≤x.1→∀oj,ops[j]? =some oj→(∀e∈oj.after,Region.binds .any e=true→listed.getD e.on false=true)→∀i,(A j).testBit i=true→listed.getD i false=true:=by
    intro j;induction j using Nat.strongRecOn with
    |_ j ihj=>
     intro hj oj hoj aam i hi';obtain⟨e,he,hb,h2⟩:=acm j oj i hoj hi';have hd:=aam e he hb;rcases h2 with rfl |h2
     ·exact hd
     ·have acq:=aak j oj hoj e he hb;have aan:e.on<ops.size:=by have:=(Array.getElem?_eq_some_iff.1 hoj).1;omega
      exact ihj e.on acq (by omega) ops[e.on] (Array.getElem?_eq_getElem aan) (Wn e.on _ hd (Array.getElem?_eq_getElem aan)) i h2
   have hfree:∀y∈L1,y.2.1.apart ops x.2.1=true∧xE y.2.2 x.2.2=true:=fun y hy=>by
    have h2:=(List.pairwise_append.1 Us).2.2 y hy x (by simp);rcases h2 with h2 |h2
    ·exfalso;have h3:=aal x.1 (Nat.le_refl _) o ho hall y.1 h2;have hylt:=(Array.getElem?_eq_some_iff.1 (hL y (by simp[hy]))).1;have h4:=(Ig y.1 hylt).2 ⟨y,by simp[hy],rfl⟩;rw[Ut y.1 hylt,h3] at h4;cases h4
    ·exact h2
   obtain⟨cV,ht,XE⟩:=Kz L1 L2 x σ hrun hfree;rw[←hoe] at ht;refine NH C h ho ht (hD _ _ (Ie XE).tr hacc) (fun a' w' ⟨aK,O',h'⟩=> ?_);have hne:∀y,y∈L1++L2→y.1≠x.1:=fun y hy=>by
    rcases List.mem_append.1 hy with hy |hy
    ·have:=(List.pairwise_append.1 NL).2.2 y hy x (by simp);omega
    ·have:=(List.pairwise_cons.1 (List.pairwise_append.1 NL).2.1).1 y hy;omega
   have hsub:(L1++L2).Sublist (L1++x::L2):=(List.Sublist.refl L1).append (List.sublist_cons_self x L2);refine ih (L1++L2) _ cV a' w' aK O' (fun y hy=>hL y (hsub.subset hy)) (fun i hi'=> ?_) (by simpa using hsz) (fun m om hm hom e he hb=> ?_) (NL.sublist hsub) (Us.sublist hsub) XE h' (by simp at hf ⊢;omega)
   ·by_cases hix:x.1=i
    ·subst hix;constructor
     ·intro hf';have h5:listed.getD x.1 false=false:=by rw[←Ut x.1 hlt];exact h1
      have h6:x.1<listed.size:=by omega
      simp[Array.getD,h6] at hf'
     ·rintro ⟨y,hy,Yx⟩;exact absurd Yx (hne y hy)
    ·rw[getD_set_ne true hix,Ig i hi'];constructor
     ·rintro ⟨y,hy,Yx⟩;refine⟨y, ?_,Yx⟩;rcases List.mem_append.1 hy with hy |hy
      ·exact List.mem_append.2 (.inl hy)
      ·rcases List.mem_cons.1 hy with rfl |hy
       ·exact absurd Yx hix
       ·exact List.mem_append.2 (.inr hy)
     ·rintro ⟨y,hy,Yx⟩;exact⟨y,hsub.subset hy,Yx⟩
   ·by_cases hmx:x.1=m
    ·subst hmx;rw[ho] at hom;obtain rfl:o=om:=by simpa using hom
     exact getD_set_true (hall e he hb)
    ·rw[getD_set_ne false hmx] at hm;exact getD_set_true (Wn m om hm hom e he hb)
theorem FN:∀(l:List Oper) (i:Nat),zj i l=true→∀p o,l[p]? =some o→∀e∈o.after,Region.binds .any e=true→e.on<i+p
 | [],i,h,p,o,hp,e,he,hb=>by simp at hp
 |o'::l,i,h,0,o,hp,e,he,hb=>by
  simp at hp;subst hp;simp only[zj,Bool.and_eq_true,List.all_eq_true] at h;have:=h.1 e (by simpa using he);rw[hb] at this;have:Nat.blt e.on i=true:=by simpa using this
  have:=Nat.le_of_ble_eq_true this;omega
 |o'::l,i,h,p+1,o,hp,e,he,hb=>by simp only[zj,Bool.and_eq_true] at h;have:=FN l (i+1) h.2 p o (by simpa using hp) e he hb;omega
theorem FO:∀(l:List Oper) (acc:List Nat),∃r,Be l acc=acc++r∧r.length=l.length
 | [],acc=>⟨[],by simp[Be]⟩
 |o::l,acc=>by obtain⟨r,h1,h2⟩:=FO l (acc++[BE acc o]);exact⟨BE acc o::r,by simp[Be,h1],by simp[h2]⟩
theorem Sw {acc:List Nat}{o:Oper}{i:Nat}(h:(BE acc o).testBit i=true):∃e∈o.after,Region.binds .any e=true∧(i=e.on∨((acc[e.on]?).getD 0).testBit i=true):=by
 unfold BE at h;have key:∀l:List Edge,(l.foldr (fun e s=>bif Region.binds .any e then (s|||2^e.on)||| (acc[e.on]?).getD 0 else s) 0).testBit i=true→
   ∃e∈l,Region.binds .any e=true∧(i=e.on∨((acc[e.on]?).getD 0).testBit i=true):=by
  intro l;induction l with
  |nil=>intro h;simp at h
  |cons e l ih=>
   intro h;simp only[List.foldr_cons] at h;cases hb:Region.binds .any e with
   |false=>rw[hb] at h;obtain⟨e',h1,h2⟩:=ih h;exact⟨e',by simp[h1],h2⟩
   |true=>
    rw[hb] at h;simp only[cond_true,Nat.testBit_or,Bool.or_eq_true] at h;rcases h with (h |h) |h
    ·obtain⟨e',h1,h2⟩:=ih h;exact⟨e',by simp[h1],h2⟩
    ·refine⟨e,by simp,hb, .inl ?_⟩;rw[Nat.testBit_two_pow] at h;simpa using (of_decide_eq_true h).symm
    ·exact⟨e,by simp,hb, .inr h⟩
 obtain⟨e,h1,h2⟩:=key _ h;exact⟨e,by simpa using h1,h2⟩
theorem NM:∀(l:List Oper) (acc:List Nat) (p:Nat) (o:Oper),l[p]? =some o→(Be l acc)[acc.length+p]? =some (BE ((Be l acc).take (acc.length+p)) o)
 | [],acc,p,o,h=>by simp at h
 |o'::l,acc,0,o,h=>by simp at h;subst h;obtain⟨r,h1,h2⟩:=FO l (acc++[BE acc o']);simp[Be,h1]
 |o'::l,acc,p+1,o,h=>by
  have:=NM l (acc++[BE acc o']) p o (by simpa using h);simp only[Be];have e:acc.length+(p+1)=(acc++[BE acc o']).length+p:=by simp;omega
  rw[e];exact this
theorem FP:∀(r:List (Oper×js)) (ms:List Nat) (i:Nat) (a:Oper×js),Hs ops i a r ms=true→∀(p:Nat) (b:Oper×js) (m:Nat),r[p]? =some b→ms[p]? =some m→Lh ops i a m b=true
 | [],ms,i,a,h,p,b,m,hb,hm=>by simp at hb
 |b'::r,m'::ms,i,a,h,0,b,m,hb,hm=>by simp at hb hm;subst hb hm;simp only[Hs,Bool.and_eq_true] at h;exact h.1
 |b'::r,m'::ms,i,a,h,p+1,b,m,hb,hm=>by simp only[Hs,Bool.and_eq_true] at h;exact FP r ms i a h.2 p b m (by simpa using hb) (by simpa using hm)
 |b'::r,[],i,a,h,p,b,m,hb,hm=>by simp at hm
theorem FQ:∀(l:List (Oper×js)) (ms:List Nat) (i:Nat),zi ops i l ms=true→∀(p q:Nat) (a b:Oper×js) (m:Nat),p<q→l[p]? =some a→l[q]? =some b→ms[q]? =some m→Lh ops (i+p) a m b=true
 | [],ms,i,h,p,q,a,b,m,hpq,ha,hb,hm=>by simp at ha
 |x::l,[],i,h,p,q,a,b,m,hpq,ha,hb,hm=>by simp at hm
 |x::l,m'::ms,i,h,0,q,a,b,m,hpq,ha,hb,hm=>by
  simp at ha;subst ha;simp only[zi,Bool.and_eq_true] at h;cases q with
  |zero=>omega
  |succ q=>exact FP l ms i x h.1 q b m (by simpa using hb) (by simpa using hm)
 |x::l,m'::ms,i,h,p+1,q,a,b,m,hpq,ha,hb,hm=>by
  simp only[zi,Bool.and_eq_true] at h;cases q with
  |zero=>omega
  |succ q=>
   have:=FQ l ms (i+1) h.2 p q a b m (by omega) (by simpa using ha) (by simpa using hb) (by simpa using hm);have e:i+(p+1)=i+1+p:=by omega
   rw[e];exact this
theorem Ih (R:(Nat×Oper×js)→(Nat×Oper×js)→Prop):∀(l:List Oper) (i:Nat) (t:List js),
  (∀p q o1 c1 o2 c2,p<q→l[p]? =some o1→t[p]? =some c1→l[q]? =some o2→t[q]? =some c2→R (i+p,o1,c1) (i+q,o2,c2))→(tA i l t).Pairwise R
 | [],i,t,h=>by simp[tA]
 |o::l,i,[],h=>by simp[tA]
 |o::l,i,c::t,h=>by
  simp only[tA,List.pairwise_cons];refine⟨fun y hy=> ?_,Ih R l (i+1) t (fun p q o1 c1 o2 c2 hpq h1 h2 h3 h4=> ?_)⟩
  ·obtain⟨h1,h2,h3⟩:=Dq l (i+1) t y hy;have:=h 0 (y.1 - i) o c y.2.1 y.2.2 (by omega) (by simp) (by simp) (by
    have e:y.1 - i=(y.1 - (i+1))+1:=by omega
    rw[e];simpa using h2) (by
    have e:y.1 - i=(y.1 - (i+1))+1:=by omega
    rw[e];simpa using h3)
   have e:i+(y.1 - i)=y.1:=by omega
   rw[e] at this;exact this
  ·have:=h (p+1) (q+1) o1 c1 o2 c2 (by omega) (by simpa using h1) (by simpa using h2) (by simpa using h3) (by simpa using h4);have e1:i+(p+1)=i+1+p:=by omega
   have e2:i+(q+1)=i+1+q:=by omega
   rw[e1,e2] at this;exact this
theorem NN (hE:aB E)(h:St E σ a w ν O)(d:Nat):St E (σ.MP d) a w ν O:=by
 unfold AS.MP;split
 ·exact h
 ·exact h.bd hE d
theorem NO (hE:aB E)(h:St E σ a w ν O)(d:Nat):St E (σ.MQ d) a w ν O:=by
 unfold AS.MQ;split
 ·exact h
 ·exact h.dr hE d
theorem Dr (hE:aB E):∀(ds:List Nat) (σ:AS),St E σ a w ν O→St E (σ.Ew ds) a w ν O
 | [],σ,h=>h
 |d::ds,σ,h=>by
  simp only[AS.Ew];split
  ·exact h
  ·exact Dr hE ds _ (NN hE h d)
theorem Ds (hE:aB E):∀(ds:List Nat) (σ:AS),St E σ a w ν O→St E (σ.Ey ds) a w ν O
 | [],σ,h=>h
 |d::ds,σ,h=>by
  simp only[AS.Ey];split
  ·exact h
  ·exact Ds hE ds _ (NO hE h d)
theorem PE (hE:aB E)(l:List Oper)(σ:AS)(h:St E σ a w ν O):St E (AS.We σ l) a w ν O:=Ds hE _ _ (Dr hE _ _ h)
theorem Uu (d:Nat):Fr σ (σ.MP d):=by
 unfold AS.MP;split
 ·exact Fr.refl _
 ·exact Px d
theorem Uv (d:Nat):Fr σ (σ.MQ d):=by
 unfold AS.MQ;split
 ·exact Fr.refl _
 ·exact H5 d
theorem KA:∀(ds:List Nat) (σ:AS),Fr σ (σ.Ew ds)
 | [],σ=>Fr.refl _
 |d::ds,σ=>by
  simp only[AS.Ew];split
  ·exact Fr.refl _
  ·exact(Uu d).trans (KA ds _)
theorem KB:∀(ds:List Nat) (σ:AS),Fr σ (σ.Ey ds)
 | [],σ=>Fr.refl _
 |d::ds,σ=>by
  simp only[AS.Ey];split
  ·exact Fr.refl _
  ·exact(Uv d).trans (KB ds _)
theorem Ii:∀(ds:List Nat) (σ:AS),Fr σ (σ.gS ds)
 | [],σ=>Fr.refl _
 |d::ds,σ=>(H5 d).trans (Ii ds _)
theorem Q1 (l:List Oper)(σ:AS):Fr σ (AS.We σ l):=(KA _ _).trans (KB _ _)
theorem PF {R:Type}{draw:Bool}{k:AS→Option R}{r:R}(he:oZ T Φ ops draw σ k=some r):∃af,k af=some r∧Fr σ af:=by
 unfold oZ at he;obtain⟨t,yU,h1,h2,h3⟩:=EY (ops:=ops) ops.toList 0 _ [] _ r he;have hf:=(Q1 ops.toList σ).trans (Ie h2);cases draw with
 |false=>exact⟨yU,by simpa using h3,hf⟩
 |true=>
  simp only[cond_true,List.append_nil,List.reverse_reverse] at h3;cases hok:(zj 0 ops.toList&&zi ops 0 (ops.toList.zip t) (Be ops.toList [])) with
  |false=>simp[hok] at h3
  |true=>exact⟨yU,by simpa [hok] using h3,hf⟩
theorem LF {R:Type}(C:Ctx P T Φ E)(hD:ri E)(hm:P.follows .mixedOrders=true)(h:St E σ a w ν O){id:Nat}{draw:Bool}{k:AS→Option R}{r:R}
  (he:oZ T Φ ops draw σ k=some r) (hk:∀af,k af=some r→Fr σ af→E.acc af.trace) (hQ:∀af a' w',k af=some r→Fr σ af→To E af a' w'→Q .normal a' w'):(Code.region id ops draw).wpIn (FW rr) 0 P Q a w:=by
 unfold oZ at he;obtain⟨t,yU,h1,h2,h3⟩:=EY (ops:=ops) ops.toList 0 _ [] _ r he;have hp:=PE C.env ops.toList σ h;have hf:=(Q1 ops.toList σ).trans (Ie h2);cases draw with
 |false=>simp only[cond_false] at h3;have:=NK (rr:=rr) C hD (hk yU (by simpa using h3) hf) ops.toList [] t _ a w ν O rfl h1 hp h2 (fun a' w'=>hQ yU a' w' (by simpa using h3) hf);refine wpIn_region ?_;rw[List.range_eq_range'];simpa using this
 |true=>
  simp only[cond_true,List.append_nil,List.reverse_reverse] at h3;cases hok:(zj 0 ops.toList&&zi ops 0 (ops.toList.zip t) (Be ops.toList [])) with
  |false=>simp[hok] at h3
  |true=>
   simp only[hok,cond_true] at h3;rw[Bool.and_eq_true] at hok;obtain⟨hd,hok⟩:=hok;have hw:St E (AS.We σ ops.toList) a {w with drawn:=w.drawn+1} ν O:=hp.grow C.env ⟨rfl,rfl,rfl,Nat.le_refl _,fun _ _=>rfl⟩;refine wpIn_region_any hm ?_;have ae:∀j o,ops[j]? =some o→(Be ops.toList [])[j]? =some (BE ((Be ops.toList []).take j) o):=fun j o ho=>by have:=NM ops.toList [] j o (by rw[Array.getElem?_toList];exact ho);simpa using this
   refine WG C hD (hk yU h3 hf) (A:=fun j=>((Be ops.toList [])[j]?).getD 0) (fun a' w'=>hQ yU a' w' h3 hf) (fun j o ho e he' hb=>by
     have:=FN ops.toList 0 hd j o (by rw[Array.getElem?_toList];exact ho) e he' hb;omega) (fun j o i ho hi=> ?_) ops.size (tA 0 ops.toList t) _ _ a _ ν O (fun x hx=> ?_) (fun i hi=> ?_) (by simp) (fun m om hmm=> ?_) (FM _ _ _) (Ih _ _ _ _ fun p q o1 c1 o2 c2 hpq e1 e2 e3 e4=> ?_) h2 hw ?_
   ·simp only[ae j o ho,Option.getD_some] at hi;obtain⟨e,h4,h5,h6⟩:=Sw hi;refine⟨e,h4,h5,h6.imp (fun h7=>h7) fun h7=> ?_⟩;cases hh:((Be ops.toList []).take j)[e.on]? with
    |none=>rw[hh] at h7;simp at h7
    |some v=>
     rw[hh] at h7;rw[List.getElem?_take] at hh;split at hh
     ·simp only[hh];exact h7
     ·cases hh
   ·obtain⟨_,h4,_⟩:=Dq _ _ _ x hx;rw[←Array.getElem?_toList];simpa using h4
   ·constructor
    ·intro _;obtain⟨c,hc⟩:=NI ops.toList 0 t h1 i ops[i] (by simp[hi]);exact⟨_,hc,by simp⟩
    ·intro _;simp[hi]
   ·exfalso;by_cases hlt:m<ops.size
    ·simp[hlt] at hmm
    ·simp[hlt] at hmm
   ·have hz1:(ops.toList.zip t)[p]? =some (o1,c1):=by rw[List.getElem?_zip_eq_some];exact⟨e1,e2⟩
    have hz2:(ops.toList.zip t)[q]? =some (o2,c2):=by rw[List.getElem?_zip_eq_some];exact⟨e3,e4⟩
    have hg:=ae q o2 (by rw[←Array.getElem?_toList];exact e3);have:=FQ (ops.toList.zip t) _ 0 hok p q _ _ _ hpq hz1 hz2 hg;simp only[Lh,Bool.or_eq_true,Bool.and_eq_true,Nat.zero_add] at this ⊢;rw[hg];exact this
   ·have:=NJ ops.toList 0 t;simpa using this
end
open Go.RowKit Go.Lib
section
variable {P:Program}{T:cm}{E:Env}{σ cV jr yU:AS}{a:Act}{w w':World}{ν aK:Nm→Value}{O:Nat→Prop}{Φ:bE T}
theorem Ij:∀(h:List (Nat×Bool)) (σ:AS),Fr σ (σ.share h)
 | [],σ=>Fr.refl _
 | (j,true)::h,σ=>(Uh _).trans (Ij h _)
 | (j,false)::h,σ=>Ij h σ
theorem jQ (h:List (Nat×Bool))(σ:AS):Fr σ (σ.forget h):=by refine(Ij h σ).trans ?_;unfold AS.forget;exact⟨rfl,rfl,rfl,kS.refl _,rfl⟩
structure VW (Eo σ:AS):Prop where
 cd:∃x,σ.cd=[x]
 sites:σ.sites=Eo.sites
 s:σ.tmps.n=Eo.tmps.n
 tr:kS Eo.trace σ.trace
 ks:∃ls:List Nat,σ.tmps.s.map (·.1)=ls++Eo.tmps.s.map (·.1)∧∀i∈ls,iu 1 i=true
theorem VW.fr {Eo σ af:AS}(h:VW Eo σ)(g:Fr σ af):VW Eo af:=⟨by rw[g.cd];exact h.cd,g.sites.trans h.sites,g.s.trans h.s,h.tr.trans g.tr,by rw[g.ks];exact h.ks⟩
theorem NP {l:List (Nat×AV)}{ls ms:List Nat}(h:l.map (·.1)=ls++ms)(h1:∀i∈ls,iu 1 i=true)(h2:∀i∈ms,iu 1 i=false):(l.filter fun p=> !(iu 1 p.1)).map (·.1)=ms:=by
 have:(l.filter fun p=> !(iu 1 p.1)).map (·.1)=(l.map (·.1)).filter fun i=> !(iu 1 i):=by rw[List.filter_map];rfl
 rw[this,h,List.filter_append,List.filter_eq_nil_iff.2 (fun i hi=>by rw[h1 i hi];simp),List.filter_eq_self.2 (fun i hi=>by rw[h2 i hi];rfl)];rfl
theorem KC {Eo:AS}(h:VW Eo σ)(h0:∀i∈Eo.tmps.s.map (·.1),iu 1 i=false):(σ.tj).tmps.s.map (·.1)=Eo.tmps.s.map (·.1):=by obtain⟨x,hx⟩:=h.cd;obtain⟨ls,h1,h2⟩:=h.ks;unfold AS.tj;rw[hx];exact NP h1 h2 h0
theorem AY {R:Type}{r:R}{h:List (Nat×Bool)}{body:AS→(Ex→AS→Option R)→Option R}{k:Ex→AS→Option R}{I:AS→Prop}(hf:∀σ,I σ→I (σ.forget h))
  (hb:∀σ k',I σ→body σ k'=some r→∃e af,k' e af=some r∧I af):∀(n:Nat) (σ:AS),I σ→iL h body k n σ=some r→∃e af,k e af=some r∧I af
 |0,σ,hi,he=>by cases he
 |n+1,σ,hi,he=>by
  simp only[iL] at he;obtain⟨e,af,h1,h2⟩:=hb σ _ hi he;cases e with
  |normal=>exact AY hf hb n _ (hf _ h2) h1
  |exit i=>exact⟨_,_,h1,h2⟩
  |ret=>exact⟨_,_,h1,h2⟩
theorem Yy (s:dW)(i:Nat)(x:AV):(uG s i x).n=s.n:=by unfold uG;cases Nat.blt i s.n<;>rfl
theorem Yz (s:dW)(i:Nat)(x:AV):(uG s i x).s=s.s:=by unfold uG;cases Nat.blt i s.n<;>rfl
theorem AZ:∀{ps:List Tmp} {ts:List Ty} {s s':dW} {x:(gR ts).den},yB s ps ts x=some s'→s'.n=s.n∧s'.s=s.s
 | [],[],s,s',x,h=>by simp only[yB,Option.some.injEq] at h;subst h;exact⟨rfl,rfl⟩
 |p::ps,t::ts,s,s',x,h=>by simp only[yB] at h;obtain⟨h1,h2⟩:=AZ h;exact⟨h1.trans (Yy _ _ _),h2.trans (Yz _ _ _)⟩
 | [],_::_,_,_,_,h=>by simp[yB] at h
 |_::_,[],_,_,_,h=>by simp[yB] at h
theorem LG {f:AV}{R:Type}{k:VP→List Nat→Option R}{r:R}(h:o5 T Φ σ f k=some r):∃g bs,k g bs=some r:=by
 unfold o5 at h
 repeat' split at h
 all_goals first | (cases h;done) |skip
 simp only[Option.bind_eq_some_iff] at h;obtain⟨yh,_,h⟩:=h;cases hb:(pT (bf _)&&(T.sig _).ab.isEmpty&&Nat.beq (T.real _) _) with
 |false=>rw[hb] at h;cases h
 |true=>
  rw[hb,cond_true] at h;split at h
  ·exact⟨_,_,h⟩
  ·cases h
theorem Ik {R:Type}{n:Nat}{r:R}:∀(c:Code) (hs:List (List (Nat×Bool))) (σ:AS) (k:Ex→AS→Option R),aJ T Φ n c hs σ k=some r→∃e af,k e af=some r∧Fr σ af:=by
 intro c;induction c with
 |skip=>intro hs σ k he;exact⟨_,σ,he,Fr.refl _⟩
 |region id ops draw=>intro hs σ k he;obtain⟨af,h1,h2⟩:=PF he;exact⟨_,af,h1,h2⟩
 |seq x y Bb yR=>
  intro hs σ k he;simp only[aJ] at he;obtain⟨e,af,h1,h2⟩:=Bb _ _ _ he;cases e with
  |normal=>obtain⟨e,PG,h3,h4⟩:=yR _ _ _ h1;exact⟨e,PG,h3,h2.trans h4⟩
  |exit i=>exact⟨_,_,h1,h2⟩
  |ret=>exact⟨_,_,h1,h2⟩
 |cond x y z yR Yf=>
  intro hs σ k he;simp only[aJ] at he;have gF:∀t b,Fr σ (σ.Ci t b):=fun t b=>⟨rfl,rfl,rfl,kS.refl _,rfl⟩
  split at he
  ·split at he
   ·rename_i t _ b hb;have main:∀b:Bool,(bif b then aJ T Φ n y hs (σ.Ci t true) k else aJ T Φ n z (hs.drop (loops y)) (σ.Ci t false) k)=some r→∃e af,k e af=some r∧Fr σ af:=fun b he=>by
     cases b
     ·obtain⟨e,af,h1,h2⟩:=Yf _ _ _ he;exact⟨e,af,h1,(gF _ _).trans h2⟩
     ·obtain⟨e,af,h1,h2⟩:=yR _ _ _ he;exact⟨e,af,h1,(gF _ _).trans h2⟩
    exact main b he
   ·cases he
  ·rename_i b;cases b
   ·exact Yf _ _ _ he
   ·exact yR _ _ _ he
  ·cases he
 |block id c ih=>
  intro hs σ k he;simp only[aJ] at he;obtain⟨e,af,h1,h2⟩:=ih _ _ _ he;cases e with
  |normal=>exact⟨_,_,h1,h2⟩
  |exit i=>
   cases hb:Nat.beq i id with
   |true=>simp only[hb,cond_true] at h1;exact⟨_,_,h1,h2⟩
   |false=>simp only[hb,cond_false] at h1;exact⟨_,_,h1,h2⟩
  |ret=>exact⟨_,_,h1,h2⟩
 |loop c ih=>
  intro hs σ k he;simp only[aJ] at he;split at he
  ·rename_i hd hs';exact AY (I:=Fr σ) (fun af h=>h.trans (jQ hd af)) (fun af k' hi hb=>by
    obtain⟨e,PG,h1,h2⟩:=ih _ _ _ hb;exact⟨e,PG,h1,hi.trans h2⟩) n _ (jQ hd σ) he
  ·cases he
 |rangeFunc f ps x y Bb yR=>
  intro hs σ k he;simp only[aJ] at he;split at he
  ·rename_i hd hs' u hrn oS;obtain⟨g,bs,h1⟩:=LG he;cases hok:qs ((σ.gS bs).forget hd) with
   |false=>rw[hok] at h1;cases h1
   |true=>
    rw[hok,cond_true] at h1;have f1:Fr σ ((σ.gS bs).forget hd):=(Ii bs σ).trans (jQ hd _);have NQ:=hok;simp only[qs,Bool.and_eq_true,List.all_eq_true] at NQ;have h0:VW σ ({((σ.gS bs).forget hd) with cd:=[g]}:AS).save:=⟨⟨g,rfl⟩,f1.sites,f1.s,f1.tr,by
     refine⟨((σ.gS bs).forget hd).tmps.l.map fun p=>p.1+10000, ?_,fun i hi=> ?_⟩
     ·show (List.map _ _++_).map _=_;rw[List.map_append,List.map_map, ←f1.ks];rfl
     ·obtain⟨p,hp,rfl⟩:=List.mem_map.1 hi;have:=NQ.1 p hp;rw[nU] at this;simp only[iu,Bool.and_eq_true,Nat.ble_eq,nU];omega⟩
    obtain⟨e,af,h2,h3⟩:=AY (r:=r) (h:=hd) (k:=eJ k) (body:=fQ ps.toList (fun σ k'=>aJ T Φ n x hs' σ k') (fun σ k'=>aJ T Φ n y (hs'.drop (loops x)) σ k')) (I:=VW σ) (fun af h=>h.fr (jQ hd af)) (fun af k' hi hb=>by
     unfold fQ at hb;obtain⟨x0,hx0⟩:=hi.cd;rw[hx0] at hb;obtain⟨ts,xs⟩:=x0;cases xs with
     |nil=>exact⟨_,_,hb,hi⟩
     |cons x1 xs=>
      dsimp only at hb;split at hb
      ·rename_i s hs;obtain⟨e,cV,h4,h5⟩:=Bb _ _ _ hb;cases e with
       |normal=>
        dsimp only at h4;obtain⟨e,jr,h6,h7⟩:=yR _ _ _ h4;cases e with
        |normal=>
         refine⟨_,_,h6, ?_⟩;have f2:=h5.trans h7;exact⟨⟨_,f2.cd⟩,f2.sites.trans hi.sites,(show jr.tmps.n=_ from (f2.s.trans (AZ hs).1).trans hi.s),hi.tr.trans f2.tr,by
          show ∃ls:List Nat,jr.tmps.s.map (·.1)=_∧_;rw[f2.ks];show ∃ls:List Nat,s.s.map (·.1)=_∧_;rw[(AZ hs).2];exact hi.ks⟩
        |_=>cases h6
       |_=>cases h4
      ·cases hb) n _ h0 h1
    unfold eJ at h2;split at h2
    ·refine⟨_,_,h2, ?_,h3.sites,h3.s,h3.tr,KC h3 (fun i hi=>by
      rw[←f1.ks] at hi;obtain⟨p,hp,rfl⟩:=List.mem_map.1 hi;have:=NQ.2 p hp;rw[Nat.ble_eq] at this;simp only[iu,Bool.and_eq_false_iff];exact .inr (by cases hb:Nat.blt p.1 (10000*(1+1)) with
       |false=>rfl
       |true=>rw[nU] at hb;omega))⟩
     obtain⟨x,hx⟩:=h3.cd;show af.cd.tail=_;rw[hx,hrn];rfl
    ·cases h2
  ·cases he
 |exit i=>intro hs σ k he;exact⟨_,σ,he,Fr.refl _⟩
 |scope c ih=>intro hs σ k he;exact ih _ _ _ he
 |label l=>intro hs σ k he;exact⟨_,σ,he,Fr.refl _⟩
 |ret=>intro hs σ k he;exact⟨_,σ,he,Fr.refl _⟩
 |_=>intros;rename_i he;cases he
end
end Go.Abs
