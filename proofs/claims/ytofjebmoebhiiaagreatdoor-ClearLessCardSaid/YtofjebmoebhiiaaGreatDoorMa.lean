/- YtofjebmoebhiiaaGreatDoorMa: a part of the proof (AbsV, AbsE, AbsS ..). No condition. -/
import Derived.Laws.AppendOwn
import Derived.Laws.MakeOwn
import Derived.Below
import Derived.Orders
import Derived.Laws.StructEq
import Derived.Lib.ConvBytes
import Derived.Laws.BytesString
import Derived.RangeFuncLeaves
set_option linter.unusedVariables false
set_option linter.unusedSimpArgs false
set_option maxRecDepth 100000
set_option exponentiation.threshold 2000
namespace Go.Abs
inductive Ty where
 |int (k:IntKind) |bool |str |slice (t:Ty) |unit |pair (a b:Ty) |st (t:Ty) |ref (h:Nat) |ptr (h:Nat) |px (t:Ty) |mp (h:Nat) |fn
 deriving DecidableEq
@[reducible] def Ty.den:Ty→Type
  | .int _=>Int
  | .bool=>Bool
  | .str=>ByteArray
  | .slice t=>List t.den
  | .unit=>Unit
  | .pair a b=>a.den×b.den
  | .st t=>t.den
  | .ref _=>Nat
  | .ptr _=>Nat
  | .px t=>Option (List t.den)
  | .mp _=>Nat
  | .fn=>Nat
def Ty.size:Ty→Nat
 | .unit=>0
 | .pair a b=>a.size+b.size
 | .st t=>t.size
 |_=>1
def Ty.leaf:Ty→Bool
 | .unit | .pair .. | .st _=>false
 |_=>true
def Ty.zero:(t:Ty)→t.den
 | .int _=>(0:Int)
 | .bool=>false
 | .str=>ByteArray.empty
 | .slice t=>([]:List t.den)
 | .unit=>()
 | .pair a b=>(a.zero,b.zero)
 | .st t=>t.zero
 | .ref _=>(0:Nat)
 | .ptr _=>(0:Nat)
 | .px t=>(none:Option (List t.den))
 | .mp _=>(0:Nat)
 | .fn=>(0:Nat)
def aC {α β:Type}(R:α→β→Prop):List α→List β→Prop
 | [],[]=>True
 |x::xs,y::ys=>R x y∧aC R xs ys
 |_,_=>False
section
variable {α β γ:Type}{R S:α→β→Prop}
theorem aC.length:∀{xs:List α} {ys:List β},aC R xs ys→xs.length=ys.length
 | [],[],_=>rfl
 |_::_,_::_,h=>by simp[aC.length h.2]
 | [],_::_,h=>h.elim
 |_::_,[],h=>h.elim
theorem aC.mono (hRS:∀x y,R x y→S x y):∀{xs:List α} {ys:List β},aC R xs ys→aC S xs ys
 | [],[],_=>trivial
 |_::_,_::_,h=>⟨hRS _ _ h.1,aC.mono hRS h.2⟩
 | [],_::_,h=>h.elim
 |_::_,[],h=>h.elim
theorem aC.get:∀{xs:List α} {ys:List β},aC R xs ys→∀(i:Nat) x,xs[i]? =some x→∃y,ys[i]? =some y∧R x y
 | [],[],_,i,x,h=>by simp at h
 |a::as,b::bs,h,0,x,hx=>⟨b,by simp,by simp at hx;subst hx;exact h.1⟩
 |a::as,b::bs,h,i+1,x,hx=>by obtain⟨y,hy,hr⟩:=aC.get h.2 i x (by simpa using hx);exact⟨y,by simpa using hy,hr⟩
 | [],_::_,h,_,_,_=>h.elim
 |_::_,[],h,_,_,_=>h.elim
theorem aC.get':∀{xs:List α} {ys:List β},aC R xs ys→∀(i:Nat) y,ys[i]? =some y→∃x,xs[i]? =some x∧R x y
 | [],[],_,i,x,h=>by simp at h
 |a::as,b::bs,h,0,y,hy=>⟨a,by simp,by simp at hy;subst hy;exact h.1⟩
 |a::as,b::bs,h,i+1,y,hy=>by obtain⟨x,hx,hr⟩:=aC.get' h.2 i y (by simpa using hy);exact⟨x,by simpa using hx,hr⟩
 | [],_::_,h,_,_,_=>h.elim
 |_::_,[],h,_,_,_=>h.elim
theorem aC.append:∀{xs:List α} {ys:List β} {xs':List α} {ys':List β},aC R xs ys→aC R xs' ys'→aC R (xs++xs') (ys++ys')
 | [],[],_,_,_,h=>h
 |_::_,_::_,_,_,h,h'=>⟨h.1,aC.append h.2 h'⟩
 | [],_::_,_,_,h,_=>h.elim
 |_::_,[],_,_,h,_=>h.elim
theorem aC.split:∀{xs xs':List α} {zs:List β},aC R (xs++xs') zs→∃ys ys',zs=ys++ys'∧aC R xs ys∧aC R xs' ys'
 | [],xs',zs,h=>⟨[],zs,rfl,trivial,h⟩
 |x::xs,xs',z::zs,h=>by obtain⟨ys,ys',rfl,h1,h2⟩:=aC.split (xs:=xs) h.2;exact⟨z::ys,ys',rfl,⟨h.1,h1⟩,h2⟩
 |x::xs,xs',[],h=>h.elim
theorem aC.set:∀{xs:List α} {ys:List β} {i:Nat} {x:α} {y:β},aC R xs ys→R x y→aC R (xs.set i x) (ys.set i y)
 | [],[],i,x,y,_,_=>trivial
 |_::_,_::_,0,x,y,h,hr=>⟨hr,h.2⟩
 |_::_,_::_,i+1,x,y,h,hr=>⟨h.1,aC.set h.2 hr⟩
 | [],_::_,_,_,_,h,_=>h.elim
 |_::_,[],_,_,_,h,_=>h.elim
theorem aC.drop:∀{xs:List α} {ys:List β} (i:Nat),aC R xs ys→aC R (xs.drop i) (ys.drop i)
 |xs,ys,0,h=>h
 | [],[],i+1,h=>trivial
 |_::_,_::_,i+1,h=>aC.drop i h.2
 | [],_::_,_,h=>h.elim
 |_::_,[],_,h=>h.elim
theorem aC.take:∀{xs:List α} {ys:List β} (i:Nat),aC R xs ys→aC R (xs.take i) (ys.take i)
 | [],[],0,h=>trivial
 |_::_,_::_,0,h=>trivial
 | [],[],i+1,h=>trivial
 |_::_,_::_,i+1,h=>⟨h.1,aC.take i h.2⟩
 | [],_::_,_,h=>h.elim
 |_::_,[],_,h=>h.elim
theorem aC.replicate {x:α}{y:β}(h:R x y):∀n,aC R (List.replicate n x) (List.replicate n y)
 |0=>trivial
 |n+1=>⟨h,aC.replicate h n⟩
end
inductive Key where
 |cell (a:Addr) |ref (h n:Nat)
instance:Coe Addr Key:=⟨Key.cell⟩
abbrev View:=Key→Value→Prop
def agy (v:Value):Prop:=∃a n c,v= .slice (some a) n c
def alV (v:Value):Prop:=∃a,v= .pointer (some a)
def anZ (v:Value):Prop:=∃a,v= .map (some a)
def fnV:Nat→Value
 |0=> .nilFunc
 |f+1=> .func (.func f) #[] #[]
def Rel (V:View):(t:Ty)→t.den→List Value→Prop
 | .int k,x,cs=>cs=[.int k x]
 | .bool,x,cs=>cs=[.bool x]
 | .str,x,cs=>cs=[.string x]
 | .slice t,xs,cs=>∃(A:Option Addr) (c:Nat) (br:List (List Value)),cs=[.slice A (List.length xs) c]∧List.length xs≤c∧aC (Rel V t) xs br∧
   (A=none→c=0)∧∀j u,br.flatten[j]? =some u→∃ad,A=some ad∧V (ad.add j) u
 | .unit,_,cs=>cs=[]
 | .pair a b,x,cs=>∃c1 c2,cs=c1++c2∧Rel V a x.1 c1∧Rel V b x.2 c2
 | .st t,x,cs=>Rel V t x cs
 | .ref h,n,cs=>match (n:Nat) with
   |0=>cs=[.slice none 0 0]
   |m+1=>∃v,cs=[v]∧agy v∧V (.ref h (m+1)) v
 | .ptr h,n,cs=>match (n:Nat) with
   |0=>cs=[.pointer none]
   |m+1=>∃v,cs=[v]∧alV v∧V (.ref h (m+1)) v
 | .px t,xs,cs=>match xs with
   |none=>cs=[.slice none 0 0]
   |some xs=>∃(ad:Addr) (c:Nat) (br:List (List Value)),cs=[.slice (some ad) (List.length xs) c]∧List.length xs≤c∧aC (Rel V t) xs br∧
    ∀j u,br.flatten[j]? =some u→V (ad.add j) u
 | .mp h,n,cs=>match (n:Nat) with
   |0=>cs=[.map none]
   |m+1=>∃v,cs=[v]∧anZ v∧V (.ref h (m+1)) v
 | .fn,f,cs=>cs=[fnV f]
theorem Rel.mono {V V':View}(h:∀a v,V a v→V' a v):∀(t:Ty) (x:t.den) (cs:List Value),Rel V t x cs→Rel V' t x cs
 | .int k,x,cs,hr=>hr
 | .bool,x,cs,hr=>hr
 | .str,x,cs,hr=>hr
 | .slice t,xs,cs,⟨A,c,br,h1,h2,h3,h5,h4⟩=>⟨A,c,br,h1,h2,h3.mono (Rel.mono h t),h5,fun j u hj=>let ⟨ad,e,hv⟩:=h4 j u hj;⟨ad,e,h _ _ hv⟩⟩
 | .unit,_,cs,hr=>hr
 | .pair a b,x,cs,⟨c1,c2,e,h1,h2⟩=>⟨c1,c2,e,Rel.mono h a _ _ h1,Rel.mono h b _ _ h2⟩
 | .st t,x,cs,hr=>Rel.mono h t x cs hr
 | .ref _,0,_,hr=>hr
 | .ref _,_+1,_,⟨v,e,hs,hv⟩=>⟨v,e,hs,h _ _ hv⟩
 | .ptr _,0,_,hr=>hr
 | .ptr _,_+1,_,⟨v,e,hs,hv⟩=>⟨v,e,hs,h _ _ hv⟩
 | .mp _,0,_,hr=>hr
 | .mp _,_+1,_,⟨v,e,hs,hv⟩=>⟨v,e,hs,h _ _ hv⟩
 | .fn,_,_,hr=>hr
 | .px t,none,cs,hr=>hr
 | .px t,some xs,cs,⟨ad,c,br,h1,h2,h3,h4⟩=>⟨ad,c,br,h1,h2,h3.mono (Rel.mono h t),fun j u hj=>h _ _ (h4 j u hj)⟩
theorem Rel.length {V:View}:∀{t:Ty} {x:t.den} {cs:List Value},Rel V t x cs→cs.length=t.size
 | .int k,x,cs,hr=>by have:cs=_:=hr;subst this;rfl
 | .bool,x,cs,hr=>by have:cs=_:=hr;subst this;rfl
 | .str,x,cs,hr=>by have:cs=_:=hr;subst this;rfl
 | .slice t,xs,cs,⟨A,c,br,h1,_⟩=>by subst h1;rfl
 | .unit,_,cs,hr=>by have:cs=_:=hr;subst this;rfl
 | .pair a b,x,cs,⟨c1,c2,e,h1,h2⟩=>by subst e;simp[Ty.size,Rel.length h1,Rel.length h2]
 | .st t,x,cs,hr=>Rel.length (t:=t) hr
 | .ref _,0,cs,hr=>by have:cs=_:=hr;subst this;rfl
 | .ref _,_+1,_,⟨v,e,_⟩=>by subst e;rfl
 | .ptr _,0,cs,hr=>by have:cs=_:=hr;subst this;rfl
 | .ptr _,_+1,_,⟨v,e,_⟩=>by subst e;rfl
 | .mp _,0,cs,hr=>by have:cs=_:=hr;subst this;rfl
 | .mp _,_+1,_,⟨v,e,_⟩=>by subst e;rfl
 | .fn,_,cs,hr=>by have:cs=_:=hr;subst this;rfl
 | .px t,none,cs,hr=>by have:cs=_:=hr;subst this;rfl
 | .px t,some xs,cs,⟨ad,c,br,h1,_⟩=>by subst h1;rfl
abbrev CV:=(t:Ty)×t.den
def bJ (V:View)(c:CV)(v:Value):Prop:=Rel V c.1 c.2 [v]
theorem bJ.mono {V V':View}(h:∀a v,V a v→V' a v)(c:CV)(v:Value)(hr:bJ V c v):bJ V' c v:=Rel.mono h _ _ _ hr
def flat:(t:Ty)→t.den→List CV
 | .unit,_=>[]
 | .pair a b,x=>flat a x.1++flat b x.2
 | .st t,x=>flat t x
 | .int k,x=>[⟨.int k,x⟩]
 | .bool,x=>[⟨.bool,x⟩]
 | .str,x=>[⟨.str,x⟩]
 | .slice t,x=>[⟨.slice t,x⟩]
 | .ref h,x=>[⟨.ref h,x⟩]
 | .ptr h,x=>[⟨.ptr h,x⟩]
 | .px t,x=>[⟨.px t,x⟩]
 | .mp h,x=>[⟨.mp h,x⟩]
 | .fn,x=>[⟨.fn,x⟩]
theorem iC {V:View}:∀{t:Ty} {x:t.den} {cs:List Value},Rel V t x cs→aC (bJ V) (flat t x) cs
 | .int k,x,cs,hr=>by have:cs=_:=hr;subst this;exact⟨hr,trivial⟩
 | .bool,x,cs,hr=>by have:cs=_:=hr;subst this;exact⟨hr,trivial⟩
 | .str,x,cs,hr=>by have:cs=_:=hr;subst this;exact⟨hr,trivial⟩
 | .slice t,xs,cs,hr=>by have h':=hr;obtain⟨A,c,br,h1,_⟩:=h';subst h1;exact⟨hr,trivial⟩
 | .unit,_,cs,hr=>by have:cs=_:=hr;subst this;trivial
 | .pair a b,x,cs,⟨c1,c2,e,h1,h2⟩=>by subst e;exact aC.append (iC h1) (iC h2)
 | .st t,x,cs,hr=>iC (t:=t) hr
 | .ref _,0,cs,hr=>by have:cs=_:=hr;subst this;exact⟨hr,trivial⟩
 | .ref _,_+1,_,⟨v,e,hv⟩=>by subst e;exact⟨⟨v,rfl,hv⟩,trivial⟩
 | .ptr _,0,cs,hr=>by have:cs=_:=hr;subst this;exact⟨hr,trivial⟩
 | .ptr _,_+1,_,⟨v,e,hv⟩=>by subst e;exact⟨⟨v,rfl,hv⟩,trivial⟩
 | .mp _,0,cs,hr=>by have:cs=_:=hr;subst this;exact⟨hr,trivial⟩
 | .mp _,_+1,_,⟨v,e,hv⟩=>by subst e;exact⟨⟨v,rfl,hv⟩,trivial⟩
 | .fn,x,cs,hr=>by have:cs=_:=hr;subst this;exact⟨hr,trivial⟩
 | .px t,none,cs,hr=>by have:cs=_:=hr;subst this;exact⟨hr,trivial⟩
 | .px t,some xs,cs,hr=>by have h':=hr;obtain⟨ad,c,br,h1,_⟩:=h';subst h1;exact⟨hr,trivial⟩
theorem iD {V:View}:∀{t:Ty} {x:t.den} {cs:List Value},aC (bJ V) (flat t x) cs→Rel V t x cs
 | .int k,x,[v],h=>h.1
 | .bool,x,[v],h=>h.1
 | .str,x,[v],h=>h.1
 | .slice t,xs,[v],h=>h.1
 | .ref _,_,[v],h=>h.1
 | .ptr _,_,[v],h=>h.1
 | .px _,_,[v],h=>h.1
 | .mp _,_,[v],h=>h.1
 | .fn,_,[v],h=>h.1
 | .px _,_,[],h=>h.elim
 | .mp _,_,[],h=>h.elim
 | .fn,_,[],h=>h.elim
 | .px _,_,_::_::_,h=>h.2.elim
 | .mp _,_,_::_::_,h=>h.2.elim
 | .fn,_,_::_::_,h=>h.2.elim
 | .ref _,_,[],h=>h.elim
 | .ptr _,_,[],h=>h.elim
 | .ref _,_,_::_::_,h=>h.2.elim
 | .ptr _,_,_::_::_,h=>h.2.elim
 | .int k,x,[],h=>h.elim
 | .bool,x,[],h=>h.elim
 | .str,x,[],h=>h.elim
 | .slice t,xs,[],h=>h.elim
 | .int k,x,_::_::_,h=>h.2.elim
 | .bool,x,_::_::_,h=>h.2.elim
 | .str,x,_::_::_,h=>h.2.elim
 | .slice t,xs,_::_::_,h=>h.2.elim
 | .unit,_,[],h=>rfl
 | .unit,_,_::_,h=>h.elim
 | .pair a b,x,cs,h=>by obtain⟨c1,c2,rfl,h1,h2⟩:=aC.split (xs:=flat a x.1) h;exact⟨c1,c2,rfl,iD h1,iD h2⟩
 | .st t,x,cs,h=>iD (t:=t) h
def cQ (t:Ty):List CV→Option (t.den×List CV)
 | ⟨t',x⟩::r=>if h:t'=t then some (h ▸ x,r) else none
 | []=>none
def Mf:(t:Ty)→List CV→Option (t.den×List CV)
 | .unit,l=>some ((),l)
 | .pair a b,l=>match Mf a l with
   |some (x,l')=>match Mf b l' with
    |some (y,l'')=>some ((x,y),l'')
    |none=>none
   |none=>none
 | .st t,l=>Mf t l
 | .int k,l=>cQ (.int k) l
 | .bool,l=>cQ .bool l
 | .str,l=>cQ .str l
 | .slice t,l=>cQ (.slice t) l
 | .ref h,l=>cQ (.ref h) l
 | .ptr h,l=>cQ (.ptr h) l
 | .px t,l=>cQ (.px t) l
 | .mp h,l=>cQ (.mp h) l
 | .fn,l=>cQ .fn l
theorem bV {t:Ty}{l:List CV}{x:t.den}{r:List CV}(h:cQ t l=some (x,r)):l=⟨t,x⟩::r:=by
 cases l with
 |nil=>simp[cQ] at h
 |cons c l=>
  obtain⟨t',y⟩:=c;simp only[cQ] at h;split at h
  ·rename_i e;subst e;simp only[Option.some.injEq,Prod.mk.injEq] at h;obtain⟨rfl,rfl⟩:=h;rfl
  ·simp at h
theorem Kh:∀{t:Ty} {l:List CV} {x:t.den} {r:List CV},Mf t l=some (x,r)→l=flat t x++r
 | .unit,l,x,r,h=>by simp[Mf] at h;simp[flat,h]
 | .pair a b,l,x,r,h=>by
   simp only[Mf] at h;split at h
   ·rename_i y l' h1;split at h
    ·rename_i z l'' h2;simp only[Option.some.injEq,Prod.mk.injEq] at h;obtain⟨rfl,rfl⟩:=h;rw[Kh h1,Kh h2];simp[flat]
    ·simp at h
   ·simp at h
 | .st t,l,x,r,h=>Kh (t:=t) h
 | .int k,l,x,r,h=>bV h
 | .bool,l,x,r,h=>bV h
 | .str,l,x,r,h=>bV h
 | .slice t,l,x,r,h=>bV h
 | .ref _,l,x,r,h=>bV h
 | .ptr _,l,x,r,h=>bV h
 | .px _,l,x,r,h=>bV h
 | .mp _,l,x,r,h=>bV h
 | .fn,l,x,r,h=>bV h
def Bi (t:Ty)(l:List CV):Option t.den:=
 match Mf t l with
 |some (x,[])=>some x
 |_=>none
theorem qv {t:Ty}{l:List CV}{x:t.den}(h:Bi t l=some x):l=flat t x:=by
 unfold Bi at h;split at h
 ·rename_i y h1;simp only[Option.some.injEq] at h;subst h;simpa using Kh h1
 ·simp at h
def wrap (t:Ty)(cs:List Value):Value:=match t with
 | .st _=> .agg cs.toArray
 |_=>cs.headD undef
theorem Ss {V:View}{c:CV}{v:Value}(h:bJ V c v):v.oneCell'=true:=by
 obtain⟨t,x⟩:=c;unfold bJ at h;induction t with
 |int k=>have: [v]=_:=h;simp at this;subst this;rfl
 |bool=>have: [v]=_:=h;simp at this;subst this;rfl
 |str=>have: [v]=_:=h;simp at this;subst this;rfl
 |slice t ih=>obtain⟨A,c,br,h1,_⟩:=h;simp at h1;subst h1;rfl
 |unit=>have: [v]=_:=h;simp at this
 |pair a b YL W6=>
  obtain⟨c1,c2,e,h1,h2⟩:=h;cases c1 with
  |nil=>simp at e;subst e;exact W6 _ h2
  |cons y ys=>simp at e;obtain⟨rfl,h3⟩:=e;obtain⟨rfl,rfl⟩:=h3;exact YL _ h1
 |st t ih=>exact ih x h
 |ref _=>
  cases x with
  |zero=>have: [v]=_:=h;simp at this;subst this;rfl
  |succ m=>obtain⟨u,e,hs,_⟩:=h;simp at e;subst e;obtain⟨a,n,c,rfl⟩:=hs;rfl
 |ptr _=>
  cases x with
  |zero=>have: [v]=_:=h;simp at this;subst this;rfl
  |succ m=>obtain⟨u,e,hs,_⟩:=h;simp at e;subst e;obtain⟨a,rfl⟩:=hs;rfl
 |mp _=>
  cases x with
  |zero=>have: [v]=_:=h;simp at this;subst this;rfl
  |succ m=>obtain⟨u,e,hs,_⟩:=h;simp at e;subst e;obtain⟨a,rfl⟩:=hs;rfl
 |fn=>have: [v]=_:=h;simp at this;subst this;cases x<;>rfl
 |px t ih=>
  cases x with
  |none=>have: [v]=_:=h;simp at this;subst this;rfl
  |some xs=>obtain⟨ad,c,br,h1,_⟩:=h;simp at h1;subst h1;rfl
theorem Gp {V:View}{c:CV}{v:Value}(h:bJ V c v):v.cells= #[v]:=by have:=Ss h;cases v<;>first |rfl | (simp[Value.oneCell'] at this)
structure Row where
 e:TypeId
 t:Ty
 xs:List t.den
inductive BX where
 |cells (l:List CV) |own (r:Nat) |nil
inductive Hv where
 |box (b:Nat) |pg (cs:List CV)
inductive RV where
 |cv (c:CV) |agg (cs:List CV) |own (r:Nat)
inductive AV where
 |rv (x:RV)
 |lit (v:Value)
 |box (b off:Nat)
 |ND (r sz i off:Nat)
 |pg (cs:List CV)
 |hel (h n i off:Nat)
 |fn (f:FuncId) (aQ:List Hv)
 |Ly
 |tup (l:List RV)
 |nil
structure eY where
 n:Nat
 l:List (Nat×AV)
 s:List (Nat×AV)
structure aV where
 e:TypeId
 t:Ty
 k:Nat
 w:Bool
 xs:List (Option (List t.den))
@[reducible] def jE:List Ty→Ty
  | []=> .unit
  |t::ts=> .pair t (jE ts)
structure Rng where
 ts:List Ty
 xs:List (jE ts).den
inductive Site where
 |px |heap (h:Nat) |vid (v:Nat)
structure AS where
 tmps:eY
 rows:List (Nat×Row)
 boxes:List (Nat×BX)
 ae:List aV
 trace:CV
 cq:List Rng
 sites:List (Nat×Site)
structure fJ where
 id:TypeId
 ty:Ty
 bytes:Nat
 elem:TypeId
 qw:List (Nat×Nat)
 arr:Bool
@[reducible] def rU:List Ty→Type
  | []=>Unit
  | [a]=>a.den
  |a::b::r=>a.den×rU (b::r)
inductive nK where
 |v (t:Ty) |fn (f:FuncId) (ts:List Ty) |c (l:List CV) |rp (t:Ty) |bx (t:Ty) |Ly
@[reducible] def nK.den:nK→Type
  | .v t=>t.den
  | .fn _ ts=>rU ts
  | .c _=>Unit
  | .rp t=>t.den
  | .bx t=>t.den
  | .Ly=>Unit
@[reducible] def Gq:List nK→Type
  | []=>Unit
  | [a]=>a.den
  |a::b::r=>a.den×Gq (b::r)
abbrev Mg:=Ty×Option TypeId
structure IE where
 args:List nK
 res:List Mg
 clo:Option (FuncId×List Ty)
 ae:List (Nat×Bool)
 gen:Option (List Ty)
@[reducible] def Mh (s:IE):Type:=match s.gen with
  |some ts=>List (jE ts).den
  |none=>match s.clo with
   |some (_,ts)=>rU ts
   |none=>rU (s.res.map (·.1))
structure HT where
 e:TypeId
 t:Ty
 k:Nat
structure cG where
 rows:List fJ
 ae:List HT
 real:Nat→FuncId
 sig:Nat→IE
 ajE:FuncId→List Nat
 hint:Nat→List (List (Nat×Bool))
 sites:Nat→List (Nat×Site)
 ale:List (Nat×AV)
 eqs:List TypeId
def jn:List fJ→TypeId→Option fJ
 | [],_=>none
 |r::rs,t=>bif Nat.beq r.id t then some r else jn rs t
def cG.ht (T:cG)(h:Nat):HT:=(T.ae[h]?).getD ⟨0, .unit,0⟩
@[reducible] def HX (T:cG)(h:Nat):Type:=List (Option (List (T.ht h).t.den))
@[reducible] def En (T:cG):List Nat→Type
  | []=>Unit
  | [h]=>HX T h
  |h::i::r=>HX T h×En T (i::r)
@[reducible] def NF (T:cG)(A:Type):List Nat→Type
  | []=>A
  |h::r=>A×En T (h::r)
@[reducible] def IE.hin (s:IE):List Nat:=s.ae.map (·.1)
@[reducible] def IE.hout (s:IE):List Nat:=(s.ae.filter (·.2)).map (·.1)
@[reducible] def Bu (T:cG)(v:Nat):Type:=NF T (Gq (T.sig v).args) (T.sig v).hin
@[reducible] def xA (T:cG)(v:Nat):Type:=NF T (Mh (T.sig v)) (T.sig v).hout
abbrev bN (T:cG):=(v:Nat)→Bu T v→Option (xA T v)
def IF {T:cG}{A:Type}(x:A):(hs:List Nat)→Option (En T hs)→Option (NF T A hs)
 | [],_=>some x
 |_::_,some h=>some (x,h)
 |_::_,none=>none
def vd {T:cG}{A:Type}:(hs:List Nat)→NF T A hs→A
 | [],x=>x
 |_::_,x=>x.1
def Eo {T:cG}{A:Type}:(hs:List Nat)→NF T A hs→En T hs
 | [],x=>()
 |_::_,x=>x.2
def QA {s t:Ty}(h:s=t)(xs:List (Option (List s.den))):List (Option (List t.den)):=h ▸ xs
def acU (T:cG)(ae:List aV)(h:Nat):Option (HX T h):=match ae[h]? with
 |some r=>if e:r.t=(T.ht h).t then some (QA e r.xs) else none
 |none=>none
def Mi (T:cG)(ae:List aV):(hs:List Nat)→Option (En T hs)
 | []=>some ()
 | [h]=>acU T ae h
 |h::i::r=>match acU T ae h with
  |some x=>match Mi T ae (i::r) with
   |some y=>some (x,y)
   |none=>none
  |none=>none
def sJ (T:cG)(w:Bool)(ae:List aV)(h:Nat)(x:HX T h):List aV:=ae.set h ⟨(T.ht h).e,(T.ht h).t,(T.ht h).k,w,x⟩
def qt (T:cG)(wr:List Nat):(hs:List Nat)→En T hs→List aV→List aV
 | [],_,ae=>ae
 | [h],x,ae=>sJ T (wr.any (Nat.beq h)) ae h x
 |h::i::r,x,ae=>qt T wr (i::r) x.2 (sJ T (wr.any (Nat.beq h)) ae h x.1)
def cC (T:cG):List aV:=T.ae.map fun h=>⟨h.e,h.t,h.k,true,[]⟩
def look {α:Type}:List (Nat×α)→Nat→Option α
 | [],_=>none
 | (k,v)::r,j=>bif Nat.beq k j then some v else look r j
def put {α:Type}:List (Nat×α)→Nat→α→List (Nat×α)
 | [],j,v=>[(j,v)]
 | (k,u)::r,j,v=>bif Nat.blt j k then (j,v)::(k,u)::r else bif Nat.beq k j then (j,v)::r else (k,u)::put r j v
def del {α:Type}:List (Nat×α)→Nat→List (Nat×α)
 | [],_=>[]
 | (k,u)::r,j=>bif Nat.beq k j then del r j else (k,u)::del r j
def Mj {α:Type}:List (Nat×α)→Nat→α→List (Nat×α)
 | [],j,v=>[(j,v)]
 | (k,u)::r,j,v=>bif Nat.blt k j then (j,v)::(k,u)::r else bif Nat.beq k j then (j,v)::r else (k,u)::Mj r j v
def ajF {α:Type}:List (Nat×α)→Nat→α→List (Nat×α)
 | [],_,_=>[]
 | (k,u)::r,j,v=>bif Nat.beq k j then (k,v)::r else (k,u)::ajF r j v
def ai {α:Type}(xs:List (Option (List α))):Nat→Option (List α)
 |0=>some []
 |m+1=>match xs[m]? with
  |some o=>o
  |none=>none
def ik {α:Type}(xs:List (Option (List α))):Nat→List α→List (Option (List α))
 |0,_=>xs
 |m+1,l=>xs.set m (some l)
def dh {α:Type}(xs:List (Option (List α))):Nat→List (Option (List α))
 |0=>xs
 |m+1=>xs.set m none
def hk (h:Nat):Nat:=4*(1000000000+h)
def gk (g:Nat):Nat:=1000000000+g
def nth (s:eY)(i:Nat):AV:=
 match look s.l i with
 |some x=>x
 |none=> .nil
def Db (s:eY)(i:Nat)(v:AV):eY:=bif Nat.blt i s.n then ⟨s.n,Mj s.l i v,s.s⟩ else s
def US (f:AV→AV)(l:List (Nat×AV)):List (Nat×AV):=l.map fun p=>(p.1,f p.2)
def eY.map (f:AV→AV)(s:eY):eY:=⟨s.n,US f s.l,US f s.s⟩
def agz {α:Type}:Nat→List α→List (Nat×α)→List (Nat×α)
 |_,[],acc=>acc
 |i,x::r,acc=>agz (i+1) r ((i,x)::acc)
def eY.of (l:List AV)(m:Nat)(s:List (Nat×AV)):eY:=⟨l.length+m,agz 0 l [],s⟩
def ofConst:Value→AV
 | .int k n=> .rv (.cv ⟨.int k,n⟩)
 | .bool b=> .rv (.cv ⟨.bool,b⟩)
 | .string s=> .rv (.cv ⟨.str,s⟩)
 |v=> .lit v
def eY.av (s:eY):Operand→AV
 | .tmp t=>nth s t
 | .const v=>ofConst v
 | .func f=> .fn f []
 | .global g=>match look s.s (gk g) with
   |some x=>x
   |none=> .nil
abbrev AS.av (σ:AS)(x:Operand):AV:=σ.tmps.av x
def AS.iS (σ:AS)(d:Option Tmp)(v:AV):AS:=
 match d with
 |some d=>{σ with tmps:=Db σ.tmps d v}
 |none=>σ
def idx {α:Type}(xs:List α)(i:Int):Option α:=
 match i with
 | .ofNat n=>xs[n]?
 | .negSucc _=>none
def zQ (s:ByteArray)(i:Int):Option Int:=
 match i with
 | .ofNat n=>s[n]?.map fun b=>(b.toNat:Int)
 | .negSucc _=>none
def di (n:Nat)(l h:Int):Bool:=decide (0≤l)&&decide (l≤h)&&decide (h≤n)
def cut {α:Type}(xs:List α)(l h:Int):List α:=(xs.take h.toNat).drop l.toNat
def bytesOf (s:ByteArray):List Int:=s.data.toList.map fun b=>(b.toNat:Int)
def strOf (xs:List Int):ByteArray:=⟨(xs.map fun n=>UInt8.ofNat n.toNat).toArray⟩
def cK:(t:Ty)→List Value→Option (List CV×List Value)
 | .unit,l=>some ([],l)
 | .pair a b,l=>match cK a l with
   |some (x,l')=>match cK b l' with
    |some (y,l'')=>some (x++y,l'')
    |none=>none
   |none=>none
 | .st t,l=>cK t l
 | .int k, .int k' n::l=>if k=k' then some ([⟨.int k,n⟩],l) else none
 | .bool, .bool b::l=>some ([⟨.bool,b⟩],l)
 | .str, .string s::l=>some ([⟨.str,s⟩],l)
 | .slice t, .slice none 0 0::l=>some ([⟨.slice t,([]:List t.den)⟩],l)
 | .ref h, .slice none 0 0::l=>some ([⟨.ref h,(0:Nat)⟩],l)
 | .ptr h, .pointer none::l=>some ([⟨.ptr h,(0:Nat)⟩],l)
 | .mp h, .map none::l=>some ([⟨.mp h,(0:Nat)⟩],l)
 | .px t, .slice none 0 0::l=>some ([⟨.px t,(none:Option (List t.den))⟩],l)
 | .fn, .nilFunc::l=>some ([⟨.fn,(0:Nat)⟩],l)
 |_,_=>none
def cells (t:Ty):AV→Option (List CV)
 | .rv (.cv c)=>some [c]
 | .rv (.agg cs)=>some cs
 | .lit v=>match cK t v.cells.toList with
   |some (cs,[])=>some cs
   |_=>none
 |_=>none
def lst {α:Type}:Option (List α)→List α
 |some xs=>xs
 |none=>[]
def lH {α β:Type}(f:α→Option β):List α→Option (List β)
 | []=>some []
 |x::r=>match f x with
  |some y=>match lH f r with
   |some l=>some (y::l)
   |none=>none
  |none=>none
def Gr (ae:List aV)(t:Ty)(f:(u:Ty)→u.den→Option t.den):List CV→Option (List t.den×List CV)
 | ⟨.ref h,n⟩::l=>bif Nat.beq n 0 then some ([],l) else match ae[h]? with
   |some hr=>(ai hr.xs n).bind fun ys=>(lH (f hr.t) ys).bind fun xs=>some (xs,l)
   |none=>none
 | ⟨.px t',o⟩::l=>(cQ (.slice t) [⟨.slice t',lst o⟩]).map fun p=>(p.1,l)
 |l=>cQ (.slice t) l
def W7 (t:Ty):List CV→Option (Option (List t.den)×List CV)
 | ⟨.slice t',xs⟩::l=>match (xs:List t'.den) with
   | []=>none
   |x::xs=>(cQ (.px t) [⟨.px t',some (x::xs)⟩]).map fun p=>(p.1,l)
 |l=>cQ (.px t) l
def W8 (h:Nat):List CV→Option (Nat×List CV)
 | ⟨.ref h',n⟩::l=>bif Nat.beq h h' then cQ (.ref h) (⟨.ref h',n⟩::l) else bif Nat.beq n 0 then some (0,l) else none
 |l=>cQ (.ref h) l
def snap (ae:List aV):(t:Ty)→List CV→Option (t.den×List CV)
 | .unit,l=>some ((),l)
 | .pair a b,l=>match snap ae a l with
   |some (x,l')=>match snap ae b l' with
    |some (y,l'')=>some ((x,y),l'')
    |none=>none
   |none=>none
 | .st t,l=>snap ae t l
 | .slice t,l=>Gr ae t (fun u y=>match snap ae t (flat u y) with
   |some (x,[])=>some x
   |_=>none) l
 | .px t,l=>W7 t l
 | .int k,l=>cQ (.int k) l
 | .bool,l=>cQ .bool l
 | .str,l=>cQ .str l
 | .ref h,l=>W8 h l
 | .ptr h,l=>cQ (.ptr h) l
 | .mp h,l=>cQ (.mp h) l
 | .fn,l=>cQ .fn l
def vh (ae:List aV)(t:Ty)(l:List CV):Option t.den:=match snap ae t l with
 |some (x,[])=>some x
 |_=>none
def typed (ae:List aV)(t:Ty)(a:AV):Option t.den:=
 match t,a with
 | .st t, .rv (.agg cs)=>vh ae t cs
 | .st t, .lit (.agg vs)=>match cK t vs.toList with
   |some (cs,[])=>Bi t cs
   |_=>none
 | .st _,_=>none
 |t, .rv (.cv c)=>vh ae t [c]
 |t, .lit v=>match cK t [v] with
  |some ([c],[])=>(cQ t [c]).map (·.1)
  |_=>none
 |_,_=>none
def W9 (t:Ty):List CV:=flat t t.zero
def Gs (cs:List CV)(off:Nat)(vs:List CV):List CV:=cs.take off++vs++cs.drop (off+vs.length)
def mH (t:Ty)(cs:List CV):Option AV:=
 match t with
 | .st t=>bif Nat.ble t.size cs.length then some (.rv (.agg (cs.take t.size))) else none
 |_=>match cs with
  |c::_=>some (.rv (.cv c))
  | []=>none
def RV.tw (r:Nat)(c:CV):RV→RV
 | .own r'=>bif Nat.beq r' r then .cv c else .own r'
 |x=>x
def AV.tw (r:Nat)(c:CV):AV→AV
 | .rv x=> .rv (x.tw r c)
 | .ND r' sz i off=>bif Nat.beq r' r then .nil else .ND r' sz i off
 | .tup l=> .tup (l.map (RV.tw r c))
 |x=>x
def BX.tw (r:Nat)(c:CV):BX→BX
 | .own r'=>bif Nat.beq r' r then .cells [c] else .own r'
 |x=>x
def IG (f:BX→BX)(l:List (Nat×BX)):List (Nat×BX):=l.map fun p=>(p.1,f p.2)
def AS.freeze (σ:AS)(r:Nat):AS:=
 match look σ.rows r with
 |none=>σ
 |some row=>{σ with tmps:=σ.tmps.map (AV.tw r ⟨.slice row.t,row.xs⟩),rows:=del σ.rows r,boxes:=IG (BX.tw r ⟨.slice row.t,row.xs⟩) σ.boxes}
def AS.frz (σ:AS)(x:Operand):AS:=
 match σ.av x with
 | .rv (.own r)=>σ.freeze r
 |_=>σ
def AS.ve (σ:AS):List Operand→AS
 | []=>σ
 |x::xs=>(σ.frz x).ve xs
def RV.YM (r d:Nat):RV→RV
 | .own r'=> .own (bif Nat.beq r' r then d else r')
 |x=>x
def AV.YM (r d:Nat):AV→AV
 | .rv x=> .rv (x.YM r d)
 | .ND r' sz i off=> .ND (bif Nat.beq r' r then d else r') sz i off
 | .tup l=> .tup (l.map (RV.YM r d))
 |x=>x
def BX.YM (r d:Nat):BX→BX
 | .own r'=> .own (bif Nat.beq r' r then d else r')
 |x=>x
def AS.rename (σ:AS)(r d:Nat):AS:=
 match look σ.rows r with
 |none=>σ
 |some row=>{σ with tmps:=σ.tmps.map (AV.YM r d),rows:=put (del σ.rows r) d row,boxes:=IG (BX.YM r d) σ.boxes}
def RV.wV (r:Nat):RV→Bool
 | .own r'=>Nat.beq r r'
 |_=>false
def Hv.an0 (b:Nat):Hv→Bool
 | .box b'=>Nat.beq b b'
 |_=>false
def AV.eZ (r:Nat):AV→Bool
 | .rv x=>x.wV r
 | .ND r' _ _ _=>Nat.beq r r'
 | .tup l=>l.any (RV.wV r)
 |_=>false
def AV.lI (b:Nat):AV→Bool
 | .box b' _=>Nat.beq b b'
 | .fn _ aQ=>aQ.any (Hv.an0 b)
 |_=>false
def BX.eZ (r:Nat):BX→Bool
 | .own r'=>Nat.beq r r'
 |_=>false
def AV.bl (r:Nat)(x:AV):AV:=bif x.eZ r then .nil else x
def AV.dN (b:Nat)(x:AV):AV:=bif x.lI b then .nil else x
def BX.bl (r:Nat)(x:BX):BX:=bif x.eZ r then .nil else x
def AS.bl (σ:AS)(r:Nat):AS:={σ with tmps:=σ.tmps.map (AV.bl r),rows:=del σ.rows r,boxes:=IG (BX.bl r) σ.boxes}
def AS.dN (σ:AS)(b:Nat):AS:={σ with tmps:=σ.tmps.map (AV.dN b),boxes:=del σ.boxes b}
def agA (l:List (Nat×AV))(h:List (Nat×Bool)):List (Nat×AV):=l.filter fun x=>h.any fun p=>Nat.beq p.1 x.1
def AS.share (σ:AS):List (Nat×Bool)→AS
 | []=>σ
 | (j,true)::h=>(σ.frz (.tmp j)).share h
 | (_,false)::h=>σ.share h
def AS.forget (Pk:AS)(h:List (Nat×Bool)):AS:=
 let σ:=Pk.share h
 let l:=agA σ.tmps.l h
 let bs:=σ.boxes.filter fun p=>l.any (fun q=>q.2.lI p.1)||σ.tmps.s.any fun q=>q.2.lI p.1
 {σ with tmps:=⟨σ.tmps.n,l,σ.tmps.s⟩,rows:=σ.rows.filter fun p=>(l.any fun q=>q.2.eZ p.1)||(σ.tmps.s.any fun q=>q.2.eZ p.1)||bs.any fun q=>q.2.eZ p.1,boxes:=bs}
def AS.save (σ:AS):AS:={σ with tmps:=⟨σ.tmps.n,σ.tmps.l,(σ.tmps.l.map fun p=>(p.1+10000*σ.cq.length,p.2))++σ.tmps.s⟩}
def kB (d k:Nat):Bool:=Nat.ble (10000*d) k&&Nat.blt k (10000*(d+1))
def AS.back (σ:AS):AS:={σ with tmps:=⟨σ.tmps.n,(σ.tmps.s.filter fun p=>kB σ.cq.length p.1).map fun p=>(p.1 - 10000*σ.cq.length,p.2),σ.tmps.s⟩}
def AS.Bv (σ:AS):AS:={σ with tmps:=⟨σ.tmps.n,σ.tmps.l,σ.tmps.s.filter fun p=> !(kB σ.cq.length p.1)⟩}
inductive ml where
 |M (rd wr:List Nat) |X
def ml.rd (k:Nat):ml→ml
 | .M r w=> .M (k::r) w
 | .X=> .X
inductive TU where
 |row (q:Nat) (r:Row)
 |IH (q:Nat) (r:Row)
 |box (b:Nat) (x:BX)
 |heap (h:Nat) (r:aV)
def TU.keys:TU→List Nat
 | .row q _=>[4*q,4*q+2]
 | .IH q _=>[4*q]
 | .box b _=>[2*b+1]
 | .heap h _=>[hk h]
def AS.one (σ:AS):TU→AS
 | .row q r=>{σ with rows:=put σ.rows q r}
 | .IH q r=>{σ with rows:=put σ.rows q r}
 | .box b x=>{σ with boxes:=put σ.boxes b x}
 | .heap h r=>{σ with ae:=σ.ae.set h r}
def AS.app (σ:AS):List TU→AS
 | []=>σ
 |u::us=>(σ.one u).app us
def YN (us:List TU):List Nat:=us.flatMap TU.keys
inductive Eff where
 |mI (us:List TU)
 |set (σ:AS)
inductive Q (T:cG) (α:Type):Type 1 where
 |ret (a:α)
 |fail
 |opt {β:Type} (o:Option β) (k:β→Q T α)
 |fi (b:Bool) (k:Q T α)
 |ite (b:Bool) (x y:Q T α)
 |row (q:Nat) (k:Row→Q T α)
 |len (q:Nat) (k:Nat→Q T α)
 |box (b:Nat) (k:BX→Q T α)
 |heap (h:Nat) (k:aV→Q T α)
 |qg (q:Nat) (k:Q T α)
 |qh (b:Nat) (k:Q T α)
 |call (v:Nat) (x:Bu T v) (k:xA T v→Q T α)
 |all (k:AS→Q T α)
 |on (σ:AS) (k:Q T α)
section
variable {R:Type}{T:cG}
def Q.run {α:Type}(Φ:bN T)(σ:AS):Q T α→ml→(ml→α→Option R)→Option R
 | .ret a,c,k=>k c a
 | .fail,_,_=>none
 | .opt o q,c,k=>o.bind fun y=>(q y).run Φ σ c k
 | .fi b q,c,k=>bif b then q.run Φ σ c k else none
 | .ite b x y,c,k=>bif b then x.run Φ σ c k else y.run Φ σ c k
 | .row r q,c,k=>match look σ.rows r with
   |some x=>(q x).run Φ σ (c.rd (4*r)) k
   |none=>none
 | .len r q,c,k=>match look σ.rows r with
   |some x=>(q (List.length x.xs)).run Φ σ (c.rd (4*r+2)) k
   |none=>none
 | .box b q,c,k=>match look σ.boxes b with
   |some x=>(q x).run Φ σ (c.rd (2*b+1)) k
   |none=>none
 | .heap h q,c,k=>match σ.ae[h]? with
   |some x=>(q x).run Φ σ (c.rd (hk h)) k
   |none=>none
 | .qg r q,c,k=>match look σ.rows r with
   |none=>q.run Φ σ (c.rd (4*r)) k
   |some _=>none
 | .qh b q,c,k=>match look σ.boxes b with
   |none=>q.run Φ σ (c.rd (2*b+1)) k
   |some _=>none
 | .call v x q,c,k=>(Φ v x).bind fun y=>(q y).run Φ σ c k
 | .all q,_,k=>(q σ).run Φ σ .X k
 | .on ag q,_,k=>q.run Φ ag .X k
def Q.map {α β:Type}(f:α→β):Q T α→Q T β
 | .ret a=> .ret (f a)
 | .fail=> .fail
 | .opt o q=> .opt o fun y=>(q y).map f
 | .fi b q=> .fi b (q.map f)
 | .ite b x y=> .ite b (x.map f) (y.map f)
 | .row r q=> .row r fun y=>(q y).map f
 | .len r q=> .len r fun y=>(q y).map f
 | .box r q=> .box r fun y=>(q y).map f
 | .heap r q=> .heap r fun y=>(q y).map f
 | .qg r q=> .qg r (q.map f)
 | .qh r q=> .qh r (q.map f)
 | .call v x q=> .call v x fun y=>(q y).map f
 | .all q=> .all fun y=>(q y).map f
 | .on σ q=> .on σ (q.map f)
abbrev cn:=AV×Eff
def abd (op:BinOp)(a b:Int):Option Bool:=
 match op with
 | .eql=>some (a==b)
 | .neq=>some (a != b)
 | .lss=>some (decide (a<b))
 | .leq=>some (decide (a≤b))
 | .gtr=>some (decide (a>b))
 | .geq=>some (decide (a≥b))
 |_=>none
def Xa (op:BinOp)(x y:ByteArray):Option Bool:=
 match op with
 | .eql=>some (x.toList==y.toList)
 | .neq=>some (!(x.toList==y.toList))
 | .lss=>some (Op.bytesLess x.toList y.toList)
 | .leq=>some (Op.bytesLess x.toList y.toList||x.toList==y.toList)
 | .gtr=>some (!(Op.bytesLess x.toList y.toList||x.toList==y.toList))
 | .geq=>some (!(Op.bytesLess x.toList y.toList))
 |_=>none
def bits (op:BinOp)(i:IntKind)(a b:Int):Int:=match op with
 | .and=>i.wrap (BitVec.ofInt i.bits a&&& BitVec.ofInt i.bits b).toNat
 | .or=>i.wrap (BitVec.ofInt i.bits a|||BitVec.ofInt i.bits b).toNat
 | .xor=>i.wrap (BitVec.ofInt i.bits a^^^BitVec.ofInt i.bits b).toNat
 |_=>i.wrap (BitVec.ofInt i.bits a&&& ~~~ BitVec.ofInt i.bits b).toNat
def shl (i:IntKind)(a b:Int):Int:=i.wrap (a*2^(min b.toNat i.bits))
def shr (i:IntKind)(a b:Int):Int:=a.fdiv (2^(min b.toNat i.bits))
def Dj:(t:Ty)→t.den→t.den→Bool
 | .int _,a,b=>(a:Int)==b
 | .bool,a,b=>(a:Bool)==b
 | .str,a,b=>(a:ByteArray).toList==(b:ByteArray).toList
 | .pair s t,a,b=>Dj s a.1 b.1&&Dj t a.2 b.2
 | .st t,a,b=>Dj t a b
 | .unit,_,_=>true
 |_,_,_=>false
def Xb:Ty→Bool
 | .int _ | .bool | .str | .unit=>true
 | .pair a b=>Xb a&&Xb b
 | .st t=>Xb t
 |_=>false
def Hw:Ty→Bool
 | .int _ | .bool | .str | .unit | .fn=>true
 | .pair a b=>Hw a&&Hw b
 | .st t=>Hw t
 |_=>false
def Ep:Ty→Bool
 | .slice _ | .px _=>false
 | .pair a b=>Ep a&&Ep b
 | .st t=>Ep t
 |_=>true
def eo (hs:List Nat):Ty→Bool
 | .ref h | .ptr h | .mp h=>hs.any (Nat.beq h)
 | .slice t | .px t | .st t=>eo hs t
 | .pair a b=>eo hs a&&eo hs b
 |_=>true
def j9 (T:cG)(s:IE):Bool:=s.clo.isNone&&(s.hout.all fun h=>Ep (T.ht h).t)&&match s.gen with
 |some ts=>ts.all Hw
 |none=>s.res.all fun p=>match p.1,p.2 with
  | .slice t,some _=>Ep t
  |t,none=>Ep t
  |_,_=>false
def RZ (hs:List Nat):nK→Bool
 | .v t | .rp t | .bx t=>eo hs t
 | .fn _ ts=>ts.all (eo hs)
 | .c cs=>cs.all fun c=>eo hs c.1
 | .Ly=>true
def Hx (T:cG)(s:IE):Bool:=s.args.all (RZ s.hin)&&(s.hin.all fun h=>eo s.hin (T.ht h).t)&&((s.res.all fun p=>eo s.hin p.1)&&(match s.clo with |some (_,ts)=>ts.all (eo s.hin) |none=>true)&&match s.gen with
 |some ts=>ts.all Hw&&s.ae.isEmpty
 |none=>true)
def pv (z:AV):Q T cn:= .ret (z, .mI [])
def Dc (t:Ty)(x:t.den):Q T cn:=pv (.rv (.cv ⟨t,x⟩))
def jt {α:Type}(f:α→Q T cn):Option α→Q T cn
 |some x=>f x
 |none=> .fail
def aec (op:BinOp)(x y:AV):Q T cn:=
 match x,y with
 | .rv (.cv ⟨.int i,a⟩), .rv (.cv ⟨.int j,b⟩)=>
   match op with
   | .shl=> .fi (decide (0≤b)) (Dc (.int i) (shl i a b))
   | .shr=> .fi (decide (0≤b)) (Dc (.int i) (shr i a b))
   |op=>if i=j then match op with
    | .add=>Dc (.int i) (i.wrap (a+b))
    | .sub=>Dc (.int i) (i.wrap (a - b))
    | .mul=>Dc (.int i) (i.wrap (a*b))
    | .quo=> .fi (!(b==0)) (Dc (.int i) (i.wrap (a.tdiv b)))
    | .rem=> .fi (!(b==0)) (Dc (.int i) (a.tmod b))
    | .and=>Dc (.int i) (bits .and i a b)
    | .or=>Dc (.int i) (bits .or i a b)
    | .xor=>Dc (.int i) (bits .xor i a b)
    | .andNot=>Dc (.int i) (bits .andNot i a b)
    |op=>jt (fun c=>Dc .bool c) (abd op a b)
    else .fail
 | .rv (.cv ⟨.str,a⟩), .rv (.cv ⟨.str,b⟩)=>
   match op with
   | .add=> .fi (Nat.ble (a.size+b.size) 9223372036854775807) (Dc .str (a++b))
   |_=>jt (fun c=>Dc .bool c) (Xa op a b)
 |_,_=> .fail
def eqV (op:BinOp)(b:Bool):Q T cn:=match op with
 | .eql=>Dc .bool b
 | .neq=>Dc .bool (!b)
 |_=> .fail
def aed (op:BinOp)(x y:AV):Q T cn:=
 match x,y with
 | .rv (.cv ⟨.bool,a⟩), .rv (.cv ⟨.bool,b⟩)=>eqV op (a==b)
 |_,_=> .fail
def aee (ty:Ty)(op:BinOp)(x y:AV):Q T cn:=
 match ty,x,y with
 | .slice _, .rv (.cv ⟨.ref _,n⟩), .lit (.slice none 0 0)=>eqV op (Nat.beq n 0)
 | .ptr _, .rv (.cv ⟨.ptr _,n⟩), .lit (.pointer none)=>eqV op (Nat.beq n 0)
 | .mp _, .rv (.cv ⟨.mp _,n⟩), .lit (.map none)=>eqV op (Nat.beq n 0)
 | .slice _, .rv (.cv ⟨.px t,o⟩), .lit (.slice none 0 0)=>eqV op (Option.isNone (α:=List t.den) o)
 |_,_,_=> .fail
def agB (t:Ty)(op:BinOp)(x y:AV):Q T cn:=
 match typed [] (.st t) x,typed [] (.st t) y with
 |some a,some b=> .fi (Xb t) (eqV op (Dj t a b))
 |_,_=> .fail
def co:AV→AV
 | .rv (.cv ⟨.px t,o⟩)=> .rv (.cv ⟨.slice t,(lst o:List t.den)⟩)
 |a=>a
def aef (ty:Ty)(x:AV):Q T cn:=
 match ty,co x with
 | .slice _, .rv (.cv ⟨.slice t,xs⟩)=>Dc (.int .i64) (List.length xs:Int)
 | .str, .rv (.cv ⟨.str,s⟩)=>Dc (.int .i64) (s.size:Int)
 | .slice _, .rv (.own r)=> .len r fun n=>Dc (.int .i64) (n:Int)
 | .slice _, .lit (.slice none 0 0)=>Dc (.int .i64) (0:Int)
 | .slice _, .rv (.cv ⟨.ref h,n⟩)=> .heap h fun hr=> .opt (ai hr.xs n) fun l=>Dc (.int .i64) (List.length l:Int)
 |_,_=> .fail
def iE (av:Operand→AV)(d:Int):Option Operand→Option Int
 |none=>some d
 |some x=>match av x with
  | .rv (.cv ⟨.int _,n⟩)=>some n
  |_=>none
def Vy (rows:List fJ)(t:TypeId)(x:AV):Q T cn:=match jn rows t with
 |none=> .fail
 |some r=>match x with
  | .box b off=> .box b fun bx=>match bx with
    | .cells cs=>jt pv (mH r.ty (cs.drop off))
    | .own q=>match r.ty with
      | .slice _=> .fi (Nat.beq off 0) (pv (.rv (.own q)))
      |_=> .fail
    | .nil=> .fail
  | .ND q sz i off=> .row q fun row=> .opt (row.xs[i]?) fun x=>jt pv (mH r.ty ((flat row.t x).drop off))
  | .pg cs=>jt pv (mH r.ty cs)
  | .hel h n i off=> .heap h fun hr=> .opt (ai hr.xs n) fun l=> .opt (l[i]?) fun x=>jt pv (mH r.ty ((flat hr.t x).drop off))
  | .rv (.cv ⟨.ptr h,n⟩)=> .heap h fun hr=> .opt (ai hr.xs n) fun l=> .opt (l[0]?) fun x=>jt pv (mH r.ty (flat hr.t x))
  |_=> .fail
def Lz (rows:List fJ)(ty:TypeId)(x:AV):Q T cn:=match x with
 | .lit v=>match jn rows ty with
   |some r=>match r.ty with
    | .st t=>match v with
      | .agg vs=>match cK t vs.toList with
        |some (cs,[])=>pv (.rv (.agg cs))
        |_=> .fail
      |_=> .fail
    |_=>pv (.lit v)
   |none=> .fail
 | .nil=> .fail
 |a=>pv a
def partsOf (av:Operand→AV)(qw:List (Nat×Nat)):List (Nat×Operand)→List CV→Option (List CV)
 | [],cs=>some cs
 | (i,x)::r,cs=>match qw[i]? with
   |some (off,size)=>match av x with
    | .rv (.cv c)=>bif Nat.beq size 1&&Nat.blt off cs.length then partsOf av qw r (Gs cs off [c]) else none
    | .rv (.agg vs)=>bif Nat.beq size vs.length&&Nat.ble (off+vs.length) cs.length then partsOf av qw r (Gs cs off vs) else none
    |_=>none
   |none=>none
def elems (av:Operand→AV)(t:Ty):List (Nat×Operand)→List t.den→Option (List t.den)
 | [],xs=>some xs
 | (i,x)::r,xs=>match typed [] t (av x) with
   |some v=>bif Nat.blt i xs.length then elems av t r (xs.set i v) else none
   |none=>none
def Pl (rows:List fJ)(t:TypeId)(x i:AV):Q T cn:=match jn rows t with
 |some r=>match i with
  | .rv (.cv ⟨.int _,n⟩)=>match r.ty,co x with
    | .slice u, .rv (.cv ⟨.slice u',xs⟩)=> .fi (Nat.beq u.size u'.size) (.opt (idx xs n) fun y=>pv (.pg (flat u' y)))
    | .slice u, .rv (.own q)=> .row q fun row=> .fi (Nat.beq u.size row.t.size) (.opt (idx row.xs n) fun _=>pv (.ND q row.t.size n.toNat 0))
    | .slice u, .rv (.cv ⟨.ref h,m⟩)=> .heap h fun hr=> .fi (Nat.beq u.size hr.t.size) (.opt (ai hr.xs m) fun l=> .opt (idx l n) fun _=>pv (.hel h m n.toNat 0))
    | .st _,a=>match n with
      | .ofNat m=> .fi r.arr <| match r.qw[m]? with
        |some (off,_)=>match a with
         | .box b o=>pv (.box b (o+off))
         | .ND q sz j o=>pv (.ND q sz j (o+off))
         | .pg cs=>pv (.pg (cs.drop off))
         | .hel h k j o=>pv (.hel h k j (o+off))
         |_=> .fail
        |none=> .fail
      | .negSucc _=> .fail
    |_,_=> .fail
  |_=> .fail
 |none=> .fail
def Pm (rows:List fJ)(s:TypeId)(x:AV)(f:Nat):Q T cn:=match jn rows s with
 |some r=> .fi (!r.arr) <| match r.qw[f]? with
  |some (off,size)=>match x with
   | .box b o=>pv (.box b (o+off))
   | .ND q sz i o=>pv (.ND q sz i (o+off))
   | .pg cs=>pv (.pg (cs.drop off))
   | .hel h n i o=>pv (.hel h n i (o+off))
   | .rv (.cv ⟨.ptr h,n⟩)=> .fi (!(Nat.beq n 0)) (pv (.hel h n 0 off))
   |_=> .fail
  |none=> .fail
 |none=> .fail
def Vz (rows:List fJ)(s d:TypeId)(x:AV):Q T cn:=match jn rows s,jn rows d with
 |some rs,some rd=>match rs.ty,rd.ty,x with
  | .int _, .int j, .rv (.cv ⟨.int _,a⟩)=>Dc (.int j) (j.wrap a)
  | .str, .str, .rv (.cv ⟨.str,s⟩)=>Dc .str s
  | .slice (.int .u8), .str, .rv (.cv ⟨.slice (.int .u8),xs⟩)=>Dc .str (strOf xs)
  | .slice (.int .u8), .str, .rv (.own r)=> .row r fun row=>match row with
    | ⟨_, .int .u8,xs⟩=>Dc .str (strOf xs)
    |_=> .fail
  | .str, .slice (.int .u8), .rv (.cv ⟨.str,s⟩)=> .fi (Nat.ble s.size 140737488355328) (Dc (.slice (.int .u8)) (bytesOf s))
  |_,_,_=> .fail
 |_,_=> .fail
def vi (rows:List fJ)(av:Operand→AV)(t:TypeId)(x:AV)(lo hi mx:Option Operand):Q T cn:=match jn rows t with
 |some r=>match mx with
  |none=>match r.ty,co x with
   | .str, .rv (.cv ⟨.str,s⟩)=>match iE av 0 lo,iE av s.size hi with
     |some l,some h=> .fi (di s.size l h) (Dc .str (s.extract l.toNat h.toNat))
     |_,_=> .fail
   | .slice u, .rv (.cv ⟨.slice u',xs⟩)=>match iE av 0 lo,iE av (List.length xs) hi with
     |some l,some h=> .fi (Nat.beq u.size u'.size&&di (List.length xs) l h) (Dc (.slice u') (cut xs l h))
     |_,_=> .fail
   |_,_=> .fail
  |some mx=>match r.ty,co x with
   | .slice u, .rv (.cv ⟨.slice u',xs⟩)=>match hi with
     |some hx=>match iE av 0 lo,iE av 0 (some hx),iE av 0 (some mx) with
      |some l,some h,some m=> .fi (Nat.beq u.size u'.size&&di (List.length xs) l h&&decide (h≤m)&&decide (m≤List.length xs)) (Dc (.slice u') (cut xs l h))
      |_,_,_=> .fail
     |none=> .fail
   |_,_=> .fail
 |none=> .fail
def wV:AV→Bool
 | .rv (.own _)=>true
 |_=>false
def Bw (rows:List fJ)(av:Operand→AV)(t:TypeId)(parts:List (Nat×Operand)):Q T cn:=match jn rows t with
 |some r=>match r.ty with
  | .st u=>jt (fun cs=>pv (.rv (.agg cs))) (partsOf av r.qw parts (W9 u))
  |_=> .fail
 |none=> .fail
def je (bytes:Nat)(l c:Int):Bool:=decide (0≤l)&&decide (l≤c)&&decide ((bytes:Int)*c≤140737488355328)
def aG (bytes size n m:Nat):Bool:=Nat.blt 0 size&&Nat.ble ((n+m)*bytes) 140737488355328
def gC (T:List fJ)(t:TypeId):Option (Ty×TypeId×Nat):=
 match jn T t with
 |some r=>match r.ty with
  | .slice u=>match jn T r.elem with
    |some re=>bif Nat.blt 0 re.bytes then some (u,r.elem,re.bytes) else none
    |none=>none
  |_=>none
 |none=>none
def LA (s:Option Site)(u:Ty):Ty:=match s,u with
 |some .px, .slice v=> .px v
 |_,u=>u
def II (s:Option Site):Option Nat:=match s with
 |some (.heap h)=>some h
 |_=>none
def acV (T:List fJ)(t:TypeId):Option Nat:=
 match jn T t with
 |some r=>match r.ty with
  | .ptr h=>some h
  |_=>none
 |none=>none
def YO (T:cG)(h:Nat)(hr:aV):Bool:=Nat.beq hr.e (T.ht h).e&&Nat.beq hr.k (T.ht h).k&&decide (hr.t=(T.ht h).t)
def newRow (d:Option Tmp)(row:Row):Q T cn:=match d with
 |some d=> .qg d (.ret (.rv (.own d), .mI [.row d row]))
 |none=> .fail
def zS (d:Option Tmp)(x:BX):Q T cn:=match d with
 |some d=> .qh d (.ret (.box d 0, .mI [.box d x]))
 |none=> .fail
def xB (h:Nat)(hr:aV)(xs:List (Option (List hr.t.den)))(l:List hr.t.den):Q T cn:=
 .fi (hr.w&&Nat.beq hr.k 0) <| .ret (.rv (.cv ⟨.ref h,(List.length xs+1:Nat)⟩), .mI [.heap h ⟨hr.e,hr.t,hr.k,hr.w,xs++[some l]⟩])
def Mk (h:Nat)(hr:aV)(x:hr.t.den):Q T cn:=
 .fi (hr.w&&Nat.beq hr.k 1) <| .ret (.rv (.cv ⟨.ptr h,(List.length hr.xs+1:Nat)⟩), .mI [.heap h ⟨hr.e,hr.t,hr.k,hr.w,hr.xs++[some [x]]⟩])
def acW (t:Ty)(y:t.den)(off:Nat)(vs:List CV):Option t.den:=vh [] t (Gs (flat t y) off vs)
def Pn (h n i off:Nat)(vs:List CV):Q T cn:= .heap h fun hr=> .opt (ai hr.xs n) fun l=> .opt (l[i]?) fun y=> .opt (acW hr.t y off vs) fun y'=>
 .fi (hr.w&&Nat.ble (off+vs.length) hr.t.size) (.ret (.nil, .mI [.heap h ⟨hr.e,hr.t,hr.k,hr.w,ik hr.xs n (l.set i y')⟩]))
def BX.one:BX→Bool
 | .cells cs=>Nat.beq cs.length 1
 |_=>true
def IJ (x:AV)(vs:List CV):Q T cn:=match x with
 | .box b off=> .box b fun bx=>match bx with
   | .cells cs=> .fi (Nat.ble (off+vs.length) cs.length) (.ret (.nil, .mI [.box b (.cells (Gs cs off vs))]))
   |_=> .fi (Nat.beq off 0&&Nat.beq vs.length 1) (.ret (.nil, .mI [.box b (.cells vs)]))
 | .ND q sz i off=> .row q fun row=> .opt (row.xs[i]?) fun y=> .opt (acW row.t y off vs) fun y'=>
   .fi (Nat.ble (off+vs.length) row.t.size) (.ret (.nil, .mI [.IH q ⟨row.e,row.t,row.xs.set i y'⟩]))
 | .hel h n i off=>Pn h n i off vs
 | .rv (.cv ⟨.ptr h,n⟩)=>Pn h n 0 0 vs
 |_=> .fail
def appended (t:Ty)(x:AV)(k:List t.den→Q T cn):Q T cn:=match co x with
 | .rv (.cv ⟨.ref h,n⟩)=> .heap h fun hr=> .opt (ai hr.xs n) fun l=> .opt ((cQ (.slice t) [⟨.slice hr.t,l⟩]).map (·.1)) k
 | .rv (.cv c)=> .opt ((cQ (.slice t) [c]).map (·.1)) k
 | .rv (.own q)=> .row q fun row=> .opt ((cQ (.slice t) [⟨.slice row.t,row.xs⟩]).map (·.1)) k
 | .lit (.slice none 0 0)=>k []
 |_=> .fail
def agC:CV→CV→Bool
 | ⟨.int i,a⟩,⟨.int j,b⟩=>decide (i=j)&&(a:Int)==b
 | ⟨.bool,a⟩,⟨.bool,b⟩=>(a:Bool)==b
 | ⟨.fn,a⟩,⟨.fn,b⟩=>Nat.beq a b
 |_,_=>false
def Xc:List CV→List CV→Bool
 | [],[]=>true
 |a::r,b::s=>agC a b&&Xc r s
 |_,_=>false
def Po:AV→Option (FuncId×List Hv)
 | .fn f aQ=>some (f,aQ)
 | .rv (.cv ⟨.fn,n⟩)=>match (n:Nat) with
   |f+1=>some (f,[])
   |0=>none
 |_=>none
def VA:Hv→AV
 | .box b=> .box b 0
 | .pg cs=> .pg cs
def agD:nK→AV→Bool
 | .fn f _,a=>match Po a with
   |some (g,_)=>Nat.beq f g
   |none=>false
 | .c cs, .rv (.agg cs')=>Xc cs cs'
 | .c _,_=>false
 |_,_=>true
def fits:List nK→List AV→Bool
 | [],[]=>true
 |t::ts,a::as=>agD t a&&fits ts as
 |_,_=>false
def pick (T:cG)(avs:List AV):List Nat→Option Nat
 | []=>none
 |v::vs=>bif fits (T.sig v).args avs then some v else pick T avs vs
def Su (T:cG)(s:Option Site)(f:FuncId)(avs:List AV):Option Nat:=match s with
 |some (.vid v)=>bif Nat.beq (T.real v) f then some v else none
 |_=>match pick T avs (T.ajE f) with
  |some v=>bif Nat.beq (T.real v) f then some v else none
  |none=>none
def IK (t:Ty)(k:t.den→Q T cn):Hv→Q T cn
 | .box b=> .box b fun bx=>match bx with
   | .cells cs=> .opt (Bi t cs) k
   | .own q=> .row q fun row=> .opt ((cQ t [⟨.slice row.t,row.xs⟩]).map (·.1)) k
   | .nil=> .fail
 | .pg cs=> .opt (Bi t cs) k
def yr:(ts:List Ty)→List Hv→(rU ts→Q T cn)→Q T cn
 | [],[],k=>k ()
 | [t],[c],k=>IK t k c
 |t::u::ts,c::cs,k=>IK t (fun x=>yr (u::ts) cs fun y=>k (x,y)) c
 |_,_,_=> .fail
def Pp:AV→Bool
 | .rv (.cv ⟨.ref _,_⟩)=>true
 | .rv (.agg cs)=>cs.any fun | ⟨.ref _,_⟩=>true |_=>false
 |_=>false
def abg:Ty→Bool
 | .ref _=>true
 |_=>false
def Br:List Nat→List aV→(List aV→Q T cn)→Q T cn
 | [],acc,k=>k acc.reverse
 |h::hs,acc,k=> .heap h fun hr=>Br hs (hr::acc) k
def aeg (dg:Bool)(nh:Nat)(hout:List Nat)(p:nK)(a:AV)(k:p.den→Q T cn):Q T cn:=match p,k with
 | .v t,k=>match a with
   | .rv (.own q)=> .fi dg (.row q fun row=> .opt ((cQ t [⟨.slice row.t,row.xs⟩]).map (·.1)) k)
   |a=>bif Pp a&& !(abg t)&&dg then
     Br (List.range nh) [] fun hs=> .opt (typed (hs.zipIdx.map fun p=>bif hout.any (Nat.beq p.2) then ⟨p.1.e,p.1.t,p.1.k,p.1.w,[]⟩ else p.1) t a) k
    else .opt (typed [] t a) k
 | .fn f ts,k=>match Po a with
   |some (g,aQ)=> .fi (Nat.beq f g&&(dg||aQ.isEmpty)) (yr ts aQ k)
   |none=> .fail
 | .c cs,k=> .fi (agD (.c cs) a) (k ())
 | .rp t,k=>match a with
   | .box b 0=> .fi dg (IK t k (.box b))
   | .pg cs=>IK t k (.pg cs)
   |_=> .fail
 | .bx _,_=> .fail
 | .Ly,_=> .fail
def LB (dg:Bool)(nh:Nat)(hout:List Nat):(ps:List nK)→List AV→(Gq ps→Q T cn)→Q T cn
 | [],[],k=>k ()
 | [p],[a],k=>aeg dg nh hout p a k
 |p::q::ps,a::as,k=>aeg dg nh hout p a fun x=>LB dg nh hout (q::ps) as fun y=>k (x,y)
 |_,_,_=> .fail
def Sw (T:cG)(wr:List Nat):(hs:List Nat)→(En T hs→Q T cn)→Q T cn
 | [],k=>k ()
 | [h],k=> .heap h fun hr=> .fi ((hr.w|| !(wr.any (Nat.beq h)))&&Nat.beq hr.e (T.ht h).e&&Nat.beq hr.k (T.ht h).k) (if e:hr.t=(T.ht h).t then k (QA e hr.xs) else .fail)
 |h::i::r,k=> .heap h fun hr=> .fi ((hr.w|| !(wr.any (Nat.beq h)))&&Nat.beq hr.e (T.ht h).e&&Nat.beq hr.k (T.ht h).k) (if e:hr.t=(T.ht h).t then Sw T wr (i::r) fun y=>k (QA e hr.xs,y) else .fail)
def As (d:Nat):(ts:List Mg)→rU (ts.map (·.1))→List RV
 | [],_=>[]
 | [(t,some e)],x=>[.own d]
 | [(.st t,none)],x=>[.agg (flat t x)]
 | [(t,none)],x=>[.cv ⟨t,x⟩]
 | (t,some e)::u::ts,x=> .own d::As (d+1) (u::ts) x.2
 | (.st t,none)::u::ts,x=> .agg (flat t x.1)::As (d+1) (u::ts) x.2
 | (t,none)::u::ts,x=> .cv ⟨t,x.1⟩::As (d+1) (u::ts) x.2
def ownRow (t:Ty)(e:TypeId)(x:t.den):Option Row:=
 match t,x with
 | .slice t',xs=>some ⟨e,t',xs⟩
 |_,_=>none
def YP:List RV→AV
 | [x]=> .rv x
 |l=> .tup l
def yt (d:Nat):(ts:List Mg)→rU (ts.map (·.1))→(List TU→Q T cn)→Q T cn
 | [],_,k=>k []
 | [(t,some e)],x,k=>match ownRow t e x with
   |some row=> .qg d (k [.row d row])
   |none=> .fail
 | [(t,none)],x,k=>k []
 | (t,some e)::u::ts,x,k=>match ownRow t e x.1 with
   |some row=> .qg d (yt (d+1) (u::ts) x.2 fun us=>k (.row d row::us))
   |none=> .fail
 | (t,none)::u::ts,x,k=>yt (d+1) (u::ts) x.2 k
def E4 (d:Nat):(ts:List Ty)→rU ts→(List TU→List Hv→Q T cn)→Q T cn
 | [],_,k=>k [] []
 | [t],x,k=> .qh d (k [.box d (.cells (flat t x))] [.box d])
 |t::u::ts,x,k=> .qh d (E4 (d+1) (u::ts) x.2 fun us cs=>k (.box d (.cells (flat t x.1))::us) (.box d::cs))
def NG (d:Option Tmp):Nat:=1000+16*d.getD 0
def zU (T:cG):(hs:List Nat)→En T hs→List TU
 | [],_=>[]
 | [h],x=>[.heap h ⟨(T.ht h).e,(T.ht h).t,(T.ht h).k,true,x⟩]
 |h::i::r,x=> .heap h ⟨(T.ht h).e,(T.ht h).t,(T.ht h).k,true,x.1⟩::zU T (i::r) x.2
def agE (T:cG)(d:Nat)(s:IE)(y:Mh s)(us:List TU):Q T cn:=match s,y with
 | ⟨_,res,none,_,none⟩,y=>yt d res y fun vs=> .ret (YP (As d res y), .mI (us++vs))
 | ⟨_,_,some (f,ts),_,none⟩,y=>E4 d ts y fun vs cs=> .ret (.fn f cs, .mI (us++vs))
 |_,_=> .fail
def IL (T:cG)(av:Operand→AV)(st:Option Site)(dst:Option Tmp)(f:FuncId)(aQ:List Hv)(args:List Operand):Q T cn:=
 let avs:=args.map av++aQ.map VA
 match Su T st f avs with
 |some v=>
  let s:=T.sig v
  LB (j9 T s) T.ae.length s.hout s.args avs fun x=>
  Sw T s.hout s.hin fun h=> .opt (IF x s.hin (some h)) fun xh=> .call v xh fun yh=>
  agE T (NG dst) s (vd _ yh) (zU T s.hout (Eo _ yh))
 |none=> .fail
def qx:(t:Ty)→List AV→Option t.den
 | .unit,[]=>some ()
 | .pair a b,x::r=>match typed [] a x with
   |some v=>match qx b r with
    |some u=>some (v,u)
    |none=>none
   |none=>none
 |_,_=>none
def Dk (T:cG)(av:Operand→AV)(sites:List (Nat×Site))(o:Oper):Q T cn:=
 let st:=o.dst.bind (look sites)
 match o.op with
 | .move x=>Lz T.rows o.type (av x)
 | .assign x=>match av x,o.dst with
   | .rv (.own r),some d=> .all fun σ=> .ret (.rv (.own d), .set (bif Nat.beq r d then σ else (σ.freeze d).rename r d))
   | .lit (.slice none 0 0),some d=>match II st with
     |some h=>pv (.rv (.cv ⟨.ref h,(0:Nat)⟩))
     |none=>match gC T.rows o.type with
      |some (u,e,_)=> .all fun σ=> .ret (.rv (.own d), .set {(σ.freeze d) with rows:=put (σ.freeze d).rows d ⟨e,u,[]⟩})
      |none=>Lz T.rows o.type (.lit (.slice none 0 0))
   |a,_=>Lz T.rows o.type (co a)
 | .pick c a b=>match av c with
   | .rv (.cv ⟨.bool,t⟩)=> .ite t (pv (av a)) (pv (av b))
   |_=> .fail
 | .nilCheck x=>match av x with
   | .rv (.cv ⟨.ptr h,n⟩)=> .fi (!(Nat.beq n 0)) (pv (.rv (.cv ⟨.ptr h,n⟩)))
   | .box b off=>pv (.box b off)
   | .ND r sz i off=>pv (.ND r sz i off)
   | .pg cs=>pv (.pg cs)
   | .hel h n i off=>pv (.hel h n i off)
   |_=> .fail
 | .load t x=>Vy T.rows t (av x)
 | .binOp op xt x y _=>match jn T.rows xt with
   |some r=>match r.ty with
    | .bool=>aed op (av x) (av y)
    | .int _ | .str=>aec op (av x) (av y)
    | .st t=> .fi (T.eqs.any (Nat.beq xt)) (agB t op (av x) (av y))
    |ty=>aee ty op (av x) (av y)
   |none=> .fail
 | .unOp op _ x=>match op,av x with
   | .not, .rv (.cv ⟨.bool,b⟩)=>Dc .bool (!b)
   | .neg, .rv (.cv ⟨.int i,a⟩)=>Dc (.int i) (i.wrap (0 - a))
   |_,_=> .fail
 | .convert s d x=>Vz T.rows s d (av x)
 | .fieldAddr s x f=>Pm T.rows s (av x) f
 | .indexAddr t x i=>Pl T.rows t (av x) (av i)
 | .index t x i=>match jn T.rows t with
   |some r=>match r.ty,av i,av x with
    | .str, .rv (.cv ⟨.int _,n⟩), .rv (.cv ⟨.str,s⟩)=> .opt (zQ s n) fun b=>Dc (.int .u8) b
    |_,_,_=> .fail
   |none=> .fail
 | .extract x i=>match av x with
   | .tup l=>jt (fun v=>pv (.rv v)) l[i]?
   |_=> .fail
 | .makeFunc (.func f) first captured=>match first.toList with
   | []=>jt (fun aQ=>pv (.fn f aQ)) (lH (fun x=>match av x with
     | .box b 0=>some (.box b)
     | .pg cs=>some (.pg cs)
     |_=>none) captured.toList)
   |_=> .fail
 | .slice t x lo hi mx=>match av x with
   | .rv (.own q)=>match lo,hi,mx with
     |none,some h,none=>match gC T.rows t,av h with
      |some (u,e,_), .rv (.cv ⟨.int _,h⟩)=> .row q fun row=> .fi (Nat.beq u.size row.t.size&&di row.xs.length 0 h) (match o.dst with
       |some d=> .all fun σ=>match look (σ.bl q).rows d with
        |none=> .ret (.rv (.own d), .set {(σ.bl q) with rows:=put (σ.bl q).rows d ⟨row.e,row.t,row.xs.take h.toNat⟩})
        |some _=> .fail
       |none=> .fail)
      |_,_=> .fail
     |_,_,_=> .row q fun row=> .all fun σ=>(vi T.rows av t (.rv (.cv ⟨.slice row.t,row.xs⟩)) lo hi mx).map fun p=>(p.1, .set (σ.freeze q))
   | .rv (.cv ⟨.ref h,n⟩)=>match lo,hi,mx with
     |none,some y,none=>match gC T.rows t,av y with
      |some _, .rv (.cv ⟨.int _,y⟩)=> .heap h fun hr=> .opt (ai hr.xs n) fun l=> .fi (di l.length 0 y)
        (.ite (Nat.beq n 0) (pv (.rv (.cv ⟨.ref h,n⟩))) (xB h hr (dh hr.xs n) (l.take y.toNat)))
      |_,_=> .fail
     |_,_,_=> .fail
   |a=>vi T.rows av t a lo hi mx
 | .build t parts=>let xs:=parts.toList.map (·.2)
   bif xs.any (fun x=>wV (av x)) then .all fun σ=>(Bw T.rows (σ.ve xs).av t parts.toList).map fun p=>(p.1, .set (σ.ve xs))
   else Bw T.rows av t parts.toList
 | .buildSlice t len parts=>let xs:=parts.toList.map (·.2)
   match gC T.rows t with
   |some (u0,e,_)=>match II st with
    |some h=> .heap h fun hr=> .fi (Nat.beq e hr.e&&YO T h hr&&Nat.ble (len*hr.t.size) 16777216&&Nat.ble len 16777216) (.opt (elems av hr.t parts.toList (List.replicate len hr.t.zero)) fun ys=>xB h hr hr.xs ys)
    |none=>let u:=LA st u0
     .fi (Nat.ble (len*u.size) 16777216&&Nat.ble len 16777216) (bif xs.any (fun x=>wV (av x)) then
      .all fun σ=> .opt (elems (σ.ve xs).av u parts.toList (List.replicate len u.zero)) fun ys=>match o.dst with
       |some d=>match look (σ.ve xs).rows d with
        |none=> .ret (.rv (.own d), .set {(σ.ve xs) with rows:=put (σ.ve xs).rows d ⟨e,u,ys⟩})
        |some _=> .fail
       |none=> .fail
      else .opt (elems av u parts.toList (List.replicate len u.zero)) fun ys=>newRow o.dst ⟨e,u,ys⟩)
   |none=> .fail
 | .makeSlice t l c=>match gC T.rows t,av l,av c with
   |some (u0,e,bytes), .rv (.cv ⟨.int _,l⟩), .rv (.cv ⟨.int _,c⟩)=> .fi (je bytes l c) (match II st with
    |some h=> .heap h fun hr=> .fi (Nat.beq e hr.e&&YO T h hr) (xB h hr hr.xs (List.replicate l.toNat hr.t.zero))
    |none=>let u:=LA st u0
     newRow o.dst ⟨e,u,List.replicate l.toNat u.zero⟩)
   |_,_,_=> .fail
 | .alloc t=>match jn T.rows t with
   |some r=>match acV T.rows o.type with
    |some h=> .heap h fun hr=> .fi (Nat.beq hr.e t&&YO T h hr) (Mk h hr hr.t.zero)
    |none=>match r.ty,gC T.rows t,o.dst with
     | .slice _,some (u,e,_),some d=> .qh d (.qg d (.ret (.box d 0, .mI [.box d (.own d), .row d ⟨e,u,[]⟩])))
     |_,_,_=>zS o.dst (.cells (W9 r.ty))
   |none=> .fail
 | .box t v=>match jn T.rows t with
   |some r=>match av v with
    | .rv (.own q)=> .row q fun row=> .all fun σ=>match o.dst with
      |some d=>match look σ.boxes d with
       |none=> .ret (.box d 0, .set {(σ.freeze q) with boxes:=put (σ.freeze q).boxes d (.cells [⟨.slice row.t,row.xs⟩])})
       |some _=> .fail
      |none=> .fail
    |a=>jt (fun vs=> .fi (Nat.beq vs.length r.ty.size) (match acV T.rows o.type with
     |some h=> .heap h fun hr=> .fi (Nat.beq hr.e t) (.opt (vh [] hr.t vs) fun x=>Mk h hr x)
     |none=>zS o.dst (.cells vs))) (cells r.ty a)
   |none=> .fail
 | .store t x v=>match jn T.rows t with
   |some r=>match av v,av x with
    | .rv (.own q), .box b 0=> .box b fun bx=> .fi (bx.one&&Nat.beq r.ty.size 1) <| .all fun σ=>
      bif Nat.beq q b then .ret (.nil, .set {σ with boxes:=put σ.boxes b (.own b)})
      else .ret (.nil, .set {((σ.freeze b).rename q b) with boxes:=put ((σ.freeze b).rename q b).boxes b (.own b)})
    | .rv (.own q),_=> .all fun σ=>(Q.on (σ.freeze q) (jt (fun vs=> .fi (Nat.beq vs.length r.ty.size) (IJ ((σ.freeze q).av x) vs)) (cells r.ty ((σ.freeze q).av v)))).map fun p=>(p.1,match p.2 with
      | .mI us=> .set ((σ.freeze q).app us)
      | .set ag=> .set ag)
    | .lit (.slice none 0 0), .box b 0=>match gC T.rows t with
      |some (u,e,_)=> .box b fun bx=> .fi bx.one <| .all fun σ=> .ret (.nil, .set {(σ.freeze b) with rows:=put (σ.freeze b).rows b ⟨e,u,[]⟩,boxes:=put (σ.freeze b).boxes b (.own b)})
      |none=> .fail
    |a,x=>jt (fun vs=> .fi (Nat.beq vs.length r.ty.size) (IJ x vs)) (cells r.ty a)
   |none=> .fail
 | .call {callee:= .builtin .len,args,argTypes}=>match args.toList,argTypes.toList with
   | [x],[t]=>match jn T.rows t with
     |some r=>aef r.ty (av x)
     |none=> .fail
   |_,_=> .fail
 | .call {callee:= .builtin .max,args, .. }=>match args.toList with
   | [x,y]=>match av x,av y with
     | .rv (.cv ⟨.int i,a⟩), .rv (.cv ⟨.int _,b⟩)=>Dc (.int i) (bif decide (b>a) then b else a)
     |_,_=> .fail
   |_=> .fail
 | .call {callee:= .builtin .min,args, .. }=>match args.toList with
   | [x,y]=>match av x,av y with
     | .rv (.cv ⟨.int i,a⟩), .rv (.cv ⟨.int _,b⟩)=>Dc (.int i) (bif decide (b<a) then b else a)
     |_,_=> .fail
   |_=> .fail
 | .call {callee:= .builtin .append,args,argTypes}=>match args.toList,argTypes.toList with
   | [s,x],[t,tx]=> .fi (Nat.beq t tx||(gC T.rows tx).isSome) (match gC T.rows t with
     |some (u,e,bytes)=>match av s with
      | .rv (.own r)=> .row r fun row=> .fi (match av x with | .rv (.own q)=> !(Nat.beq q r) |_=>true) (appended row.t (av x) fun ys=>
        .fi (Nat.beq row.e e&&Nat.beq row.t.size u.size&&aG bytes u.size row.xs.length ys.length) (match o.dst with
         |some d=> .all fun σ=>match look (σ.bl r).rows d with
          |none=> .ret (.rv (.own d), .set {(σ.bl r) with rows:=put (σ.bl r).rows d ⟨e,row.t,row.xs++ys⟩})
          |some _=> .fail
         |none=> .fail))
      | .rv (.cv ⟨.ref h,n⟩)=> .heap h fun hr=> .opt (ai hr.xs n) fun l=> .fi (Nat.beq e hr.e&&Nat.beq u.size hr.t.size) (appended hr.t (av x) fun ys=>
        .fi (aG bytes hr.t.size l.length ys.length) (.ite ys.isEmpty (pv (.rv (.cv ⟨.ref h,n⟩))) (xB h hr (dh hr.xs n) (l++ys))))
      | .lit (.slice none 0 0)=>match II st with
        |some h=> .heap h fun hr=> .fi (Nat.beq e hr.e&&Nat.beq u.size hr.t.size) (appended hr.t (av x) fun ys=>
          .fi (aG bytes hr.t.size 0 ys.length) (.ite ys.isEmpty (pv (.rv (.cv ⟨.ref h,(0:Nat)⟩))) (xB h hr hr.xs ys)))
        |none=>appended u (av x) fun ys=> .fi (aG bytes u.size 0 ys.length) (newRow o.dst ⟨e,u,ys⟩)
      |_=> .fail
     |none=> .fail)
   |_,_=> .fail
 | .call {callee:= .value f,args, .. }=>match av f with
   | .Ly=> .all fun σ=>match σ.trace with
     | ⟨.slice t,xs⟩=> .fi (Hw t) (.opt (qx t (args.toList.map av)) fun x=> .ret (.rv (.cv ⟨.bool,true⟩), .set {σ with trace:=⟨.slice t,xs++[x]⟩}))
     |_=> .fail
   |a=>match Po a with
    |some (f,aQ)=>bif args.toList.any (fun x=>wV (av x))&& !(j9 T (T.sig ((Su T st f (args.toList.map av++aQ.map VA)).getD 0))) then
      .all fun σ=>(Q.on (σ.ve args.toList) (IL T (σ.ve args.toList).av st o.dst f aQ args.toList)).map fun p=>(p.1,match p.2 with
       | .mI us=> .set ((σ.ve args.toList).app us)
       | .set ag=> .set ag)
     else IL T av st o.dst f aQ args.toList
    |none=> .fail
 |_=> .fail
def agF (T:cG)(av:Operand→AV)(st:Option Site)(o:Oper)(x:Operand):Q T cn:=
 match av x,o.dst with
  | .rv (.own r),some d=> .all fun σ=> .ret (.rv (.own d), .set (bif Nat.beq r d then σ else (σ.freeze d).rename r d))
  | .lit (.slice none 0 0),some d=>match II st with
    |some h=>pv (.rv (.cv ⟨.ref h,(0:Nat)⟩))
    |none=>match gC T.rows o.type with
     |some (u,e,_)=> .all fun σ=> .ret (.rv (.own d), .set {(σ.freeze d) with rows:=put (σ.freeze d).rows d ⟨e,u,[]⟩})
     |none=>Lz T.rows o.type (.lit (.slice none 0 0))
  |a,_=>Lz T.rows o.type (co a)
def alW (T:cG)(av:Operand→AV)(st:Option Site)(o:Oper)(c:Operand)(a:Operand)(b:Operand):Q T cn:=
 match av c with
  | .rv (.cv ⟨.bool,t⟩)=> .ite t (pv (av a)) (pv (av b))
  |_=> .fail
def abh (T:cG)(av:Operand→AV)(st:Option Site)(o:Oper)(x:Operand):Q T cn:=
 match av x with
  | .rv (.cv ⟨.ptr h,n⟩)=> .fi (!(Nat.beq n 0)) (pv (.rv (.cv ⟨.ptr h,n⟩)))
  | .box b off=>pv (.box b off)
  | .ND r sz i off=>pv (.ND r sz i off)
  | .pg cs=>pv (.pg cs)
  | .hel h n i off=>pv (.hel h n i off)
  |_=> .fail
def ajG (T:cG)(av:Operand→AV)(st:Option Site)(o:Oper)(op:BinOp)(xt:TypeId)(x:Operand)(y:Operand):Q T cn:=
 match jn T.rows xt with
  |some r=>match r.ty with
   | .bool=>aed op (av x) (av y)
   | .int _ | .str=>aec op (av x) (av y)
   | .st t=> .fi (T.eqs.any (Nat.beq xt)) (agB t op (av x) (av y))
   |ty=>aee ty op (av x) (av y)
  |none=> .fail
def alX (T:cG)(av:Operand→AV)(st:Option Site)(o:Oper)(op:UnOp)(x:Operand):Q T cn:=
 match op,av x with
  | .not, .rv (.cv ⟨.bool,b⟩)=>Dc .bool (!b)
  | .neg, .rv (.cv ⟨.int i,a⟩)=>Dc (.int i) (i.wrap (0 - a))
  |_,_=> .fail
def ajH (T:cG)(av:Operand→AV)(st:Option Site)(o:Oper)(t:TypeId)(x:Operand)(i:Operand):Q T cn:=
 match jn T.rows t with
  |some r=>match r.ty,av i,av x with
   | .str, .rv (.cv ⟨.int _,n⟩), .rv (.cv ⟨.str,s⟩)=> .opt (zQ s n) fun b=>Dc (.int .u8) b
   |_,_,_=> .fail
  |none=> .fail
def aeh (T:cG)(av:Operand→AV)(st:Option Site)(o:Oper)(x:Operand)(i:Nat):Q T cn:=
 match av x with
  | .tup l=>jt (fun v=>pv (.rv v)) l[i]?
  |_=> .fail
def abi (T:cG)(av:Operand→AV)(st:Option Site)(o:Oper)(f:FuncId)(first:Array Operand)(captured:Array Operand):Q T cn:=
 match first.toList with
  | []=>jt (fun aQ=>pv (.fn f aQ)) (lH (fun x=>match av x with
    | .box b 0=>some (.box b)
    | .pg cs=>some (.pg cs)
    |_=>none) captured.toList)
  |_=> .fail
def ajI (T:cG)(av:Operand→AV)(st:Option Site)(o:Oper)(t:TypeId)(x:Operand)(lo:Option Operand)(hi:Option Operand)(mx:Option Operand):Q T cn:=
 match av x with
  | .rv (.own q)=>match lo,hi,mx with
    |none,some h,none=>match gC T.rows t,av h with
     |some (u,e,_), .rv (.cv ⟨.int _,h⟩)=> .row q fun row=> .fi (Nat.beq u.size row.t.size&&di row.xs.length 0 h) (match o.dst with
      |some d=> .all fun σ=>match look (σ.bl q).rows d with
       |none=> .ret (.rv (.own d), .set {(σ.bl q) with rows:=put (σ.bl q).rows d ⟨row.e,row.t,row.xs.take h.toNat⟩})
       |some _=> .fail
      |none=> .fail)
     |_,_=> .fail
    |_,_,_=> .row q fun row=> .all fun σ=>(vi T.rows av t (.rv (.cv ⟨.slice row.t,row.xs⟩)) lo hi mx).map fun p=>(p.1, .set (σ.freeze q))
  | .rv (.cv ⟨.ref h,n⟩)=>match lo,hi,mx with
    |none,some y,none=>match gC T.rows t,av y with
     |some _, .rv (.cv ⟨.int _,y⟩)=> .heap h fun hr=> .opt (ai hr.xs n) fun l=> .fi (di l.length 0 y)
       (.ite (Nat.beq n 0) (pv (.rv (.cv ⟨.ref h,n⟩))) (xB h hr (dh hr.xs n) (l.take y.toNat)))
     |_,_=> .fail
    |_,_,_=> .fail
  |a=>vi T.rows av t a lo hi mx
def ajJ (T:cG)(av:Operand→AV)(st:Option Site)(o:Oper)(t:TypeId)(parts:Array (Nat×Operand)):Q T cn:=
 let xs:=parts.toList.map (·.2)
  bif xs.any (fun x=>wV (av x)) then .all fun σ=>(Bw T.rows (σ.ve xs).av t parts.toList).map fun p=>(p.1, .set (σ.ve xs))
  else Bw T.rows av t parts.toList
def Xd (T:cG)(av:Operand→AV)(st:Option Site)(o:Oper)(t:TypeId)(len:Nat)(parts:Array (Nat×Operand)):Q T cn:=
 let xs:=parts.toList.map (·.2)
  match gC T.rows t with
  |some (u0,e,_)=>match II st with
   |some h=> .heap h fun hr=> .fi (Nat.beq e hr.e&&YO T h hr&&Nat.ble (len*hr.t.size) 16777216&&Nat.ble len 16777216) (.opt (elems av hr.t parts.toList (List.replicate len hr.t.zero)) fun ys=>xB h hr hr.xs ys)
   |none=>let u:=LA st u0
    .fi (Nat.ble (len*u.size) 16777216&&Nat.ble len 16777216) (bif xs.any (fun x=>wV (av x)) then
     .all fun σ=> .opt (elems (σ.ve xs).av u parts.toList (List.replicate len u.zero)) fun ys=>match o.dst with
      |some d=>match look (σ.ve xs).rows d with
       |none=> .ret (.rv (.own d), .set {(σ.ve xs) with rows:=put (σ.ve xs).rows d ⟨e,u,ys⟩})
       |some _=> .fail
      |none=> .fail
     else .opt (elems av u parts.toList (List.replicate len u.zero)) fun ys=>newRow o.dst ⟨e,u,ys⟩)
  |none=> .fail
def YQ (T:cG)(av:Operand→AV)(st:Option Site)(o:Oper)(t:TypeId)(l:Operand)(c:Operand):Q T cn:=
 match gC T.rows t,av l,av c with
  |some (u0,e,bytes), .rv (.cv ⟨.int _,l⟩), .rv (.cv ⟨.int _,c⟩)=> .fi (je bytes l c) (match II st with
   |some h=> .heap h fun hr=> .fi (Nat.beq e hr.e&&YO T h hr) (xB h hr hr.xs (List.replicate l.toNat hr.t.zero))
   |none=>let u:=LA st u0
    newRow o.dst ⟨e,u,List.replicate l.toNat u.zero⟩)
  |_,_,_=> .fail
def ajK (T:cG)(av:Operand→AV)(st:Option Site)(o:Oper)(t:TypeId):Q T cn:=
 match jn T.rows t with
  |some r=>match acV T.rows o.type with
   |some h=> .heap h fun hr=> .fi (Nat.beq hr.e t&&YO T h hr) (Mk h hr hr.t.zero)
   |none=>match r.ty,gC T.rows t,o.dst with
    | .slice _,some (u,e,_),some d=> .qh d (.qg d (.ret (.box d 0, .mI [.box d (.own d), .row d ⟨e,u,[]⟩])))
    |_,_,_=>zS o.dst (.cells (W9 r.ty))
  |none=> .fail
def an1 (T:cG)(av:Operand→AV)(st:Option Site)(o:Oper)(t:TypeId)(v:Operand):Q T cn:=
 match jn T.rows t with
  |some r=>match av v with
   | .rv (.own q)=> .row q fun row=> .all fun σ=>match o.dst with
     |some d=>match look σ.boxes d with
      |none=> .ret (.box d 0, .set {(σ.freeze q) with boxes:=put (σ.freeze q).boxes d (.cells [⟨.slice row.t,row.xs⟩])})
      |some _=> .fail
     |none=> .fail
   |a=>jt (fun vs=> .fi (Nat.beq vs.length r.ty.size) (match acV T.rows o.type with
    |some h=> .heap h fun hr=> .fi (Nat.beq hr.e t) (.opt (vh [] hr.t vs) fun x=>Mk h hr x)
    |none=>zS o.dst (.cells vs))) (cells r.ty a)
  |none=> .fail
def ajL (T:cG)(av:Operand→AV)(st:Option Site)(o:Oper)(t:TypeId)(x:Operand)(v:Operand):Q T cn:=
 match jn T.rows t with
  |some r=>match av v,av x with
   | .rv (.own q), .box b 0=> .box b fun bx=> .fi (bx.one&&Nat.beq r.ty.size 1) <| .all fun σ=>
     bif Nat.beq q b then .ret (.nil, .set {σ with boxes:=put σ.boxes b (.own b)})
     else .ret (.nil, .set {((σ.freeze b).rename q b) with boxes:=put ((σ.freeze b).rename q b).boxes b (.own b)})
   | .rv (.own q),_=> .all fun σ=>(Q.on (σ.freeze q) (jt (fun vs=> .fi (Nat.beq vs.length r.ty.size) (IJ ((σ.freeze q).av x) vs)) (cells r.ty ((σ.freeze q).av v)))).map fun p=>(p.1,match p.2 with
     | .mI us=> .set ((σ.freeze q).app us)
     | .set ag=> .set ag)
   | .lit (.slice none 0 0), .box b 0=>match gC T.rows t with
     |some (u,e,_)=> .box b fun bx=> .fi bx.one <| .all fun σ=> .ret (.nil, .set {(σ.freeze b) with rows:=put (σ.freeze b).rows b ⟨e,u,[]⟩,boxes:=put (σ.freeze b).boxes b (.own b)})
     |none=> .fail
   |a,x=>jt (fun vs=> .fi (Nat.beq vs.length r.ty.size) (IJ x vs)) (cells r.ty a)
  |none=> .fail
def aei (T:cG)(av:Operand→AV)(st:Option Site)(o:Oper)(args:Array Operand)(argTypes:Array TypeId):Q T cn:=
 match args.toList,argTypes.toList with
  | [x],[t]=>match jn T.rows t with
    |some r=>aef r.ty (av x)
    |none=> .fail
  |_,_=> .fail
def aej (T:cG)(av:Operand→AV)(st:Option Site)(o:Oper)(args:Array Operand):Q T cn:=
 match args.toList with
  | [x,y]=>match av x,av y with
    | .rv (.cv ⟨.int i,a⟩), .rv (.cv ⟨.int _,b⟩)=>Dc (.int i) (bif decide (b>a) then b else a)
    |_,_=> .fail
  |_=> .fail
def aek (T:cG)(av:Operand→AV)(st:Option Site)(o:Oper)(args:Array Operand):Q T cn:=
 match args.toList with
  | [x,y]=>match av x,av y with
    | .rv (.cv ⟨.int i,a⟩), .rv (.cv ⟨.int _,b⟩)=>Dc (.int i) (bif decide (b<a) then b else a)
    |_,_=> .fail
  |_=> .fail
def Xe (T:cG)(av:Operand→AV)(st:Option Site)(o:Oper)(args:Array Operand)(argTypes:Array TypeId):Q T cn:=
 match args.toList,argTypes.toList with
  | [s,x],[t,tx]=> .fi (Nat.beq t tx||(gC T.rows tx).isSome) (match gC T.rows t with
    |some (u,e,bytes)=>match av s with
     | .rv (.own r)=> .row r fun row=> .fi (match av x with | .rv (.own q)=> !(Nat.beq q r) |_=>true) (appended row.t (av x) fun ys=>
       .fi (Nat.beq row.e e&&Nat.beq row.t.size u.size&&aG bytes u.size row.xs.length ys.length) (match o.dst with
        |some d=> .all fun σ=>match look (σ.bl r).rows d with
         |none=> .ret (.rv (.own d), .set {(σ.bl r) with rows:=put (σ.bl r).rows d ⟨e,row.t,row.xs++ys⟩})
         |some _=> .fail
        |none=> .fail))
     | .rv (.cv ⟨.ref h,n⟩)=> .heap h fun hr=> .opt (ai hr.xs n) fun l=> .fi (Nat.beq e hr.e&&Nat.beq u.size hr.t.size) (appended hr.t (av x) fun ys=>
       .fi (aG bytes hr.t.size l.length ys.length) (.ite ys.isEmpty (pv (.rv (.cv ⟨.ref h,n⟩))) (xB h hr (dh hr.xs n) (l++ys))))
     | .lit (.slice none 0 0)=>match II st with
       |some h=> .heap h fun hr=> .fi (Nat.beq e hr.e&&Nat.beq u.size hr.t.size) (appended hr.t (av x) fun ys=>
         .fi (aG bytes hr.t.size 0 ys.length) (.ite ys.isEmpty (pv (.rv (.cv ⟨.ref h,(0:Nat)⟩))) (xB h hr hr.xs ys)))
       |none=>appended u (av x) fun ys=> .fi (aG bytes u.size 0 ys.length) (newRow o.dst ⟨e,u,ys⟩)
     |_=> .fail
    |none=> .fail)
  |_,_=> .fail
def YR (T:cG)(av:Operand→AV)(st:Option Site)(o:Oper)(f:Operand)(args:Array Operand):Q T cn:=
 match av f with
  | .Ly=> .all fun σ=>match σ.trace with
    | ⟨.slice t,xs⟩=> .fi (Hw t) (.opt (qx t (args.toList.map av)) fun x=> .ret (.rv (.cv ⟨.bool,true⟩), .set {σ with trace:=⟨.slice t,xs++[x]⟩}))
    |_=> .fail
  |a=>match Po a with
   |some (f,aQ)=>bif args.toList.any (fun x=>wV (av x))&& !(j9 T (T.sig ((Su T st f (args.toList.map av++aQ.map VA)).getD 0))) then
     .all fun σ=>(Q.on (σ.ve args.toList) (IL T (σ.ve args.toList).av st o.dst f aQ args.toList)).map fun p=>(p.1,match p.2 with
      | .mI us=> .set ((σ.ve args.toList).app us)
      | .set ag=> .set ag)
    else IL T av st o.dst f aQ args.toList
   |none=> .fail
def alY (T:cG)(av:Operand→AV)(st:Option Site)(o:Oper)(c:Call):Q T cn:=match c with
 | {callee:= .builtin .len,args,argTypes}=>aei T av st o args argTypes
 | {callee:= .builtin .max,args, .. }=>aej T av st o args
 | {callee:= .builtin .min,args, .. }=>aek T av st o args
 | {callee:= .builtin .append,args,argTypes}=>Xe T av st o args argTypes
 | {callee:= .value f,args, .. }=>YR T av st o f args
 |_=> .fail
def opF (T:cG)(av:Operand→AV)(sites:List (Nat×Site))(o:Oper):Q T cn:=
 let st:=o.dst.bind (look sites)
 match o.op with
 | .move x=>Lz T.rows o.type (av x)
 | .assign x=>agF T av st o x
 | .pick c a b=>alW T av st o c a b
 | .nilCheck x=>abh T av st o x
 | .load t x=>Vy T.rows t (av x)
 | .binOp op xt x y _=>ajG T av st o op xt x y
 | .unOp op _ x=>alX T av st o op x
 | .convert s d x=>Vz T.rows s d (av x)
 | .fieldAddr s x f=>Pm T.rows s (av x) f
 | .indexAddr t x i=>Pl T.rows t (av x) (av i)
 | .index t x i=>ajH T av st o t x i
 | .extract x i=>aeh T av st o x i
 | .makeFunc (.func f) first captured=>abi T av st o f first captured
 | .slice t x lo hi mx=>ajI T av st o t x lo hi mx
 | .build t parts=>ajJ T av st o t parts
 | .buildSlice t len parts=>Xd T av st o t len parts
 | .makeSlice t l c=>YQ T av st o t l c
 | .alloc t=>ajK T av st o t
 | .box t v=>an1 T av st o t v
 | .store t x v=>ajL T av st o t x v
 | .call c=>alY T av st o c
 |_=> .fail
theorem alZ (T:cG)(av:Operand→AV)(sites:List (Nat×Site))(o:Oper):opF T av sites o=Dk T av sites o:=by
 unfold opF Dk;generalize o.dst.bind (look sites)=st;cases o.op with
 |call c=>
  obtain⟨callee,args,ats⟩:=c;cases callee with
  |builtin b=>cases b<;>rfl
  |value f=>rfl
  |invoke r m=>rfl
 |makeFunc f a b=>cases f<;>rfl
 |_=>rfl
def ml.wr (k:List Nat):ml→ml
 | .M r w=> .M r (k++w)
 | .X=> .X
noncomputable def acX {α:Type}(l:List (Nat×α))(j:Nat):Option α:=List.rec (motive:=fun _=>Option α) none (fun p _ ih=>bif Nat.beq p.1 j then some p.2 else ih) l
theorem SA {α:Type}:∀(l:List (Nat×α)) (j:Nat),acX l j=look l j
 | [],j=>rfl
 | (k,v)::r,j=>by have ih:=SA r j;unfold acX at ih ⊢;simp only[look];rw[ih]
noncomputable def agG {α:Type}(l:List (Nat×α))(j:Nat)(v:α):List (Nat×α):=List.rec (motive:=fun _=>List (Nat×α)) [(j,v)] (fun p r ih=>bif Nat.blt p.1 j then (j,v)::p::r else bif Nat.beq p.1 j then (j,v)::r else p::ih) l
theorem YS {α:Type}:∀(l:List (Nat×α)) (j:Nat) (v:α),agG l j v=Mj l j v
 | [],j,v=>rfl
 | (k,u)::r,j,v=>by have ih:=YS r j v;unfold agG at ih ⊢;simp only[Mj];rw[ih]
noncomputable def eY.avF (s:eY)(x:Operand):AV:=match s with
 | ⟨_,l,sv⟩=>match x with
   | .tmp t=>match acX l t with
     |some x=>x
     |none=> .nil
   | .const v=>ofConst v
   | .func f=> .fn f []
   | .global g=>match acX sv (gk g) with
     |some x=>x
     |none=> .nil
theorem al0 (s:eY)(x:Operand):s.avF x=s.av x:=by
 obtain⟨n,l,sv⟩:=s;cases x with
 |tmp t=>simp only[eY.avF,eY.av,nth,SA]
 |const v=>rfl
 |func f=>rfl
 |global g=>simp only[eY.avF,eY.av,SA]
noncomputable def Q.UT {α:Type}(Φ:bN T)(q:Q T α):AS→ml→(ml→α→Option R)→Option R:=
 Q.rec (motive:=fun _=>AS→ml→(ml→α→Option R)→Option R)
   (fun a _ c k=>k c a)
   (fun _ _ _=>none)
   (fun o _ ih σ c k=>o.bind fun y=>ih y σ c k)
   (fun b _ ih σ c k=>bif b then ih σ c k else none)
   (fun b _ _ KN Ig σ c k=>bif b then KN σ c k else Ig σ c k)
   (fun r _ ih σ c k=>match look σ.rows r with
    |some x=>ih x σ (c.rd (4*r)) k
    |none=>none)
   (fun r _ ih σ c k=>match look σ.rows r with
    |some x=>ih (List.length x.xs) σ (c.rd (4*r+2)) k
    |none=>none)
   (fun b _ ih σ c k=>match look σ.boxes b with
    |some x=>ih x σ (c.rd (2*b+1)) k
    |none=>none)
   (fun h _ ih σ c k=>match σ.ae[h]? with
    |some x=>ih x σ (c.rd (hk h)) k
    |none=>none)
   (fun r _ ih σ c k=>match look σ.rows r with
    |none=>ih σ (c.rd (4*r)) k
    |some _=>none)
   (fun b _ ih σ c k=>match look σ.boxes b with
    |none=>ih σ (c.rd (2*b+1)) k
    |some _=>none)
   (fun v x _ ih σ c k=>(Φ v x).bind fun y=>ih y σ c k)
   (fun _ ih σ _ k=>ih σ σ .X k)
   (fun ag _ ih _ _ k=>ih ag .X k) q
theorem ajM {α:Type}(Φ:bN T)(q:Q T α):∀(σ:AS) (c:ml) (k:ml→α→Option R),q.UT Φ σ c k=q.run Φ σ c k:=by
 induction q with
 |ret a=>intro σ c k;rfl
 |fail=>intro σ c k;rfl
 |opt o q ih=>intro σ c k;show o.bind (fun y=>(q y).UT Φ σ c k)=o.bind fun y=>(q y).run Φ σ c k;congr 1;funext y;exact ih y σ c k
 |fi b q ih=>intro σ c k;cases b<;>first |rfl |exact ih σ c k
 |ite b x y KN Ig=>intro σ c k;cases b<;>first |exact KN σ c k |exact Ig σ c k
 |row r q ih=>
  intro σ c k;show (match look σ.rows r with |some x=>(q x).UT Φ σ (c.rd (4*r)) k |none=>none)=_;simp only[Q.run];cases look σ.rows r with
  |none=>rfl
  |some x=>exact ih x σ _ k
 |len r q ih=>
  intro σ c k;show (match look σ.rows r with |some x=>(q (List.length x.xs)).UT Φ σ (c.rd (4*r+2)) k |none=>none)=_;simp only[Q.run];cases look σ.rows r with
  |none=>rfl
  |some x=>exact ih _ σ _ k
 |box b q ih=>
  intro σ c k;show (match look σ.boxes b with |some x=>(q x).UT Φ σ (c.rd (2*b+1)) k |none=>none)=_;simp only[Q.run];cases look σ.boxes b with
  |none=>rfl
  |some x=>exact ih x σ _ k
 |heap h q ih=>
  intro σ c k;show (match σ.ae[h]? with |some x=>(q x).UT Φ σ (c.rd (hk h)) k |none=>none)=_;simp only[Q.run];cases σ.ae[h]? with
  |none=>rfl
  |some x=>exact ih x σ _ k
 |qg r q ih=>
  intro σ c k;show (match look σ.rows r with |none=>q.UT Φ σ (c.rd (4*r)) k |some _=>none)=_;simp only[Q.run];cases look σ.rows r with
  |none=>exact ih σ _ k
  |some x=>rfl
 |qh b q ih=>
  intro σ c k;show (match look σ.boxes b with |none=>q.UT Φ σ (c.rd (2*b+1)) k |some _=>none)=_;simp only[Q.run];cases look σ.boxes b with
  |none=>exact ih σ _ k
  |some x=>rfl
 |call v x q ih=>intro σ c k;show (Φ v x).bind (fun y=>(q y).UT Φ σ c k)=(Φ v x).bind fun y=>(q y).run Φ σ c k;congr 1;funext y;exact ih y σ c k
 |all q ih=>intro σ c k;exact ih σ σ _ k
 |on ag q ih=>intro σ c k;exact ih ag _ k
noncomputable def agH (s:eY)(i:Nat)(v:AV):eY:=match s with
 | ⟨n,l,sv⟩=>bif Nat.blt i n then ⟨n,agG l i v,sv⟩ else ⟨n,l,sv⟩
theorem agI (s:eY)(i:Nat)(v:AV):agH s i v=Db s i v:=by obtain⟨n,l,sv⟩:=s;unfold agH Db;simp only[YS]
noncomputable def AS.SB (σ:AS)(d:Option Tmp)(v:AV):AS:=match d with
 |some d=>match σ with
  | ⟨t,rows,boxes,ae,trace,cq,sites⟩=>⟨agH t d v,rows,boxes,ae,trace,cq,sites⟩
 |none=>σ
theorem SC (σ:AS)(d:Option Tmp)(v:AV):σ.SB d v=σ.iS d v:=by
 cases d with
 |none=>rfl
 |some d=>obtain⟨t,rows,boxes,ae,trace,cq,sites⟩:=σ;simp only[AS.SB,AS.iS,agI]
def AS.al1 (σ:AS)(u:TU):AS:=match σ with
 | ⟨t,rows,boxes,ae,trace,cq,sites⟩=>match u with
   | .row q r=>⟨t,put rows q r,boxes,ae,trace,cq,sites⟩
   | .IH q r=>⟨t,put rows q r,boxes,ae,trace,cq,sites⟩
   | .box b x=>⟨t,rows,put boxes b x,ae,trace,cq,sites⟩
   | .heap h r=>⟨t,rows,boxes,ae.set h r,trace,cq,sites⟩
def AS.ajN (σ:AS):List TU→AS
 | []=>σ
 |u::us=>(σ.al1 u).ajN us
theorem acY:∀(us:List TU) (σ:AS),σ.ajN us=σ.app us
 | [],σ=>rfl
 |u::us,σ=>by
  have:σ.al1 u=σ.one u:=by obtain⟨t,rows,boxes,ae,trace,cq,sites⟩:=σ;cases u<;>rfl
  show (σ.al1 u).ajN us=(σ.one u).app us;rw[this,acY us]
noncomputable def KO (T:cG)(Φ:bN T)(σ:AS)(o:Oper)(k:ml→AS→Option R):Option R:=
 (opF T σ.tmps.avF σ.sites o).UT Φ σ (.M [] []) fun c r=>match r.2 with
  | .mI us=>k (c.wr (YN us)) ((σ.ajN us).SB o.dst r.1)
  | .set ag=>k .X (ag.SB o.dst r.1)
theorem Ki (T:cG)(Φ:bN T)(σ:AS)(o:Oper)(k:ml→AS→Option R):KO T Φ σ o k=(Dk T σ.av σ.sites o).run Φ σ (.M [] []) fun c r=>match r.2 with
  | .mI us=>k (c.wr (YN us)) ((σ.app us).iS o.dst r.1)
  | .set ag=>k .X (ag.iS o.dst r.1):=by
 unfold KO;have e:σ.tmps.avF=σ.av:=funext fun x=>al0 σ.tmps x;rw[ajM,alZ,e];simp only[acY,SC]
def AS.Ml (σ:AS)(t:Nat)(b:Bool):AS:=match σ with
 | ⟨⟨n,l,sv⟩,rows,boxes,ae,trace,cq,sites⟩=>⟨⟨n,ajF l t (.rv (.cv ⟨.bool,b⟩)),sv⟩,rows,boxes,ae,trace,cq,sites⟩
noncomputable def IM (T:cG)(Φ:bN T)(ops:Array Oper)(σ:AS)(o:Oper)(k:ml→AS→Option R):Option R:=
 match o.guard with
 |none=>KO T Φ σ o k
 |some (j,want)=>match (ops[j]?).bind (·.dst) with
  |some t=>match nth σ.tmps t with
   | .rv (.cv ⟨.bool,b⟩)=>
     bif b then (bif want then KO T Φ (σ.Ml t true) o k else k (.M [] []) ((σ.Ml t true).SB o.dst (.lit undef)))
     else (bif want then k (.M [] []) ((σ.Ml t false).SB o.dst (.lit undef)) else KO T Φ (σ.Ml t false) o k)
   | .lit (.tuple _)=>k (.M [] []) (σ.SB o.dst (.lit undef))
   |_=>none
  |none=>none
noncomputable def VB (T:cG)(Φ:bN T)(ops:Array Oper):List Oper→AS→List ml→(List ml→AS→Option R)→Option R
 | [],σ,cs,k=>k cs σ
 |o::r,σ,cs,k=>IM T Φ ops σ o fun c ag=>VB T Φ ops r ag (c::cs) k
def AS.jF (σ:AS):List Nat→AS
 | []=>σ
 |d::ds=>(σ.dN d).jF ds
def AS.YT (σ:AS)(d:Nat):AS:=match look σ.rows d with
 |none=>σ
 |some _=>σ.bl d
def AS.YU (σ:AS)(d:Nat):AS:=match look σ.boxes d with
 |none=>σ
 |some _=>σ.dN d
def AS.Pq (σ:AS):List Nat→AS
 | []=>σ
 |d::ds=>match σ.rows with
  | []=>σ
  |_=>(σ.YT d).Pq ds
def AS.Ps (σ:AS):List Nat→AS
 | []=>σ
 |d::ds=>match σ.boxes with
  | []=>σ
  |_=>(σ.YU d).Ps ds
def NH:List Oper→List Nat
 | []=>[]
 |o::r=>match o.op with
  | .alloc _ | .box .. | .buildSlice .. | .makeSlice .. | .slice .. | .call {callee:= .builtin .append, .. }=>o.dst.getD 0::NH r
  | .call {callee:= .builtin _, .. }=>NH r
  | .call _=>NG o.dst::(NG o.dst+1)::(NG o.dst+2)::(NG o.dst+3)::NH r
  |_=>NH r
def NI:List Oper→List Nat
 | []=>[]
 |o::r=>match o.op with
  | .alloc _ | .box .. =>o.dst.getD 0::NI r
  | .call {callee:= .builtin _, .. }=>NI r
  | .call _=>NG o.dst::(NG o.dst+1)::(NG o.dst+2)::(NG o.dst+3)::NI r
  |_=>NI r
def AS.ajO (σ:AS)(l:List Oper):AS:=(σ.Pq (NH l)).Ps (NI l)
def meets (a b:List Nat):Bool:=a.any fun x=>b.any fun y=>Nat.beq x y
def Gt:ml→ml→Bool
 | .M r w, .M r' w'=> !(meets w r'||meets w w'||meets r w')
 |_,_=>false
def LC (acc:List Nat)(o:Oper):Nat:=
 o.after.toList.foldr (fun e s=>bif Region.binds .any e then (s|||2^e.on)||| (acc[e.on]?).getD 0 else s) 0
def KP:List Oper→List Nat→List Nat
 | [],acc=>acc
 |o::r,acc=>KP r (acc++[LC acc o])
def Xf (ops:Array Oper)(i:Nat)(a:Oper×ml)(m:Nat)(b:Oper×ml):Bool:=
 m.testBit i||(a.1.apart ops b.1&&Gt a.2 b.2)
def SD (ops:Array Oper)(i:Nat)(a:Oper×ml):List (Oper×ml)→List Nat→Bool
 | [],_=>true
 |b::r,m::ms=>Xf ops i a m b&&SD ops i a r ms
 |_::_,[]=>false
def IN (ops:Array Oper):Nat→List (Oper×ml)→List Nat→Bool
 |_,[],_=>true
 |i,a::r,_::ms=>SD ops i a r ms&&IN ops (i+1) r ms
 |_,_::_,[]=>false
def IP:Nat→List Oper→Bool
 |_,[]=>true
 |i,o::r=>o.after.toList.all (fun e=> !(Region.binds .any e)||Nat.blt e.on i)&&IP (i+1) r
noncomputable def vj (T:cG)(Φ:bN T)(ops:Array Oper)(draw:Bool)(σ:AS)(k:AS→Option R):Option R:=
 VB T Φ ops ops.toList (σ.ajO ops.toList) [] fun cs ag=>
  bif draw then (bif IP 0 ops.toList&&IN ops 0 (ops.toList.zip cs.reverse) (KP ops.toList []) then k ag else none) else k ag
inductive Ex where
 |normal |exit (id:Nat) |ret
def loops:Code→Nat
 | .seq a b=>loops a+loops b
 | .cond _ a b=>loops a+loops b
 | .block _ c=>loops c
 | .loop c=>loops c+1
 | .rangeFunc _ _ a b=>loops a+loops b+1
 |_=>0
def lJ (h:List (Nat×Bool))(body:AS→(Ex→AS→Option R)→Option R)(k:Ex→AS→Option R):Nat→AS→Option R
 |0,_=>none
 |n+1,σ=>body σ fun e ag=>match e with
  | .normal=>lJ h body k n (ag.forget h)
  | .exit i=>k (.exit i) ag
  | .ret=>k .ret ag
def agJ:(t:Ty)→t.den→AV
 | .st t,x=> .rv (.agg (flat t x))
 |t,x=> .rv (.cv ⟨t,x⟩)
def Hy (s:eY):List Tmp→(ts:List Ty)→(jE ts).den→Option eY
 | [],[],_=>some s
 |p::ps,t::ts,x=>Hy (Db s p (agJ t x.1)) ps ts x.2
 |_,_,_=>none
def xC (σ:AS):Bool:=(σ.tmps.l.all fun p=>Nat.blt p.1 10000)&&σ.tmps.s.all fun p=>Nat.ble 1000000000 p.1
def RNG:Nat:=1000000007
def iF (ps:List Tmp)(Rx body:AS→(Ex→AS→Option R)→Option R)(σ:AS)(k:Ex→AS→Option R):Option R:=
 match σ.cq with
 | []=>none
 |r::rs=>match r with
  | ⟨ts,xs⟩=>match xs with
    | []=>k (.exit RNG) σ
    |x::xs=>match Hy σ.tmps ps ts x with
     |some s=>Rx {σ with tmps:=s,cq:=⟨ts,xs⟩::rs} fun e de=>match e with
      | .normal=>body de fun e mj=>match e with
        | .normal=>k .normal mj.back
        |_=>none
      |_=>none
     |none=>none
def fp (k:Ex→AS→Option R):Ex→AS→Option R
 | .exit _,σ=>k .normal {σ.Bv with cq:=σ.cq.tail}
 |_,_=>none
def aA (boxes:List (Nat×BX)):(ps:List nK)→List Hv→Option (Gq ps)
 | [],[]=>some ()
 | [.bx t],[.box b]=>match look boxes b with
   |some (.cells cs)=>Bi t cs
   |_=>none
 | .bx t::q::ps, .box b::cs=>match look boxes b with
   |some (.cells l)=>match Bi t l with
    |some x=>match aA boxes (q::ps) cs with
     |some y=>some (x,y)
     |none=>none
    |none=>none
   |_=>none
 |_,_=>none
def bm:List Hv→List Nat
 | []=>[]
 | .box b::r=>b::bm r
 | .pg _::r=>bm r
def wW:List Nat→Bool
 | []=>true
 |x::r=> !(r.any (Nat.beq x))&&wW r
def Gu (boxes:List (Nat×BX)):(ps:List nK)→List Hv→Option (Gq ps)
 | [.Ly],[]=>some ()
 | .Ly::q::ps,cs=>match aA boxes (q::ps) cs with
   |some y=>some ((),y)
   |none=>none
 |_,_=>none
def vk (T:cG)(Φ:bN T)(σ:AS)(f:AV)(k:Rng→List Nat→Option R):Option R:=match f with
 | .fn g aQ=>match T.ajE g with
   |v::_=>match Gu σ.boxes (T.sig v).args aQ with
    |some x=>match IF x (T.sig v).hin (Mi T σ.ae (T.sig v).hin) with
     |some xh=>(Φ v xh).bind fun yh=>bif wW (bm aQ)&&(T.sig v).ae.isEmpty&&Nat.beq (T.real v) g then match T.sig v,vd _ yh with
      | ⟨_,_,_,_,some ts⟩,y=>k ⟨ts,y⟩ (bm aQ)
      |_,_=>none
      else none
     |none=>none
    |none=>none
   | []=>none
 |_=>none
noncomputable def aJ (T:cG)(Φ:bN T)(n:Nat):Code→List (List (Nat×Bool))→AS→(Ex→AS→Option R)→Option R
 | .skip,_,σ,k=>k .normal σ
 | .region _ ops draw,_,σ,k=>vj T Φ ops draw σ (k .normal)
 | .seq a b,hs,σ,k=>aJ T Φ n a hs σ fun e ag=>match e with
   | .normal=>aJ T Φ n b (hs.drop (loops a)) ag k
   | .exit i=>k (.exit i) ag
   | .ret=>k .ret ag
 | .cond c a b,hs,σ,k=>match c with
   | .tmp t=>match nth σ.tmps t with
     | .rv (.cv ⟨.bool,x⟩)=>bif x then aJ T Φ n a hs (σ.Ml t true) k else aJ T Φ n b (hs.drop (loops a)) (σ.Ml t false) k
     |_=>none
   | .const (.bool x)=>bif x then aJ T Φ n a hs σ k else aJ T Φ n b (hs.drop (loops a)) σ k
   |_=>none
 | .block id c,hs,σ,k=>aJ T Φ n c hs σ fun e ag=>match e with
   | .normal=>k .normal ag
   | .exit i=>bif Nat.beq i id then k .normal ag else k (.exit i) ag
   | .ret=>k .ret ag
 | .loop c,hs,σ,k=>match hs with
   |h::hs'=>lJ h (fun σ k'=>aJ T Φ n c hs' σ k') k n (σ.forget h)
   | []=>none
 | .rangeFunc f ps a b,hs,σ,k=>match hs,σ.cq,σ.trace with
   |h::hs',[],⟨.unit,_⟩=>vk T Φ σ (σ.av f) fun r bs=>
     bif xC ((σ.jF bs).forget h) then
      lJ h (iF ps.toList (fun σ k'=>aJ T Φ n a hs' σ k') (fun σ k'=>aJ T Φ n b (hs'.drop (loops a)) σ k')) (fp k) n
       {(((σ.jF bs).forget h)) with cq:=[r]}.save
     else none
   |_,_,_=>none
 | .exit i,_,σ,k=>k (.exit i) σ
 | .ret,_,σ,k=>k .ret σ
 |_,_,_,_=>none
end
def SE:(ps:List nK)→Gq ps→Nat→List AV
 | [],_,_=>[]
 | [p],x,i=>[one p x i]
 |p::q::ps,x,i=>one p x.1 i::SE (q::ps) x.2 (i+1)
where
 abj:(ts:List Ty)→rU ts→List Hv
  | [],_=>[]
  | [t],x=>[.pg (flat t x)]
  |t::u::ts,x=> .pg (flat t x.1)::abj (u::ts) x.2
 one:(p:nK)→p.den→Nat→AV
  | .v t,x,_=>agJ t x
  | .fn f ts,x,_=> .fn f (abj ts x)
  | .c cs,_,_=> .rv (.agg cs)
  | .rp t,x,_=> .pg (flat t x)
  | .bx _,_,i=> .box i 0
  | .Ly,_,_=> .Ly
def dj:(ps:List nK)→Gq ps→Nat→List (Nat×BX)
 | [],_,_=>[]
 | [p],x,i=>one p x i
 |p::q::ps,x,i=>one p x.1 i++dj (q::ps) x.2 (i+1)
where
 one:(p:nK)→p.den→Nat→List (Nat×BX)
  | .bx t,x,i=>[(i, .cells (flat t x))]
  |_,_,_=>[]
def Gv (T:List fJ)(σ:AS):ResultVar→Option AV
 | .tmp t=>some (nth σ.tmps t)
 | .cell a t=>match nth σ.tmps a,jn T t with
   | .box b off,some r=>match look σ.boxes b with
     |some (.cells cs)=>mH r.ty (cs.drop off)
     |some (.own q)=>match r.ty with
      | .slice _=>bif Nat.beq off 0 then some (.rv (.own q)) else none
      |_=>none
     |_=>none
   |_,_=>none
def Xh (ae:List aV)(hin:List Nat):List aV:=ae.zipIdx.map fun p=>bif hin.any (Nat.beq p.2) then ⟨p.1.e,p.1.t,p.1.k,p.1.w,[]⟩ else p.1
def IQ (σ:AS)(hin:List Nat)(p:Mg)(a:AV):Option p.1.den:=
 match p.2,a with
 |none, .rv (.own r)=>match look σ.rows r with
  |some row=>(cQ p.1 [⟨.slice row.t,row.xs⟩]).map (·.1)
  |none=>none
 |none,a=>bif Pp a then typed (Xh σ.ae hin) p.1 a else typed [] p.1 a
 |some e, .rv (.own r)=>match look σ.rows r with
  |some row=>bif Nat.beq row.e e then (cQ p.1 [⟨.slice row.t,row.xs⟩]).map (·.1) else none
  |none=>none
 |some _,_=>none
def rV (T:List fJ)(σ:AS)(hin:List Nat):List ResultVar→(ts:List Mg)→Option (rU (ts.map (·.1)))
 | [],[]=>some ()
 | [v],[p]=>(Gv T σ v).bind (IQ σ hin p)
 |v::vs,p::q::ps=>match (Gv T σ v).bind (IQ σ hin p),rV T σ hin vs (q::ps) with
  |some x,some y=>some (x,y)
  |_,_=>none
 |_,_=>none
def ti (T:List fJ)(σ:AS):List ResultVar→List Nat
 | []=>[]
 |v::vs=>match Gv T σ v with
  |some (.rv (.own r))=>r::ti T σ vs
  |_=>ti T σ vs
def SG (l:List Mg):Bool:=l.any fun p=>p.2.isSome
def lh (boxes:List (Nat×BX)):(ts:List Ty)→List Hv→Option (rU ts)
 | [],[]=>some ()
 | [t],[.box b]=>match look boxes b with
   |some (.cells cs)=>Bi t cs
   |_=>none
 |t::u::ts, .box b::cs=>match look boxes b with
  |some (.cells l)=>match Bi t l with
   |some x=>match lh boxes (u::ts) cs with
    |some y=>some (x,y)
    |none=>none
   |none=>none
  |_=>none
 |_,_=>none
def UU (T:List fJ)(vars:List ResultVar)(s:IE)(σ:AS):Option (Mh s):=match s with
 | ⟨_,_,_,_,some ts⟩=>match vars with
   | []=>(cQ (.slice (jE ts)) [σ.trace]).map (·.1)
   |_=>none
 | ⟨_,_,some (f,ts),_,none⟩=>match vars with
   | [v]=>match Gv T σ v with
     |some (.fn g aQ)=>bif Nat.beq g f&&wW (bm aQ) then lh σ.boxes ts aQ else none
     |_=>none
   |_=>none
 | ⟨_,res,none,hs,none⟩=>bif wW (ti T σ vars)|| !(SG res) then rV T σ (hs.map (·.1)) vars res else none
def Dl (s:IE):CV:=match s.gen with
 |some ts=>⟨.slice (jE ts),([]:List (jE ts).den)⟩
 |none=>⟨.unit,()⟩
def NJ (T:cG)(fn:Func)(v:Nat)(x:Bu T v):AS:=
 ⟨eY.of (SE (T.sig v).args (vd _ x) 0) (fn.ntmps - (T.sig v).args.length) T.ale,[],dj (T.sig v).args (vd _ x) 0,qt T (T.sig v).hout (T.sig v).hin (Eo _ x) (cC T),Dl (T.sig v),[],T.sites v⟩
def KQ (T:cG)(fn:Func)(v:Nat):Ex→AS→Option (xA T v):=fun e σ=>match e with
 | .exit _=>none
 |_=>match UU T.rows fn.results.toList (T.sig v) σ with
  |some y=>IF y (T.sig v).hout (Mi T σ.ae (T.sig v).hout)
  |none=>none
noncomputable def IS (T:cG)(fn:Func)(c:Code)(Φ:bN T)(n:Nat)(v:Nat)(x:Bu T v):Option (xA T v):=
 aJ T Φ n c (T.hint v) (NJ T fn v x) (KQ T fn v)
abbrev Mm (T:cG):=(v:Nat)→Option (Bu T v→Option (xA T v))
noncomputable def Ih (T:cG)(B:Mm T)(fns:Nat→Option Func):Nat→bN T
 |0,_,_=>none
 |n+1,v,x=>match B v with
  |some g=>g x
  |none=>match fns v with
   |some fn=>match fn.body with
    |some c=>IS T fn c (Ih T B fns n) n v x
    |none=>none
   |none=>none
open Go.RowKit
section
variable {α:Type}
theorem beq_iff (a b:Nat):Nat.beq a b=true↔a=b:=⟨fun h=>Nat.eq_of_beq_eq_true h,fun h=>by subst h;exact Nat.beq_refl a⟩
theorem rW {a b:Nat}:Nat.beq a b=false↔a≠b:=by
 constructor
 ·intro h e;rw[(beq_iff a b).2 e] at h;cases h
 ·intro h;cases hb:Nat.beq a b
  ·rfl
  ·exact absurd ((beq_iff a b).1 hb) h
theorem beq_refl (a:Nat):Nat.beq a a=true:=(beq_iff a a).2 rfl
theorem mn {a b:Nat}(h:a≠b):Nat.beq a b=false:=rW.2 h
theorem aD (l:List (Nat×α))(j:Nat)(v:α)(i:Nat):look (put l j v) i=if j=i then some v else look l i:=by
 induction l with
 |nil=>by_cases h:j=i<;>simp[put,look,h,beq_refl,mn]
 |cons p r ih=>
  obtain⟨k,u⟩:=p;simp only[put];cases hlt:Nat.blt j k with
  |true=>simp only[cond_true,look];by_cases h:j=i<;>simp[h,beq_refl,mn]
  |false=>
   simp only[cond_false];cases hb:Nat.beq k j with
   |true=>have:=(beq_iff _ _).1 hb;subst this;simp only[cond_true,look];by_cases h:k=i<;>simp[h,beq_refl,mn]
   |false=>
    have hne:=rW.1 hb;simp only[cond_false,look,ih];by_cases h:k=i
    ·subst h;simp[beq_refl];intro e;exact absurd e.symm hne
    ·simp[mn h]
theorem By (l:List (Nat×α))(j i:Nat):look (del l j) i=if j=i then none else look l i:=by
 induction l with
 |nil=>simp[del,look]
 |cons p r ih=>
  obtain⟨k,u⟩:=p;simp only[del];cases hb:Nat.beq k j with
  |true=>have:=(beq_iff _ _).1 hb;subst this;simp only[cond_true,ih,look];by_cases h:k=i<;>simp[h,mn]
  |false=>
   have hne:=rW.1 hb;simp only[cond_false,look,ih];by_cases h:k=i
   ·subst h;simp[beq_refl];intro e;exact absurd e.symm hne
   ·simp[mn h]
theorem yZ (l:List (Nat×α))(p:Nat→Bool)(i:Nat):look (l.filter fun x=>p x.1) i=if p i then look l i else none:=by
 induction l with
 |nil=>simp[look]
 |cons q r ih=>
  obtain⟨k,u⟩:=q;simp only[List.filter_cons];by_cases hk:k=i
  ·subst hk;cases hp:p k<;>simp[look,hp,beq_refl,ih]
  ·cases hp:p k<;>simp[look,hp,mn hk,ih]
theorem put_comm (l:List (Nat×α)){i j:Nat}(u v:α)(h:i≠j):put (put l i u) j v=put (put l j v) i u:=by
 have QB:∀{a b:Nat},a<b→Nat.blt a b=true:=fun h=>by simp[Nat.blt,Nat.ble_eq];omega
 have QC:∀{a b:Nat},¬a<b→Nat.blt a b=false:=fun h=>by
  cases hb:Nat.blt _ _
  ·rfl
  ·simp[Nat.blt,Nat.ble_eq] at hb;omega
 induction l with
 |nil=>
  rcases Nat.lt_or_gt_of_ne h with h1 |h1
  ·simp[put,QB h1,QC (show ¬j<i by omega),mn h]
  ·simp[put,QB h1,QC (show ¬i<j by omega),mn (Ne.symm h)]
 |cons p r ih=>
  obtain⟨k,x⟩:=p;simp only[put];by_cases h1:i<k<;>by_cases h2:j<k<;>by_cases h3:k=i<;>by_cases h4:k=j<;>
   by_cases h5:i<j<;>
   first
   |omega
   | (have h6:¬j<i:=by omega
      simp[put, *,QB,QC,mn,beq_refl,Ne.symm h];try omega)
   | (have h6:j<i:=by omega
      simp[put, *,QB,QC,mn,beq_refl,Ne.symm h];try omega)
end
theorem VC {α:Type}(l:List (Nat×α))(j:Nat)(v:α)(i:Nat):look (Mj l j v) i=if j=i then some v else look l i:=by
 induction l with
 |nil=>by_cases h:j=i<;>simp[Mj,look,h,beq_refl,mn]
 |cons p r ih=>
  obtain⟨k,u⟩:=p;simp only[Mj];cases hlt:Nat.blt k j with
  |true=>simp only[cond_true,look];by_cases h:j=i<;>simp[h,beq_refl,mn]
  |false=>
   simp only[cond_false];cases hb:Nat.beq k j with
   |true=>have:=(beq_iff _ _).1 hb;subst this;simp only[cond_true,look];by_cases h:k=i<;>simp[h,beq_refl,mn]
   |false=>
    have hne:=rW.1 hb;simp only[cond_false,look,ih];by_cases h:k=i
    ·subst h;simp[beq_refl];intro e;exact absurd e.symm hne
    ·simp[mn h]
theorem Kj (f:AV→AV)(l:List (Nat×AV))(i:Nat):look (US f l) i=(look l i).map f:=by
 induction l with
 |nil=>rfl
 |cons p r ih=>obtain⟨k,u⟩:=p;simp only[US,List.map_cons,look] at ih ⊢;cases Nat.beq k i<;>simp[ih]
theorem y5 {α:Type}{l:List (Nat×α)}{i:Nat}{x:α}(h:look l i=some x):(i,x)∈l:=by
 induction l with
 |nil=>cases h
 |cons p r ih=>
  obtain⟨k,u⟩:=p;simp only[look] at h;cases hb:Nat.beq k i with
  |true=>
   have:=(beq_iff _ _).1 hb;subst this;rw[hb] at h;have e:u=x:=by simpa using h
   subst e;exact List.mem_cons_self
  |false=>rw[hb] at h;exact List.mem_cons_of_mem _ (ih h)
theorem gV (f:BX→BX)(l:List (Nat×BX))(i:Nat):look (IG f l) i=(look l i).map f:=by
 induction l with
 |nil=>rfl
 |cons p r ih=>obtain⟨k,u⟩:=p;simp only[IG,List.map_cons,look] at ih ⊢;cases Nat.beq k i<;>simp[ih]
inductive Nm where
 |row (r:Nat) |box (b:Nat) |hp (h n:Nat)
inductive Obj where
 |row (r:Row) |box (x:BX) |hp (k:Nat) (r:Row)
def cR:Value→Option Nat
 | .slice (some a) _ _=>some a.block
 | .pointer (some a)=>some a.block
 | .map (some r)=>some r
 |_=>none
def Hz (e:TypeId)(t:Ty)(k:Nat)(o:Option (Option (List t.den))):Option Obj:=match o with
 |some (some l)=>some (.hp k ⟨e,t,l⟩)
 |_=>none
def nL (ae:List aV)(h:Nat):Nat→Option Obj
 |0=>none
 |m+1=>match ae[h]? with
  |some hr=>Hz hr.e hr.t hr.k hr.xs[m]?
  |none=>none
def AS.obj (σ:AS):Nm→Option Obj
 | .row r=>(look σ.rows r).map .row
 | .box b=>(look σ.boxes b).map .box
 | .hp h n=>nL σ.ae h n
def hlen (ae:List aV)(h:Nat):Nat:=match ae[h]? with
 |some hr=>hr.xs.length
 |none=>0
def Own (σ:AS)(ν:Nm→Value)(m:Nm)(k:Nat):Prop:=(σ.obj m).isSome=true∧cR (ν m)=some k
def Hid (σ:AS)(ν:Nm→Value)(k:Nat):Prop:=∃m,Own σ ν m k
structure Env where
 V0:View
 w0:World
 X:Nat→Prop
 J:CV→(Nat→Prop)→World→Prop
 XS:Nat→Value
 Y:Value
 ro:Nat→Option aV
 h0:List aV
 n0:Nat→Nat→Value
 M:Nat→Prop
 base:World
 CB:Nat→Prop
 Om:Nat→Prop
 acc:CV→Prop
 XH:Nat→Nat→Prop
def Env.VD (E:Env):Nm→Nat→Prop
 | .row _,_=>False
 | .box _,_=>True
 | .hp i _,k=>E.XH i k
def Env.wS (E:Env)(m:Nm):Prop:=∃i n hr,m= .hp i n∧E.ro i=some hr
theorem Pt {E:Env}{r:Nat}:¬E.wS (.row r):=fun⟨_,_,_,e,_⟩=>by cases e
theorem Mn {E:Env}{r:Nat}:¬E.wS (.box r):=fun⟨_,_,_,e,_⟩=>by cases e
def view (E:Env)(σ:AS)(ν:Nm→Value)(O:Nat→Prop)(w:World):View:=fun key v=>match key with
 | .cell a=>(a.block<E.w0.heap.size∧E.V0 (.cell a) v)∨(E.w0.heap.size≤a.block∧¬Hid σ ν a.block∧¬O a.block∧w.cell? a=some v)
 | .ref h n=>1≤n∧n≤hlen σ.ae h∧v=ν (.hp h n)
def rO (V:View)(σ:AS)(ν:Nm→Value):RV→Value→Prop
 | .cv c,v=>bJ V c v
 | .agg cs,v=>∃vs:List Value,v= .agg vs.toArray∧aC (bJ V) cs vs
 | .own r,v=>v=ν (.row r)∧(look σ.rows r).isSome=true
def Bz (σ:AS)(ν:Nm→Value)(b off:Nat)(v:Value):Prop:=(look σ.boxes b).isSome=true∧∃g,ν (.box b)= .pointer (some ⟨g,0,none⟩)∧v= .pointer (some ⟨g,off,none⟩)
def qy (V:View)(cs:List CV)(v:Value):Prop:=∃(ad:Addr) (vs:List Value),v= .pointer (some ad)∧aC (bJ V) cs vs∧∀(j:Nat) u,vs[j]? =some u→V (ad.add j) u
def rX (V:View)(σ:AS)(ν:Nm→Value):Hv→Value→Prop
 | .box b,v=>Bz σ ν b 0 v
 | .pg cs,v=>qy V cs v
def aj (V:View)(σ:AS)(ν:Nm→Value)(Y:Value):AV→Value→Prop
 | .rv x,v=>rO V σ ν x v
 | .lit u,v=>v=u
 | .box b off,v=>Bz σ ν b off v
 | .ND r sz i off,v=>∃row g,look σ.rows r=some row∧cR (ν (.row r))=some g∧sz=row.t.size∧v= .pointer (some ⟨g,i*sz+off,none⟩)
 | .pg cs,v=>qy V cs v
 | .hel h n i off,v=>∃hr g,σ.ae[h]? =some hr∧1≤n∧n≤hr.xs.length∧cR (ν (.hp h n))=some g∧v= .pointer (some ⟨g,i*hr.t.size+off,none⟩)
 | .fn f aQ,v=>∃vs:List Value,v= .func (.func f) #[] vs.toArray∧aC (rX V σ ν) aQ vs
 | .Ly,v=>v=Y
 | .tup l,v=>∃vs:List Value,v= .tuple vs.toArray∧aC (rO V σ ν) l vs
 | .nil,_=>True
def jf (V:View)(w:World)(v:Value)(row:Row):Prop:=
 ∃br:List (List Value),w.ownsRow 0 row.e row.t.size v row.xs.length br.flatten∧aC (Rel V row.t) row.xs br
def BA (V:View)(σ:AS)(ν:Nm→Value)(w:World)(v:Value)(x:BX):Prop:=
 ∃g,v= .pointer (some ⟨g,0,none⟩)∧match x with
  | .cells cs=>∃(cur:Array Value) (e:TypeId),w.heap[g]? =some (.cells cur e (0,0))∧aC (bJ V) cs cur.toList
  | .own r=>∃e:TypeId,w.heap[g]? =some (.cells #[ν (.row r)] e (0,0))∧(look σ.rows r).isSome=true
  | .nil=>∃(u:Value) (e:TypeId),w.heap[g]? =some (.cells #[u] e (0,0))
def Au (V:View)(w:World)(k:Nat)(v:Value)(row:Row):Prop:=match k with
 |0=>agy v∧jf V w v row
 |1=>∃(g:Nat) (cur:Array Value) (ys:List Value) (x:row.t.den),v= .pointer (some ⟨g,0,none⟩)∧w.heap[g]? =some (.cells cur row.e (0,0))∧cur.toList=ys∧row.xs=[x]∧Rel V row.t x ys
 |_=>False
def Gw (V:View)(σ:AS)(ν:Nm→Value)(w:World)(v:Value):Obj→Prop
 | .row row=>jf V w v row
 | .box x=>BA V σ ν w v x
 | .hp k row=>Au V w k v row
def Ii (R:AV→Value→Prop)(s:eY)(ys:List Value)(X:Nat→Value):Prop:=
 s.n=ys.length∧(∀i x,look s.l i=some x→R x (ys.getD i undef))∧∀i x,look s.s i=some x→R x (X i)
structure Grow (C:Nat→Prop) (w w':World):Prop where
 os:w'.os=w.os
 tape:w'.tape=w.tape
 output:w'.output=w.output
 size:w.heap.size≤w'.heap.size
 block:∀k,k<w.heap.size→¬C k→w'.heap[k]? =w.heap[k]?
theorem Grow.refl (C:Nat→Prop)(w:World):Grow C w w:=⟨rfl,rfl,rfl,Nat.le_refl _,fun _ _ _=>rfl⟩
theorem Grow.BB {C:Nat→Prop}{w w':World}(h:Below w.heap.size w w'):Grow C w w':=⟨h.os,h.tape,h.output,h.size,fun k hk _=>h.block k hk⟩
theorem Grow.mono {C C':Nat→Prop}{w w':World}(h:Grow C w w')(hC:∀k,k<w.heap.size→C k→C' k):Grow C' w w':=⟨h.os,h.tape,h.output,h.size,fun k hk hn=>h.block k hk fun hc=>hn (hC k hk hc)⟩
theorem Grow.trans {C D:Nat→Prop}{a b c:World}(h:Grow C a b)(k:Grow D b c)(hD:∀i,i<a.heap.size→D i→C i):Grow C a c:=
 ⟨k.os.trans h.os,k.tape.trans h.tape,k.output.trans h.output,Nat.le_trans h.size k.size,fun i hi hn=>
   (k.block i (Nat.lt_of_lt_of_le hi h.size) fun hd=>hn (hD i hi hd)).trans (h.block i hi hn)⟩
theorem Grow.below {w w':World}(h:Grow (fun _=>False) w w'):Below w.heap.size w w':=⟨h.os,h.tape,h.output,h.size,fun k hk=>h.block k hk id⟩
def ael (k:Nat)(v:Value):Prop:=(k=0∧∃g n c,v= .slice (some ⟨g,0,none⟩) n c)∨(k=1∧∃g,v= .pointer (some ⟨g,0,none⟩))
structure Av (hr hr':aV):Prop where
 e:hr'.e=hr.e
 t:hr'.t=hr.t
 k:hr'.k=hr.k
 w:hr'.w=hr.w
theorem Av.refl (hr:aV):Av hr hr:=⟨rfl,rfl,rfl,rfl⟩
theorem Av.trans {a b c:aV}(h:Av a b)(g:Av b c):Av a c:=⟨g.e.trans h.e,g.t.trans h.t,g.k.trans h.k,g.w.trans h.w⟩
structure HK (h0:List aV) (n0:Nat→Nat→Value) (hs:List aV) (ν:Nm→Value):Prop where
 num:hs.length=h0.length
 row:∀(h:Nat) (hr:aV),h0[h]? =some hr→∃hr':aV,hs[h]? =some hr'∧Av hr hr'∧hr.xs.length≤hr'.xs.length
 nm:∀h n,1≤n→n≤hlen h0 h→ν (.hp h n)=n0 h n
structure St (E:Env) (σ:AS) (a:Act) (w:World) (ν:Nm→Value) (O:Nat→Prop):Prop where
 keep:Grow E.X E.w0 w
 marks:∀d∈a.defers,∃r,d=⟨.collected r, #[]⟩∧E.w0.heap.size≤r∧w.heap[r]? =some (.deferred (some []))∧¬O r
 slots:Ii (aj (view E σ ν O w) σ ν E.Y) σ.tmps a.tmps.toList E.XS
 Bj:∀m o,σ.obj m=some o→Gw (view E σ ν O w) σ ν w (ν m) o
 inj:∀m m' k,Own σ ν m k→Own σ ν m' k→m=m'
 y6:∀m k,Own σ ν m k→(E.w0.heap.size≤k∨E.X k∨E.wS m)∧k<w.heap.size∧¬O k
 new:∀m k,Own σ ν m k→E.w0.heap.size≤k∨E.VD m k
 out:E.J σ.trace O w∧∀k,O k→k<w.heap.size∧(k<E.w0.heap.size→E.X k)
 nn:∀(h:Nat) (hr:aV) (n:Nat),σ.ae[h]? =some hr→1≤n→n≤hr.xs.length→ael hr.k (ν (.hp h n))
 ro:∀h hr,E.ro h=some hr→σ.ae[h]? =some hr∧hr.w=false
 kept:HK E.h0 E.n0 σ.ae ν
 waits:∀r,E.M r→w.heap[r]? =some (.deferred (some []))∧¬O r
 vm:Grow E.CB E.base w
 wX:∀m k,Own σ ν m k→E.wS m∨E.CB k∨E.base.heap.size≤k
 NK:∀k,E.Om k→O k
 nd:a.defers.Nodup
structure aE (E:Env):Prop where
 cell:∀ad v,E.V0 (.cell ad) v→E.w0.cell? ad=some v∧¬E.X ad.block
 stay:∀tr O w w' C,E.J tr O w→Grow C w w'→(∀k,C k→¬O k∧(k<E.w0.heap.size→E.X k))→E.J tr O w'
section
variable {E:Env}{σ ag:AS}{a:Act}{w w':World}{ν aK:Nm→Value}{O:Nat→Prop}
abbrev St.V (E:Env)(σ:AS)(w:World)(ν:Nm→Value)(O:Nat→Prop):View:=view E σ ν O w
theorem xD (hE:aE E)(hb:Grow E.X E.w0 w){a:Addr}{v:Value}(h:view E σ ν O w a v):w.cell? a=some v:=by
 rcases h with ⟨hlt,h⟩ | ⟨_,_,_,h⟩
 ·obtain⟨h1,h2⟩:=hE.cell _ _ h;rw[World.cell?_of_block (hb.block a.block hlt h2)];exact h1
 ·exact h
structure HSub (σ:AS) (ν:Nm→Value) (ag:AS) (aK:Nm→Value):Prop where
 num:ag.ae.length=σ.ae.length
 row:∀(h:Nat) (hr:aV),σ.ae[h]? =some hr→∃hr':aV,ag.ae[h]? =some hr'∧Av hr hr'∧hr.xs.length≤hr'.xs.length
 nm:∀h n,1≤n→n≤hlen σ.ae h→aK (.hp h n)=ν (.hp h n)
theorem HSub.of_eq (e:ag.ae=σ.ae)(hν:∀i n,aK (.hp i n)=ν (.hp i n)):HSub σ ν ag aK:=⟨by rw[e],fun i hr h=>⟨hr,by rw[e];exact h,Av.refl _,Nat.le_refl _⟩,fun i n _ _=>hν i n⟩
theorem HSub.refl (σ:AS)(ν:Nm→Value):HSub σ ν σ ν:=HSub.of_eq rfl fun _ _=>rfl
theorem HSub.len (h:HSub σ ν ag aK)(i:Nat):hlen σ.ae i≤hlen ag.ae i:=by
 unfold hlen;cases hi:σ.ae[i]? with
 |none=>exact Nat.zero_le _
 |some hr=>obtain⟨hr',h1,_,h2⟩:=h.row i hr hi;simp only[h1];exact h2
theorem HK.trans {h0:List aV}{n0:Nat→Nat→Value}(h:HK h0 n0 σ.ae ν)(hs:HSub σ ν ag aK):HK h0 n0 ag.ae aK:=by
 have hle:∀i n,1≤n→n≤hlen h0 i→n≤hlen σ.ae i:=fun i n h1 h2=>by
  unfold hlen at h2;cases hi:h0[i]? with
  |none=>rw[hi] at h2;dsimp only at h2;omega
  |some hr=>rw[hi] at h2;obtain⟨hr',e1,_,e2⟩:=h.row i hr hi;unfold hlen;rw[e1];exact Nat.le_trans h2 e2
 refine⟨hs.num.trans h.num,fun i hr e=> ?_,fun i n h1 h2=>(hs.nm i n h1 (hle i n h1 h2)).trans (h.nm i n h1 h2)⟩;obtain⟨NA,e1,e2,e3⟩:=h.row i hr e;obtain⟨HA,e4,e5,e6⟩:=hs.row i NA e1;exact⟨HA,e4,e2.trans e5,Nat.le_trans e3 e6⟩
theorem E5 {O':Nat→Prop}{C:Nat→Prop}(hg:Grow C w w')(hs:HSub σ ν ag aK)
  (hk:∀k,E.w0.heap.size≤k→k<w.heap.size→¬Hid σ ν k→¬O k→¬Hid ag aK k∧¬O' k∧¬C k) {key:Key} {v:Value}
  (h:view E σ ν O w key v):view E ag aK O' w' key v:=by
 cases key with
 |cell a=>
  rcases h with h | ⟨h1,h2,h3,h4⟩
  ·exact .inl h
  ·have hlt:=World.block_lt_of_cell? w a h4;obtain⟨h5,h6,h7⟩:=hk _ h1 hlt h2 h3;exact .inr ⟨h1,h5,h6,by rw[World.cell?_of_block (hg.block _ hlt h7)];exact h4⟩
 |ref i n=>obtain⟨h1,h2,h3⟩:=h;exact⟨h1,Nat.le_trans h2 (hs.len i),by rw[hs.nm i n h1 h2];exact h3⟩
structure Sub (σ:AS) (ν:Nm→Value) (ag:AS) (aK:Nm→Value):Prop extends HSub σ ν ag aK where
 rows:∀r row,look σ.rows r=some row→aK (.row r)=ν (.row r)∧∃row',look ag.rows r=some row'∧row'.t.size=row.t.size
 boxes:∀b,(look σ.boxes b).isSome=true→aK (.box b)=ν (.box b)∧(look ag.boxes b).isSome=true
theorem Sub.refl (σ:AS)(ν:Nm→Value):Sub σ ν σ ν:=⟨HSub.refl σ ν,fun r row h=>⟨rfl,row,h,rfl⟩,fun b h=>⟨rfl,h⟩⟩
theorem Sub.IH (h:Sub σ ν ag aK){r:Nat}(hr:(look σ.rows r).isSome=true):aK (.row r)=ν (.row r)∧(look ag.rows r).isSome=true:=by obtain⟨row,hrow⟩:=Option.isSome_iff_exists.1 hr;obtain⟨h1,row',h2,_⟩:=h.rows r row hrow;exact⟨h1,by simp[h2]⟩
theorem rO.mono {V V':View}(hV:∀a v,V a v→V' a v)(hs:Sub σ ν ag aK):∀(x:RV) (v:Value),rO V σ ν x v→rO V' ag aK x v
 | .cv c,v,h=>bJ.mono hV c v h
 | .agg cs,v,⟨vs,e,h⟩=>⟨vs,e,h.mono (bJ.mono hV)⟩
 | .own r,v,⟨e,h⟩=>⟨by rw[(hs.IH h).1];exact e,(hs.IH h).2⟩
theorem Bz.mono (hs:Sub σ ν ag aK){b off:Nat}{v:Value}(h:Bz σ ν b off v):Bz ag aK b off v:=by obtain⟨h1,g,h2,h3⟩:=h;obtain⟨h4,h5⟩:=hs.boxes b h1;exact⟨h5,g,by rw[h4];exact h2,h3⟩
theorem qy.mono {V V':View}(hV:∀a v,V a v→V' a v){cs:List CV}{v:Value}(h:qy V cs v):qy V' cs v:=by obtain⟨ad,vs,h1,h2,h3⟩:=h;exact⟨ad,vs,h1,h2.mono (bJ.mono hV),fun j u hj=>hV _ _ (h3 j u hj)⟩
theorem rX.mono {V V':View}(hV:∀a v,V a v→V' a v)(hs:Sub σ ν ag aK):∀(x:Hv) (v:Value),rX V σ ν x v→rX V' ag aK x v
 | .box b,v,h=>Bz.mono hs h
 | .pg cs,v,h=>qy.mono hV h
theorem aj.mono {V V':View}{Y:Value}(hV:∀a v,V a v→V' a v)(hs:Sub σ ν ag aK):∀(x:AV) (v:Value),aj V σ ν Y x v→aj V' ag aK Y x v:=by
 intro x v h;cases x with
 |rv x=>exact rO.mono hV hs x v h
 |lit u=>exact h
 |box b off=>exact Bz.mono hs h
 |ND r sz i off=>obtain⟨row,g,h1,h2,h3,h4⟩:=h;obtain⟨h5,row',h6,h7⟩:=hs.rows r row h1;exact⟨row',g,h6,by rw[h5];exact h2,by rw[h7];exact h3,h4⟩
 |pg cs=>exact qy.mono hV h
 |hel i n j off=>obtain⟨hr,g,h1,h2,h3,h4,h5⟩:=h;obtain⟨hr',h6,h7,h8⟩:=hs.row i hr h1;exact⟨hr',g,h6,h2,Nat.le_trans h3 h8,by rw[hs.nm i n h2 (by unfold hlen;simp only[h1];exact h3)];exact h4,by rw[h7.t];exact h5⟩
 |fn f aQ=>obtain⟨vs,h1,h2⟩:=h;exact⟨vs,h1,h2.mono (rX.mono hV hs)⟩
 |Ly=>exact h
 |tup l=>obtain⟨vs,h1,h2⟩:=h;exact⟨vs,h1,h2.mono (rO.mono hV hs)⟩
 |nil=>trivial
theorem UW {w w':World}{e:TypeId}{size n:Nat}{v:Value}{xs:List Value}(hk:∀k,cR v=some k→w'.heap[k]? =w.heap[k]?)(h:w.ownsRow 0 e size v n xs):w'.ownsRow 0 e size v n xs:=by
 obtain⟨h1,h2⟩:=h;refine⟨h1, ?_⟩;rcases h2 with h2 | ⟨g,cap,cur,rfl,hb,hg,rest⟩
 ·exact .inl h2
 ·exact .inr ⟨g,cap,cur,rfl,hb,by rw[hk g rfl];exact hg,rest⟩
theorem jf.mono {V V':View}{v:Value}{row:Row}(hV:∀a v,V a v→V' a v)(hk:∀k,cR v=some k→w'.heap[k]? =w.heap[k]?)
  (h:jf V w v row):jf V' w' v row:=by
 obtain⟨br,h1,h3⟩:=h;exact⟨br,UW hk h1,h3.mono (Rel.mono hV _)⟩
theorem Au.mono {V V':View}{k:Nat}{v:Value}{row:Row}(hV:∀a v,V a v→V' a v)(hk:∀k,cR v=some k→w'.heap[k]? =w.heap[k]?)
  (h:Au V w k v row):Au V' w' k v row:=by
 match k,h with
 |0,⟨h1,h2⟩=>exact⟨h1,h2.mono hV hk⟩
 |1,⟨g,cur,ys,x,h1,h2,h3,h4,h5⟩=>exact⟨g,cur,ys,x,h1,by rw[hk g (by rw[h1];rfl)];exact h2,h3,h4,Rel.mono hV _ _ _ h5⟩
theorem BA.mono {V V':View}{v:Value}{x:BX}(hV:∀a v,V a v→V' a v)(hk:∀k,cR v=some k→w'.heap[k]? =w.heap[k]?)
  (hr:∀r,x= .own r→(look σ.rows r).isSome=true→aK (.row r)=ν (.row r)∧(look ag.rows r).isSome=true) (h:BA V σ ν w v x):BA V' ag aK w' v x:=by
 obtain⟨g,h1,h2⟩:=h;have hg:=hk g (by rw[h1];rfl);refine⟨g,h1, ?_⟩;cases x with
 |cells cs=>obtain⟨cur,e,h3,h4⟩:=h2;exact⟨cur,e,by rw[hg];exact h3,h4.mono (bJ.mono hV)⟩
 |own r=>obtain⟨e,h3,h4⟩:=h2;obtain⟨h5,h6⟩:=hr r rfl h4;exact⟨e,by rw[hg,h5];exact h3,h6⟩
 |nil=>obtain⟨u,e,h3⟩:=h2;exact⟨u,e,by rw[hg];exact h3⟩
theorem Gw.mono {V V':View}{v:Value}{o:Obj}(hV:∀a v,V a v→V' a v)(hk:∀k,cR v=some k→w'.heap[k]? =w.heap[k]?)
  (hr:∀r,o= .box (.own r)→(look σ.rows r).isSome=true→aK (.row r)=ν (.row r)∧(look ag.rows r).isSome=true) (h:Gw V σ ν w v o):Gw V' ag aK w' v o:=by
 cases o with
 |row row=>exact jf.mono hV hk h
 |box x=>exact BA.mono hV hk (fun r e=>hr r (by rw[e])) h
 |hp k row=>exact Au.mono hV hk h
theorem Ii.mono {R S:AV→Value→Prop}{s:eY}{ys:List Value}{X:Nat→Value}(h:Ii R s ys X)(hf:∀x v,R x v→S x v):Ii S s ys X:=
 ⟨h.1,fun i x hx=>hf _ _ (h.2.1 i x hx),fun i x hx=>hf _ _ (h.2.2 i x hx)⟩
theorem NL {R:AV→Value→Prop}(hn:∀v,R .nil v){s:eY}{ys:List Value}{X:Nat→Value}(h:Ii R s ys X)(i:Nat):R (nth s i) (ys.getD i undef):=by
 unfold nth;cases hl:look s.l i with
 |none=>exact hn _
 |some x=>exact h.2.1 i x hl
theorem tj (a b:Nat):Nat.blt a b=true↔a<b:=by simp[Nat.blt,Nat.ble_eq];omega
theorem YV {R:AV→Value→Prop}{s:eY}{ys:List Value}{X:Nat→Value}{i:Nat}{x:AV}{y:Value}(h:Ii R s ys X)(hx:R x y):Ii R (Db s i x) (ys.set i y) X:=by
 unfold Db;cases hb:Nat.blt i s.n with
 |true=>
  have hi:i<ys.length:=by rw[←h.1];exact(tj _ _).1 hb
  refine⟨by rw[List.length_set];exact h.1,fun j z hz=> ?_,h.2.2⟩;have hz':look (Mj s.l i x) j=some z:=hz;rw[VC] at hz';by_cases e:i=j
  ·subst e;rw[if_pos rfl] at hz';obtain rfl:x=z:=by simpa using hz'
   simpa [List.getD,List.getElem?_set,hi] using hx
  ·rw[if_neg e] at hz';have:=h.2.1 j z hz';simpa [List.getD,List.getElem?_set,e] using this
 |false=>
  have hi:¬i<ys.length:=fun hi=>by rw[←h.1, ←tj,hb] at hi;cases hi
  simp only[cond_false];rw[List.set_eq_of_length_le (by omega)];exact h
theorem Kk {R S:AV→Value→Prop}{f:AV→AV}(hf:∀x v,R x v→S (f x) v){s:eY}{ys:List Value}{X:Nat→Value}(h:Ii R s ys X):Ii S (s.map f) ys X:=by
 refine⟨h.1,fun i x hx=> ?_,fun i x hx=> ?_⟩
 ·have hx':look (US f s.l) i=some x:=hx;rw[Kj] at hx';obtain⟨z,hz,rfl⟩:=Option.map_eq_some_iff.1 hx';exact hf _ _ (h.2.1 i z hz)
 ·have hx':look (US f s.s) i=some x:=hx;rw[Kj] at hx';obtain⟨z,hz,rfl⟩:=Option.map_eq_some_iff.1 hx';exact hf _ _ (h.2.2 i z hz)
theorem agL {R:AV→Value→Prop}{σ:AS}{a:Act}{X:Nat→Value}{d:Option Tmp}{x:AV}{v:Value}(h:Ii R σ.tmps a.tmps.toList X)(hx:R x v):
  Ii R (σ.iS d x).tmps (a.put d v).tmps.toList X:=by
 cases d with
 |none=>exact h
 |some d=>simpa [AS.iS,Act.put] using YV h hx
theorem YW {a:Act}{d:Option Tmp}{v:Value}:(a.put d v).defers=a.defers:=by cases d<;>rfl
def KR (σ ag:AS):Prop:=ag.rows=σ.rows∧ag.boxes=σ.boxes∧ag.ae=σ.ae∧ag.trace=σ.trace
theorem KR.obj (h:KR σ ag):ag.obj=σ.obj:=by obtain⟨h1,h2,h3,_⟩:=h;funext m;cases m<;>simp[AS.obj,h1,h2,h3]
theorem KR.view (h:KR σ ag):view E ag ν O w=view E σ ν O w:=by have:=h.obj;unfold Abs.view Hid Own;rw[this,h.2.2.1]
theorem KR.sub (h:KR σ ag):Sub σ ν ag ν:=by obtain⟨h1,h2,h3,_⟩:=h;exact⟨HSub.of_eq h3 (fun _ _=>rfl),fun r row h=>⟨rfl,row,by rw[h1];exact h,rfl⟩,fun b h=>⟨rfl,by rw[h2];exact h⟩⟩
theorem KR.av (h:KR σ ag){V:View}{Y:Value}{x:AV}{v:Value}(hr:aj V σ ν Y x v):aj V ag ν Y x v:=aj.mono (fun _ _ h=>h) h.sub x v hr
theorem KR.symm (h:KR σ ag):KR ag σ:=⟨h.1.symm,h.2.1.symm,h.2.2.1.symm,h.2.2.2.symm⟩
theorem KR.iS {d:Option Tmp}{x:AV}:KR σ (σ.iS d x):=by cases d<;>exact⟨rfl,rfl,rfl,rfl⟩
theorem St.abk (h:St E σ a w ν O)(hs:KR σ ag){a':Act}(hd:a'.defers=a.defers)(Xi:Ii (aj (view E σ ν O w) σ ν E.Y) ag.tmps a'.tmps.toList E.XS):St E ag a' w ν O:=by
 have hv:view E ag ν O w=view E σ ν O w:=hs.view;refine⟨h.keep,by rw[hd];exact h.marks, ?_, ?_, ?_, ?_, ?_, ?_, ?_, ?_, ?_,h.waits,h.vm, ?_,h.NK,by rw[hd];exact h.nd⟩
 ·rw[hv];exact Xi.mono fun x v hr=>hs.av hr
 ·intro m o ho;rw[hs.obj] at ho;rw[hv];exact(h.Bj m o ho).mono (fun _ _ h=>h) (fun _ _=>rfl) (fun r _ hr=>⟨rfl,by rw[hs.1];exact hr⟩)
 ·unfold Own;rw[hs.obj];exact h.inj
 ·unfold Own;rw[hs.obj];exact h.y6
 ·unfold Own;rw[hs.obj];exact h.new
 ·rw[hs.2.2.2];exact h.out
 ·rw[hs.2.2.1];exact h.nn
 ·rw[hs.2.2.1];exact h.ro
 ·rw[hs.2.2.1];exact h.kept
 ·unfold Own;rw[hs.obj];exact h.wX
theorem St.slot (h:St E σ a w ν O){d:Option Tmp}{x:AV}{v:Value}(hx:aj (view E σ ν O w) σ ν E.Y x v):St E (σ.iS d x) (a.put d v) w ν O:=
 h.abk KR.iS YW (agL h.slots hx)
theorem YX {V:View}{Y:Value}(v:Value):aj V σ ν Y (ofConst v) v:=by cases v<;>first |exact rfl | (show Rel V _ _ _;rfl)
def Mo (E:Env):Prop:=∀g,E.XS (gk g)= .pointer (some ⟨g,0,none⟩)
theorem St.av (hG:Mo E)(h:St E σ a w ν O)(x:Operand):aj (view E σ ν O w) σ ν E.Y (σ.av x) (a.eval x):=by
 cases x with
 |tmp t=>have:=NL (fun v=>by trivial) h.slots t;simpa [AS.av,eY.av,Act.eval] using this
 |const v=>exact YX v
 |global g=>
  simp only[AS.av,eY.av];cases hl:look σ.tmps.s (gk g) with
  |none=>trivial
  |some x=>have:=h.slots.2.2 _ x hl;rw[hG g] at this;exact this
 |func f=>exact⟨[],rfl,trivial⟩
theorem St.step (hE:aE E)(h:St E σ a w ν O){C:Nat→Prop}{a':Act}(hg:Grow C w w')(hC:∀k,C k→∃m,Own σ ν m k∧¬E.wS m)(hs:HSub σ ν ag aK)
  (hown:∀m k,Own ag aK m k→(∃m',Own σ ν m' k∧(E.wS m'→E.wS m))∨w.heap.size≤k) (hlt:∀m k,Own ag aK m k→k<w'.heap.size) (aqm:∀m m' k,Own ag aK m k→Own ag aK m' k→m=m')
  (E6:∀m k,Own ag aK m k→E.w0.heap.size≤k∨E.VD m k) (htr:ag.trace=σ.trace) (hd:a'.defers=a.defers)
  (hnn:∀(h:Nat) (hr:aV) (n:Nat),ag.ae[h]? =some hr→1≤n→n≤hr.xs.length→ael hr.k (aK (.hp h n)))
  (hro:∀h hr,E.ro h=some hr→ag.ae[h]? =some hr)
  (VE:(∀key v,view E σ ν O w key v→view E ag aK O w' key v)→∀m o,ag.obj m=some o→Gw (view E ag aK O w') ag aK w' (aK m) o)
  (Xi:(∀key v,view E σ ν O w key v→view E ag aK O w' key v)→Ii (aj (view E ag aK O w') ag aK E.Y) ag.tmps a'.tmps.toList E.XS):St E ag a' w' aK O:=by
 have hmono:∀key v,view E σ ν O w key v→view E ag aK O w' key v:=fun key v hv=>E5 hg hs (fun k h1 h2 h3 h4=>⟨fun⟨m,hm⟩=>by
  rcases hown m k hm with ⟨m',h5,_⟩ |h5
  ·exact h3 ⟨m',h5⟩
  ·omega,h4,fun hc=>h3 ((hC k hc).imp fun _ h=>h.1)⟩) hv
 have hcell:∀r ds,w.heap[r]? =some (.deferred ds)→¬C r:=fun r ds h3 hc=>by
  obtain⟨m,hm,_⟩:=hC r hc;obtain⟨o,ho⟩:=Option.isSome_iff_exists.1 hm.1;have cr:=h.Bj m o ho;have hblk:=hm.2
  -- an owned block holds cells
  have:∃cur e,w.heap[r]? =some (.cells cur e (0,0)):=by
   cases o with
   |row row=>
    obtain⟨br,⟨_,h5⟩,_⟩:=cr;rcases h5 with ⟨h5,_⟩ | ⟨g,cap,cur,h5,_,h6,_⟩
    ·rw[h5] at hblk;cases hblk
    ·rw[h5] at hblk;simp only[cR,Option.some.injEq] at hblk;subst hblk;exact⟨_,_,h6⟩
   |box x=>
    obtain⟨g,h5,h6⟩:=cr;rw[h5] at hblk;simp only[cR,Option.some.injEq] at hblk;subst hblk;cases x with
    |cells cs=>obtain⟨cur,e,h7,_⟩:=h6;exact⟨_,_,h7⟩
    |own q=>obtain⟨e,h7,_⟩:=h6;exact⟨_,_,h7⟩
    |nil=>obtain⟨u,e,h7⟩:=h6;exact⟨_,_,h7⟩
   |hp k row=>
    match k,cr with
    |0,⟨_,br,⟨_,h5⟩,_⟩=>
     rcases h5 with ⟨h5,_⟩ | ⟨g,cap,cur,h5,_,h6,_⟩
     ·rw[h5] at hblk;cases hblk
     ·rw[h5] at hblk;simp only[cR,Option.some.injEq] at hblk;subst hblk;exact⟨_,_,h6⟩
    |1,⟨g,cur,ys,x,h5,h6,_⟩=>rw[h5] at hblk;simp only[cR,Option.some.injEq] at hblk;subst hblk;exact⟨_,_,h6⟩
  obtain⟨cur,e,h5⟩:=this;rw[h5] at h3;cases h3
 refine⟨h.keep.trans hg (fun k hk hc=> ?_), ?_,Xi hmono,VE hmono,aqm, ?_,E6, ?_,hnn,fun i hr e=>⟨hro i hr e,(h.ro i hr e).2⟩,h.kept.trans hs,fun r hr=> ?_,h.vm.trans hg (fun k hk hc=> ?_),fun m k hm=> ?_,h.NK,by rw[hd];exact h.nd⟩
 ·obtain⟨m,hm,hm2⟩:=hC k hc;rcases (h.y6 m k hm).1 with h1 |h1 |h1
  ·omega
  ·exact h1
  ·exact absurd h1 hm2
 ·rw[hd];intro d UX;obtain⟨r,h1,h2,h3,h4⟩:=h.marks d UX;exact⟨r,h1,h2,by rw[hg.block r (Array.getElem?_eq_some_iff.1 h3).1 (hcell r _ h3)];exact h3,h4⟩
 ·intro m k hm;refine⟨?_,hlt m k hm, ?_⟩
  ·rcases hown m k hm with ⟨m',h1,h2⟩ |h1
   ·exact(h.y6 m' k h1).1.imp id (Or.imp id h2)
   ·exact .inl (Nat.le_trans h.keep.size h1)
  ·intro ho;rcases hown m k hm with ⟨m',h1,_⟩ |h1
   ·exact(h.y6 m' k h1).2.2 ho
   ·exact absurd (h.out.2 k ho).1 (by omega)
 ·rw[htr];refine⟨hE.stay _ _ _ _ C h.out.1 hg (fun k hc=> ?_),fun k hk=>⟨Nat.lt_of_lt_of_le (h.out.2 k hk).1 hg.size,(h.out.2 k hk).2⟩⟩;obtain⟨m,hm,hm2⟩:=hC k hc;refine⟨(h.y6 m k hm).2.2,fun hk=> ?_⟩;rcases (h.y6 m k hm).1 with h1 |h1 |h1
  ·omega
  ·exact h1
  ·exact absurd h1 hm2
 ·obtain⟨h1,h2⟩:=h.waits r hr;exact⟨by rw[hg.block r (Array.getElem?_eq_some_iff.1 h1).1 (hcell r _ h1)];exact h1,h2⟩
 ·obtain⟨m,hm,hm2⟩:=hC k hc;rcases h.wX m k hm with h1 |h1 |h1
  ·exact absurd h1 hm2
  ·exact h1
  ·omega
 ·rcases hown m k hm with ⟨m',h1,h2⟩ |h1
  ·exact(h.wX m' k h1).imp h2 id
  ·exact .inr (.inr (Nat.le_trans h.vm.size h1))
theorem St.grow (hE:aE E)(h:St E σ a w ν O)(hb:Below w.heap.size w w'):St E σ a w' ν O:=by refine h.step hE (C:=fun _=>False) (Grow.BB hb) (fun k hk=>hk.elim) (HSub.refl σ ν) (fun m k hm=> .inl ⟨m,hm,id⟩) (fun m k hm=>Nat.lt_of_lt_of_le (h.y6 m k hm).2.1 hb.size) h.inj h.new rfl rfl h.nn (fun i hr e=>(h.ro i hr e).1) (fun hV m o ho=> ?_) (fun hV=>h.slots.mono (aj.mono hV (Sub.refl σ ν)));exact(h.Bj m o ho).mono hV (fun k hk=>hb.block k (h.y6 m k ⟨by rw[ho];rfl,hk⟩).2.1) (fun r _ hr=>⟨rfl,hr⟩)
end
def al2 (P:Program)(T:List fJ)(r:fJ):Ty→Prop
 | .int k=>P.underlying r.id=some (.int k)
 | .bool=>P.underlying r.id=some .bool
 | .str=>P.underlying r.id=some .string
 | .slice u=>P.underlying r.id=some (.slice r.elem)∧∃re,jn T r.elem=some re∧re.ty=u
 | .st u=>(r.arr=false∧∃fs:Array Field,P.underlying r.id=some (.struct fs)∧fs.toList.mapM (fun f=>(P.info? f.type).map fun i=>(f.offset,i.size))=some r.qw∧∀(f off size:Nat),r.qw[f]? =some (off,size)→
   ∃(fd:Field) (j:TypeInfo),fs[f]? =some fd∧fd.offset=off∧P.info? fd.type=some j∧j.size=size∧size≠0∧off+size≤u.size)∨
   (r.arr=true∧∃(n e:Nat) (j:TypeInfo),P.underlying r.id=some (.array n e)∧P.info? e=some j∧r.qw=(List.range n).map (fun i=>(i*j.size,j.size))∧j.size≠0∧u.size=n*j.size)
 | .ptr _=>∃e,P.underlying r.id=some (.pointer e)
 | .mp _=>∃k e,P.underlying r.id=some (.map k e)
 | .fn=>∃a b c,P.underlying r.id=some (.func a b c)
 |_=>False
structure YY (P:Program) (T:List fJ) (r:fJ):Prop where
 info:∃i z,P.info? r.id=some i∧i.size=r.ty.size∧i.bytes=r.bytes∧i.zero=some z∧(∀V,Rel V r.ty r.ty.zero z.cells.toList)∧(z=wrap r.ty z.cells.toList)∧(∀u,r.ty= .slice u→z= .slice none 0 0)
 desc:al2 P T r r.ty
 qw:(∀u,r.ty≠ .st u)→r.qw=[]
def iG (P:Program)(T:List fJ):Prop:=∀t r,jn T t=some r→r.id=t∧YY P T r
section
variable {P:Program}{T:List fJ}{V:View}{r:fJ}
theorem agM {i:IntKind}{n:Int}{v:Value}(h:bJ V ⟨.int i,n⟩ v):v= .int i n:=by have: [v]=[Value.int i n]:=h;simpa using this
theorem VF {b:Bool}{v:Value}(h:bJ V ⟨.bool,b⟩ v):v= .bool b:=by have: [v]=[Value.bool b]:=h;simpa using this
theorem agN {s:ByteArray}{v:Value}(h:bJ V ⟨.str,s⟩ v):v= .string s:=by have: [v]=[Value.string s]:=h;simpa using this
theorem qz {t:Ty}{xs:List t.den}{v:Value}(h:bJ V ⟨.slice t,xs⟩ v):∃(A:Option Addr) (c:Nat) (br:List (List Value)),v= .slice A xs.length c∧
  xs.length≤c∧aC (Rel V t) xs br∧(A=none→c=0)∧∀j u,br.flatten[j]? =some u→∃ad,A=some ad∧V (ad.add j) u:=by
 obtain⟨A,c,br,h1,h2⟩:=h;simp only[List.cons.injEq,and_true] at h1;exact⟨A,c,br,h1,h2⟩
theorem acZ {i:IntKind}{n:Int}:bJ V ⟨.int i,n⟩ (.int i n):=by show [Value.int i n]=[Value.int i n];rfl
theorem YZ {b:Bool}:bJ V ⟨.bool,b⟩ (.bool b):=by show [Value.bool b]=[Value.bool b];rfl
theorem ac0 {s:ByteArray}:bJ V ⟨.str,s⟩ (.string s):=by show [Value.string s]=[Value.string s];rfl
theorem fN {t:Ty}:∀{xs:List t.den} {br:List (List Value)},aC (Rel V t) xs br→br.flatten.length=xs.length*t.size
 | [],[],_=>by simp
 |x::xs,y::ys,h=>by simp[Rel.length h.1,fN h.2,Nat.add_mul];omega
 | [],_::_,h=>h.elim
 |_::_,[],h=>h.elim
theorem BC {t:Ty}:∀{xs:List t.den} {br:List (List Value)},aC (Rel V t) xs br→∀(i:Nat) x,xs[i]? =some x→
  ∃ys,br[i]? =some ys∧Rel V t x ys∧∀j u,ys[j]? =some u→br.flatten[i*t.size+j]? =some u
 | [],[],_,i,x,hx=>by simp at hx
 |a::xs,b::br,h,0,x,hx=>by simp at hx;subst hx;refine⟨b,by simp,h.1,fun j u hj=> ?_⟩;have hlt:j<b.length:=(List.getElem?_eq_some_iff.1 hj).1;simp[List.getElem?_append_left hlt,hj]
 |a::xs,b::br,h,i+1,x,hx=>by obtain⟨ys,h1,h2,h3⟩:=BC h.2 i x (by simpa using hx);refine⟨ys,by simpa using h1,h2,fun j u hj=> ?_⟩;have hb:=Rel.length h.1;have:=h3 j u hj;rw[List.flatten_cons,List.getElem?_append_right (by rw[hb,Nat.succ_mul];omega)];rw[←this];congr 1;rw[hb,Nat.succ_mul];omega
 | [],_::_,h,_,_,_=>h.elim
 |_::_,[],h,_,_,_=>h.elim
theorem add_add (a:Addr)(m n:Nat):(a.add m).add n=a.add (m+n):=by unfold Addr.add;by_cases h1:m=0<;>by_cases h2:n=0<;>simp[h1,h2,Nat.add_assoc]
theorem SH {α:Type}{xs:List α}{n:Int}{x:α}(h:idx xs n=some x):0≤n∧n<xs.length∧xs[n.toNat]? =some x:=by
 cases n with
 |ofNat m=>simp only[idx] at h;have:=(List.getElem?_eq_some_iff.1 h).1;exact⟨by simp,by simp;exact this,by simpa using h⟩
 |negSucc m=>simp[idx] at h
theorem IT {vs:List Value}{n j:Nat}{u:Value}(h:(vs.take n)[j]? =some u):vs[j]? =some u:=by
 rw[List.getElem?_take] at h;split at h
 ·exact h
 ·cases h
theorem IU {vs:List Value}{n j:Nat}{u:Value}(h:(vs.drop n)[j]? =some u):vs[n+j]? =some u:=by rwa [List.getElem?_drop] at h
theorem Kl (hr:YY P T r)(w:World):(isAgg r.id).run P w= .ok (match r.ty with | .st _=>true |_=>false) w:=by
 have h:=hr.desc;cases ht:r.ty with
 |int k=>rw[ht] at h;simp[isAgg,run_underlying (show P.underlying r.id=some (.int k) from h)]
 |bool=>rw[ht] at h;simp[isAgg,run_underlying (show P.underlying r.id=some .bool from h)]
 |str=>rw[ht] at h;simp[isAgg,run_underlying (show P.underlying r.id=some .string from h)]
 |slice u=>rw[ht] at h;simp[isAgg,run_underlying h.1]
 |st u=>rw[ht] at h;rcases h with ⟨_,fs,h1,_,_⟩ | ⟨_,n,e,j,h1,_⟩<;>simp[isAgg,run_underlying h1]
 |ptr _=>rw[ht] at h;obtain⟨e,h1⟩:=h;simp[isAgg,run_underlying h1]
 |mp _=>rw[ht] at h;obtain⟨e,e',h1⟩:=h;simp[isAgg,run_underlying h1]
 |fn=>rw[ht] at h;obtain⟨e,e',e'',h1⟩:=h;simp[isAgg,run_underlying h1]
 |ref _=>rw[ht] at h;exact h.elim
 |px _=>rw[ht] at h;exact h.elim
 |unit=>rw[ht] at h;exact h.elim
 |pair a b=>rw[ht] at h;exact h.elim
theorem BD (hr:YY P T r)(w:World):(sizeOf r.id).run P w= .ok r.ty.size w:=by obtain⟨i,z,h1,h2,_⟩:=hr.info;simp[sizeOf,typeInfo,h1,h2]
theorem Y0 (hr:YY P T r){w:World}{ad:Addr}{vs:List Value}{cs:List CV}{x:AV}{σ:AS}{ν:Nm→Value}{Y:Value}
  (hc:∀j u,vs[j]? =some u→w.cell? (ad.add j)=some u) (hcs:aC (bJ V) cs vs) (hx:mH r.ty cs=some x):
  ∃v,(loadVar r.id ad).run P w= .ok v w∧aj V σ ν Y x v:=by
 have one:(match r.ty with | .st _=>true |_=>false)=false→(∀c l,cs=c::l→x= .rv (.cv c))→cs≠ []→∃v,(loadVar r.id ad).run P w= .ok v w∧aj V σ ν Y x v:=by
  intro h1 h2 h3;cases cs with
  |nil=>exact absurd rfl h3
  |cons c l=>
   cases vs with
   |nil=>exact hcs.elim
   |cons v vs=>
    refine⟨v, ?_, ?_⟩
    ·have:=hc 0 v (by simp);have h0:ad.add 0=ad:=rfl;rw[h0] at this;simp[loadVar,Kl hr,h1,this]
    ·rw[h2 c l rfl];exact hcs.1
 cases ht:r.ty with
 |st t=>
  rw[ht] at hx;simp only[mH] at hx;cases hle:Nat.ble t.size cs.length with
  |false=>simp[hle] at hx
  |true=>
   simp only[hle,cond_true,Option.some.injEq] at hx;have hlen:=hcs.length;have hle':t.size≤vs.length:=by rw[←hlen];exact Nat.le_of_ble_eq_true hle
   refine⟨.agg (vs.take t.size).toArray, ?_, ?_⟩
   ·have hl:=run_loadCells_list (P:=P) w ad (vs.take t.size) (fun j v hj=>hc j v (IT hj));rw[List.length_take,Nat.min_eq_left hle'] at hl;have hs:Ty.size (.st t)=t.size:=rfl;simp[loadVar,Kl hr,ht,BD hr,hl,hs]
   ·subst hx;exact⟨_,rfl,hcs.take _⟩
 |int k=>rw[ht] at hx;exact one (by simp[ht]) (fun c l e=>by subst e;simpa [mH] using hx.symm) (fun e=>by subst e;simp[mH] at hx)
 |bool=>rw[ht] at hx;exact one (by simp[ht]) (fun c l e=>by subst e;simpa [mH] using hx.symm) (fun e=>by subst e;simp[mH] at hx)
 |str=>rw[ht] at hx;exact one (by simp[ht]) (fun c l e=>by subst e;simpa [mH] using hx.symm) (fun e=>by subst e;simp[mH] at hx)
 |slice u=>rw[ht] at hx;exact one (by simp[ht]) (fun c l e=>by subst e;simpa [mH] using hx.symm) (fun e=>by subst e;simp[mH] at hx)
 |ptr _=>rw[ht] at hx;exact one (by simp[ht]) (fun c l e=>by subst e;simpa [mH] using hx.symm) (fun e=>by subst e;simp[mH] at hx)
 |mp _=>rw[ht] at hx;exact one (by simp[ht]) (fun c l e=>by subst e;simpa [mH] using hx.symm) (fun e=>by subst e;simp[mH] at hx)
 |fn=>rw[ht] at hx;exact one (by simp[ht]) (fun c l e=>by subst e;simpa [mH] using hx.symm) (fun e=>by subst e;simp[mH] at hx)
 |ref _=>rw[ht] at hx;exact one (by simp[ht]) (fun c l e=>by subst e;simpa [mH] using hx.symm) (fun e=>by subst e;simp[mH] at hx)
 |px _=>rw[ht] at hx;exact one (by simp[ht]) (fun c l e=>by subst e;simpa [mH] using hx.symm) (fun e=>by subst e;simp[mH] at hx)
 |unit=>exact absurd hr.desc (by rw[ht];exact id)
 |pair a b=>exact absurd hr.desc (by rw[ht];exact id)
theorem iH:∀{t:Ty} {l:List Value} {cs:List CV} {r:List Value},cK t l=some (cs,r)→∃l1,l=l1++r∧aC (bJ V) cs l1
 | .unit,l,cs,r,h=>by simp only[cK,Option.some.injEq,Prod.mk.injEq] at h;obtain⟨rfl,rfl⟩:=h;exact⟨[],rfl,trivial⟩
 | .pair a b,l,cs,r,h=>by
   simp only[cK] at h;split at h
   ·rename_i x l' h1;split at h
    ·rename_i y l'' h2;simp only[Option.some.injEq,Prod.mk.injEq] at h;obtain⟨rfl,rfl⟩:=h;obtain⟨m1,e1,r1⟩:=iH h1;obtain⟨m2,e2,r2⟩:=iH h2;exact⟨m1++m2,by rw[e1,e2,List.append_assoc],r1.append r2⟩
    ·cases h
   ·cases h
 | .st t,l,cs,r,h=>iH (t:=t) h
 | .int k, .int k' n::l,cs,r,h=>by
   simp only[cK] at h;split at h
   ·rename_i e;subst e;simp only[Option.some.injEq,Prod.mk.injEq] at h;obtain⟨rfl,rfl⟩:=h;exact⟨[_],rfl,acZ,trivial⟩
   ·cases h
 | .bool, .bool b::l,cs,r,h=>by simp only[cK,Option.some.injEq,Prod.mk.injEq] at h;obtain⟨rfl,rfl⟩:=h;exact⟨[_],rfl,YZ,trivial⟩
 | .str, .string s::l,cs,r,h=>by simp only[cK,Option.some.injEq,Prod.mk.injEq] at h;obtain⟨rfl,rfl⟩:=h;exact⟨[_],rfl,ac0,trivial⟩
 | .slice t, .slice none 0 0::l,cs,r,h=>by simp only[cK,Option.some.injEq,Prod.mk.injEq] at h;obtain⟨rfl,rfl⟩:=h;exact⟨[_],rfl,⟨none,0,[],rfl,Nat.le_refl _,trivial,fun _=>rfl,fun j u hj=>by simp at hj⟩,trivial⟩
 | .ref t, .slice none 0 0::l,cs,r,h=>by simp only[cK,Option.some.injEq,Prod.mk.injEq] at h;obtain⟨rfl,rfl⟩:=h;exact⟨[_],rfl,(show [_]=[_] from rfl),trivial⟩
 | .ptr t, .pointer none::l,cs,r,h=>by simp only[cK,Option.some.injEq,Prod.mk.injEq] at h;obtain⟨rfl,rfl⟩:=h;exact⟨[_],rfl,(show [_]=[_] from rfl),trivial⟩
 | .mp t, .map none::l,cs,r,h=>by simp only[cK,Option.some.injEq,Prod.mk.injEq] at h;obtain⟨rfl,rfl⟩:=h;exact⟨[_],rfl,(show [_]=[_] from rfl),trivial⟩
 | .px t, .slice none 0 0::l,cs,r,h=>by simp only[cK,Option.some.injEq,Prod.mk.injEq] at h;obtain⟨rfl,rfl⟩:=h;exact⟨[_],rfl,(show [_]=[_] from rfl),trivial⟩
 | .fn, .nilFunc::l,cs,r,h=>by simp only[cK,Option.some.injEq,Prod.mk.injEq] at h;obtain⟨rfl,rfl⟩:=h;exact⟨[_],rfl,(show [_]=[_] from rfl),trivial⟩
end
open Go.RowKit Go.Lib
section
variable {T:cG}{α:Type}{Φ:bN T}{σ:AS}
def Q.val (Φ:bN T)(σ:AS):Q T α→Option α
 | .ret a=>some a
 | .fail=>none
 | .opt o q=>o.bind fun y=>(q y).val Φ σ
 | .fi b q=>bif b then q.val Φ σ else none
 | .ite b x y=>bif b then x.val Φ σ else y.val Φ σ
 | .row r q=>match look σ.rows r with
   |some x=>(q x).val Φ σ
   |none=>none
 | .len r q=>match look σ.rows r with
   |some x=>(q (List.length x.xs)).val Φ σ
   |none=>none
 | .box b q=>match look σ.boxes b with
   |some x=>(q x).val Φ σ
   |none=>none
 | .heap h q=>match σ.ae[h]? with
   |some x=>(q x).val Φ σ
   |none=>none
 | .qg r q=>match look σ.rows r with
   |none=>q.val Φ σ
   |some _=>none
 | .qh b q=>match look σ.boxes b with
   |none=>q.val Φ σ
   |some _=>none
 | .call v x q=>(Φ v x).bind fun y=>(q y).val Φ σ
 | .all q=>(q σ).val Φ σ
 | .on ag q=>q.val Φ ag
theorem gD {a r:α}:(Q.ret (T:=T) a).val Φ σ=some r↔a=r:=by simp[Q.val]
theorem y7 {r:α}:(Q.fail (T:=T)).val Φ σ=some r↔False:=by simp[Q.val]
theorem b6 {β:Type}{o:Option β}{k:β→Q T α}{r:α}:(Q.opt o k).val Φ σ=some r↔∃y,o=some y∧(k y).val Φ σ=some r:=by simp[Q.val,Option.bind_eq_some_iff]
theorem aB {b:Bool}{q:Q T α}{r:α}:(Q.fi b q).val Φ σ=some r↔b=true∧q.val Φ σ=some r:=by cases b<;>simp[Q.val]
theorem NM {b:Bool}{x y:Q T α}{r:α}:(Q.ite b x y).val Φ σ=some r↔(b=true∧x.val Φ σ=some r)∨(b=false∧y.val Φ σ=some r):=by cases b<;>simp[Q.val]
theorem qi {q:Nat}{k:Row→Q T α}{r:α}:(Q.row q k).val Φ σ=some r↔∃x,look σ.rows q=some x∧(k x).val Φ σ=some r:=by simp only[Q.val];cases look σ.rows q<;>simp
theorem R1 {q:Nat}{k:Nat→Q T α}{r:α}:(Q.len q k).val Φ σ=some r↔∃x,look σ.rows q=some x∧(k x.xs.length).val Φ σ=some r:=by simp only[Q.val];cases look σ.rows q<;>simp
theorem Dm {q:Nat}{k:BX→Q T α}{r:α}:(Q.box q k).val Φ σ=some r↔∃x,look σ.boxes q=some x∧(k x).val Φ σ=some r:=by simp only[Q.val];cases look σ.boxes q<;>simp
theorem ft {q:Nat}{k:aV→Q T α}{r:α}:(Q.heap q k).val Φ σ=some r↔∃x,σ.ae[q]? =some x∧(k x).val Φ σ=some r:=by simp only[Q.val];cases σ.ae[q]? <;>simp
theorem xE {q:Nat}{k:Q T α}{r:α}:(Q.qg q k).val Φ σ=some r↔look σ.rows q=none∧k.val Φ σ=some r:=by simp only[Q.val];cases look σ.rows q<;>simp
theorem xF {q:Nat}{k:Q T α}{r:α}:(Q.qh q k).val Φ σ=some r↔look σ.boxes q=none∧k.val Φ σ=some r:=by simp only[Q.val];cases look σ.boxes q<;>simp
theorem NN {v:Nat}{x:Bu T v}{k:xA T v→Q T α}{r:α}:(Q.call v x k).val Φ σ=some r↔∃y,Φ v x=some y∧(k y).val Φ σ=some r:=by simp[Q.val,Option.bind_eq_some_iff]
theorem SJ {ag:AS}{q:Q T α}{r:α}:(Q.on ag q).val Φ σ=some r↔q.val Φ ag=some r:=by simp[Q.val]
theorem mL {k:AS→Q T α}{r:α}:(Q.all k).val Φ σ=some r↔(k σ).val Φ σ=some r:=by simp[Q.val]
theorem gB {z:AV}{r:cn}:(pv (T:=T) z).val Φ σ=some r↔(z,Eff.mI [])=r:=by simp[pv,Q.val]
theorem cL {t:Ty}{x:t.den}{r:cn}:(Dc (T:=T) t x).val Φ σ=some r↔(AV.rv (.cv ⟨t,x⟩),Eff.mI [])=r:=by simp[Dc,gB]
theorem nQ {β:Type}{f:β→Q T cn}{o:Option β}{r:cn}:(jt f o).val Φ σ=some r↔∃y,o=some y∧(f y).val Φ σ=some r:=by cases o<;>simp[jt,Q.val]
theorem R2 {β:Type}{f:α→β}:∀{q:Q T α} {r:β},(q.map f).val Φ σ=some r↔∃y,q.val Φ σ=some y∧f y=r:=by
 intro q;induction q generalizing σ with
 |ret a=>intro r;simp[Q.map,Q.val]
 |fail=>intro r;simp[Q.map,Q.val]
 |opt o k ih=>intro r;simp only[Q.map,b6,ih];constructor
              ·rintro ⟨y,h1,z,h2,h3⟩;exact⟨z,⟨y,h1,h2⟩,h3⟩
              ·rintro ⟨z,⟨y,h1,h2⟩,h3⟩;exact⟨y,h1,z,h2,h3⟩
 |fi b k ih=>intro r;simp only[Q.map,aB,ih];constructor
             ·rintro ⟨h1,z,h2,h3⟩;exact⟨z,⟨h1,h2⟩,h3⟩
             ·rintro ⟨z,⟨h1,h2⟩,h3⟩;exact⟨h1,z,h2,h3⟩
 |ite b x y KN Ig=>intro r;cases b<;>simp only[Q.map,Q.val,cond_true,cond_false]
                   ·exact Ig
                   ·exact KN
 |row q k ih=>intro r;simp only[Q.map,qi,ih];constructor
              ·rintro ⟨y,h1,z,h2,h3⟩;exact⟨z,⟨y,h1,h2⟩,h3⟩
              ·rintro ⟨z,⟨y,h1,h2⟩,h3⟩;exact⟨y,h1,z,h2,h3⟩
 |len q k ih=>intro r;simp only[Q.map,R1,ih];constructor
              ·rintro ⟨y,h1,z,h2,h3⟩;exact⟨z,⟨y,h1,h2⟩,h3⟩
              ·rintro ⟨z,⟨y,h1,h2⟩,h3⟩;exact⟨y,h1,z,h2,h3⟩
 |box q k ih=>intro r;simp only[Q.map,Dm,ih];constructor
              ·rintro ⟨y,h1,z,h2,h3⟩;exact⟨z,⟨y,h1,h2⟩,h3⟩
              ·rintro ⟨z,⟨y,h1,h2⟩,h3⟩;exact⟨y,h1,z,h2,h3⟩
 |heap q k ih=>intro r;simp only[Q.map,ft,ih];constructor
               ·rintro ⟨y,h1,z,h2,h3⟩;exact⟨z,⟨y,h1,h2⟩,h3⟩
               ·rintro ⟨z,⟨y,h1,h2⟩,h3⟩;exact⟨y,h1,z,h2,h3⟩
 |qg b k ih=>intro r;simp only[Q.map,xE,ih];constructor
             ·rintro ⟨h1,z,h2,h3⟩;exact⟨z,⟨h1,h2⟩,h3⟩
             ·rintro ⟨z,⟨h1,h2⟩,h3⟩;exact⟨h1,z,h2,h3⟩
 |qh b k ih=>intro r;simp only[Q.map,xF,ih];constructor
             ·rintro ⟨h1,z,h2,h3⟩;exact⟨z,⟨h1,h2⟩,h3⟩
             ·rintro ⟨z,⟨h1,h2⟩,h3⟩;exact⟨h1,z,h2,h3⟩
 |call v x k ih=>intro r;simp only[Q.map,NN,ih];constructor
                 ·rintro ⟨y,h1,z,h2,h3⟩;exact⟨z,⟨y,h1,h2⟩,h3⟩
                 ·rintro ⟨z,⟨y,h1,h2⟩,h3⟩;exact⟨y,h1,z,h2,h3⟩
 |all k ih=>intro r;simp only[Q.map,mL,ih]
 |on ag k ih=>intro r;simp only[Q.map,SJ,ih]
theorem ac1 {R:Type}{k:ml→α→Option R}{y:R}:∀(q:Q T α) (c:ml),q.run Φ σ c k=some y→∃c' r,q.val Φ σ=some r∧k c' r=some y:=by
 intro q;induction q generalizing σ with
 |ret a=>intro c h;exact⟨c,a,rfl,h⟩
 |fail=>intro c h;cases h
 |opt o q ih=>intro c h;simp only[Q.run,Option.bind_eq_some_iff] at h;obtain⟨z,h1,h2⟩:=h;obtain⟨c',r,h3,h4⟩:=ih z c h2;exact⟨c',r,b6.2 ⟨z,h1,h3⟩,h4⟩
 |fi b q ih=>
  intro c h;cases b
  ·cases h
  ·exact ih c h
 |ite b x z KN ihz=>
  intro c h;cases b
  ·exact ihz c h
  ·exact KN c h
 |row q k ih=>intro c h;simp only[Q.run] at h;split at h
              ·rename_i x hx;obtain⟨c',r,h3,h4⟩:=ih x _ h;exact⟨c',r,qi.2 ⟨x,hx,h3⟩,h4⟩
              ·cases h
 |len q k ih=>intro c h;simp only[Q.run] at h;split at h
              ·rename_i x hx;obtain⟨c',r,h3,h4⟩:=ih _ _ h;exact⟨c',r,R1.2 ⟨x,hx,h3⟩,h4⟩
              ·cases h
 |box q k ih=>intro c h;simp only[Q.run] at h;split at h
              ·rename_i x hx;obtain⟨c',r,h3,h4⟩:=ih x _ h;exact⟨c',r,Dm.2 ⟨x,hx,h3⟩,h4⟩
              ·cases h
 |heap q k ih=>intro c h;simp only[Q.run] at h;split at h
               ·rename_i x hx;obtain⟨c',r,h3,h4⟩:=ih x _ h;exact⟨c',r,ft.2 ⟨x,hx,h3⟩,h4⟩
               ·cases h
 |qg q k ih=>intro c h;simp only[Q.run] at h;split at h
             ·rename_i hx;obtain⟨c',r,h3,h4⟩:=ih _ h;exact⟨c',r,xE.2 ⟨hx,h3⟩,h4⟩
             ·cases h
 |qh q k ih=>intro c h;simp only[Q.run] at h;split at h
             ·rename_i hx;obtain⟨c',r,h3,h4⟩:=ih _ h;exact⟨c',r,xF.2 ⟨hx,h3⟩,h4⟩
             ·cases h
 |call v x q ih=>intro c h;simp only[Q.run,Option.bind_eq_some_iff] at h;obtain⟨z,h1,h2⟩:=h;obtain⟨c',r,h3,h4⟩:=ih z c h2;exact⟨c',r,NN.2 ⟨z,h1,h3⟩,h4⟩
 |all q ih=>intro c h;obtain⟨c',r,h3,h4⟩:=ih σ _ h;exact⟨c',r,mL.2 h3,h4⟩
 |on ag q ih=>intro c h;obtain⟨c',r,h3,h4⟩:=ih _ h;exact⟨c',r,SJ.2 h3,h4⟩
end
section
variable {P:Program}{Tb:cG}{T:List fJ}{E:Env}{σ:AS}{a:Act}{w w':World}{ν:Nm→Value}{O:Nat→Prop}{Φ:bN Tb}
theorem HB (g j:Nat):(⟨g,0,none⟩:Addr).add j=⟨g,j,none⟩:=by unfold Addr.add;split<;>simp_all
theorem VG (g i j:Nat):(⟨g,i,none⟩:Addr).add j=⟨g,i+j,none⟩:=by unfold Addr.add;split<;>simp_all
theorem xG {V:View}{Y u:Value}{x:AV}{i:IntKind}{n:Int}(h:aj V σ ν Y x u)(he:x= .rv (.cv ⟨.int i,n⟩)):u= .int i n:=by subst he;exact agM (V:=V) h
theorem NO {V:View}{Y u:Value}{x:AV}{b:Bool}(h:aj V σ ν Y x u)(he:x= .rv (.cv ⟨.bool,b⟩)):u= .bool b:=by subst he;exact VF (V:=V) h
theorem Mp {V:View}{Y u:Value}{x:AV}{s:ByteArray}(h:aj V σ ν Y x u)(he:x= .rv (.cv ⟨.str,s⟩)):u= .string s:=by subst he;exact agN (V:=V) h
theorem xH {V:View}{Y:Value}{i:IntKind}{n:Int}:aj V σ ν Y (.rv (.cv ⟨.int i,n⟩)) (.int i n):=acZ (V:=V)
theorem xI {V:View}{Y:Value}{b:Bool}:aj V σ ν Y (.rv (.cv ⟨.bool,b⟩)) (.bool b):=YZ (V:=V)
theorem E7 {V:View}{Y:Value}{s:ByteArray}:aj V σ ν Y (.rv (.cv ⟨.str,s⟩)) (.string s):=ac0 (V:=V)
theorem IV {V:View}{h n:Nat}{v:Value}(hr:bJ V ⟨.ref h,n⟩ v):(n=0∧v= .slice none 0 0)∨(1≤n∧agy v∧V (.ref h n) v):=by
 cases n with
 |zero=>have: [v]=_:=hr;simp at this;exact .inl ⟨rfl,this⟩
 |succ m=>obtain⟨u,e,h1,h2⟩:=hr;simp at e;subst e;exact .inr ⟨by omega,h1,h2⟩
theorem SK {V:View}{h n:Nat}{v:Value}(hr:bJ V ⟨.ptr h,n⟩ v):(n=0∧v= .pointer none)∨(1≤n∧alV v∧V (.ref h n) v):=by
 cases n with
 |zero=>have: [v]=_:=hr;simp at this;exact .inl ⟨rfl,this⟩
 |succ m=>obtain⟨u,e,h1,h2⟩:=hr;simp at e;subst e;exact .inr ⟨by omega,h1,h2⟩
theorem ajP {V:View}{h n:Nat}{v:Value}(hr:bJ V ⟨.mp h,n⟩ v):(n=0∧v= .map none)∨(1≤n∧anZ v∧V (.ref h n) v):=by
 cases n with
 |zero=>have: [v]=_:=hr;simp at this;exact .inl ⟨rfl,this⟩
 |succ m=>obtain⟨u,e,h1,h2⟩:=hr;simp at e;subst e;exact .inr ⟨by omega,h1,h2⟩
theorem ajQ {V:View}{h n:Nat}{v:Value}(h0:1≤n)(h1:agy v)(h2:V (.ref h n) v):bJ V ⟨.ref h,n⟩ v:=by
 cases n with
 |zero=>omega
 |succ m=>exact⟨v,rfl,h1,h2⟩
theorem ajR {V:View}{h n:Nat}{v:Value}(h0:1≤n)(h1:alV v)(h2:V (.ref h n) v):bJ V ⟨.ptr h,n⟩ v:=by
 cases n with
 |zero=>omega
 |succ m=>exact⟨v,rfl,h1,h2⟩
theorem SL {V:View}{t:Ty}{o:Option (List t.den)}{v:Value}(hr:bJ V ⟨.px t,o⟩ v):bJ V ⟨.slice t,lst o⟩ v:=by
 cases o with
 |none=>have: [v]=_:=hr;simp at this;subst this;exact⟨none,0,[],rfl,Nat.le_refl _,trivial,fun _=>rfl,fun j u hj=>by simp at hj⟩
 |some xs=>obtain⟨ad,c,br,h1,h2,h3,h4⟩:=hr;exact⟨some ad,c,br,h1,h2,h3,(fun e=>by cases e),fun j u hj=>⟨ad,rfl,h4 j u hj⟩⟩
theorem SM {V:View}{Y:Value}{x:AV}{u:Value}(h:aj V σ ν Y x u):aj V σ ν Y (co x) u:=by
 unfold co;split
 ·exact SL h
 ·exact h
theorem Dp {V:View}{v:Value}{row:Row}(h:jf V w v row):∃(A:Option Addr) (c:Nat),v= .slice A row.xs.length c∧row.xs.length≤c∧(A=none→c=0)∧∀ad,A=some ad→ad.off=0∧ad.spot=none:=by
 obtain⟨br,⟨h1,h2⟩,h3⟩:=h;rcases h2 with ⟨h2,h4⟩ | ⟨g,cap,cur,h2,_,_,h4,_⟩
 ·exact⟨none,0,by rw[h2,h4],by rw[h4];exact Nat.le_refl _,fun _=>rfl,fun _ e=>by cases e⟩
 ·exact⟨some ⟨g,0,none⟩,cap,h2,h4,(fun e=>by cases e),fun ad e=>by cases e;exact⟨rfl,rfl⟩⟩
theorem UY {e:TypeId}{size n:Nat}{v:Value}{xs:List Value}(h:w.ownsRow 0 e size v n xs){g:Nat}(hg:cR v=some g){j:Nat}{u:Value}(hj:xs[j]? =some u):w.cell? ⟨g,j,none⟩=some u:=by
 obtain⟨h1,h2⟩:=h;rcases h2 with ⟨rfl,_⟩ | ⟨g',cap,cur,rfl,_,h3,h4,h5,h6,h7⟩
 ·cases hg
 ·simp only[cR,Option.some.injEq] at hg;subst hg;rw[cell_of_row w _ _ cur e (0,0) h3];rw[←h7] at hj;simpa using IT hj
theorem Pu {V:View}{v:Value}{row:Row}(h:jf V w v row):
  ∃br:List (List Value),aC (Rel V row.t) row.xs br∧∀g,cR v=some g→∀(j:Nat) u,br.flatten[j]? =some u→w.cell? ⟨g,j,none⟩=some u:=by
 obtain⟨br,h1,h3⟩:=h;exact⟨br,h3,fun g hg j u hj=>UY h1 hg hj⟩
theorem Y1 {V:View}{k:Nat}{v:Value}{row:Row}(h:Au V w k v row):
  ∃br:List (List Value),aC (Rel V row.t) row.xs br∧∀g,cR v=some g→∀(j:Nat) u,br.flatten[j]? =some u→w.cell? ⟨g,j,none⟩=some u:=by
 match k,h with
 |0,⟨_,h⟩=>exact Pu h
 |1,⟨g,cur,ys,x,h1,h2,h3,h4,h5⟩=>refine⟨[ys],by rw[h4];exact⟨h5,trivial⟩,fun g' hg j u hj=> ?_⟩;rw[h1] at hg;simp only[cR,Option.some.injEq] at hg;subst hg;rw[cell_of_row w _ _ cur _ (0,0) h2];subst h3;simpa using hj
theorem St.row (h:St E σ a w ν O){r:Nat}{row:Row}(hr:look σ.rows r=some row):jf (view E σ ν O w) w (ν (.row r)) row:=h.Bj (.row r) (.row row) (by simp[AS.obj,hr])
theorem St.box (h:St E σ a w ν O){b:Nat}{x:BX}(hb:look σ.boxes b=some x):BA (view E σ ν O w) σ ν w (ν (.box b)) x:=h.Bj (.box b) (.box x) (by simp[AS.obj,hb])
theorem abl {ae:List aV}{h n:Nat}{hr:aV}{l:List hr.t.den}(hh:ae[h]? =some hr)(hn:1≤n)(hl:ai hr.xs n=some l):nL ae h n=some (.hp hr.k ⟨hr.e,hr.t,l⟩):=by
 cases n with
 |zero=>omega
 |succ m=>
  simp only[ai] at hl;simp only[nL,hh];split at hl
  ·rename_i o ho;rw[ho,hl];rfl
  ·cases hl
theorem Km {α:Type}{xs:List (Option (List α))}{n:Nat}{l:List α}(hl:ai xs n=some l):n≤xs.length:=by
 cases n with
 |zero=>omega
 |succ m=>
  simp only[ai] at hl;split at hl
  ·rename_i o ho;exact(List.getElem?_eq_some_iff.1 ho).1
  ·cases hl
theorem St.hp (hst:St E σ a w ν O){h n:Nat}{hr:aV}{l:List hr.t.den}(hh:σ.ae[h]? =some hr)(hn:1≤n)(hl:ai hr.xs n=some l):Au (view E σ ν O w) w hr.k (ν (.hp h n)) ⟨hr.e,hr.t,l⟩:=
 hst.Bj (.hp h n) (.hp hr.k ⟨hr.e,hr.t,l⟩) (abl hh hn hl)
def PV (P:Program)(o:Oper)(E:Env)(σ:AS)(a:Act)(w:World)(ν:Nm→Value)(O:Nat→Prop)(r:cn):Prop:=
 r.2= .mI []∧∃v w',(execOp a.eval o).run P w= .ok (.value v) w'∧Below w.heap.size w w'∧aj (view E σ ν O w') σ ν E.Y r.1 v
theorem PV.same {o:Oper}{z:AV}{r:cn}{v:Value}(hr:(z,Eff.mI [])=r)(h1:(execOp a.eval o).run P w= .ok (.value v) w)
  (h2:aj (view E σ ν O w) σ ν E.Y z v):PV P o E σ a w ν O r:=by subst hr;exact⟨rfl,v,w,h1,Below.refl _ _,h2⟩
theorem agO (hE:aE E)(hT:iG P T)(h:St E σ a w ν O){t:TypeId}{x:AV}{u:Value}(hx:aj (view E σ ν O w) σ ν E.Y x u){r:cn}
  (he:(Vy (T:=Tb) T t x).val Φ σ=some r):r.2= .mI []∧∃v,(Instr.loadAt t u).run P w= .ok v w∧aj (view E σ ν O w) σ ν E.Y r.1 v:=by
 unfold Vy at he;split at he
 ·cases he
 ·rename_i tr hr;obtain⟨rfl,hr'⟩:=hT t tr hr;have fin:∀{cs:List CV} {vs:List Value} {ad:Addr},u= .pointer (some ad)→(∀(j:Nat) u,vs[j]? =some u→w.cell? (ad.add j)=some u)→aC (bJ (view E σ ν O w)) cs vs→
    (jt pv (mH tr.ty cs)).val Φ σ=some r→r.2= .mI []∧∃v,(Instr.loadAt tr.id u).run P w= .ok v w∧aj (view E σ ν O w) σ ν E.Y r.1 v:=by
   intro cs vs ad hu hc hcs he;rw[nQ] at he;obtain⟨z,hz,he⟩:=he;rw[gB] at he;subst he;obtain⟨v',h1,h2⟩:=Y0 (P:=P) hr' hc hcs hz (σ:=σ) (ν:=ν) (Y:=E.Y);exact⟨rfl,v',by simp only[Instr.loadAt,hu,Instr.sureAddr,Sem.run_bind,Sem.run_pure,Result.andThen_ok,h1],h2⟩
  have UU:∀{t:Ty} {xs:List t.den} {br:List (List Value)} {g i off:Nat} {z:t.den},aC (Rel (view E σ ν O w) t) xs br→(∀(j:Nat) u,br.flatten[j]? =some u→w.cell? ⟨g,j,none⟩=some u)→
    u= .pointer (some ⟨g,i*t.size+off,none⟩)→xs[i]? =some z→(jt pv (mH tr.ty ((flat t z).drop off))).val Φ σ=some r→
    r.2= .mI []∧∃v,(Instr.loadAt tr.id u).run P w= .ok v w∧aj (view E σ ν O w) σ ν E.Y r.1 v:=by
   intro t xs br g i off z h1 h2 hu hz he;obtain⟨ys,h3,h4,h5⟩:=BC h1 i z hz;refine fin hu (fun j u hj=> ?_) ((iC h4).drop off) he;rw[VG,Nat.add_assoc];exact h2 _ u (h5 _ u (IU hj))
  split at he
  ·rename_i b off;rw[Dm] at he;obtain⟨bx,hbx,he⟩:=he;obtain⟨_,g,hg,hu⟩:=hx;obtain⟨g',e1,cr⟩:=h.box hbx;rw[hg] at e1;simp only[Value.pointer.injEq,Option.some.injEq,Addr.mk.injEq,and_true] at e1;subst e1;cases bx with
   |cells cs=>obtain⟨cur,e,hgc,hcs⟩:=cr;refine fin hu (vs:=cur.toList.drop off) (fun j u hj=> ?_) (hcs.drop off) he;rw[VG,cell_of_row w _ _ cur e (0,0) hgc];simpa using IU hj
   |own q=>
    obtain⟨e,hgc,hq⟩:=cr;simp only at he;split at he
    ·rename_i ut qj;rw[aB,gB] at he;obtain⟨h0,rfl⟩:=he;have:=(beq_iff _ _).1 h0;subst this;refine⟨rfl,ν (.row q), ?_,rfl,hq⟩;have hc:w.cell? ⟨g,0,none⟩=some (ν (.row q)):=by rw[cell_of_row w _ _ _ e (0,0) hgc];rfl
     have ha:=Kl hr' w;rw[qj] at ha;simp[Instr.loadAt,hu,Instr.sureAddr,loadVar,ha,hc]
    ·cases he
   |nil=>cases he
  ·rename_i q sz i off;rw[qi] at he;obtain⟨row,hrow,he⟩:=he;rw[b6] at he;obtain⟨z,hz,he⟩:=he;obtain⟨row',g,agP,hg,rfl,hu⟩:=hx;rw[hrow] at agP;obtain rfl:row=row':=by simpa using agP
   obtain⟨br,h1,h2⟩:=Pu (h.row hrow);exact UU h1 (fun j u hj=>h2 g hg j u hj) hu hz he
  ·rename_i cs;obtain⟨ad,vs,hu,h1,h2⟩:=hx;exact fin hu (fun j u hj=>xD hE h.keep (h2 j u hj)) h1 he
  ·rename_i i n j off;simp only[ft,b6] at he;obtain⟨hr,hh,l,hl,z,hz,he⟩:=he;obtain⟨hr',g,hh',hn,_,hg,hu⟩:=hx;rw[hh] at hh';obtain rfl:hr=hr':=by simpa using hh'
   obtain⟨br,h1,h2⟩:=Y1 (h.hp hh hn hl);exact UU h1 (fun j u hj=>h2 g hg j u hj) hu hz he
  ·rename_i i n;simp only[ft,b6] at he;obtain⟨hr,hh,l,hl,z,hz,he⟩:=he;rcases SK hx with ⟨rfl,_⟩ | ⟨hn,⟨ad,rfl⟩,_,_,hu⟩
   ·simp[ai] at hl;subst hl;simp at hz
   ·have cr:=h.hp hh hn hl;obtain⟨br,h1,h2⟩:=Y1 cr;rw[←hu] at h2;have had:ad=⟨ad.block,0,none⟩:=by
     rw[←hu] at cr;generalize hr.k=k at cr
     match k,cr with
     |0,⟨⟨_,_,_,e⟩,_⟩=>cases e
     |1,⟨g,_,_,_,e,_⟩=>simp at e;rw[e]
    exact UU (i:=0) (off:=0) h1 (fun j u hj=>h2 _ rfl j u hj) (by rw[Nat.zero_mul, ←had]) hz (by simpa using he)
  ·cases he
theorem Pv {Y:Value}{V:View}{ty:TypeId}{x:AV}{u:Value}(hx:aj V σ ν Y x u){r:cn}
  (he:(Lz (T:=Tb) T ty x).val Φ σ=some r):r.2= .mI []∧aj V σ ν Y r.1 u:=by
 unfold Lz at he;split at he
 ·rename_i v;split at he
  ·split at he
   ·split at he
    ·rename_i vs;split at he
     ·rename_i cs hl;rw[gB] at he;subst he;obtain⟨l1,e1,h1⟩:=iH (V:=V) hl;refine⟨rfl,vs.toList, ?_, ?_⟩
      ·have:u= .agg vs:=hx;simpa using this
      ·rw[e1,List.append_nil];exact h1
     ·cases he
    ·cases he
   ·rw[gB] at he;subst he;exact⟨rfl,hx⟩
  ·cases he
 ·cases he
 ·rw[gB] at he;subst he;exact⟨rfl,hx⟩
end
def agQ (P:Program)(T:cG):Prop:=∀t,T.eqs.any (Nat.beq t)=true→∀r u,jn T.rows t=some r→r.ty= .st u→
 ∀(V:View) (x y:u.den) (vs us:List Value) (w:World) (op:BinOp) (ox oy:Operand),Rel V u x vs→Rel V u y us→
  (eqGuard op t ox oy (.agg vs.toArray) (.agg us.toArray)).run P w= .ok () w∧(Op.equal t (.agg vs.toArray) (.agg us.toArray)).run P w= .ok (Dj u x y) w
section
variable {P:Program}{Tb:cG}{T:List fJ}{E:Env}{σ:AS}{a:Act}{w w':World}{ν:Nm→Value}{O:Nat→Prop}{Φ:bN Tb}{V:View}{Y:Value}
theorem abm {op:BinOp}{x y:Int}{b:Bool}(h:abd op x y=some b):(Op.intCmp op x y).run P w= .ok (.bool b) w:=by cases op<;>simp[abd] at h<;>subst h<;>simp[Op.intCmp]
theorem abn {op:BinOp}{x y:ByteArray}{b:Bool}(h:Xa op x y=some b):(Op.stringOp op x y).run P w= .ok (.bool b) w:=by cases op<;>simp only[Xa,Option.some.injEq,reduceCtorEq] at h<;>subst h<;>simp[Op.stringOp]
theorem ajT {op:BinOp}{b:Bool}{r:cn}(he:(eqV (T:=Tb) op b).val Φ σ=some r):(op= .eql∧(AV.rv (.cv ⟨.bool,b⟩),Eff.mI [])=r)∨(op= .neq∧(AV.rv (.cv ⟨.bool, !b⟩),Eff.mI [])=r):=by
 unfold eqV at he;split at he
 ·rw[cL] at he;exact .inl ⟨rfl,he⟩
 ·rw[cL] at he;exact .inr ⟨rfl,he⟩
 ·cases he
theorem SN {op:BinOp}{t:TypeId}{u v:Value}{b:Bool}{r:cn}(ox oy:Operand)(hg:∀op,(eqGuard op t ox oy u v).run P w= .ok () w)(hb:(Op.equal t u v).run P w= .ok b w)
  (h1:binOp .eql t u v=(do pure (.bool (←Op.equal t u v)))) (h2:binOp .neq t u v=(do pure (.bool (!(←Op.equal t u v)))))
  (he:(eqV (T:=Tb) op b).val Φ σ=some r):r.2= .mI []∧∃z,(do eqGuard op t ox oy u v;binOp op t u v:Sem Value).run P w= .ok z w∧aj V σ ν Y r.1 z:=by
 rcases ajT he with ⟨rfl,rfl⟩ | ⟨rfl,rfl⟩
 ·refine⟨rfl, .bool b, ?_,xI⟩;simp[Sem.run_bind,hg,h1,hb]
 ·refine⟨rfl, .bool (!b), ?_,xI⟩;simp[Sem.run_bind,hg,h2,hb]
theorem Y2 {op:BinOp}{t:TypeId}{x y:AV}{u v:Value}(ox oy:Operand)(hx:aj V σ ν Y x u)(hy:aj V σ ν Y y v){r:cn}(he:(aec (T:=Tb) op x y).val Φ σ=some r):
  r.2= .mI []∧∃z,(do eqGuard op t ox oy u v;binOp op t u v:Sem Value).run P w= .ok z w∧aj V σ ν Y r.1 z:=by
 unfold aec at he;split at he
 ·rename_i i n j m;have ex:=xG hx rfl;have ey:=xG hy rfl;subst ex ey;have hg:eqGuard op t ox oy (.int i n) (.int j m)=pure ():=eqGuard_at_int ..;have fin:∀{k:IntKind} {q:Int},(AV.rv (.cv ⟨.int k,q⟩),Eff.mI [])=r→(binOp op t (.int i n) (.int j m)).run P w= .ok (.int k q) w→
    r.2= .mI []∧∃z,(do eqGuard op t ox oy (.int i n) (.int j m);binOp op t (.int i n) (.int j m):Sem Value).run P w= .ok z w∧aj V σ ν Y r.1 z:=fun e hrun=>by
   subst e;refine⟨rfl,_, ?_,xH⟩;rw[hg];simpa using hrun
  split at he
  ·rw[aB,cL] at he;obtain⟨hc,he⟩:=he;have hc':¬m<0:=by simpa using hc
   exact fin he (by simp[binOp,Op.shift,hc',shl])
  ·rw[aB,cL] at he;obtain⟨hc,he⟩:=he;have hc':¬m<0:=by simpa using hc
   exact fin he (by simp[binOp,Op.shift,hc',shr])
  ·rename_i hn1 hn2;split at he
   ·rename_i e;subst e;split at he
    ·rw[cL] at he;exact fin he (by simp[binOp,Op.intArith])
    ·rw[cL] at he;exact fin he (by simp[binOp,Op.intArith])
    ·rw[cL] at he;exact fin he (by simp[binOp,Op.intArith])
    ·rw[aB,cL] at he;obtain⟨hc,he⟩:=he;have hc':¬m=0:=by simpa using hc
     exact fin he (by simp[binOp,Op.intDiv,hc'])
    ·rw[aB,cL] at he;obtain⟨hc,he⟩:=he;have hc':¬m=0:=by simpa using hc
     exact fin he (by simp[binOp,Op.intDiv,hc'])
    ·rw[cL] at he;exact fin he (by simp[binOp,Op.intBits,bits])
    ·rw[cL] at he;exact fin he (by simp[binOp,Op.intBits,bits])
    ·rw[cL] at he;exact fin he (by simp[binOp,Op.intBits,bits])
    ·rw[cL] at he;exact fin he (by simp[binOp,Op.intBits,bits])
    ·rw[nQ] at he;obtain⟨b,hb,he⟩:=he;rw[cL] at he;subst he;refine⟨rfl, .bool b, ?_,xI⟩;rw[hg];have:=abm (P:=P) (w:=w) hb;cases op<;>first | (exfalso;simp_all;done) |simpa [binOp] using this
   ·cases he
 ·rename_i n m;have ex:=Mp hx rfl;have ey:=Mp hy rfl;subst ex ey;have hg:eqGuard op t ox oy (.string n) (.string m)=pure ():=eqGuard_at_string ..;split at he
  ·rw[aB,cL] at he;obtain⟨hb,rfl⟩:=he;have hle:=Nat.le_of_ble_eq_true hb;refine⟨rfl, .string (n++m), ?_,E7⟩;rw[hg];have hn:¬(((n.size+m.size:Nat):Int)>IntKind.i64.max):=by rw[IntKind.max_i64];omega
   simp only[binOp,Op.stringOp,Sem.run_bind,Sem.run_pure,Result.andThen_ok,if_neg hn]
  ·rw[nQ] at he;obtain⟨b,hb,he⟩:=he;rw[cL] at he;subst he;refine⟨rfl, .bool b, ?_,xI⟩;rw[hg];have:=abn (P:=P) (w:=w) hb;cases op<;>first | (simp[Xa] at hb;done) |simpa [binOp] using this
 ·cases he
theorem agR {op:BinOp}{t:TypeId}{x y:AV}{u v:Value}(ox oy:Operand)(ht:P.underlying t=some .bool)(hx:aj V σ ν Y x u)(hy:aj V σ ν Y y v){r:cn}(he:(aed (T:=Tb) op x y).val Φ σ=some r):
  r.2= .mI []∧∃z,(do eqGuard op t ox oy u v;binOp op t u v:Sem Value).run P w= .ok z w∧aj V σ ν Y r.1 z:=by
 unfold aed at he;split at he
 ·rename_i n m;have ex:=NO hx rfl;have ey:=NO hy rfl;subst ex ey;exact SN ox oy (fun op=>by rw[eqGuard_at_bool];rfl) (run_equalIn_bool w 9999 t n m ht) (by rfl) (by rfl) he
 ·cases he
theorem NP (d:Nat){t:TypeId}{e:TypeId}(ht:P.underlying t=some (.slice e))(A:Option Addr)(n c:Nat):(Op.equalIn (d+1) t (.slice A n c) (.slice none 0 0)).run P w= .ok A.isNone w:=by cases A<;>simp[Op.equalIn,run_underlying ht]
theorem Ry (d:Nat){t:TypeId}{e:TypeId}(ht:P.underlying t=some (.pointer e))(A:Option Addr):(Op.equalIn (d+1) t (.pointer A) (.pointer none)).run P w= .ok A.isNone w:=by cases A<;>simp[Op.equalIn,run_underlying ht]
theorem Rz (d:Nat){t k e:TypeId}(ht:P.underlying t=some (.map k e))(A:Option Nat):(Op.equalIn (d+1) t (.map A) (.map none)).run P w= .ok A.isNone w:=by cases A<;>simp[Op.equalIn,run_underlying ht]
theorem RA {t:TypeId}{e:TypeId}(ht:P.underlying t=some (.slice e))(A:Option Addr)(n c:Nat):(Op.equal t (.slice A n c) (.slice none 0 0)).run P w= .ok A.isNone w:=by exact NP 9999 ht A n c
theorem UZ {t:TypeId}{e:TypeId}(ht:P.underlying t=some (.pointer e))(A:Option Addr):(Op.equal t (.pointer A) (.pointer none)).run P w= .ok A.isNone w:=by exact Ry 9999 ht A
theorem U0 {t k e:TypeId}(ht:P.underlying t=some (.map k e))(A:Option Nat):(Op.equal t (.map A) (.map none)).run P w= .ok A.isNone w:=by exact Rz 9999 ht A
theorem SO (n:Nat):Nat.beq n 0=decide (n=0):=by cases n<;>rfl
theorem agS (hT:iG P T){tr:fJ}(htr:YY P T tr){op:BinOp}{x y:AV}{u v:Value}(ox oy:Operand)(hx:aj V σ ν Y x u)(hy:aj V σ ν Y y v){r:cn}(he:(aee (T:=Tb) tr.ty op x y).val Φ σ=some r):
  r.2= .mI []∧∃z,(do eqGuard op tr.id ox oy u v;binOp op tr.id u v:Sem Value).run P w= .ok z w∧aj V σ ν Y r.1 z:=by
 unfold aee at he;have hd:=htr.desc;have sl:∀{A:Option Addr} {n c:Nat} {b:Bool},(∃e,P.underlying tr.id=some (.slice e))→u= .slice A n c→A.isNone=b→v= .slice none 0 0→(eqV (T:=Tb) op b).val Φ σ=some r→
   r.2= .mI []∧∃z,(do eqGuard op tr.id ox oy u v;binOp op tr.id u v:Sem Value).run P w= .ok z w∧aj V σ ν Y r.1 z:=by
  intro A n c b ⟨e,ht⟩ hu hb hv he;subst hu hv;exact SN ox oy (fun op=>by rw[eqGuard_at_slice];rfl) (by rw[RA ht,hb]) (by rfl) (by rfl) he
 have pt:∀{A:Option Addr} {b:Bool},(∃e,P.underlying tr.id=some (.pointer e))→u= .pointer A→A.isNone=b→v= .pointer none→(eqV (T:=Tb) op b).val Φ σ=some r→
   r.2= .mI []∧∃z,(do eqGuard op tr.id ox oy u v;binOp op tr.id u v:Sem Value).run P w= .ok z w∧aj V σ ν Y r.1 z:=by
  intro A b ⟨e,ht⟩ hu hb hv he;subst hu hv;exact SN ox oy (fun op=>by rw[eqGuard_at_pointer];rfl) (by rw[UZ ht,hb]) (by rfl) (by rfl) he
 have mp:∀{A:Option Nat} {b:Bool},(∃k e,P.underlying tr.id=some (.map k e))→u= .map A→A.isNone=b→v= .map none→(eqV (T:=Tb) op b).val Φ σ=some r→
   r.2= .mI []∧∃z,(do eqGuard op tr.id ox oy u v;binOp op tr.id u v:Sem Value).run P w= .ok z w∧aj V σ ν Y r.1 z:=by
  intro A b ⟨k,e,ht⟩ hu hb hv he;subst hu hv;exact SN ox oy (fun op=>by rw[eqGuard_at_map];rfl) (by rw[U0 ht,hb]) (by rfl) (by rfl) he
 split at he
 ·rename_i ut h n qj;rw[qj] at hd;have hs:∃e,P.underlying tr.id=some (.slice e):=⟨_,hd.1⟩
  rcases IV hx with ⟨rfl,hu⟩ | ⟨hn,⟨ad,m,c,hu⟩,_⟩
  ·exact sl hs hu rfl hy he
  ·refine sl hs hu ?_ hy he;rw[SO,decide_eq_false (by omega)];rfl
 ·rename_i ut h n qj;rw[qj] at hd;rcases SK hx with ⟨rfl,hu⟩ | ⟨hn,⟨ad,hu⟩,_⟩
  ·exact pt hd hu rfl hy he
  ·refine pt hd hu ?_ hy he;rw[SO,decide_eq_false (by omega)];rfl
 ·rename_i ut h n qj;rw[qj] at hd;rcases ajP hx with ⟨rfl,hu⟩ | ⟨hn,⟨ad,hu⟩,_⟩
  ·exact mp hd hu rfl hy he
  ·refine mp hd hu ?_ hy he;rw[SO,decide_eq_false (by omega)];rfl
 ·rename_i ut t' o qj;rw[qj] at hd;have hs:∃e,P.underlying tr.id=some (.slice e):=⟨_,hd.1⟩
  cases o with
  |none=>have: [u]=_:=hx;simp at this;exact sl hs this rfl hy he
  |some xs=>obtain⟨ad,c,br,h1,_⟩:=hx;simp at h1;exact sl hs h1 rfl hy he
 ·cases he
theorem al4 {op:UnOp}{x:AV}{u:Value}(hx:aj V σ ν Y x u){r:cn}
  (he:(match op,x with
  | .not, .rv (.cv ⟨.bool,b⟩)=>Dc (T:=Tb) .bool (!b)
  | .neg, .rv (.cv ⟨.int i,a⟩)=>Dc (.int i) (i.wrap (0 - a))
  |_,_=> .fail).val Φ σ=some r):r.2= .mI []∧∃z,(Op.unary op u).run P w= .ok z w∧aj V σ ν Y r.1 z:=by
 split at he
 ·have ex:=NO hx rfl;rw[cL] at he;subst he ex;exact⟨rfl,_,by simp[Op.unary],xI⟩
 ·have ex:=xG hx rfl;rw[cL] at he;subst he ex;exact⟨rfl,_,by simp[Op.unary,Op.intArith],xH⟩
 ·cases he
theorem agT (hT:iG P T){tr:fJ}(htr:YY P T tr){x:AV}{u:Value}(h:St E σ a w ν O)(hx:aj (view E σ ν O w) σ ν E.Y x u){r:cn}(ty:TypeId)
  (he:(aef (T:=Tb) tr.ty x).val Φ σ=some r):
  r.2= .mI []∧∃z,(Builtin.len_ #[tr.id] ty #[u]).run P w= .ok z w∧aj (view E σ ν O w) σ ν E.Y r.1 z:=by
 have hc:=SM hx;have hd:=htr.desc;unfold aef at he;have sl:∀{ut:Ty} {A:Option Addr} {n c m:Nat},tr.ty= .slice ut→u= .slice A n c→n=m→(AV.rv (.cv ⟨.int .i64,(m:Int)⟩),Eff.mI [])=r→r.2= .mI []∧∃z,(Builtin.len_ #[tr.id] ty #[u]).run P w= .ok z w∧aj (view E σ ν O w) σ ν E.Y r.1 z:=by intro ut A n c m qj hu hm he;rw[qj] at hd;subst hu hm he;exact⟨rfl, .int .i64 n,by simp[Builtin.len_,run_underlying hd.1,goInt],xH⟩
 split at he
 ·rename_i ut t' xs qj hb;rw[hb] at hc;rw[cL] at he;obtain⟨A,cc,br,ex,_⟩:=qz hc;exact sl qj ex rfl he
 ·rename_i s qj hb;rw[hb] at hc;rw[qj] at hd;rw[cL] at he;have ex:=Mp hc rfl;subst ex he;exact⟨rfl, .int .i64 s.size,by simp[Builtin.len_,run_underlying (show P.underlying tr.id=some .string from hd),goInt],xH⟩
 ·rename_i ut q qj hb;rw[hb] at hc;rw[R1] at he;obtain⟨row,hrow,he⟩:=he;rw[cL] at he;obtain⟨A,cc,er,_⟩:=Dp (h.row hrow);exact sl qj (by rw[hc.1,er]) rfl he
 ·rename_i ut qj hb;rw[hb] at hc;rw[cL] at he;exact sl qj (show u= .slice none 0 0 from hc) rfl he
 ·rename_i ut i n qj hb;rw[hb] at hc;simp only[ft,b6] at he;obtain⟨hr,hh,l,hl,he⟩:=he;rw[cL] at he;rcases IV hc with ⟨rfl,hu⟩ | ⟨hn,Xi,_,_,hu⟩
  ·simp only[ai,Option.some.injEq] at hl;subst hl;exact sl qj hu rfl he
  ·have cr:=h.hp hh hn hl;rw[←hu] at cr;generalize hr.k=k at cr
   match k,cr with
   |0,⟨_,hrow⟩=>obtain⟨A,cc,er,_⟩:=Dp hrow;exact sl qj er rfl he
   |1,⟨g,_,_,_,e,_⟩=>obtain⟨_,_,_,e'⟩:=Xi;rw[e] at e';cases e'
 ·cases he
end
section
variable {P:Program}{Tb:cG}{T:List fJ}{E:Env}{σ:AS}{a:Act}{w w':World}{ν:Nm→Value}{O:Nat→Prop}{Φ:bN Tb}{V:View}{Y:Value}
theorem Kn {ae:List aV}{h:Nat}{hr:aV}(e:ae[h]? =some hr):hlen ae h=hr.xs.length:=by unfold hlen;rw[e]
theorem IW {ae:List aV}{h n:Nat}(h1:1≤n)(h2:n≤hlen ae h):∃hr,ae[h]? =some hr∧n≤hr.xs.length:=by
 unfold hlen at h2;cases hh:ae[h]? with
 |none=>rw[hh] at h2;simp at h2;omega
 |some hr=>rw[hh] at h2;exact⟨hr,rfl,h2⟩
theorem Xj (h:St E σ a w ν O){i n:Nat}{u:Value}(hx:bJ (view E σ ν O w) ⟨.ptr i,n⟩ u)(hn:n≠0):∃hr g,σ.ae[i]? =some hr∧1≤n∧n≤hr.xs.length∧cR (ν (.hp i n))=some g∧u= .pointer (some ⟨g,0,none⟩):=by
 rcases SK hx with ⟨rfl,_⟩ | ⟨h1,⟨ad,hu⟩,h2,h3,h4⟩
 ·exact absurd rfl hn
 ·obtain⟨hr,h5,h6⟩:=IW h2 h3;rcases h.nn i hr n h5 h1 h6 with ⟨_,g,m,c,e⟩ | ⟨_,g,e⟩
  ·rw[←h4,hu] at e;cases e
  ·exact⟨hr,g,h5,h1,h6,by rw[e];rfl,by rw[h4,e]⟩
theorem Xk (h:St E σ a w ν O){x:AV}{u:Value}(hx:aj (view E σ ν O w) σ ν E.Y x u){r:cn}
  (he:(match x with
  | .rv (.cv ⟨.ptr h,n⟩)=>Q.fi (T:=Tb) (!(Nat.beq n 0)) (pv (.rv (.cv ⟨.ptr h,n⟩)))
  | .box b off=>pv (.box b off)
  | .ND r sz i off=>pv (.ND r sz i off)
  | .pg cs=>pv (.pg cs)
  | .hel h n i off=>pv (T:=Tb) (.hel h n i off)
  |_=> .fail).val Φ σ=some r):r.2= .mI []∧(∃ad,u= .pointer (some ad))∧aj (view E σ ν O w) σ ν E.Y r.1 u:=by
 split at he
 ·rename_i i n;rw[aB,gB] at he;obtain⟨hn,rfl⟩:=he;have hn':n≠0:=fun e=>by rw[e] at hn;cases hn
  obtain⟨hr,g,_,_,_,_,e⟩:=Xj h hx hn';exact⟨rfl,⟨_,e⟩,hx⟩
 ·rw[gB] at he;subst he;obtain⟨_,g,_,e⟩:=hx;exact⟨rfl,⟨_,e⟩,⟨by assumption,g,by assumption,e⟩⟩
 ·rw[gB] at he;subst he;obtain⟨row,g,e1,e2,e3,e4⟩:=hx;exact⟨rfl,⟨_,e4⟩,⟨row,g,e1,e2,e3,e4⟩⟩
 ·rw[gB] at he;subst he;obtain⟨ad,vs,e1,e2⟩:=hx;exact⟨rfl,⟨_,e1⟩,⟨ad,vs,e1,e2⟩⟩
 ·rw[gB] at he;subst he;obtain⟨hr,g,e1,e2,e3,e4,e5⟩:=hx;exact⟨rfl,⟨_,e5⟩,⟨hr,g,e1,e2,e3,e4,e5⟩⟩
 ·cases he
theorem ac2 (h:St E σ a w ν O){x:AV}{u:Value}(hx:aj (view E σ ν O w) σ ν E.Y x u){off:Nat}{r:cn}
  (he:(match x with
   | .box b o=>pv (.box b (o+off))
   | .ND q sz i o=>pv (.ND q sz i (o+off))
   | .pg cs=>pv (.pg (cs.drop off))
   | .hel h n i o=>pv (.hel h n i (o+off))
   | .rv (.cv ⟨.ptr h,n⟩)=> .fi (!(Nat.beq n 0)) (pv (T:=Tb) (.hel h n 0 off))
   |_=> .fail).val Φ σ=some r):r.2= .mI []∧∃ad,u= .pointer (some ad)∧aj (view E σ ν O w) σ ν E.Y r.1 (.pointer (some (ad.add off))):=by
 split at he
 ·rw[gB] at he;subst he;obtain⟨h1,g,h2,h3⟩:=hx;exact⟨rfl,_,h3,h1,g,h2,by rw[VG]⟩
 ·rw[gB] at he;subst he;obtain⟨row,g,e1,e2,e3,e4⟩:=hx;exact⟨rfl,_,e4,row,g,e1,e2,e3,by rw[VG,Nat.add_assoc]⟩
 ·rw[gB] at he;subst he;obtain⟨ad,vs,e1,e2,e3⟩:=hx;exact⟨rfl,_,e1,_,vs.drop off,rfl,e2.drop off,fun j u hj=>by rw[add_add];exact e3 _ u (IU hj)⟩
 ·rw[gB] at he;subst he;obtain⟨hr,g,e1,e2,e3,e4,e5⟩:=hx;exact⟨rfl,_,e5,hr,g,e1,e2,e3,e4,by rw[VG,Nat.add_assoc]⟩
 ·rename_i i n;rw[aB,gB] at he;obtain⟨hn,rfl⟩:=he;have hn':n≠0:=fun e=>by rw[e] at hn;cases hn
  obtain⟨hr,g,h1,h2,h3,h4,h5⟩:=Xj h hx hn';exact⟨rfl,_,h5,hr,g,h1,h2,h3,h4,by rw[HB,Nat.zero_mul,Nat.zero_add]⟩
 ·cases he
theorem abo (hT:iG P T)(h:St E σ a w ν O){s:TypeId}{x:AV}{u:Value}{f:Nat}(hx:aj (view E σ ν O w) σ ν E.Y x u){r:cn}(he:(Pm (T:=Tb) T s x f).val Φ σ=some r):
  r.2= .mI []∧∃v,(Instr.fieldAt s u f).run P w= .ok v w∧aj (view E σ ν O w) σ ν E.Y r.1 v:=by
 unfold Pm at he;split at he
 ·rename_i tr hr;obtain⟨rfl,hr'⟩:=hT s tr hr;rw[aB] at he;obtain⟨agU,he⟩:=he;split at he
  ·rename_i off size hf;have hd:=hr'.desc;have aqn:∃(fs:Array Field) (fd:Field) (j:TypeInfo),P.underlying tr.id=some (.struct fs)∧fs[f]? =some fd∧fd.offset=off∧P.info? fd.type=some j∧j.size≠0:=by
    cases qj:tr.ty with
    |st u=>
     rw[qj] at hd;rcases hd with ⟨_,fs,h1,_,h2⟩ | ⟨ha,n,e,j,h1,_⟩
     ·obtain⟨fd,j,h3,h4,h5,h6,h7,_⟩:=h2 f off size hf;exact⟨fs,fd,j,h1,h3,h4,h5,by rw[h6];exact h7⟩
     ·rw[ha] at agU;cases agU
    |_=>rw[hr'.qw (by rw[qj];simp)] at hf;simp at hf
   obtain⟨fs,fd,j,h1,h2,h3,h4,h5⟩:=aqn;obtain⟨e1,ad,hu,cr⟩:=ac2 h hx he;refine⟨e1,_, ?_,cr⟩;subst hu;simp[Instr.fieldAt,run_underlying h1,h2,Instr.sureAddr,fieldPlace,sizeOf,typeInfo,h4,h5,h3]
  ·cases he
 ·cases he
theorem R3 (hT:iG P T){r:fJ}(hr:YY P T r){u:Ty}(qj:r.ty= .slice u):
  P.underlying r.id=some (.slice r.elem)∧∃re,YY P T re∧re.id=r.elem∧re.ty=u:=by
 have hd:=hr.desc;rw[qj] at hd;obtain⟨h1,re,h2,h3⟩:=hd;obtain⟨h4,h5⟩:=hT _ re h2;exact⟨h1,re,h5,h4,h3⟩
theorem abp (hT:iG P T)(h:St E σ a w ν O){t:TypeId}{x i:AV}{u v:Value}(hx:aj (view E σ ν O w) σ ν E.Y x u)(hi:aj (view E σ ν O w) σ ν E.Y i v)
  {r:cn} (he:(Pl (T:=Tb) T t x i).val Φ σ=some r):
  r.2= .mI []∧∃z,(Instr.indexAt t u v).run P w= .ok z w∧aj (view E σ ν O w) σ ν E.Y r.1 z:=by
 unfold Pl at he;split at he
 ·rename_i tr hr;obtain⟨rfl,hr'⟩:=hT t tr hr;split at he
  ·rename_i k n;have ei:=xG hi rfl;have hc:=SM hx;have run:∀{ut:Ty} {ad:Addr} {m cc:Nat},tr.ty= .slice ut→u= .slice (some ad) m cc→0≤n→n<m→
     (Instr.indexAt tr.id u v).run P w= .ok (.pointer (some (ad.add (n.toNat*ut.size)))) w:=fun {ut ad m cc} qj hu h0 h1=>by
    obtain⟨hd,re,RC,UO,SP⟩:=R3 hT hr' qj;have hsz:(sizeOf tr.elem).run P w= .ok ut.size w:=by rw[←UO, ←SP];exact BD RC w
    simp[Instr.indexAt,ei,asIntOf,run_underlying hd,hu,h0,h1,hsz]
   split at he
   ·rename_i ut u' xs qj hb;rw[hb] at hc;simp only[aB,b6,gB] at he;obtain⟨hsu,y,hy,rfl⟩:=he;have U1:=(beq_iff _ _).1 hsu;obtain⟨h0,h1,h2⟩:=SH hy;obtain⟨A,cc,br,ex,hlen,hall,hnone,hcells⟩:=qz hc;cases A with
    |none=>have:=hnone rfl;omega
    |some ad=>
     obtain⟨ys,h3,h4,h5⟩:=BC hall n.toNat y h2;refine⟨rfl,_,run qj ex h0 h1,_,ys,rfl,iC h4,fun j v hj=> ?_⟩;obtain⟨Pw,e,hv⟩:=hcells _ v (h5 j v hj);obtain rfl:ad=Pw:=by simpa using e
     rw[add_add,U1];exact hv
   ·rename_i ut q qj hb;rw[hb] at hc;simp only[qi,aB,b6,gB] at he;obtain⟨row,hrow,hsu,y,hy,rfl⟩:=he;have U1:=(beq_iff _ _).1 hsu;obtain⟨h0,h1,h2⟩:=SH hy;obtain⟨A,cc,er,_,_,hA⟩:=Dp (h.row hrow);cases A with
    |none=>
     obtain⟨br,⟨h3,h4⟩,_⟩:=h.row hrow;rcases h4 with ⟨_,h6⟩ | ⟨g,cap,cur,h4,_⟩
     ·omega
     ·rw[er] at h4;cases h4
    |some ad=>obtain⟨hA1,hA2⟩:=hA ad rfl;refine⟨rfl,_,run qj (by rw[hc.1,er]) h0 h1,row,ad.block,hrow,by rw[er];rfl,rfl, ?_⟩;obtain⟨b,o,sp⟩:=ad;simp only at hA1 hA2;subst hA1 hA2;rw[HB,U1];rfl
   ·rename_i ut j m qj hb;rw[hb] at hc;simp only[ft,aB,b6,gB] at he;obtain⟨hr,hh,hsu,l,hl,y,hy,rfl⟩:=he;have U1:=(beq_iff _ _).1 hsu;obtain⟨h0,h1,h2⟩:=SH hy;rcases IV hc with ⟨rfl,_⟩ | ⟨hm,Xi,_,hle,hu⟩
    ·simp[ai] at hl;subst hl;simp at h2
    ·have hle':m≤hr.xs.length:=by rw[Kn hh] at hle;exact hle
     rcases h.nn j hr m hh hm hle' with ⟨hk,g,m',c',e⟩ | ⟨_,g,e⟩
     ·have cr:=h.hp hh hm hl;rw[hk] at cr;obtain⟨_,hrow⟩:=cr;obtain⟨A,cc,er,_⟩:=Dp hrow;rw[e] at er;simp only[Value.slice.injEq] at er;obtain⟨rfl,rfl,rfl⟩:=er;exact⟨rfl,_,run qj (by rw[hu,e]) h0 h1,hr,g,hh,hm,hle',by rw[e];rfl,by rw[HB,U1];rfl⟩
     ·obtain⟨_,_,_,e'⟩:=Xi;rw[hu,e] at e';cases e'
   ·rename_i ut qj;split at he
    ·rename_i m;rw[aB] at he;obtain⟨agU,he⟩:=he;split at he
     ·rename_i off size hf;have hd:=hr'.desc;rw[qj] at hd;rcases hd with ⟨ha,fs,h1,_⟩ | ⟨_,len,e,j,h1,h2,h3,h4,h5⟩
      ·rw[ha] at agU;cases agU
      ·have hm:m<len∧off=m*j.size:=by rw[h3,List.getElem?_map] at hf;simp only[Option.map_eq_some_iff,Prod.mk.injEq] at hf;obtain⟨k',hk,h6,h7⟩:=hf;obtain⟨h8,h9⟩:=List.getElem?_eq_some_iff.1 hk;simp at h8 h9;exact⟨h8,by rw[←h6,h9]⟩
       have he':(match co x with
        | .box b o=>pv (.box b (o+off))
        | .ND q sz i o=>pv (.ND q sz i (o+off))
        | .pg cs=>pv (.pg (cs.drop off))
        | .hel h n i o=>pv (.hel h n i (o+off))
        | .rv (.cv ⟨.ptr h,n⟩)=> .fi (!(Nat.beq n 0)) (pv (T:=Tb) (.hel h n 0 off))
        |_=> .fail).val Φ σ=some r:=by
        revert he;cases co x with
        |rv z=>intro he;cases he
        |_=>exact id
       obtain⟨e1,ad,hu,cr⟩:=ac2 h hc he';refine⟨e1,_, ?_,cr⟩;subst hu;have h0:(0:Int)≤Int.ofNat m:=by simp
       have h6:(Int.ofNat m:Int)<len:=by simp;exact hm.1
       simp only[Int.ofNat_eq_natCast] at ei h6 h0;simp[Instr.indexAt,ei,asIntOf,run_underlying h1,Instr.sureAddr,hm.1,sizeOf,typeInfo,h2,hm.2]
     ·cases he
    ·cases he
   ·cases he
  ·cases he
 ·cases he
end
section
variable {P:Program}{Tb:cG}{T:List fJ}{E:Env}{σ:AS}{a:Act}{w w':World}{ν:Nm→Value}{O:Nat→Prop}{Φ:bN Tb}{V:View}{Y:Value}{ag:AS}
theorem IX {V:View}{k:IntKind}:∀{xs:List Int} {br:List (List Value)},aC (Rel V (.int k)) xs br→br.flatten=xs.map (Value.int k)
 | [],[],_=>rfl
 |x::xs,y::ys,h=>by have h1:y=[Value.int k x]:=h.1;have h2:=IX h.2;simp[h1,h2]
 | [],_::_,h=>h.elim
 |_::_,[],h=>h.elim
theorem Y3 (xs:List Int):∀(s:ByteArray),(xs.foldl (fun r n=>r.push (UInt8.ofNat n.toNat)) s).data=s.data++(xs.map fun n=>UInt8.ofNat n.toNat).toArray:=by
 induction xs with
 |nil=>intro s;simp
 |cons x xs ih=>intro s;simp only[List.foldl_cons,ih,List.map_cons];show (s.data.push _)++_=_;apply Array.ext';simp
theorem agV (xs:List Int):xs.foldl (fun r n=>r.push (UInt8.ofNat n.toNat)) ByteArray.empty=strOf xs:=by
 have h:=Y3 xs ByteArray.empty;have h2:(ByteArray.empty).data= #[]:=rfl;rw[h2,Array.empty_append] at h;cases hh:xs.foldl (fun r n=>r.push (UInt8.ofNat n.toNat)) ByteArray.empty with
 |mk d=>rw[hh] at h;simp only at h;subst h;rfl
theorem NQ {xs:List Int}{A:Option Addr}{c:Nat}(hA:A=none→xs=[])(hc:∀ad,A=some ad→∀j u,(xs.map (Value.int .u8))[j]? =some u→w.cell? (ad.add j)=some u):
  (Conv.bytesToString (.slice A xs.length c)).run P w= .ok (.string (strOf xs)) w:=by
 cases A with
 |none=>rw[hA rfl];rfl
 |some ad=>have hl:=run_loadCells_list (P:=P) w ad (xs.map (Value.int .u8)) (hc ad rfl);rw[List.length_map] at hl;rw[run_bytesToString w ad xs.length c xs hl,agV]
theorem aem (hE:aE E)(hT:iG P T)(h:St E σ a w ν O){s d:TypeId}{x:AV}{u:Value}(hx:aj (view E σ ν O w) σ ν E.Y x u){r:cn}(he:(Vz (T:=Tb) T s d x).val Φ σ=some r):
  r.2= .mI []∧∃v w',(convert s d u).run P w= .ok v w'∧Below w.heap.size w w'∧aj (view E σ ν O w') σ ν E.Y r.1 v:=by
 unfold Vz at he;split at he
 ·rename_i rs rd hrs hrd;obtain⟨rfl,hs'⟩:=hT s rs hrs;obtain⟨rfl,YF⟩:=hT d rd hrd;have hs:=hs'.desc;have hd:=YF.desc;have same:∀{z:AV} {v:Value},(z,Eff.mI [])=r→(convert rs.id rd.id u).run P w= .ok v w→aj (view E σ ν O w) σ ν E.Y z v→
    r.2= .mI []∧∃v w',(convert rs.id rd.id u).run P w= .ok v w'∧Below w.heap.size w w'∧aj (view E σ ν O w') σ ν E.Y r.1 v:=fun e h1 h2=>by subst e;exact⟨rfl,_,w,h1,Below.refl _ _,h2⟩
  split at he
  ·rename_i k j i n Xl Xm;have ex:=xG hx rfl;rw[Xl] at hs;rw[Xm] at hd;rw[cL] at he;refine same he ?_ xH;simp[convert,run_underlying (show P.underlying rs.id=some (.int _) from hs),run_underlying (show P.underlying rd.id=some (.int _) from hd),ex,Conv.intToInt]
  ·rename_i n Xl Xm;have ex:=Mp hx rfl;rw[Xl] at hs;rw[Xm] at hd;rw[cL] at he;refine same (v:= .string n) he ?_ E7;simp[convert,run_underlying (show P.underlying rs.id=some .string from hs),run_underlying (show P.underlying rd.id=some .string from hd),ex]
  ·rename_i xs Xl Xm;rw[Xl] at hs;rw[Xm] at hd;obtain⟨hs1,re,RC,SP⟩:=hs;obtain⟨UO,agW⟩:=hT _ re RC;have Y4:=agW.desc;rw[SP] at Y4;have hue:P.underlying rs.elem=some (.int .u8):=by rw[←UO];exact Y4
   rw[cL] at he;obtain⟨A,cc,br,ex,hlen,hall,hnone,hcells⟩:=qz hx;refine same (v:= .string (strOf xs)) he ?_ E7;have hb:=NQ (P:=P) (w:=w) (xs:=xs) (A:=A) (c:=cc) (fun e=>by
     have:=hnone e;cases xs with
     |nil=>rfl
     |cons y ys=>simp at hlen;omega) (fun ad e j u hj=>by
     rw[←IX hall] at hj;obtain⟨Pw,e',hv⟩:=hcells j u hj;rw[e] at e';obtain rfl:ad=Pw:=by simpa using e'
     exact xD hE h.keep hv)
   rw[ex];cases A with
   |none=>simp[convert,run_underlying hs1,run_underlying (show P.underlying rd.id=some .string from hd),run_underlying hue,hb]
   |some ad=>simp[convert,run_underlying hs1,run_underlying (show P.underlying rd.id=some .string from hd),run_underlying hue,hb]
  ·rename_i q Xl Xm;rw[Xl] at hs;rw[Xm] at hd;obtain⟨hs1,re,RC,SP⟩:=hs;obtain⟨UO,agW⟩:=hT _ re RC;have Y4:=agW.desc;rw[SP] at Y4;have hue:P.underlying rs.elem=some (.int .u8):=by rw[←UO];exact Y4
   rw[qi] at he;obtain⟨row,hrow,he⟩:=he;split at he
   ·rename_i e xs;rw[cL] at he;have hR:=h.row hrow;obtain⟨A,cc,er,hlen,hnone,hA⟩:=Dp hR;obtain⟨br,h1,h2⟩:=Pu hR;refine same (v:= .string (strOf xs)) he ?_ E7;have hb:=NQ (P:=P) (w:=w) (xs:=xs) (A:=A) (c:=cc) (fun e=>by
      have:=hnone e;cases xs with
      |nil=>rfl
      |cons y ys=>simp at hlen;omega) (fun ad e j u hj=>by
      rw[←IX h1] at hj;obtain⟨e1,e2⟩:=hA ad e;have:=h2 ad.block (by rw[er,e];rfl) j u hj;obtain⟨b,o,sp⟩:=ad;simp only at e1 e2 this;subst e1 e2;rw[HB];exact this)
    rw[hx.1,er];cases A with
    |none=>simp[convert,run_underlying hs1,run_underlying (show P.underlying rd.id=some .string from hd),run_underlying hue,hb]
    |some ad=>simp[convert,run_underlying hs1,run_underlying (show P.underlying rd.id=some .string from hd),run_underlying hue,hb]
   ·cases he
  ·rename_i n Xl Xm;have ex:=Mp hx rfl;rw[Xl] at hs;rw[Xm] at hd;obtain⟨hd1,re,RC,SP⟩:=hd;obtain⟨UO,agW⟩:=hT _ re RC;have Y4:=agW.desc;rw[SP] at Y4;have hue:P.underlying rd.elem=some (.int .u8):=by rw[←UO];exact Y4
   rw[aB,cL] at he;obtain⟨hle,rfl⟩:=he;refine⟨rfl,_,bytesWorld w rd.elem n,by rw[ex];exact run_convert_string_bytes w rs.id rd.id rd.elem n (show P.underlying rs.id=some .string from hs) hd1 hue, ?_, ?_⟩
   ·refine⟨rfl,rfl,rfl,by rw[bytesWorld_size];omega,fun k hk=>bytesWorld_at_old w rd.elem n k hk⟩
   ·refine⟨some ⟨w.heap.size,0,none⟩,grownCap w n.size 0 rd.elem,(bytesOf n).map fun n=>[Value.int .u8 n], ?_, ?_, ?_,fun e=>(by cases e), ?_⟩
    ·have:List.length (bytesOf n)=n.size:=by simp[bytesOf]
     rw[this]
    ·have:List.length (bytesOf n)=n.size:=by simp[bytesOf]
     rw[this];exact grownCap_ge w n.size 0 rd.elem
    ·have:∀l:List Int,aC (Rel (view E σ ν O (bytesWorld w rd.elem n)) (.int .u8)) l (l.map fun n=>[Value.int .u8 n]):=by
      intro l;induction l with
      |nil=>trivial
      |cons y ys ih=>exact⟨rfl,ih⟩
     exact this _
    ·intro j v hj;have Ph:∀l:List Int,(l.map fun n=>[Value.int .u8 n]).flatten=l.map (Value.int .u8):=by
      intro l;induction l with
      |nil=>rfl
      |cons y ys ih=>simp[ih]
     rw[Ph] at hj;refine⟨_,rfl, .inr ⟨?_, ?_, ?_, ?_⟩⟩
     ·rw[HB];exact h.keep.size
     ·rw[HB];rintro ⟨m,hm⟩;have:=(h.y6 m _ hm).2.1;simp at this
     ·rw[HB];intro ho;have:=(h.out.2 _ ho).1;simp at this
     ·rw[HB];simp only[bytesOf,List.getElem?_map,List.map_map] at hj;cases hb:n.data.toList[j]? with
      |none=>simp[hb] at hj
      |some y=>
       have hlt:j<n.size:=by have:=(List.getElem?_eq_some_iff.1 hb).1;simpa using this
       rw[bytesWorld_cell w rd.elem n j hlt];simp[hb] at hj;simp[List.getD,hb, ←hj]
  ·cases he
 ·cases he
theorem NR {V:View}{t:Ty}:∀{xs:List t.den} {br:List (List Value)} (n:Nat),aC (Rel V t) xs br→(br.drop n).flatten=br.flatten.drop (n*t.size)
 |xs,br,0,h=>by simp
 | [],[],n+1,h=>by simp
 |x::xs,y::br,n+1,h=>by
  have:=Rel.length h.1;rw[List.drop_succ_cons,NR n h.2,List.flatten_cons,List.drop_append,Nat.succ_mul,this];have e:List.drop (n*t.size+t.size) y=[]:=by apply List.drop_eq_nil_of_le;omega
  rw[e,List.nil_append]
  congr 1;omega
 | [],_::_,_,h=>h.elim
 |_::_,[],_,h=>h.elim
theorem Gx {V:View}{t:Ty}:∀{xs:List t.den} {br:List (List Value)} (n:Nat),aC (Rel V t) xs br→(br.take n).flatten=br.flatten.take (n*t.size)
 |xs,br,0,h=>by simp
 | [],[],n+1,h=>by simp
 |x::xs,y::br,n+1,h=>by
  have:=Rel.length h.1;rw[List.take_succ_cons,List.flatten_cons,Gx n h.2,List.flatten_cons,List.take_append,Nat.succ_mul,this];have e:List.take (n*t.size+t.size) y=y:=by apply List.take_of_length_le;omega
  rw[e]
  congr 2;omega
 | [],_::_,_,h=>h.elim
 |_::_,[],_,h=>h.elim
theorem xJ {n:Nat}{l h:Int}:di n l h=true↔0≤l∧l≤h∧h≤n:=by simp[di,and_assoc]
theorem SQ {α:Type}{xs:List α}{l h:Int}(hc:di xs.length l h=true):(cut xs l h).length=h.toNat - l.toNat:=by obtain⟨h1,h2,h3⟩:=xJ.1 hc;simp[cut];omega
theorem y8 {av:Operand→AV}(qk:∀x,aj V σ ν Y (av x) (a.eval x)){d:Int}{x:Option Operand}{n:Int}(he:iE av d x=some n):
  (x=none∧n=d)∨∃y k,x=some y∧a.eval y= .int k n:=by
 cases x with
 |none=>simp[iE] at he;exact .inl ⟨rfl,he.symm⟩
 |some y=>
  simp only[iE] at he;split at he
  ·rename_i k m hy;simp only[Option.some.injEq] at he;subst he;have:=qk y;rw[hy] at this;exact .inr ⟨y,_,rfl,xG this rfl⟩
  ·cases he
theorem ur {x:Value}{k:IntKind}{n:Int}{y:Nat}{code:BoundsCode}(hx:x= .int k n)(h0:0≤n)(h1:n≤y):
  (Instr.sliceBound x y code).run P w= .ok n.toNat w:=by
 subst hx;simp[Instr.sliceBound,asIntOf,h0,h1]
theorem QD {av:Operand→AV}(qk:∀x,aj V σ ν Y (av x) (a.eval x)){s:Bool}{len cap:Nat}{lo hi:Option Operand}{l r:Int}(hl:iE av 0 lo=some l)(hh:iE av len hi=some r)
  (h0:0≤l) (h1:l≤r) (h2:r≤cap):
  (Instr.sliceBounds s len cap (lo.map a.eval) (hi.map a.eval) none).run P w= .ok (l.toNat,r.toNat,cap) w:=by
 rcases y8 qk hl with ⟨rfl,rfl⟩ | ⟨y,k,rfl,ey⟩<;>rcases y8 qk hh with ⟨rfl,rfl⟩ | ⟨z,k',rfl,ez⟩
 ·simp[Instr.sliceBounds]
 ·have hz:=fun c=>ur (P:=P) (w:=w) (code:=c) ez (by omega) h2;simp[Instr.sliceBounds,hz]
 ·have hy:=fun c=>ur (P:=P) (w:=w) (code:=c) (y:=len) ey h0 (by omega);simp[Instr.sliceBounds,hy]
 ·have hz:=fun c=>ur (P:=P) (w:=w) (code:=c) ez (by omega) h2;have hy:=fun c=>ur (P:=P) (w:=w) (code:=c) (y:=r.toNat) ey h0 (by omega);simp[Instr.sliceBounds,hz,hy]
theorem ac3 {V:View}{t:Ty}{xs:List t.den}{A:Option Addr}{c:Nat}{br:List (List Value)}(hlen:xs.length≤c)(hall:aC (Rel V t) xs br)(hnone:A=none→c=0)
  (hcells:∀j u,br.flatten[j]? =some u→∃ad,A=some ad∧V (ad.add j) u) {l r:Int} (hc:di xs.length l r=true) {m:Nat} (hm:r.toNat≤m) (hmc:m≤c):
  bJ V ⟨.slice t,cut xs l r⟩ (.slice (if m=l.toNat then A else A.map (·.add (l.toNat*t.size))) (r.toNat - l.toNat) (m - l.toNat)):=by
 obtain⟨h1,h2,h3⟩:=xJ.1 hc;refine⟨_,_,(br.take r.toNat).drop l.toNat,by rw[SQ hc],by rw[SQ hc];omega,(hall.take _).drop _, ?_, ?_⟩
 ·intro e;split at e
  ·have:=hnone e;omega
  ·have:A=none:=by simpa using e
   have:=hnone this;omega
 ·intro j u hj;rw[NR l.toNat (hall.take _),Gx r.toNat hall] at hj;have h4:=IT (IU hj);obtain⟨ad,e,hv⟩:=hcells _ u h4;subst e;by_cases hml:m=l.toNat
  ·have hlt:=(List.getElem?_eq_some_iff.1 hj).1;have:r.toNat=l.toNat:=by omega
   simp[this] at hlt
  ·exact⟨ad.add (l.toNat*t.size),by simp[hml],by rw[add_add];exact hv⟩
theorem SR (hT:iG P T){av:Operand→AV}(qk:∀x,aj V σ ν Y (av x) (a.eval x)){t:TypeId}{x:AV}{u:Value}(hx:aj V σ ν Y x u){lo hi mx:Option Operand}{r:cn}
  (he:(vi (T:=Tb) T av t x lo hi mx).val Φ ag=some r):
  r.2= .mI []∧∃v,(Instr.sliceAt t u (lo.map a.eval) (hi.map a.eval) (mx.map a.eval)).run P w= .ok v w∧aj V σ ν Y r.1 v:=by
 unfold vi at he;have hc:=SM hx;split at he
 ·rename_i tr hr;obtain⟨rfl,hr'⟩:=hT t tr hr;have hd:=hr'.desc;split at he
  ·split at he
   ·rename_i s qj hb;rw[hb] at hc;rw[qj] at hd;have YF:P.underlying tr.id=some .string:=hd;have ex:=Mp hc rfl;split at he
    ·rename_i l r' hl hh;rw[aB,cL] at he;obtain⟨hc,rfl⟩:=he;obtain⟨h1,h2,h3⟩:=xJ.1 hc;have hb:=QD (P:=P) (w:=w) (s:=false) qk hl hh h1 h2 h3;refine⟨rfl, .string (s.extract l.toNat r'.toNat), ?_,E7⟩;simp[Instr.sliceAt,Instr.slice,run_underlying YF,ex,hb]
    ·cases he
   ·rename_i ut u' xs qj hb;rw[hb] at hc;obtain⟨hu,re,RC,UO,SP⟩:=R3 hT hr' qj;have hsz:(sizeOf tr.elem).run P w= .ok ut.size w:=by rw[←UO, ←SP];exact BD RC w
    obtain⟨A,cc,br,ex,hlen,hall,hnone,hcells⟩:=qz hc;split at he
    ·rename_i l r' hl hh;rw[aB,cL] at he;obtain⟨hc,rfl⟩:=he;rw[Bool.and_eq_true] at hc;obtain⟨hsu,hc⟩:=hc;have U1:=(beq_iff _ _).1 hsu;obtain⟨h1,h2,h3⟩:=xJ.1 hc;have hb:=QD (P:=P) (w:=w) (s:=true) qk hl hh h1 h2 (show r'≤(cc:Int) by omega);refine⟨rfl,_, ?_,ac3 (m:=cc) hlen hall hnone hcells hc (by omega) (Nat.le_refl _)⟩;simp[Instr.sliceAt,Instr.slice,run_underlying hu,ex,hb,hsz,U1]
    ·cases he
   ·cases he
  ·rename_i mx;split at he
   ·rename_i ut u' xs qj hb;rw[hb] at hc;obtain⟨hu,re,RC,UO,SP⟩:=R3 hT hr' qj;have hsz:(sizeOf tr.elem).run P w= .ok ut.size w:=by rw[←UO, ←SP];exact BD RC w
    obtain⟨A,cc,br,ex,hlen,hall,hnone,hcells⟩:=qz hc;split at he
    ·rename_i hx';split at he
     ·rename_i l r' m hl hh hm;rw[aB,cL] at he;obtain⟨hc,rfl⟩:=he;simp only[Bool.and_eq_true,decide_eq_true_eq] at hc;obtain⟨⟨⟨hsu,hc⟩,hrm⟩,hml⟩:=hc;have U1:=(beq_iff _ _).1 hsu;obtain⟨h1,h2,h3⟩:=xJ.1 hc;obtain⟨_,k1,e1,ez⟩:=(y8 qk hh).resolve_left (by simp);obtain⟨_,k2,e2,em⟩:=(y8 qk hm).resolve_left (by simp);cases e1;cases e2;have hbm:=fun c=>ur (P:=P) (w:=w) (code:=c) (y:=cc) em (by omega) (by omega);have hbz:=fun c=>ur (P:=P) (w:=w) (code:=c) (y:=m.toNat) ez (by omega) (by omega);refine⟨rfl,_, ?_,ac3 (m:=m.toNat) hlen hall hnone hcells hc (by omega) (by omega)⟩;rcases y8 qk hl with ⟨rfl,rfl⟩ | ⟨y,k,rfl,ey⟩
      ·simp[Instr.sliceAt,Instr.slice,Instr.sliceBounds,run_underlying hu,ex,hbm,hbz,hsz,U1]
      ·have hby:=fun c=>ur (P:=P) (w:=w) (code:=c) (y:=r'.toNat) ey h1 (by omega);simp[Instr.sliceAt,Instr.slice,Instr.sliceBounds,run_underlying hu,ex,hbm,hbz,hby,hsz,U1]
     ·cases he
    ·cases he
   ·cases he
 ·cases he
theorem IY:∀(vs:List Value) (k off:Nat) (cells:Array Value),off+k+vs.length≤cells.size→
  ((vs.zipIdx k).foldl (fun cs (p:Value×Nat)=>cs.setIfInBounds (off+p.2) p.1) cells).toList=cells.toList.take (off+k)++vs++cells.toList.drop (off+k+vs.length)
 | [],k,off,cells,h=>by simp
 |v::vs,k,off,cells,h=>by
  simp only[List.length_cons] at h;rw[List.zipIdx_cons,List.foldl_cons,IY vs (k+1) off _ (by simp;omega)];have:=list_seg_step cells.toList (off+k) v vs (by simp;omega);simp only[Array.toList_setIfInBounds];have e1:off+(k+1)=off+k+1:=by omega
  rw[e1,this]
  congr 2
theorem Y5 {V:View}{qw:List (Nat×Nat)}{av:Operand→AV}(qk:∀x,aj V σ ν Y (av x) (a.eval x)):∀(parts:List (Nat×Operand)) (cs cs':List CV) (cells:Array Value),partsOf av qw parts cs=some cs'→aC (bJ V) cs cells.toList→
  ∃cells',Instr.fill (qw.toArray[·]?) cells (parts.map fun(i,x)=>(i,a.eval x))=some cells'∧aC (bJ V) cs' cells'.toList
 | [],cs,cs',cells,h,hr=>by simp only[partsOf,Option.some.injEq] at h;subst h;exact⟨cells,rfl,hr⟩
 | (i,x)::parts,cs,cs',cells,h,hr=>by
   simp only[partsOf] at h;have hlen:=hr.length;have go:∀(vs:List CV) (off size:Nat) (ws:List Value),qw[i]? =some (off,size)→(a.eval x).cells=ws.toArray→aC (bJ V) vs ws→size=vs.length→off+vs.length≤cs.length→
     partsOf av qw parts (Gs cs off vs)=some cs'→∃cells',Instr.fill (qw.toArray[·]?) cells (((i,x)::parts).map fun(i,x)=>(i,a.eval x))=some cells'∧aC (bJ V) cs' cells'.toList:=by
    intro vs off size ws hf hc hvs hs hle hp;have hl2:=hvs.length;have hfo:=IY ws 0 off cells (by simp at hlen;omega);obtain⟨cells',h1,h2⟩:=Y5 qk parts (Gs cs off vs) cs' (ws.toArray.zipIdx.foldl (fun cs (p:Value×Nat)=>cs.setIfInBounds (off+p.2) p.1) cells) hp (by
     have e:(ws.toArray.zipIdx.foldl (fun cs (p:Value×Nat)=>cs.setIfInBounds (off+p.2) p.1) cells).toList=cells.toList.take off++ws++cells.toList.drop (off+ws.length):=by rw[←Array.foldl_toList];simpa using hfo
     rw[e,Gs,hl2];exact((hr.take off).append hvs).append (hr.drop _))
    refine⟨cells', ?_,h2⟩;have hc2:(a.eval x).cells.size=size:=by rw[hc];simp;omega
    have hb:¬off+size>cells.size:=by simp at hlen;omega
    simp only[List.map_cons,Instr.fill];rw[show qw.toArray[i]? =some (off,size) by simpa using hf];simp only[hc2,ne_eq,not_true_eq_false,false_or];rw[if_neg (by simpa [hc2] using hb)];rw[hc];exact h1
   split at h
   ·rename_i off size hf;have hx:=qk x;split at h
    ·rename_i c hc;rw[hc] at hx;cases hb:(Nat.beq size 1&&Nat.blt off cs.length) with
     |false=>simp[hb] at h
     |true=>simp only[hb,cond_true] at h;rw[Bool.and_eq_true] at hb;have h1:=(beq_iff _ _).1 hb.1;have h2:off+1≤cs.length:=Nat.le_of_ble_eq_true hb.2;exact go [c] off size [a.eval x] hf (Gp hx) ⟨hx,trivial⟩ h1 h2 h
    ·rename_i vs hc;rw[hc] at hx;obtain⟨ws,e,hx⟩:=hx;cases hb:(Nat.beq size vs.length&&Nat.ble (off+vs.length) cs.length) with
     |false=>simp[hb] at h
     |true=>simp only[hb,cond_true] at h;rw[Bool.and_eq_true] at hb;have h1:=(beq_iff _ _).1 hb.1;have h2:=Nat.le_of_ble_eq_true hb.2;exact go vs off size ws hf (by rw[e];rfl) hx h1 h2 h
    ·cases h
   ·cases h
theorem SU {f g:Nat→Option (Nat×Nat)}:∀(l:List (Nat×Value)) (cells cells':Array Value),(∀i p,g i=some p→f i=some p)→Instr.fill g cells l=some cells'→Instr.fill f cells l=some cells'
 | [],_,_,_,h=>h
 | (i,v)::l,cells,cells',hfg,h=>by
   simp only[Instr.fill] at h ⊢;split at h
   ·cases h
   ·rename_i off size hg;rw[hfg i _ hg];simp only;split at h
    ·cases h
    ·rename_i hn;rw[if_neg hn];exact SU l _ _ hfg h
theorem SV (hT:iG P T){av:Operand→AV}(qk:∀x,aj V σ ν Y (av x) (a.eval x)){t:TypeId}{parts:Array (Nat×Operand)}{r:cn}
  (he:(Bw (T:=Tb) T av t parts.toList).val Φ ag=some r):
  r.2= .mI []∧∃v,(Instr.build t (parts.map fun(i,x)=>(i,a.eval x))).run P w= .ok v w∧aj V σ ν Y r.1 v:=by
 unfold Bw at he;split at he
 ·rename_i tr hr;obtain⟨rfl,hr'⟩:=hT t tr hr;split at he
  ·rename_i u qj;simp only[nQ,gB] at he;obtain⟨cs,hcs,rfl⟩:=he;have hd:=hr'.desc;rw[qj] at hd;obtain⟨i,zz,hi,hsz,_,hz,cr,_⟩:=hr'.info;have hz2:=iC (cr V);rw[qj] at hz2;obtain⟨cells',h1,h2⟩:=Y5 (V:=V) qk parts.toList _ cs zz.cells hcs hz2;rcases hd with ⟨_,fs,hu,hm,_⟩ | ⟨_,n,e,j,hu,hj,hf,h0,_⟩
   ·have hb:P.built tr.id (parts.map fun(i,x)=>(i,a.eval x)).toList=some cells':=by simp only[Program.built,hi,hu,hz,hm,Array.toList_map];exact h1
    exact⟨rfl, .agg cells',run_build w tr.id _ _ hb,cells'.toList,by simp,h2⟩
   ·refine⟨rfl, .agg cells', ?_,cells'.toList,by simp,h2⟩;have h3:Instr.fill (fun i=>some (i*j.size,j.size)) zz.cells (parts.toList.map fun(i,x)=>(i,a.eval x))=some cells':=by refine SU _ _ _ (fun i p hp=> ?_) h1;rw[hf] at hp;simp only[List.getElem?_toArray,List.getElem?_map,Option.map_eq_some_iff] at hp;obtain⟨k,hk,rfl⟩:=hp;obtain⟨_,h9⟩:=List.getElem?_eq_some_iff.1 hk;simp at h9;rw[h9]
    simp[Instr.build,zeroValue,typeInfo,hi,hz,run_underlying hu,sizeOf,hj,h3]
  ·cases he
 ·cases he
theorem aen (hT:iG P T){t:TypeId}{x i:AV}{u v:Value}(hx:aj V σ ν Y x u)(hi:aj V σ ν Y i v){r:cn}
  (he:(match jn T t with
  |some r=>match r.ty,i,x with
   | .str, .rv (.cv ⟨.int _,n⟩), .rv (.cv ⟨.str,s⟩)=>Q.opt (T:=Tb) (zQ s n) fun b=>Dc (.int .u8) b
   |_,_,_=> .fail
  |none=> .fail).val Φ ag=some r):r.2= .mI []∧∃z,(Instr.index t u v).run P w= .ok z w∧aj V σ ν Y r.1 z:=by
 split at he
 ·rename_i tr hr;obtain⟨rfl,hr'⟩:=hT t tr hr;split at he
  ·rename_i k n s qj;have ei:=xG hi rfl;have ex:=Mp hx rfl;have hd:=hr'.desc;rw[qj] at hd;rw[b6] at he;obtain⟨b,hb,he⟩:=he;rw[cL] at he;subst he;cases n with
   |negSucc m=>simp[zQ] at hb
   |ofNat m=>
    simp only[zQ,Option.map_eq_some_iff] at hb;obtain⟨u,hu,rfl⟩:=hb;refine⟨rfl, .int .u8 u.toNat, ?_,xH⟩;have h0:(0:Int)≤Int.ofNat m:=by simp
    simp[Instr.index,ei,ex,asIntOf,run_underlying (show P.underlying tr.id=some .string from hd),hu]
  ·cases he
 ·cases he
end
section
variable {P:Program}{E:Env}{σ ag:AS}{a:Act}{w w':World}{ν aK:Nm→Value}{O:Nat→Prop}{V V':View}{Y:Value}
theorem SX {R S:RV→Value→Prop}{f:RV→RV}(hf:∀x v,R x v→S (f x) v):∀{xs:List RV} {ys:List Value},aC R xs ys→aC S (xs.map f) ys
 | [],[],_=>trivial
 |_::_,_::_,h=>⟨hf _ _ h.1,SX hf h.2⟩
 | [],_::_,h=>h.elim
 |_::_,[],h=>h.elim
theorem BE {α β:Type}{R S:α→β→Prop}:∀{xs:List α} {ys:List β},(∀x∈xs,∀y,R x y→S x y)→aC R xs ys→aC S xs ys
 | [],[],_,_=>trivial
 |x::xs,y::ys,hf,h=>⟨hf x (by simp) y h.1,BE (fun z hz=>hf z (by simp[hz])) h.2⟩
 | [],_::_,_,h=>h.elim
 |_::_,[],_,h=>h.elim
theorem bf {α:Type}{o:Option α}{x:α}(h:o=some x):o.isSome=true:=by simp[h]
theorem aj.keep (hV:∀a v,V a v→V' a v)(hh:HSub σ ν ag aK)(x:AV)(v:Value)
  (hr:∀r,x.eZ r=true→∀row,look σ.rows r=some row→aK (.row r)=ν (.row r)∧∃row',look ag.rows r=some row'∧row'.t.size=row.t.size)
  (hb:∀b,x.lI b=true→(look σ.boxes b).isSome=true→aK (.box b)=ν (.box b)∧(look ag.boxes b).isSome=true) (h:aj V σ ν Y x v):aj V' ag aK Y x v:=by
 have rv:∀(y:RV) u,(∀r,y.wV r=true→∀row,look σ.rows r=some row→aK (.row r)=ν (.row r)∧∃row',look ag.rows r=some row'∧row'.t.size=row.t.size)→rO V σ ν y u→rO V' ag aK y u:=fun y u hy h=>by
  cases y with
  |cv c=>exact bJ.mono hV c u h
  |agg cs=>obtain⟨vs,e,h⟩:=h;exact⟨vs,e,h.mono (bJ.mono hV)⟩
  |own r=>obtain⟨row,hrow⟩:=Option.isSome_iff_exists.1 h.2;obtain⟨h1,row',h2,_⟩:=hy r (beq_refl r) row hrow;exact⟨by rw[h1];exact h.1,by rw[h2];rfl⟩
 have ba:∀b off u,((look σ.boxes b).isSome=true→aK (.box b)=ν (.box b)∧(look ag.boxes b).isSome=true)→Bz σ ν b off u→Bz ag aK b off u:=fun b off u hb h=>by obtain⟨h1,g,h2,h3⟩:=h;obtain⟨h4,h5⟩:=hb h1;exact⟨h5,g,by rw[h4];exact h2,h3⟩
 cases x with
 |rv x=>exact rv x v hr h
 |lit u=>exact h
 |box b off=>exact ba b off v (hb b (beq_refl b)) h
 |ND r sz i off=>obtain⟨row,g,h1,h2,h3,h4⟩:=h;obtain⟨h5,row',h6,h7⟩:=hr r (beq_refl r) row h1;exact⟨row',g,h6,by rw[h5];exact h2,by rw[h7];exact h3,h4⟩
 |pg cs=>exact qy.mono hV h
 |hel i n j off=>obtain⟨hr,g,h1,h2,h3,h4,h5⟩:=h;obtain⟨hr',h6,h7,h8⟩:=hh.row i hr h1;exact⟨hr',g,h6,h2,Nat.le_trans h3 h8,by rw[hh.nm i n h2 (by rw[Kn h1];exact h3)];exact h4,by rw[h7.t];exact h5⟩
 |fn f aQ=>
  obtain⟨vs,h1,h2⟩:=h;refine⟨vs,h1,BE (fun c hc u hu=> ?_) h2⟩;cases c with
  |box b=>exact ba b 0 u (hb b (List.any_eq_true.2 ⟨_,hc,beq_refl b⟩)) hu
  |pg cs=>exact qy.mono hV hu
 |Ly=>exact h
 |tup l=>obtain⟨vs,h1,h2⟩:=h;exact⟨vs,h1,BE (fun y hy u hu=>rv y u (fun r hyr=>hr r (List.any_eq_true.2 ⟨y,hy,hyr⟩)) hu) h2⟩
 |nil=>trivial
theorem NS {ae:List aV}{h n:Nat}{o:Obj}(ho:nL ae h n=some o):∃k row,o= .hp k row:=by
 cases n with
 |zero=>cases ho
 |succ m=>
  simp only[nL] at ho;split at ho
  ·unfold Hz at ho;split at ho
   ·simp only[Option.some.injEq] at ho;exact⟨_,_,ho.symm⟩
   ·cases ho
  ·cases ho
theorem St.less (hE:aE E)(h:St E σ a w ν O){a':Act}(hrow:∀r row,look ag.rows r=some row→look σ.rows r=some row)(al7:∀b,(look ag.boxes b).isSome=true→(look σ.boxes b).isSome=true)
  (hh:ag.ae=σ.ae) (htr:ag.trace=σ.trace) (hd:a'.defers=a.defers)
  (an4:(∀key v,view E σ ν O w key v→view E ag ν O w key v)→∀b x,look ag.boxes b=some x→BA (view E ag ν O w) ag ν w (ν (.box b)) x)
  (Xi:(∀key v,view E σ ν O w key v→view E ag ν O w key v)→Ii (aj (view E ag ν O w) ag ν E.Y) ag.tmps a'.tmps.toList E.XS):St E ag a' w ν O:=by
 have hown:∀m k,Own ag ν m k→Own σ ν m k:=fun m k hm=>by
  refine⟨?_,hm.2⟩;have h1:=hm.1;cases m with
  |row r=>simp only[AS.obj,Option.isSome_map] at h1 ⊢;obtain⟨row,e⟩:=Option.isSome_iff_exists.1 h1;exact bf (hrow r row e)
  |box b=>simp only[AS.obj,Option.isSome_map] at h1 ⊢;exact al7 b h1
  |hp i n=>simp only[AS.obj,hh] at h1 ⊢;exact h1
 refine h.step hE (C:=fun _=>False) (Grow.refl _ _) (fun k hk=>hk.elim) (HSub.of_eq hh (fun _ _=>rfl)) (fun m k hm=> .inl ⟨m,hown m k hm,id⟩) (fun m k hm=>(h.y6 m k (hown m k hm)).2.1) (fun m m' k h1 h2=>h.inj m m' k (hown _ _ h1) (hown _ _ h2)) (fun m k hk=>h.new m k (hown _ _ hk)) htr hd (by rw[hh];exact h.nn) (fun i hr e=>by rw[hh];exact(h.ro i hr e).1) (fun hV m o ho=> ?_) Xi;cases m with
 |row r=>simp only[AS.obj,Option.map_eq_some_iff] at ho;obtain⟨row,e,rfl⟩:=ho;exact jf.mono hV (fun _ _=>rfl) (h.row (hrow r row e))
 |box b=>simp only[AS.obj,Option.map_eq_some_iff] at ho;obtain⟨x,e,rfl⟩:=ho;exact an4 hV b x e
 |hp i n=>
  have ho':σ.obj (.hp i n)=some o:=by simp only[AS.obj,hh] at ho ⊢;exact ho
  obtain⟨k,row,rfl⟩:=NS ho';exact Au.mono hV (fun _ _=>rfl) (h.Bj _ _ ho')
theorem sK {α:Type}{l:List (Nat×α)}{j k:Nat}{x:α}(h:look (del l j) k=some x):look l k=some x:=by
 rw[By] at h;split at h
 ·cases h
 ·exact h
theorem St.freeze (hE:aE E)(h:St E σ a w ν O)(r:Nat):St E (σ.freeze r) a w ν O:=by
 unfold AS.freeze;cases hrow:look σ.rows r with
 |none=>exact h
 |some row=>
  show St E ({σ with tmps:=σ.tmps.map (AV.tw r ⟨.slice row.t,row.xs⟩),rows:=del σ.rows r,boxes:=IG (BX.tw r ⟨.slice row.t,row.xs⟩) σ.boxes}:AS) a w ν O;generalize Gy:({σ with tmps:=σ.tmps.map (AV.tw r ⟨.slice row.t,row.xs⟩),rows:=del σ.rows r,boxes:=IG (BX.tw r ⟨.slice row.t,row.xs⟩) σ.boxes}:AS)=ag;have e1:ag.rows=del σ.rows r:=by rw[←Gy]
  have e2:ag.boxes=IG (BX.tw r ⟨.slice row.t,row.xs⟩) σ.boxes:=by rw[←Gy]
  have e3:ag.ae=σ.ae:=by rw[←Gy]
  have hne:∀k,k≠r→look ag.rows k=look σ.rows k:=fun k hk=>by rw[e1,By,if_neg (Ne.symm hk)]
  have R4:(∀key v,view E σ ν O w key v→view E ag ν O w key v)→bJ (view E ag ν O w) ⟨.slice row.t,row.xs⟩ (ν (.row r)):=fun hV=>by
   obtain⟨br,⟨e4,e5⟩,hall⟩:=h.row hrow;rcases e5 with ⟨e5,e6⟩ | ⟨g,cap,cur,e5,_,hg,hn,hm,hcs,HC⟩
   ·have hx:row.xs=[]:=List.eq_nil_of_length_eq_zero e6;rw[e5,hx];exact⟨none,0,[],rfl,Nat.le_refl _,trivial,fun _=>rfl,fun j u hj=>by simp at hj⟩
   ·have hb:=h.y6 (.row r) g ⟨by simp[AS.obj,hrow],by rw[e5];rfl⟩;rw[e5];refine⟨some ⟨g,0,none⟩,cap,br,rfl,hn,hall.mono (Rel.mono hV _),(fun e=>by cases e),fun j u hj=>⟨_,rfl, ?_⟩⟩;have hcell:w.cell? ⟨g,j,none⟩=some u:=by rw[cell_of_row w g j cur row.e (0,0) hg];rw[←HC] at hj;simpa using IT hj
    rw[HB];have hB:=(h.new (.row r) g ⟨by simp[AS.obj,hrow],by rw[e5];rfl⟩).resolve_right id
    ·refine .inr ⟨hB, ?_,hb.2.2,hcell⟩;rintro ⟨m,hm1,hm2⟩;have:m= .row r:=h.inj m (.row r) g ⟨by
      cases m with
      |row k=>simp only[AS.obj,Option.isSome_map] at hm1 ⊢;obtain⟨_,e⟩:=Option.isSome_iff_exists.1 hm1;rw[e1] at e;exact bf (sK e)
      |box b=>simp only[AS.obj,Option.isSome_map,e2,gV] at hm1 ⊢;exact hm1
      |hp i n=>simp only[AS.obj,e3] at hm1 ⊢;exact hm1,hm2⟩ ⟨by simp[AS.obj,hrow],by rw[e5];rfl⟩
     subst this;simp[AS.obj,e1,By] at hm1
  refine h.less hE (a':=a) (fun k row' h1=>sK (by rw[←e1];exact h1)) (fun b h1=>by rw[e2,gV,Option.isSome_map] at h1;exact h1) e3 (by rw[←Gy]) rfl (fun hV b x hx=> ?_) (fun hV=> ?_)
  ·rw[e2,gV,Option.map_eq_some_iff] at hx;obtain⟨x0,hx0,rfl⟩:=hx;have hbr:=h.box hx0;obtain⟨g,hg1,hg2⟩:=hbr;refine⟨g,hg1, ?_⟩;cases x0 with
   |cells cs=>obtain⟨cur,e,h3,h4⟩:=hg2;exact⟨cur,e,h3,h4.mono (bJ.mono hV)⟩
   |own k=>
    obtain⟨e,h3,h4⟩:=hg2;simp only[BX.tw];cases hk:Nat.beq k r with
    |true=>have:=(beq_iff _ _).1 hk;subst this;exact⟨_,e,h3,R4 hV,trivial⟩
    |false=>exact⟨e,h3,by rw[hne k (rW.1 hk)];exact h4⟩
   |nil=>exact hg2
  ·have Xi:ag.tmps=σ.tmps.map (AV.tw r ⟨.slice row.t,row.xs⟩):=by rw[←Gy]
   rw[Xi];refine Kk (fun x v hx=> ?_) h.slots;have hrv:∀x v,rO (view E σ ν O w) σ ν x v→rO (view E ag ν O w) ag ν (x.tw r ⟨.slice row.t,row.xs⟩) v:=by
    intro x v hx;cases x with
    |cv c=>exact bJ.mono hV c v hx
    |agg cs=>obtain⟨vs,h1,h2⟩:=hx;exact⟨vs,h1,h2.mono (bJ.mono hV)⟩
    |own k=>
     obtain⟨h1,h2⟩:=hx;simp only[RV.tw];cases hk:Nat.beq k r with
     |true=>have:=(beq_iff _ _).1 hk;subst this;rw[h1];exact R4 hV
     |false=>exact⟨h1,by rw[hne k (rW.1 hk)];exact h2⟩
   have hbk:∀b,(look ag.boxes b).isSome=(look σ.boxes b).isSome:=fun b=>by rw[e2,gV,Option.isSome_map]
   cases x with
   |rv x=>exact hrv x v hx
   |ND k sz i off=>
    simp only[AV.tw];cases hk:Nat.beq k r with
    |true=>trivial
    |false=>obtain⟨row',g,h1,h2⟩:=hx;exact⟨row',g,by rw[hne k (rW.1 hk)];exact h1,h2⟩
   |tup l=>obtain⟨vs,h1,h2⟩:=hx;exact⟨vs,h1,SX hrv h2⟩
   |lit u=>exact hx
   |box b off=>exact aj.keep hV (HSub.of_eq e3 (fun _ _=>rfl)) (.box b off) v (fun r hr=>by cases hr) (fun b _ hs=>⟨rfl,by rw[hbk b];exact hs⟩) hx
   |pg cs=>exact qy.mono hV hx
   |hel i n j off=>exact aj.keep hV (HSub.of_eq e3 (fun _ _=>rfl)) (.hel i n j off) v (fun r hr=>by cases hr) (fun b _ hs=>⟨rfl,by rw[hbk b];exact hs⟩) hx
   |fn f aQ=>exact aj.keep hV (HSub.of_eq e3 (fun _ _=>rfl)) (.fn f aQ) v (fun r hr=>by cases hr) (fun b _ hs=>⟨rfl,by rw[hbk b];exact hs⟩) hx
   |Ly=>exact hx
   |nil=>trivial
theorem St.frz (hE:aE E)(h:St E σ a w ν O)(x:Operand):St E (σ.frz x) a w ν O:=by
 unfold AS.frz;split
 ·exact h.freeze hE _
 ·exact h
theorem St.ve (hE:aE E)(h:St E σ a w ν O):∀xs,St E (σ.ve xs) a w ν O:=by
 intro xs;induction xs generalizing σ with
 |nil=>exact h
 |cons x xs ih=>exact ih (h.frz hE x)
theorem Gz (r k:Nat):look (σ.bl r).rows k=if r=k then none else look σ.rows k:=By _ _ _
theorem nR (r k:Nat):look (σ.dN r).boxes k=if r=k then none else look σ.boxes k:=By _ _ _
theorem Y6 {w w':World}{r:Nat}{x:BX}{v:Value}(hV:∀a v,V a v→V' a v)(hr:∀k,k≠r→(look σ.rows k).isSome=true→aK (.row k)=ν (.row k)∧look ag.rows k=look σ.rows k)
  (hk:∀k,cR v=some k→w'.heap[k]? =w.heap[k]?) (h:BA V σ ν w v x):BA V' ag aK w' v (x.bl r):=by
 obtain⟨g,h1,h2⟩:=h;have hg:=hk g (by rw[h1];rfl);refine⟨g,h1, ?_⟩;unfold BX.bl;cases x with
 |cells cs=>obtain⟨cur,e,h3,h4⟩:=h2;exact⟨cur,e,by rw[hg];exact h3,h4.mono (bJ.mono hV)⟩
 |own k=>
  obtain⟨e,h3,h4⟩:=h2;simp only[BX.eZ];cases hb:Nat.beq r k with
  |true=>exact⟨_,e,by rw[hg];exact h3⟩
  |false=>have hne:=Ne.symm (rW.1 hb);obtain⟨i1,i2⟩:=hr k hne h4;exact⟨e,by rw[hg,i1];exact h3,by rw[i2];exact h4⟩
 |nil=>obtain⟨u,e,h3⟩:=h2;exact⟨u,e,by rw[hg];exact h3⟩
theorem ac4 {r:Nat}(hV:∀a v,V a v→V' a v)(hh:HSub σ ν ag aK)(hr:∀k,k≠r→(look σ.rows k).isSome=true→aK (.row k)=ν (.row k)∧look ag.rows k=look σ.rows k)
  (hb:∀b,(look σ.boxes b).isSome=true→aK (.box b)=ν (.box b)∧(look ag.boxes b).isSome=true) (x:AV) (v:Value)
  (h:aj V σ ν Y x v):aj V' ag aK Y (x.bl r) v:=by
 unfold AV.bl;cases hk:x.eZ r with
 |true=>trivial
 |false=>exact h.keep hV hh x v (fun k hkk row hrow=>by
   obtain⟨i1,i2⟩:=hr k (fun e=>by rw[e,hk] at hkk;cases hkk) (bf hrow);exact⟨i1,row,by rw[i2];exact hrow,rfl⟩) (fun b _=>hb b)
theorem St.bl (hE:aE E)(h:St E σ a w ν O)(r:Nat):St E (σ.bl r) a w ν O:=by
 have hne:∀k,k≠r→look (σ.bl r).rows k=look σ.rows k:=fun k hk=>by rw[Gz,if_neg (Ne.symm hk)]
 have hbs:∀b,(look (σ.bl r).boxes b).isSome=(look σ.boxes b).isSome:=fun b=>by show (look (IG _ _) b).isSome=_;rw[gV,Option.isSome_map]
 refine h.less hE (ag:=σ.bl r) (a':=a) (fun k row h1=>sK h1) (fun b h1=>by rw[←hbs];exact h1) rfl rfl rfl (fun hV b x hx=> ?_) (fun hV=>Kk (ac4 (σ:=σ) (ag:=σ.bl r) hV (HSub.of_eq rfl (fun _ _=>rfl)) (fun k hk _=>⟨rfl,hne k hk⟩) (fun b hs=>⟨rfl,by rw[hbs];exact hs⟩)) h.slots);have hx':look (IG (BX.bl r) σ.boxes) b=some x:=hx;rw[gV,Option.map_eq_some_iff] at hx';obtain⟨x0,hx0,rfl⟩:=hx';exact Y6 hV (fun k hk _=>⟨rfl,hne k hk⟩) (fun _ _=>rfl) (h.box hx0)
theorem St.dN (hE:aE E)(h:St E σ a w ν O)(d:Nat):St E (σ.dN d) a w ν O:=by
 have hne:∀k,k≠d→look (σ.dN d).boxes k=look σ.boxes k:=fun k hk=>by rw[nR,if_neg (Ne.symm hk)]
 refine h.less hE (ag:=σ.dN d) (a':=a) (fun k row h1=>h1) (fun b h1=> ?_) rfl rfl rfl (fun hV b x hx=> ?_) (fun hV=>Kk (fun x v hx=> ?_) h.slots)
 ·obtain⟨x,e⟩:=Option.isSome_iff_exists.1 h1;exact bf (sK e)
 ·exact(h.box (sK hx)).mono hV (fun _ _=>rfl) (fun r _ hr=>⟨rfl,hr⟩)
 ·unfold AV.dN;cases hk:x.lI d with
  |true=>trivial
  |false=>exact aj.keep (σ:=σ) (ag:=σ.dN d) hV (HSub.of_eq rfl (fun _ _=>rfl)) x v (fun _ _ row hrow=>⟨rfl,row,hrow,rfl⟩) (fun b hb hs=>⟨rfl,by rw[hne b (fun e=>by rw[e,hk] at hb;cases hb)];exact hs⟩) hx
theorem St.jF (hE:aE E)(h:St E σ a w ν O):∀ds,St E (σ.jF ds) a w ν O:=by
 intro ds;induction ds generalizing σ with
 |nil=>exact h
 |cons d ds ih=>exact ih (h.dN hE d)
theorem St.share (hE:aE E)(h:St E σ a w ν O):∀(hs:List (Nat×Bool)),St E (σ.share hs) a w ν O:=by
 intro hs;induction hs generalizing σ with
 |nil=>exact h
 |cons p hs ih=>
  obtain⟨j,b⟩:=p;cases b
  ·exact ih h
  ·exact ih (h.frz hE _)
theorem St.forget (hE:aE E)(h:St E σ a w ν O)(hs:List (Nat×Bool)):St E (σ.forget hs) a w ν O:=by
 have h1:=h.share hE hs;unfold AS.forget;generalize σ.share hs=de at h1;dsimp only;generalize hl:agA de.tmps.l hs=l;generalize hbs:(de.boxes.filter fun p=>l.any (fun q=>q.2.lI p.1)||de.tmps.s.any fun q=>q.2.lI p.1)=bs;generalize hrs:(de.rows.filter fun p=>(l.any fun q=>q.2.eZ p.1)||(de.tmps.s.any fun q=>q.2.eZ p.1)||bs.any fun q=>q.2.eZ p.1)=rs;have hbl:∀b,look bs b=if (l.any (fun q=>q.2.lI b)||de.tmps.s.any fun q=>q.2.lI b) then look de.boxes b else none:=fun b=>by rw[←hbs];exact yZ de.boxes (fun k=>l.any (fun q=>q.2.lI k)||de.tmps.s.any fun q=>q.2.lI k) b
 have hrl:∀r,look rs r=if ((l.any fun q=>q.2.eZ r)||(de.tmps.s.any fun q=>q.2.eZ r)||bs.any fun q=>q.2.eZ r) then look de.rows r else none:=fun r=>by rw[←hrs];exact yZ de.rows (fun k=>(l.any fun q=>q.2.eZ k)||(de.tmps.s.any fun q=>q.2.eZ k)||bs.any fun q=>q.2.eZ k) r
 refine h1.less hE (a':=a) (fun r row e=> ?_) (fun b e=> ?_) rfl rfl rfl (fun hV b x hx=> ?_) (fun hV=>⟨h1.slots.1,fun i x hx=> ?_,fun i x hx=> ?_⟩)
 ·have e':look rs r=some row:=e;rw[hrl] at e';split at e'
  ·exact e'
  ·cases e'
 ·have e':(look bs b).isSome=true:=e;rw[hbl] at e';split at e'
  ·exact e'
  ·cases e'
 ·have hx':look bs b=some x:=hx;have hm:=y5 hx';rw[hbl] at hx';split at hx'
  ·refine(h1.box hx').mono hV (fun _ _=>rfl) (fun r e hr=>⟨rfl, ?_⟩);show (look rs r).isSome=true;have hk:(bs.any fun q=>q.2.eZ r)=true:=List.any_eq_true.2 ⟨(b,x),hm,by rw[e];exact beq_refl r⟩;rw[hrl,if_pos (by rw[hk,Bool.or_true])];exact hr
  ·cases hx'
 ·have hx':look l i=some x:=hx;have hm:=y5 hx';have hv:look de.tmps.l i=some x:=by
   rw[←hl] at hx';unfold agA at hx';rw[yZ de.tmps.l (fun k=>hs.any fun p=>Nat.beq p.1 k) i] at hx';split at hx'
   ·exact hx'
   ·cases hx'
  refine aj.keep (σ:=de) hV (HSub.of_eq (by rfl) (fun _ _=>rfl)) x _ (fun r hk row hrow=>⟨rfl,row, ?_,rfl⟩) (fun b hk hs=>⟨rfl, ?_⟩) (h1.slots.2.1 i x hv)
  ·show look rs r=_;rw[hrl,if_pos (by rw[show (l.any fun q=>q.2.eZ r)=true from List.any_eq_true.2 ⟨(i,x),hm,hk⟩];rfl)];exact hrow
  ·show (look bs b).isSome=_;rw[hbl,if_pos (by rw[show (l.any fun q=>q.2.lI b)=true from List.any_eq_true.2 ⟨(i,x),hm,hk⟩];rfl)];exact hs
 ·have hx':look de.tmps.s i=some x:=hx;have hm:=y5 hx';refine aj.keep (σ:=de) hV (HSub.of_eq (by rfl) (fun _ _=>rfl)) x _ (fun r hk row hrow=>⟨rfl,row, ?_,rfl⟩) (fun b hk hs=>⟨rfl, ?_⟩) (h1.slots.2.2 i x hx')
  ·show look rs r=_;rw[hrl,if_pos (by rw[show (de.tmps.s.any fun q=>q.2.eZ r)=true from List.any_eq_true.2 ⟨(i,x),hm,hk⟩];simp)];exact hrow
  ·show (look bs b).isSome=_;rw[hbl,if_pos (by rw[show (de.tmps.s.any fun q=>q.2.lI b)=true from List.any_eq_true.2 ⟨(i,x),hm,hk⟩];simp)];exact hs
def tA (ν:Nm→Value)(d:Nat)(v:Value):Nm→Value
 | .row k=>if k=d then v else ν (.row k)
 |m=>ν m
def Px (ν:Nm→Value)(d:Nat)(v:Value):Nm→Value
 | .box k=>if k=d then v else ν (.box k)
 |m=>ν m
def NT (ν:Nm→Value)(h n:Nat)(v:Value):Nm→Value
 | .hp i k=>if i=h∧k=n then v else ν (.hp i k)
 |m=>ν m
theorem Xn {r:Nat}{k:Nat}(h:Own σ ν (.row r) k):(look σ.rows r).isSome=true:=by have:=h.1;simpa [AS.obj] using this
theorem Xo {r:Nat}{row:Row}{k:Nat}(h:look σ.rows r=some row)(hb:cR (ν (.row r))=some k):Own σ ν (.row r) k:=⟨by simp[AS.obj,h],hb⟩
def vn (r d:Nat):Nm→Nm
 | .row k=>if k=d then .row r else .row k
 |m=>m
theorem agY {r d:Nat}{m:Nm}(h:E.wS (vn r d m)):E.wS m:=by
 cases m with
 |row k=>simp only[vn] at h;split at h<;>exact absurd h Pt
 |_=>exact h
theorem St.rename (hE:aE E)(h:St E σ a w ν O){r d:Nat}(hd:look σ.rows d=none):∃aK,St E (σ.rename r d) a w aK O∧(∀m,(∀k,m≠ .row k)→aK m=ν m)∧((look σ.rows r).isSome=true→aK (.row d)=ν (.row r)∧(look (σ.rename r d).rows d).isSome=true):=by
 unfold AS.rename;cases hrow:look σ.rows r with
 |none=>exact⟨ν,h,fun _ _=>rfl,by simp⟩
 |some row=>
  have hrd:r≠d:=fun e=>by rw[e,hd] at hrow;cases hrow
  generalize Gy:({σ with tmps:=σ.tmps.map (AV.YM r d),rows:=put (del σ.rows r) d row,boxes:=IG (BX.YM r d) σ.boxes}:AS)=ag;have e1:ag.rows=put (del σ.rows r) d row:=by rw[←Gy]
  have e2:ag.boxes=IG (BX.YM r d) σ.boxes:=by rw[←Gy]
  have e3:ag.ae=σ.ae:=by rw[←Gy]
  have QE:∀k,look ag.rows k=if d=k then some row else if r=k then none else look σ.rows k:=fun k=>by rw[e1,aD,By]
  have hd1:look ag.rows d=some row:=by rw[QE,if_pos rfl]
  have hν:∀m,(tA ν d (ν (.row r))) m=ν (vn r d m):=fun m=>by
   cases m with
   |row k=>simp only[tA,vn];split<;>rfl
   |_=>rfl
  have nL:∀m,(ag.obj m).isSome=true→(σ.obj (vn r d m)).isSome=true∧vn r d m≠ .row d∧m≠ .row r:=fun m hm=>by
   cases m with
   |row k=>
    simp only[AS.obj,Option.isSome_map,QE] at hm;simp only[vn];by_cases hk:d=k
    ·subst hk;rw[if_pos rfl];exact⟨by simp[AS.obj,hrow],fun e=>hrd (by injection e),fun e=>hrd (by injection e with e;exact e.symm)⟩
    ·rw[if_neg hk] at hm;rw[if_neg (Ne.symm hk)];split at hm
     ·cases hm
     ·rename_i hk2;exact⟨by simpa [AS.obj] using hm,fun e=>hk (by injection e with e;exact e.symm),fun e=>hk2 (by injection e with e;exact e.symm)⟩
   |box b=>simp only[AS.obj,Option.isSome_map,e2,gV] at hm;exact⟨by simpa [AS.obj,vn] using hm,fun e=>(by cases e),fun e=>(by cases e)⟩
   |hp i n=>simp only[AS.obj,e3] at hm;exact⟨by simpa [AS.obj,vn] using hm,fun e=>(by cases e),fun e=>(by cases e)⟩
  have hown:∀m k,Own ag (tA ν d (ν (.row r))) m k→Own σ ν (vn r d m) k:=fun m k hm=>⟨(nL m hm.1).1,by rw[←hν];exact hm.2⟩
  have an5:∀m m',(ag.obj m).isSome=true→(ag.obj m').isSome=true→vn r d m=vn r d m'→m=m':=fun m m' h1 h2 he=>by
   have a1:=(nL m h1).2.2;have a2:=(nL m' h2).2.2;cases m with
   |row k=>
    cases m' with
    |row k'=>
     simp only[vn] at he;by_cases q1:k=d<;>by_cases q2:k'=d
     ·rw[q1,q2]
     ·rw[if_pos q1,if_neg q2] at he;injection he with he;exact absurd (by rw[he]) a2
     ·rw[if_neg q1,if_pos q2] at he;injection he with he;exact absurd (by rw[he]) a1
     ·rw[if_neg q1,if_neg q2] at he;exact he
    |box b=>simp only[vn] at he;split at he<;>cases he
    |hp i n=>simp only[vn] at he;split at he<;>cases he
   |box b=>cases m' with
    |row k'=>simp only[vn] at he;split at he<;>cases he
    |_=>exact he
   |hp i n=>cases m' with
    |row k'=>simp only[vn] at he;split at he<;>cases he
    |_=>exact he
  have HA:∀k,k≠r→(look σ.rows k).isSome=true→tA ν d (ν (.row r)) (.row k)=ν (.row k)∧look ag.rows k=look σ.rows k:=fun k hk hs=>by
   have hkd:k≠d:=fun e=>by rw[e,hd] at hs;cases hs
   exact⟨by simp only[tA,if_neg hkd],by rw[QE,if_neg (Ne.symm hkd),if_neg (Ne.symm hk)]⟩
  have agZ:tA ν d (ν (.row r)) (.row d)=ν (.row r):=by simp only[tA,if_pos]
  refine⟨tA ν d (ν (.row r)), ?_,fun m hm=> ?_,fun _=>⟨agZ, ?_⟩⟩
  ·show St E ({σ with tmps:=σ.tmps.map (AV.YM r d),rows:=put (del σ.rows r) d row,boxes:=IG (BX.YM r d) σ.boxes}:AS) a w _ O;rw[Gy];refine h.step hE (C:=fun _=>False) (Grow.refl _ _) (fun k hk=>hk.elim) (HSub.of_eq e3 (fun _ _=>rfl)) (fun m k hm=> .inl ⟨_,hown m k hm,fun e=>agY e⟩) (fun m k hm=>(h.y6 _ k (hown m k hm)).2.1)
    (fun m m' k h1 h2=>an5 m m' h1.1 h2.1 (h.inj _ _ k (hown _ _ h1) (hown _ _ h2))) (fun m' k hk=> ?_) (by rw[←Gy]) rfl (by rw[e3];exact h.nn) (fun i hr e=>by rw[e3];exact(h.ro i hr e).1) (fun hV m o ho=> ?_) (fun hV=> ?_)
   ·have h9:=h.new _ k (hown _ _ hk);refine h9.imp id (fun h10=> ?_);cases m' with
    |row q=>simp only[vn] at h10;split at h10<;>exact h10
    |box q=>trivial
    |hp i n=>simp only[vn] at h10;exact h10
   ·cases m with
    |row k=>
     simp only[AS.obj,Option.map_eq_some_iff] at ho;obtain⟨row',e,rfl⟩:=ho;rw[QE] at e;split at e
     ·rename_i hk;subst hk;obtain rfl:row=row':=by simpa using e
      rw[agZ];exact jf.mono hV (fun _ _=>rfl) (h.row hrow)
     ·rename_i hk;split at e
      ·cases e
      ·rename_i hk2;rw[(HA k (Ne.symm hk2) (bf e)).1];exact jf.mono hV (fun _ _=>rfl) (h.row e)
    |box b=>
     simp only[AS.obj,Option.map_eq_some_iff] at ho;obtain⟨x,e,rfl⟩:=ho;rw[e2,gV,Option.map_eq_some_iff] at e;obtain⟨x0,hx0,rfl⟩:=e;obtain⟨g,hg1,hg2⟩:=h.box hx0;refine⟨g,hg1, ?_⟩;cases x0 with
     |cells cs=>obtain⟨cur,e,h3,h4⟩:=hg2;exact⟨cur,e,h3,h4.mono (bJ.mono hV)⟩
     |own k=>
      obtain⟨e,h3,h4⟩:=hg2;simp only[BX.YM];cases hk:Nat.beq k r with
      |true=>have:=(beq_iff _ _).1 hk;subst this;exact⟨e,by rw[cond_true,agZ];exact h3,by rw[cond_true,hd1];rfl⟩
      |false=>obtain⟨i1,i2⟩:=HA k (rW.1 hk) h4;exact⟨e,by rw[cond_false,i1];exact h3,by rw[cond_false,i2];exact h4⟩
     |nil=>exact hg2
    |hp i n=>
     have ho':σ.obj (.hp i n)=some o:=by simp only[AS.obj,e3] at ho ⊢;exact ho
     obtain⟨k,row,rfl⟩:=NS ho';exact Au.mono hV (fun _ _=>rfl) (h.Bj _ _ ho')
   ·have Xi:ag.tmps=σ.tmps.map (AV.YM r d):=by rw[←Gy]
    rw[Xi];refine Kk (fun x v hx=> ?_) h.slots;have hrv:∀x v,rO (view E σ ν O w) σ ν x v→rO (view E ag (tA ν d (ν (.row r))) O w) ag (tA ν d (ν (.row r))) (x.YM r d) v:=by
     intro x v hx;cases x with
     |cv c=>exact bJ.mono hV c v hx
     |agg cs=>obtain⟨vs,h1,h2⟩:=hx;exact⟨vs,h1,h2.mono (bJ.mono hV)⟩
     |own k=>
      obtain⟨h1,h2⟩:=hx;simp only[RV.YM];cases hk:Nat.beq k r with
      |true=>have:=(beq_iff _ _).1 hk;subst this;exact⟨by rw[cond_true,agZ];exact h1,by rw[cond_true,hd1];rfl⟩
      |false=>obtain⟨i1,i2⟩:=HA k (rW.1 hk) h2;exact⟨by rw[cond_false,i1];exact h1,by rw[cond_false,i2];exact h2⟩
    have hba:∀b off v,Bz σ ν b off v→Bz ag (tA ν d (ν (.row r))) b off v:=fun b off v hb=>⟨by rw[e2,gV,Option.isSome_map];exact hb.1,hb.2⟩
    cases x with
    |rv x=>exact hrv x v hx
    |ND k sz i off=>
     obtain⟨row',g,h1,h2,h3⟩:=hx;simp only[AV.YM];cases hk:Nat.beq k r with
     |true=>
      have:=(beq_iff _ _).1 hk;subst this;rw[hrow] at h1;obtain rfl:row=row':=by simpa using h1
      exact⟨row,g,by rw[cond_true];exact hd1,by rw[cond_true,agZ];exact h2,h3⟩
     |false=>obtain⟨i1,i2⟩:=HA k (rW.1 hk) (bf h1);exact⟨row',g,by rw[cond_false,i2];exact h1,by rw[cond_false,i1];exact h2,h3⟩
    |tup l=>obtain⟨vs,h1,h2⟩:=hx;exact⟨vs,h1,SX hrv h2⟩
    |lit u=>exact hx
    |box b off=>exact hba b off v hx
    |pg cs=>exact qy.mono hV hx
    |hel i n j off=>obtain⟨hr',g,h1,h2⟩:=hx;exact⟨hr',g,by rw[e3];exact h1,h2⟩
    |fn f aQ=>
     obtain⟨vs,h1,h2⟩:=hx;refine⟨vs,h1,h2.mono (fun c u hc=> ?_)⟩;cases c with
     |box b=>exact hba b 0 u hc
     |pg cs=>exact qy.mono hV hc
    |Ly=>exact hx
    |nil=>trivial
  ·cases m with
   |row k=>exact absurd rfl (hm k)
   |_=>rfl
  ·show (look (put (del σ.rows r) d row) d).isSome=true;rw[aD,if_pos rfl];rfl
end
section
variable {P:Program}{E:Env}{σ ag:AS}{a:Act}{w w':World}{ν aK:Nm→Value}{O:Nat→Prop}{V V':View}{Y:Value}
theorem mY {d:Nat}{v:Value}:tA ν d v (.row d)=v:=by simp only[tA,if_pos]
theorem R5 {d k:Nat}{v:Value}(h:k≠d):tA ν d v (.row k)=ν (.row k):=by simp only[tA,if_neg h]
theorem St.old (h:St E σ a w ν O){C:Nat→Prop}(hg:Grow C w w'){m:Nm}{o:Obj}(ho:σ.obj m=some o)(hc:∀k,cR (ν m)=some k→¬C k)(hV:∀key v,view E σ ν O w key v→V key v)
  (hr:∀r,o= .box (.own r)→(look σ.rows r).isSome=true→aK (.row r)=ν (.row r)∧(look ag.rows r).isSome=true):Gw V ag aK w' (ν m) o:=
 (h.Bj m o ho).mono hV (fun k hk=>hg.block k (h.y6 m k ⟨bf ho,hk⟩).2.1 (hc k hk)) hr
theorem St.ac5 (hE:aE E)(h:St E σ a w ν O){r d:Nat}{row':Row}{v':Value}(hd:look (σ.bl r).rows d=none)(hg:Grow (fun k=>Own σ ν (.row r) k) w w')
  (E6:∀k,cR v'=some k→Own σ ν (.row r) k∨(w.heap.size≤k∧k<w'.heap.size))
  (cr:(∀key v,view E σ ν O w key v→view E {(σ.bl r) with rows:=put (σ.bl r).rows d row'} (tA ν d v') O w' key v)→
   jf (view E {(σ.bl r) with rows:=put (σ.bl r).rows d row'} (tA ν d v') O w') w' v' row'):
  St E {(σ.bl r) with rows:=put (σ.bl r).rows d row'} a w' (tA ν d v') O:=by
 generalize Gy:({(σ.bl r) with rows:=put (σ.bl r).rows d row'}:AS)=ag at cr;have e1:ag.rows=put (σ.bl r).rows d row':=by rw[←Gy]
 have e2:ag.boxes=IG (BX.bl r) σ.boxes:=by rw[←Gy];rfl
 have e3:ag.ae=σ.ae:=by rw[←Gy];rfl
 have QE:∀k,look ag.rows k=if d=k then some row' else if r=k then none else look σ.rows k:=fun k=>by rw[e1,aD,Gz]
 have hdr:∀k,(look σ.rows k).isSome=true→k≠r→k≠d:=fun k hk hkr e=>by subst e;rw[Gz,if_neg (Ne.symm hkr)] at hd;rw[hd] at hk;cases hk
 have hold:∀k,k≠r→(look σ.rows k).isSome=true→tA ν d v' (.row k)=ν (.row k)∧look ag.rows k=look σ.rows k:=fun k hkr hk=>
  ⟨R5 (hdr k hk hkr),by rw[QE,if_neg (Ne.symm (hdr k hk hkr)),if_neg (Ne.symm hkr)]⟩
 -- what is owned
 have hown:∀m k,Own ag (tA ν d v') m k→(m= .row d∧(Own σ ν (.row r) k∨(w.heap.size≤k∧k<w'.heap.size)))∨(m≠ .row d∧m≠ .row r∧Own σ ν m k):=by
  intro m k hm;obtain⟨h1,h2⟩:=hm;cases m with
  |row q=>
   simp only[AS.obj,Option.isSome_map,QE] at h1;by_cases hq:d=q
   ·subst hq;rw[mY] at h2;exact .inl ⟨rfl,E6 k h2⟩
   ·rw[if_neg hq] at h1;split at h1
    ·cases h1
    ·rename_i hqr;rw[R5 (Ne.symm hq)] at h2;exact .inr ⟨fun e=>hq (by injection e with e;exact e.symm),fun e=>hqr (by injection e with e;exact e.symm),by simpa [AS.obj] using h1,h2⟩
  |box b=>simp only[AS.obj,Option.isSome_map,e2,gV] at h1;exact .inr ⟨fun e=>(by cases e),fun e=>(by cases e),by simpa [AS.obj] using h1,h2⟩
  |hp i n=>simp only[AS.obj,e3] at h1;exact .inr ⟨fun e=>(by cases e),fun e=>(by cases e),by simpa [AS.obj] using h1,h2⟩
 refine h.step hE hg (fun k hk=>⟨_,hk,Pt⟩) (HSub.of_eq e3 (fun _ _=>rfl)) (fun m k hm=> ?_) (fun m k hm=> ?_) (fun m m' k h1 h2=> ?_) (fun q k hk=> ?_) (by rw[←Gy];rfl) rfl (by rw[e3];exact h.nn) (fun i hr e=>by rw[e3];exact(h.ro i hr e).1) (fun hV m o ho=> ?_) (fun hV=> ?_)
 ·rcases hown m k hm with ⟨_,h1 |h1⟩ | ⟨_,_,h1⟩
  ·exact .inl ⟨_,h1,fun e=>absurd e Pt⟩
  ·exact .inr h1.1
  ·exact .inl ⟨_,h1,id⟩
 ·rcases hown m k hm with ⟨_,h1 |h1⟩ | ⟨_,_,h1⟩
  ·exact Nat.lt_of_lt_of_le (h.y6 _ k h1).2.1 hg.size
  ·exact h1.2
  ·exact Nat.lt_of_lt_of_le (h.y6 _ k h1).2.1 hg.size
 ·rcases hown m k h1 with ⟨e,h3⟩ | ⟨n1,n2,h3⟩<;>rcases hown m' k h2 with ⟨e',h4⟩ | ⟨n1',n2',h4⟩
  ·rw[e,e']
  ·rcases h3 with h3 |h3
   ·exact absurd (h.inj _ _ k h4 h3) n2'
   ·exact absurd (h.y6 _ k h4).2.1 (by omega)
  ·rcases h4 with h4 |h4
   ·exact absurd (h.inj _ _ k h3 h4) n2
   ·exact absurd (h.y6 _ k h3).2.1 (by omega)
  ·exact h.inj _ _ k h3 h4
 ·rcases hown _ k hk with ⟨e,h1 |h1⟩ | ⟨_,_,h1⟩
  ·exact .inl ((h.new _ k h1).resolve_right id)
  ·exact .inl (Nat.le_trans h.keep.size h1.1)
  ·exact h.new _ k h1
 ·have R4:∀m',m'≠ .row r→(σ.obj m').isSome=true→∀k,cR (ν m')=some k→¬Own σ ν (.row r) k:=fun m' hne hs k hk ho=>hne (h.inj _ _ k ⟨hs,hk⟩ ho);cases m with
  |row q=>
   simp only[AS.obj,Option.map_eq_some_iff] at ho;obtain⟨an6,e,rfl⟩:=ho;rw[QE] at e;split at e
   ·rename_i hq;subst hq;obtain rfl:row'=an6:=by simpa using e
    rw[mY];exact cr (by rw[Gy] at*;exact hV)
   ·split at e
    ·cases e
    ·rename_i hqr;rw[(hold q (Ne.symm hqr) (bf e)).1];have ho:σ.obj (.row q)=some (.row an6):=by simp[AS.obj,e]
     exact h.old hg ho (R4 _ (fun e=>hqr (by injection e with e;exact e.symm)) (bf ho)) hV (fun r' e=>by cases e)
  |box b=>
   simp only[AS.obj,Option.map_eq_some_iff] at ho;obtain⟨x,e,rfl⟩:=ho;rw[e2,gV,Option.map_eq_some_iff] at e;obtain⟨x0,hx0,rfl⟩:=e;have ho:σ.obj (.box b)=some (.box x0):=by simp[AS.obj,hx0]
   exact Y6 (σ:=σ) (ν:=ν) (V:=view E σ ν O w) (w:=w) hV hold (fun k hk=>hg.block k (h.y6 _ k ⟨bf ho,hk⟩).2.1 (R4 _ (fun e=>by cases e) (bf ho) k hk)) (h.box hx0)
  |hp i n=>
   have ho':σ.obj (.hp i n)=some o:=by simp only[AS.obj,e3] at ho ⊢;exact ho
   obtain⟨k,row,rfl⟩:=NS ho';exact h.old (aK:=tA ν d v') hg ho' (R4 _ (fun e=>by cases e) (bf ho')) hV (fun r' e=>by cases e)
 ·have:ag.tmps=σ.tmps.map (AV.bl r):=by rw[←Gy];rfl
  rw[this];exact Kk (ac4 (ν:=ν) (aK:=tA ν d v') hV (HSub.of_eq e3 (fun _ _=>rfl)) hold (fun b hs=>⟨rfl,by rw[e2,gV,Option.isSome_map];exact hs⟩)) h.slots
theorem St.ag0 (hE:aE E)(h:St E σ a w ν O){m0 m1:Nm}{o0:Obj}{C:Nat→Prop}(hnr:¬E.wS m0∧¬E.wS m1)(hg:Grow C w w')(hC:∀k,C k→Own σ ν m1 k)
  (hs:HSub σ ν ag aK) (nL:∀m,m≠m0→m≠m1→ag.obj m=σ.obj m∧((σ.obj m).isSome=true→aK m=ν m)) (hm1:m1=m0∨ag.obj m1=none) (ag1:ag.obj m0=none∨ag.obj m0=some o0)
  (E6:∀k,(ag.obj m0).isSome=true→cR (aK m0)=some k→Own σ ν m0 k∨Own σ ν m1 k∨(w.heap.size≤k∧k<w'.heap.size)) (hold:∀k,E.VD m1 k→E.VD m0 k)
  (Xp:∀r row,look σ.rows r=some row→aK (.row r)=ν (.row r)∧∃row',look ag.rows r=some row'∧row'.t.size=row.t.size)
  (abr:∀b,(look σ.boxes b).isSome=true→aK (.box b)=ν (.box b)∧(look ag.boxes b).isSome=true)
  (htr:ag.trace=σ.trace) (htm:ag.tmps=σ.tmps) (hnn:∀(i:Nat) (hr:aV) (n:Nat),ag.ae[i]? =some hr→1≤n→n≤hr.xs.length→ael hr.k (aK (.hp i n)))
  (hro:∀i hr,E.ro i=some hr→ag.ae[i]? =some hr)
  (cr:(∀key v,view E σ ν O w key v→view E ag aK O w' key v)→ag.obj m0=some o0→Gw (view E ag aK O w') ag aK w' (aK m0) o0):St E ag a w' aK O:=by
 have hown:∀m k,Own ag aK m k→(m=m0∧(Own σ ν m0 k∨Own σ ν m1 k∨(w.heap.size≤k∧k<w'.heap.size)))∨(m≠m0∧m≠m1∧Own σ ν m k):=fun m k hm=>by
  by_cases e:m=m0
  ·subst e;exact .inl ⟨rfl,E6 k hm.1 hm.2⟩
  ·by_cases e1:m=m1
   ·subst e1;rcases hm1 with h1 |h1
    ·exact absurd h1 e
    ·have:=hm.1;rw[h1] at this;cases this
   ·obtain⟨h1,h2⟩:=nL m e e1;have h3:(σ.obj m).isSome=true:=by rw[←h1];exact hm.1
    exact .inr ⟨e,e1,h3,by rw[←h2 h3];exact hm.2⟩
 have hsub:Sub σ ν ag aK:={hs with rows:=Xp,boxes:=abr}
 refine h.step hE hg (fun k hk=>⟨_,hC k hk,hnr.2⟩) hs (fun m k hm=> ?_) (fun m k hm=> ?_) (fun m m' k h1 h2=> ?_) (fun q k hk=> ?_) htr rfl hnn hro (fun hV m o ho=> ?_) (fun hV=>by rw[htm];exact h.slots.mono (aj.mono hV hsub))
 ·rcases hown m k hm with ⟨_,h1 |h1 |h1⟩ | ⟨_,_,h1⟩
  ·exact .inl ⟨_,h1,fun e=>absurd e hnr.1⟩
  ·exact .inl ⟨_,h1,fun e=>absurd e hnr.2⟩
  ·exact .inr h1.1
  ·exact .inl ⟨_,h1,id⟩
 ·rcases hown m k hm with ⟨_,h1 |h1 |h1⟩ | ⟨_,_,h1⟩
  ·exact Nat.lt_of_lt_of_le (h.y6 _ k h1).2.1 hg.size
  ·exact Nat.lt_of_lt_of_le (h.y6 _ k h1).2.1 hg.size
  ·exact h1.2
  ·exact Nat.lt_of_lt_of_le (h.y6 _ k h1).2.1 hg.size
 ·have alf:∀m,m≠m0→m≠m1→Own σ ν m k→¬(Own σ ν m0 k∨Own σ ν m1 k∨(w.heap.size≤k∧k<w'.heap.size)):=fun m n0 n1 h3 h4=>by
   rcases h4 with h4 |h4 |h4
   ·exact n0 (h.inj _ _ k h3 h4)
   ·exact n1 (h.inj _ _ k h3 h4)
   ·exact absurd (h.y6 _ k h3).2.1 (by omega)
  rcases hown m k h1 with ⟨e,h3⟩ | ⟨n0,n1,h3⟩<;>rcases hown m' k h2 with ⟨e',h4⟩ | ⟨n0',n1',h4⟩
  ·rw[e,e']
  ·exact absurd h3 (alf m' n0' n1' h4)
  ·exact absurd h4 (alf m n0 n1 h3)
  ·exact h.inj _ _ k h3 h4
 ·rcases hown _ k hk with ⟨e',h1 |h1 |h1⟩ | ⟨_,_,h1⟩
  ·rw[e'];exact h.new _ k h1
  ·rw[e'];exact(h.new _ k h1).imp id (hold k)
  ·exact .inl (Nat.le_trans h.keep.size h1.1)
  ·exact h.new _ k h1
 ·by_cases e:m=m0
  ·subst e;rcases ag1 with h0 |h0
   ·rw[h0] at ho;cases ho
   ·have ho':=ho;rw[h0] at ho;obtain rfl:o0=o:=by simpa using ho
    exact cr hV ho'
  ·by_cases e1:m=m1
   ·subst e1;rcases hm1 with h1 |h1
    ·exact absurd h1 e
    ·rw[h1] at ho;cases ho
   ·obtain⟨h1,h2⟩:=nL m e e1;rw[h1] at ho;rw[h2 (bf ho)];exact h.old hg ho (fun k hk hc=>e1 (h.inj _ _ k ⟨bf ho,hk⟩ (hC k hc))) hV (fun r _ hr=>hsub.IH hr)
theorem St.fresh (hE:aE E)(h:St E σ a w ν O){m0:Nm}{o0:Obj}{C:Nat→Prop}(hnr:¬E.wS m0)(hg:Grow C w w')(hC:∀k,C k→Own σ ν m0 k)
  (hs:HSub σ ν ag aK) (nL:∀m,m≠m0→ag.obj m=σ.obj m∧((σ.obj m).isSome=true→aK m=ν m)) (ag1:ag.obj m0=some o0)
  (E6:∀k,cR (aK m0)=some k→Own σ ν m0 k∨(w.heap.size≤k∧k<w'.heap.size)) (hrow:∀r,m0= .row r→∀k,cR (aK m0)=some k→E.w0.heap.size≤k)
  (Xp:∀r row,look σ.rows r=some row→aK (.row r)=ν (.row r)∧∃row',look ag.rows r=some row'∧row'.t.size=row.t.size)
  (abr:∀b,(look σ.boxes b).isSome=true→aK (.box b)=ν (.box b)∧(look ag.boxes b).isSome=true)
  (htr:ag.trace=σ.trace) (htm:ag.tmps=σ.tmps) (hnn:∀(i:Nat) (hr:aV) (n:Nat),ag.ae[i]? =some hr→1≤n→n≤hr.xs.length→ael hr.k (aK (.hp i n)))
  (hro:∀i hr,E.ro i=some hr→ag.ae[i]? =some hr)
  (cr:(∀key v,view E σ ν O w key v→view E ag aK O w' key v)→Gw (view E ag aK O w') ag aK w' (aK m0) o0):St E ag a w' aK O:=
 h.ag0 hE ⟨hnr,hnr⟩ hg hC hs (fun m hm _=>nL m hm) (.inl rfl) (.inr ag1) (fun k _ hk=>(E6 k hk).imp id .inr) (fun _ h=>h) Xp abr htr htm hnn hro (fun hV _=>cr hV)
theorem VH {m:Nm}{d:Nat}(h:m≠ .row d)(σ:AS)(rows:List (Nat×Row))(hr:∀k,k≠d→look rows k=look σ.rows k):({σ with rows:=rows}:AS).obj m=σ.obj m:=by
 cases m with
 |row k=>simp only[AS.obj];rw[hr k (fun e=>h (by rw[e]))]
 |_=>rfl
theorem VI {m:Nm}{d:Nat}(h:m≠ .box d)(σ:AS)(boxes:List (Nat×BX))(hr:∀k,k≠d→look boxes k=look σ.boxes k):({σ with boxes:=boxes}:AS).obj m=σ.obj m:=by
 cases m with
 |box k=>simp only[AS.obj];rw[hr k (fun e=>h (by rw[e]))]
 |_=>rfl
theorem St.newRow (hE:aE E)(h:St E σ a w ν O){d:Nat}{row':Row}{v':Value}(hd:look σ.rows d=none)(hg:Below w.heap.size w w')
  (E6:∀k,cR v'=some k→w.heap.size≤k∧k<w'.heap.size)
  (cr:(∀key v,view E σ ν O w key v→view E {σ with rows:=put σ.rows d row'} (tA ν d v') O w' key v)→jf (view E {σ with rows:=put σ.rows d row'} (tA ν d v') O w') w' v' row'):
  St E {σ with rows:=put σ.rows d row'} a w' (tA ν d v') O:=by
 have hne:∀k,(look σ.rows k).isSome=true→k≠d:=fun k hk e=>by rw[e,hd] at hk;cases hk
 have hn0:∀k,¬Own σ ν (.row d) k:=fun k hk=>by have:=Xn hk;rw[hd] at this;cases this
 refine h.fresh hE (m0:= .row d) (o0:= .row row') (C:=fun _=>False) Pt (Grow.BB hg) (fun k hk=>hk.elim) (HSub.of_eq rfl (fun _ _=>rfl)) (fun m hm=>⟨VH hm σ _ (fun k hk=>by rw[aD,if_neg (Ne.symm hk)]),fun hs=> ?_⟩) (by simp[AS.obj,aD]) (fun k hk=> .inr (E6 k (by rw[mY] at hk;exact hk))) (fun r e k hk=>Nat.le_trans h.keep.size (E6 k (by rw[mY] at hk;exact hk)).1)
  (fun r row hr=>⟨R5 (hne r (bf hr)),row,by show look (put _ _ _) _=_;rw[aD,if_neg (Ne.symm (hne r (bf hr)))];exact hr,rfl⟩) (fun b hb=>⟨rfl,hb⟩) rfl rfl h.nn (fun i hr e=>(h.ro i hr e).1) (fun hV=>by rw[mY];exact cr hV)
 cases m with
 |row k=>exact R5 (fun e=>hm (by rw[e]))
 |_=>rfl
theorem St.setRow (hE:aE E)(h:St E σ a w ν O){q:Nat}{row row':Row}(hq:look σ.rows q=some row)(hsz:row'.t.size=row.t.size)(hg:Grow (fun k=>cR (ν (.row q))=some k) w w')
  (cr:(∀key v,view E σ ν O w key v→view E {σ with rows:=put σ.rows q row'} ν O w' key v)→jf (view E {σ with rows:=put σ.rows q row'} ν O w') w' (ν (.row q)) row'):
  St E {σ with rows:=put σ.rows q row'} a w' ν O:=by
 have ho:(σ.obj (.row q)).isSome=true:=by simp[AS.obj,hq]
 refine h.fresh hE (m0:= .row q) (o0:= .row row') Pt hg (fun k hk=>⟨ho,hk⟩) (HSub.of_eq rfl (fun _ _=>rfl)) (fun m hm=>⟨VH hm σ _ (fun k hk=>by rw[aD,if_neg (Ne.symm hk)]),fun _=>rfl⟩) (by simp[AS.obj,aD]) (fun k hk=> .inl ⟨ho,hk⟩) (fun r e k hk=>(h.new (.row q) k ⟨ho,hk⟩).resolve_right id)
  (fun r bR hr=>⟨rfl, ?_⟩) (fun b hb=>⟨rfl,hb⟩) rfl rfl h.nn (fun i hr e=>(h.ro i hr e).1) cr
 show ∃aqp,look (put σ.rows q row') r=some aqp∧_;rw[aD];by_cases e:q=r
 ·subst e;rw[hq] at hr;obtain rfl:row=bR:=by simpa using hr
  exact⟨row',by rw[if_pos rfl],hsz⟩
 ·exact⟨bR,by rw[if_neg e];exact hr,rfl⟩
theorem St.zS (hE:aE E)(h:St E σ a w ν O){d:Nat}{x:BX}{o:Go.Obj}(hd:look σ.boxes d=none)
  (cr:(∀key v,view E σ ν O w key v→view E {σ with boxes:=put σ.boxes d x} (Px ν d (.pointer (some ⟨w.heap.size,0,none⟩))) O (w.alloc o) key v)→
   BA (view E {σ with boxes:=put σ.boxes d x} (Px ν d (.pointer (some ⟨w.heap.size,0,none⟩))) O (w.alloc o)) {σ with boxes:=put σ.boxes d x} (Px ν d (.pointer (some ⟨w.heap.size,0,none⟩))) (w.alloc o) (.pointer (some ⟨w.heap.size,0,none⟩)) x):
  St E {σ with boxes:=put σ.boxes d x} a (w.alloc o) (Px ν d (.pointer (some ⟨w.heap.size,0,none⟩))) O:=by
 have hne:∀k,(look σ.boxes k).isSome=true→k≠d:=fun k hk e=>by rw[e,hd] at hk;cases hk
 have hb:Below w.heap.size w (w.alloc o):=⟨rfl,rfl,rfl,by simp,fun k hk=>heap_alloc_old w _ k hk⟩
 have hv:Px ν d (.pointer (some ⟨w.heap.size,0,none⟩)) (.box d)= .pointer (some ⟨w.heap.size,0,none⟩):=by simp only[Px,if_pos]
 refine h.fresh hE (m0:= .box d) (o0:= .box x) (C:=fun _=>False) Mn (Grow.BB hb) (fun k hk=>hk.elim) (HSub.of_eq rfl (fun _ _=>rfl)) (fun m hm=>⟨VI hm σ _ (fun k hk=>by rw[aD,if_neg (Ne.symm hk)]),fun hs=> ?_⟩) (by simp[AS.obj,aD]) (fun k hk=> .inr ?_) (fun r e=>by cases e)
  (fun r row hr=>⟨rfl,row,hr,rfl⟩) (fun b hb=>⟨by simp only[Px,if_neg (hne b hb)],by show (look (put _ _ _) _).isSome=_;rw[aD,if_neg (Ne.symm (hne b hb))];exact hb⟩) rfl rfl h.nn (fun i hr e=>(h.ro i hr e).1) (fun hV=>by rw[hv];exact cr hV)
 ·cases m with
  |box k=>exact if_neg (fun e=>hm (by rw[e]))
  |_=>rfl
 ·rw[hv] at hk;simp only[cR,Option.some.injEq] at hk;subst hk;exact⟨Nat.le_refl _,by simp⟩
theorem St.abt (hE:aE E)(h:St E σ a w ν O){b:Nat}{x:BX}(hq:(look σ.boxes b).isSome=true)(hg:Grow (fun k=>cR (ν (.box b))=some k) w w')
  (cr:(∀key v,view E σ ν O w key v→view E {σ with boxes:=put σ.boxes b x} ν O w' key v)→BA (view E {σ with boxes:=put σ.boxes b x} ν O w') {σ with boxes:=put σ.boxes b x} ν w' (ν (.box b)) x):
  St E {σ with boxes:=put σ.boxes b x} a w' ν O:=by
 have ho:(σ.obj (.box b)).isSome=true:=by simpa [AS.obj] using hq
 refine h.fresh hE (m0:= .box b) (o0:= .box x) Mn hg (fun k hk=>⟨ho,hk⟩) (HSub.of_eq rfl (fun _ _=>rfl)) (fun m hm=>⟨VI hm σ _ (fun k hk=>by rw[aD,if_neg (Ne.symm hk)]),fun _=>rfl⟩) (by simp[AS.obj,aD]) (fun k hk=> .inl ⟨ho,hk⟩) (fun r e=>by cases e)
  (fun r row hr=>⟨rfl,row,hr,rfl⟩) (fun k hk=>⟨rfl, ?_⟩) rfl rfl h.nn (fun i hr e=>(h.ro i hr e).1) cr
 show (look (put σ.boxes b x) k).isSome=true;rw[aD];split
 ·rfl
 ·exact hk
theorem St.alg (hE:aE E)(h:St E σ a w ν O){i n0 n1:Nat}{hr:aV}{xs':List (Option (List hr.t.den))}{v0:Value}{C:Nat→Prop}
  (hh:σ.ae[i]? =some hr) (hw:hr.w=true) (hn:1≤n0) (hlen:(n0=xs'.length∧xs'.length=hr.xs.length+1)∨(xs'.length=hr.xs.length∧v0=ν (.hp i n0)))
  (SY:∀m:Nat,m+1≠n0→m+1≠n1→∀l,xs'[m]? =some (some l)↔hr.xs[m]? =some (some l)) (h1:n1=n0∨n1=0∨∀l,xs'[n1 - 1]? ≠some (some l))
  (hC:∀k,C k→Own σ ν (.hp i n1) k) (hg:Grow C w w') (hblk:∀k,cR v0=some k→Own σ ν (.hp i n0) k∨Own σ ν (.hp i n1) k∨(w.heap.size≤k∧k<w'.heap.size)) (hv0:ael hr.k v0)
  (cr:(∀key v,view E σ ν O w key v→view E {σ with ae:=σ.ae.set i ⟨hr.e,hr.t,hr.k,hr.w,xs'⟩} (NT ν i n0 v0) O w' key v)→∀l,xs'[n0 - 1]? =some (some l)→
   Au (view E {σ with ae:=σ.ae.set i ⟨hr.e,hr.t,hr.k,hr.w,xs'⟩} (NT ν i n0 v0) O w') w' hr.k v0 ⟨hr.e,hr.t,l⟩):
  St E {σ with ae:=σ.ae.set i ⟨hr.e,hr.t,hr.k,hr.w,xs'⟩} a w' (NT ν i n0 v0) O:=by
 have hlt:i<σ.ae.length:=(List.getElem?_eq_some_iff.1 hh).1;have ik:∀j,(σ.ae.set i ⟨hr.e,hr.t,hr.k,hr.w,xs'⟩)[j]? =if i=j then some ⟨hr.e,hr.t,hr.k,hr.w,xs'⟩ else σ.ae[j]? :=fun j=>by
  rw[List.getElem?_set];split
  ·rename_i e;subst e;simp[hlt]
  ·rfl
 have hle:hr.xs.length≤xs'.length:=by rcases hlen with h2 |h2<;>omega
 have hu0:NT ν i n0 v0 (.hp i n0)=v0:=by simp only[NT,and_self,if_pos]
 have aep:∀j n,¬(j=i∧n=n0)→NT ν i n0 v0 (.hp j n)=ν (.hp j n):=fun j n hj=>by simp only[NT,if_neg hj]
 have hold:∀n,1≤n→n≤hr.xs.length→NT ν i n0 v0 (.hp i n)=ν (.hp i n):=fun n h2 h3=>by
  by_cases e:n=n0
  ·subst e;rcases hlen with h4 |h4
   ·omega
   ·rw[hu0];exact h4.2
  ·exact aep i n (fun h4=>e h4.2)
 have VE:∀n,nL (σ.ae.set i ⟨hr.e,hr.t,hr.k,hr.w,xs'⟩) i (n+1)=Hz hr.e hr.t hr.k xs'[n]? :=fun n=>by simp only[nL,ik,if_pos]
 have al9:∀n,nL σ.ae i (n+1)=Hz hr.e hr.t hr.k hr.xs[n]? :=fun n=>by simp only[nL,hh]
 have hsub:HSub σ ν {σ with ae:=σ.ae.set i ⟨hr.e,hr.t,hr.k,hr.w,xs'⟩} (NT ν i n0 v0):=by
  refine⟨by simp,fun j HA e=> ?_,fun j n h2 h3=> ?_⟩
  ·show ∃hr',(σ.ae.set i ⟨hr.e,hr.t,hr.k,hr.w,xs'⟩)[j]? =some hr'∧_;rw[ik];by_cases ej:i=j
   ·subst ej;rw[hh] at e;obtain rfl:hr=HA:=by simpa using e
    exact⟨_,if_pos rfl,⟨rfl,rfl,rfl,rfl⟩,hle⟩
   ·exact⟨HA,by rw[if_neg ej];exact e,Av.refl _,Nat.le_refl _⟩
  ·by_cases ej:j=i
   ·subst ej;rw[Kn hh] at h3;exact hold n h2 h3
   ·exact aep j n (fun h4=>ej h4.1)
 have aeq:∀n,¬E.wS (.hp i n):=fun n ⟨j,_,hr',e,e2⟩=>by
  injection e with e3 e4
  subst e3;obtain⟨h5,h6⟩:=h.ro i hr' e2;rw[hh] at h5;obtain rfl:hr=hr':=by simpa using h5
  rw[hw] at h6;cases h6
 refine h.ag0 hE (m0:= .hp i n0) (m1:= .hp i n1) (o0:=(Hz hr.e hr.t hr.k xs'[n0 - 1]?).getD (.box .nil)) ⟨aeq _,aeq _⟩ hg hC hsub (fun m hm0 hm1=> ?_) ?_ ?_ (fun k _ hk=>hblk k (by rw[hu0] at hk;exact hk)) (fun _ h=>h)
  (fun r row hr'=>⟨rfl,row,hr',rfl⟩) (fun b hb=>⟨rfl,hb⟩) rfl rfl (fun j HA n e h2 h3=> ?_) (fun j HA e=> ?_) (fun hV hs=> ?_)
 ·cases m with
  |hp j n=>
   by_cases ej:j=i
   ·subst ej;have an7:n≠n0:=fun e=>hm0 (by rw[e]);have aqq:n≠n1:=fun e=>hm1 (by rw[e]);refine⟨?_,fun _=>aep j n (fun h4=>an7 h4.2)⟩;cases n with
    |zero=>rfl
    |succ n=>
     simp only[AS.obj];rw[VE,al9];have hiff:=SY n an7 aqq;cases hx:xs'[n]? with
     |none=>cases hy:hr.xs[n]? with
      |none=>rfl
      |some o=>cases o with
       |none=>rfl
       |some l=>have:=(hiff l).2 hy;rw[hx] at this;cases this
     |some o=>cases o with
      |none=>cases hy:hr.xs[n]? with
       |none=>rfl
       |some o=>cases o with
        |none=>rfl
        |some l=>have:=(hiff l).2 hy;rw[hx] at this;cases this
      |some l=>have:=(hiff l).1 hx;rw[this]
   ·refine⟨?_,fun _=>aep j n (fun h4=>ej h4.1)⟩;simp only[AS.obj];cases n with
    |zero=>rfl
    |succ n=>simp only[nL,ik,if_neg (Ne.symm ej)]
  |_=>exact⟨rfl,fun _=>rfl⟩
 ·rcases h1 with h1 |h1 |h1
  ·exact .inl (by rw[h1])
  ·subst h1;exact .inr rfl
  ·by_cases hz:n1=0
   ·subst hz;exact .inr rfl
   ·right;simp only[AS.obj];obtain⟨q,rfl⟩:∃q,n1=q+1:=⟨n1 - 1,by omega⟩
    rw[VE];simp only[Nat.add_sub_cancel] at h1;cases hx:xs'[q]? with
    |none=>rfl
    |some o=>cases o with
     |none=>rfl
     |some l=>exact absurd hx (h1 l)
 ·obtain⟨q,rfl⟩:∃q,n0=q+1:=⟨n0 - 1,by omega⟩
  simp only[AS.obj];rw[VE];simp only[Nat.add_sub_cancel];cases hx:xs'[q]? with
  |none=>exact .inl rfl
  |some o=>cases o with
   |none=>exact .inl rfl
   |some l=>exact .inr rfl
 ·have e':(σ.ae.set i ⟨hr.e,hr.t,hr.k,hr.w,xs'⟩)[j]? =some HA:=e;rw[ik] at e';by_cases ej:i=j
  ·subst ej;rw[if_pos rfl] at e';obtain rfl:=(Option.some.inj e').symm;by_cases en:n=n0
   ·subst en;rw[hu0];exact hv0
   ·rw[aep i n (fun h4=>en h4.2)];have h3':n≤xs'.length:=h3;exact h.nn i hr n hh h2 (by rcases hlen with h4 |h4<;>omega)
  ·rw[if_neg ej] at e';rw[aep j n (fun h4=>ej h4.1.symm)];exact h.nn j HA n e' h2 h3
 ·show (σ.ae.set i ⟨hr.e,hr.t,hr.k,hr.w,xs'⟩)[j]? =some HA;rw[ik];obtain⟨h2,h3⟩:=h.ro j HA e;by_cases ej:i=j
  ·subst ej;rw[hh] at h2;obtain rfl:hr=HA:=by simpa using h2
   rw[hw] at h3;cases h3
  ·rw[if_neg ej];exact h2
 ·rw[hu0];obtain⟨q,rfl⟩:∃q,n0=q+1:=⟨n0 - 1,by omega⟩
  have hs':=hs;simp only[AS.obj] at hs';rw[VE] at hs';simp only[Nat.add_sub_cancel] at hs' ⊢;cases hx:xs'[q]? with
  |none=>rw[hx] at hs';cases hs'
  |some o=>cases o with
   |none=>rw[hx] at hs';cases hs'
   |some l=>exact cr hV l (by simpa using hx)
end
def wT (V:View):(t:Ty)→t.den→Value→Prop
 | .st t,x,v=>∃cs:List Value,v= .agg cs.toArray∧Rel V t x cs
 |t,x,v=>bJ V ⟨t,x⟩ v
theorem wT.mono {V V':View}(h:∀a v,V a v→V' a v){t:Ty}{x:t.den}{v:Value}(hr:wT V t x v):wT V' t x v:=by
 cases t with
 |st t=>obtain⟨cs,h1,h2⟩:=hr;exact⟨cs,h1,Rel.mono h _ _ _ h2⟩
 |_=>exact bJ.mono h _ _ hr
theorem wT.cells {V:View}{t:Ty}{x:t.den}{v:Value}(hr:wT V t x v):Rel V t x v.cells.toList:=by
 cases t with
 |st t=>obtain⟨cs,h1,h2⟩:=hr;subst h1;exact h2
 |_=>rw[Gp hr];exact hr
section
variable {P:Program}{Tb:cG}{T:List fJ}{E:Env}{σ ag:AS}{a:Act}{w w':World}{ν aK:Nm→Value}{O:Nat→Prop}{Φ:bN Tb}{V:View}{Y:Value}
theorem Dq {t:Ty}{c:CV}{x:t.den}(h:(cQ t [c]).map (·.1)=some x):c=⟨t,x⟩:=by
 cases hu:cQ t [c] with
 |none=>simp[hu] at h
 |some p=>obtain⟨y,r⟩:=p;simp[hu] at h;subst h;have:=bV hu;simp at this;exact this.1
theorem VJ {V V':View}{i:Nat}{t:Ty}{v:Value}(h:bJ V ⟨.ref i,(0:Nat)⟩ v):Rel V' (.slice t) ([]:List t.den) [v]:=by have e: [v]=[.slice none 0 0]:=h;rw[e];exact⟨none,0,[],rfl,Nat.le_refl _,trivial,fun _=>rfl,fun j u hj=>by simp at hj⟩
theorem Ko:∀{t:Ty} {l:List CV} {x:t.den} {r:List CV} {vs:List Value},snap [] t l=some (x,r)→aC (bJ V) l vs→∃v1 v2,vs=v1++v2∧Rel V t x v1∧aC (bJ V) r v2
 | .unit,l,x,r,vs,h,hr=>by simp only[snap,Option.some.injEq,Prod.mk.injEq] at h;obtain⟨_,rfl⟩:=h;exact⟨[],vs,rfl,rfl,hr⟩
 | .pair a b,l,x,r,vs,h,hr=>by
   simp only[snap] at h;split at h
   ·rename_i y l' h1;split at h
    ·rename_i z l'' h2;simp only[Option.some.injEq,Prod.mk.injEq] at h;obtain⟨rfl,rfl⟩:=h;obtain⟨v1,v2,rfl,r1,r2⟩:=Ko h1 hr;obtain⟨v3,v4,rfl,r3,r4⟩:=Ko h2 r2;exact⟨v1++v3,v4,by rw[List.append_assoc],⟨v1,v3,rfl,r1,r3⟩,r4⟩
    ·cases h
   ·cases h
 | .st t,l,x,r,vs,h,hr=>Ko (t:=t) h hr
 | .slice t,l,x,r,vs,h,hr=>by
   have leaf:∀{l:List CV} {vs:List Value},cQ (.slice t) l=some (x,r)→aC (bJ V) l vs→∃v1 v2,vs=v1++v2∧Rel V (.slice t) x v1∧aC (bJ V) r v2:=fun {l vs} h hr=>by
    rw[bV h] at hr;cases vs with
    |nil=>exact hr.elim
    |cons v vs=>exact⟨[v],vs,rfl,hr.1,hr.2⟩
   simp only[snap] at h;unfold Gr at h;split at h
   ·rename_i i n l';cases vs with
    |nil=>exact hr.elim
    |cons v vs=>
     cases hb:Nat.beq n 0 with
     |false=>rw[hb] at h;simp at h
     |true=>rw[hb,cond_true] at h;simp only[Option.some.injEq,Prod.mk.injEq] at h;obtain⟨rfl,rfl⟩:=h;have:=(beq_iff _ _).1 hb;subst this;exact⟨[v],vs,rfl,VJ hr.1,hr.2⟩
   ·rename_i t' o l';cases vs with
    |nil=>exact hr.elim
    |cons v vs=>simp only[Option.map_eq_some_iff,Prod.mk.injEq] at h;obtain⟨⟨y,r'⟩,h1,h2,h3⟩:=h;simp only at h2 h3;subst h2 h3;have he:=bV h1;simp only[List.cons.injEq] at he;have h4:bJ V ⟨.slice t',lst o⟩ v:=SL hr.1;rw[he.1] at h4;exact⟨[v],vs,rfl,h4,hr.2⟩
   ·exact leaf h hr
 | .px t,l,x,r,vs,h,hr=>by
   have leaf:∀{l:List CV} {vs:List Value},cQ (.px t) l=some (x,r)→aC (bJ V) l vs→∃v1 v2,vs=v1++v2∧Rel V (.px t) x v1∧aC (bJ V) r v2:=fun {l vs} h hr=>by
    rw[bV h] at hr;cases vs with
    |nil=>exact hr.elim
    |cons v vs=>exact⟨[v],vs,rfl,hr.1,hr.2⟩
   simp only[snap] at h;unfold W7 at h;split at h
   ·rename_i t' xs l';cases vs with
    |nil=>exact hr.elim
    |cons v vs=>
     cases xs with
     |nil=>cases h
     |cons x0 xs=>
      simp only[Option.map_eq_some_iff,Prod.mk.injEq] at h;obtain⟨⟨y,r'⟩,h1,h2,h3⟩:=h;simp only at h2 h3;subst h2 h3;have he:=bV h1;simp only[List.cons.injEq] at he;obtain⟨A,c,br,e1,e2,e3,e4,e5⟩:=qz hr.1;have h4:bJ V ⟨.px t',(some (x0::xs):Option (List t'.den))⟩ v:=by
       cases A with
       |none=>have:=e4 rfl;simp at e2;omega
       |some ad=>
        refine⟨ad,c,br,by rw[e1],e2,e3,fun j u hj=> ?_⟩;obtain⟨Pw,h5,h6⟩:=e5 j u hj;obtain rfl:ad=Pw:=by simpa using h5
        exact h6
      rw[he.1] at h4;exact⟨[v],vs,rfl,h4,hr.2⟩
   ·exact leaf h hr
 | .int k,l,x,r,vs,h,hr=>by
   simp only[snap] at h;rw[bV h] at hr;cases vs with
   |nil=>exact hr.elim
   |cons v vs=>exact⟨[v],vs,rfl,hr.1,hr.2⟩
 | .bool,l,x,r,vs,h,hr=>by
   simp only[snap] at h;rw[bV h] at hr;cases vs with
   |nil=>exact hr.elim
   |cons v vs=>exact⟨[v],vs,rfl,hr.1,hr.2⟩
 | .str,l,x,r,vs,h,hr=>by
   simp only[snap] at h;rw[bV h] at hr;cases vs with
   |nil=>exact hr.elim
   |cons v vs=>exact⟨[v],vs,rfl,hr.1,hr.2⟩
 | .ref k,l,x,r,vs,h,hr=>by
   have leaf:∀{l:List CV} {vs:List Value},cQ (.ref k) l=some (x,r)→aC (bJ V) l vs→∃v1 v2,vs=v1++v2∧Rel V (.ref k) x v1∧aC (bJ V) r v2:=fun {l vs} h hr=>by
    rw[bV h] at hr;cases vs with
    |nil=>exact hr.elim
    |cons v vs=>exact⟨[v],vs,rfl,hr.1,hr.2⟩
   simp only[snap] at h;unfold W8 at h;split at h
   ·rename_i h' n l';cases hc:Nat.beq k h' with
    |true=>rw[hc,cond_true] at h;exact leaf h hr
    |false=>
    rw[hc,cond_false] at h;cases hb:Nat.beq n 0 with
    |false=>rw[hb] at h;cases h
    |true=>
     rw[hb] at h;have e1:some ((0:Nat),l')=some (x,r):=h;simp only[Option.some.injEq,Prod.mk.injEq] at e1;obtain⟨rfl,rfl⟩:=e1;obtain rfl:n=0:=Nat.eq_of_beq_eq_true hb;cases vs with
     |nil=>exact hr.elim
     |cons v vs=>exact⟨[v],vs,rfl,(show [v]=[Value.slice none 0 0] from hr.1),hr.2⟩
   ·exact leaf h hr
 | .ptr k,l,x,r,vs,h,hr=>by
   simp only[snap] at h;rw[bV h] at hr;cases vs with
   |nil=>exact hr.elim
   |cons v vs=>exact⟨[v],vs,rfl,hr.1,hr.2⟩
 | .mp k,l,x,r,vs,h,hr=>by
   simp only[snap] at h;rw[bV h] at hr;cases vs with
   |nil=>exact hr.elim
   |cons v vs=>exact⟨[v],vs,rfl,hr.1,hr.2⟩
 | .fn,l,x,r,vs,h,hr=>by
   simp only[snap] at h;rw[bV h] at hr;cases vs with
   |nil=>exact hr.elim
   |cons v vs=>exact⟨[v],vs,rfl,hr.1,hr.2⟩
theorem GA {t:Ty}{l:List CV}{x:t.den}{vs:List Value}(h:vh [] t l=some x)(hr:aC (bJ V) l vs):Rel V t x vs:=by
 unfold vh at h;split at h
 ·rename_i y h1;simp only[Option.some.injEq] at h;subst h;obtain⟨v1,v2,rfl,h2,h3⟩:=Ko h1 hr;cases v2 with
  |nil=>simpa using h2
  |cons _ _=>exact h3.elim
 ·cases h
theorem GB {t:Ty}{av:AV}{x:t.den}{v:Value}(h:typed [] t av=some x)(hr:aj V σ ν Y av v):wT V t x v:=by
 have alh:∀{t:Ty} {x:t.den},(∀u,t≠ .st u)→Rel V t x [v]→wT V t x v:=fun {t x} hn h1=>by
  cases t with
  |st u=>exact absurd rfl (hn u)
  |_=>exact h1
 unfold typed at h;split at h
 ·rename_i cs;obtain⟨vs,h1,h2⟩:=hr;have:=GA h h2;exact⟨vs,h1,this⟩
 ·rename_i t vs;split at h
  ·rename_i cs hl;obtain⟨l1,h1,h2⟩:=iH (V:=V) hl;refine⟨vs.toList, ?_,iD ?_⟩
   ·have:v= .agg vs:=hr;simpa using this
   ·rw[←qv h,h1,List.append_nil];exact h2
  ·cases h
 ·cases h
 ·rename_i c hn;exact alh (fun u e=>by subst e;exact hn u rfl) (GA h (vs:=[v]) ⟨hr,trivial⟩)
 ·rename_i v' hn1 hn2;split at h
  ·rename_i c hl;obtain⟨l1,h1,h2⟩:=iH (V:=V) hl;have h3:v=v':=hr;rw[List.append_nil] at h1;subst h1;subst h3;have:=Dq h;subst this;exact alh (fun u e=>by subst e;exact hn2 u rfl) h2.1
  ·cases h
 ·cases h
theorem Py {t:Ty}{av:AV}{cs:List CV}{v:Value}(h:cells t av=some cs)(hr:aj V σ ν Y av v):aC (bJ V) cs v.cells.toList:=by
 unfold cells at h;split at h
 ·simp only[Option.some.injEq] at h;subst h;rw[Gp hr];exact⟨hr,trivial⟩
 ·simp only[Option.some.injEq] at h;subst h;obtain⟨vs,h1,h2⟩:=hr;subst h1;exact h2
 ·split at h
  ·rename_i v' cs' hl;simp only[Option.some.injEq] at h;subst h;obtain⟨l1,h1,h2⟩:=iH (V:=V) hl;have h3:v=_:=hr;rw[h3,h1,List.append_nil];exact h2
  ·cases h
 ·cases h
theorem Dr (r k:Nat):look (σ.freeze r).rows k=if r=k then none else look σ.rows k:=by
 unfold AS.freeze;cases hr:look σ.rows r with
 |none=>by_cases h:r=k
        ·subst h;simp[hr]
        ·simp[h]
 |some row=>exact By _ _ _
def FW (r:Option Nat):Fence:={Fence.wide with round:=r}
def lj (P:Program)(o:Oper)(a:Act)(w:World)(K:Act→World→Prop):Prop:=
 ∀(r:Option Nat) (next:Act→World→Prop) (Q:Exit→Act→World→Prop),(∀a' w',K a' w'→next a' w')→o.wpIn (FW r) 0 P a w next Q
theorem ck {o:Oper}{K:Act→World→Prop}{v:Value}(hd:∀c,o.op≠ .defer c)(h:(execOp a.eval o).run P w= .ok (.value v) w')(hK:K (a.put o.dst v) w'):lj P o a w K:=fun r next Q hn=>by refine⟨fun _ _=>trivial, ?_⟩;rw[Oper.semAt_eq _ _ _ hd,h];exact hn _ _ hK
theorem VK {o:Oper}{K:Act→World→Prop}(hd:∀c,o.op≠ .defer c)(h:(execOp a.eval o).run P w= .ok .skip w')(hK:K (a.put o.dst undef) w'):lj P o a w K:=fun r next Q hn=>by refine⟨fun _ _=>trivial, ?_⟩;rw[Oper.semAt_eq _ _ _ hd,h];exact hn _ _ hK
def To (E:Env)(ag:AS)(a':Act)(w':World):Prop:=∃aK O',St E ag a' w' aK O'
def aW (σ:AS)(d:Option Tmp)(r:cn):AS:=match r.2 with
 | .mI us=>(σ.app us).iS d r.1
 | .set ag=>ag.iS d r.1
theorem VL {o:Oper}(hE:aE E)(hd:∀c,o.op≠ .defer c)(h:St E σ a w ν O){r:cn}(hr:r.2= .mI []){v:Value}(h1:(execOp a.eval o).run P w= .ok (.value v) w')(hb:Below w.heap.size w w')
  (h2:aj (view E σ ν O w') σ ν E.Y r.1 v):lj P o a w (To E (aW σ o.dst r)):=by
 refine ck hd h1 ⟨ν,O, ?_⟩;unfold aW;rw[hr];exact(h.grow hE hb).slot h2
theorem cm {o:Oper}(hE:aE E)(hd:∀c,o.op≠ .defer c)(h:St E σ a w ν O){r:cn}(hr:r.2= .mI []){v:Value}(h1:(execOp a.eval o).run P w= .ok (.value v) w)
  (h2:aj (view E σ ν O w) σ ν E.Y r.1 v):lj P o a w (To E (aW σ o.dst r)):=VL hE hd h hr h1 (Below.refl _ _) h2
theorem SZ {V:View}{r:fJ}(hr:YY P T r):∃i z,P.info? r.id=some i∧i.size=r.ty.size∧i.bytes=r.bytes∧i.zero=some z∧Rel V r.ty r.ty.zero z.cells.toList:=by obtain⟨i,z,h1,h2,h3,h4,h5,_⟩:=hr.info;exact⟨i,z,h1,h2,h3,h4,h5 V⟩
theorem vo {P:Program}{T:List fJ}{t:TypeId}{u:Ty}{e:TypeId}{bytes:Nat}(hT:iG P T)(h:gC T t=some (u,e,bytes)):
  ∃re,P.underlying t=some (.slice e)∧YY P T re∧re.id=e∧re.ty=u∧re.bytes=bytes∧0<bytes:=by
 unfold gC at h;split at h
 ·rename_i r hr;obtain⟨rfl,hr'⟩:=hT t r hr;split at h
  ·rename_i u' qj;split at h
   ·rename_i re RC;cases hb:Nat.blt 0 re.bytes with
    |false=>simp[hb] at h
    |true=>
     simp only[hb,cond_true,Option.some.injEq,Prod.mk.injEq] at h;obtain⟨rfl,rfl,rfl⟩:=h;obtain⟨h1,re',h2,h3,h4⟩:=R3 hT hr' qj;have hd:=hr'.desc;rw[qj] at hd;obtain⟨_,re2,h5,h6⟩:=hd;rw[RC] at h5;obtain rfl:re=re2:=by simpa using h5
     obtain⟨h7,h8⟩:=hT _ re RC;exact⟨re,h1,h8,h7,h6,rfl,Nat.le_of_ble_eq_true hb⟩
   ·cases h
  ·cases h
 ·cases h
theorem Mq (s:Option Site)(u:Ty):(LA s u).size=u.size:=by unfold LA;split<;>rfl
theorem Y7 {r:fJ}(hr:YY P T r)(s:Option Site):∃i z,P.info? r.id=some i∧i.size=r.ty.size∧i.bytes=r.bytes∧i.zero=some z∧∀V,Rel V (LA s r.ty) (LA s r.ty).zero z.cells.toList:=by
 obtain⟨i,z,h1,h2,h3,h4,h5,_,h6⟩:=hr.info;refine⟨i,z,h1,h2,h3,h4,fun V=> ?_⟩;cases qj:r.ty with
 |slice v=>
  have hz:=h6 v qj;have h7:=h5 V;rw[qj] at h7;cases s with
  |none=>exact h7
  |some s=>cases s with
   |px=>subst hz;show (Value.slice none 0 0).cells.toList=_;rfl
   |_=>exact h7
 |_=>
  have h7:=h5 V;rw[qj] at h7;cases s with
  |none=>exact h7
  |some s=>cases s<;>exact h7
end
section
variable {P:Program}{T:cG}{E:Env}{σ ag:AS}{a:Act}{w w':World}{ν aK:Nm→Value}{O:Nat→Prop}{Φ:bN T}{V:View}{Y:Value}
theorem mZ (hE:aE E)(hG:Mo E)(hT:iG P T.rows)(hQ:agQ P T)(h:St E σ a w ν O){o:Oper}{r:cn}
  (hop:(∃x,o.op= .move x)∨(∃c x y,o.op= .pick c x y)∨(∃x,o.op= .nilCheck x)∨(∃t x,o.op= .load t x)∨(∃b t x y u,o.op= .binOp b t x y u)∨(∃b t x,o.op= .unOp b t x)∨(∃s d x,o.op= .convert s d x)∨
   (∃s x f,o.op= .fieldAddr s x f)∨(∃t x i,o.op= .indexAddr t x i)∨(∃t x i,o.op= .index t x i)∨(∃x i,o.op= .extract x i))
  (he:(Dk T σ.av σ.sites o).val Φ σ=some r):lj P o a w (To E (aW σ o.dst r)):=by
 have qk:=h.av hG;unfold Dk at he;rcases hop with ⟨x,ho⟩ | ⟨c,x,y,ho⟩ | ⟨x,ho⟩ | ⟨t,x,ho⟩ | ⟨b,t,x,y,u,ho⟩ | ⟨b,t,x,ho⟩ | ⟨s,d,x,ho⟩ | ⟨s,x,f,ho⟩ | ⟨t,x,i,ho⟩ | ⟨t,x,i,ho⟩ | ⟨x,i,ho⟩<;>simp only[ho] at he
 ·obtain⟨h1,h2⟩:=Pv (qk x) he;exact cm hE (by rw[ho];intro c e;cases e) h h1 (v:=a.eval x) (by simp[execOp,ho]) h2
 ·split at he
  ·rename_i t hc;have R4:=qk c;rw[hc] at R4;have ec:=NO R4 rfl;rw[NM,gB,gB] at he;rcases he with ⟨rfl,rfl⟩ | ⟨rfl,rfl⟩
   ·exact cm hE (by rw[ho];intro c e;cases e) h rfl (v:=a.eval x) (by simp[execOp,ho,ec,asBool]) (qk x)
   ·exact cm hE (by rw[ho];intro c e;cases e) h rfl (v:=a.eval y) (by simp[execOp,ho,ec,asBool]) (qk y)
  ·cases he
 ·obtain⟨h1,⟨ad,h2⟩,h3⟩:=Xk h (qk x) he;exact cm hE (by rw[ho];intro c e;cases e) h h1 (v:=a.eval x) (by simp[execOp,ho,h2]) h3
 ·obtain⟨h1,v,h2,h3⟩:=agO (P:=P) hE hT h (qk x) he;exact cm hE (by rw[ho];intro c e;cases e) h h1 (v:=v) (by simp[execOp,ho,h2]) h3
 ·have done:∀v,(do eqGuard b t x y (a.eval x) (a.eval y);binOp b t (a.eval x) (a.eval y):Sem Value).run P w= .ok v w→(execOp a.eval o).run P w= .ok (.value v) w:=fun v hv=>by simp only[execOp,ho,Sem.run_bind,Sem.run_pure] at hv ⊢;rw[hv];rfl
  have fin:(r.2= .mI []∧∃z,(do eqGuard b t x y (a.eval x) (a.eval y);binOp b t (a.eval x) (a.eval y):Sem Value).run P w= .ok z w∧aj (view E σ ν O w) σ ν E.Y r.1 z)→lj P o a w (To E (aW σ o.dst r)):=
   fun⟨h1,z,h2,h3⟩=>cm hE (by rw[ho];intro c e;cases e) h h1 (done z h2) h3
  split at he
  ·rename_i tr hr;obtain⟨rfl,htr⟩:=hT t tr hr;have hd:=htr.desc;split at he
   ·rename_i qj;rw[qj] at hd;exact fin (agR x y hd (qk x) (qk y) he)
   ·exact fin (Y2 x y (qk x) (qk y) he)
   ·exact fin (Y2 x y (qk x) (qk y) he)
   ·rename_i ut qj;rw[aB] at he;obtain⟨hq,he⟩:=he;unfold agB at he;split at he
    ·rename_i p q hp hq';rw[aB] at he;obtain⟨_,he⟩:=he;obtain⟨vs,ev,rv⟩:=GB (t:= .st ut) hp (qk x);obtain⟨us,eu,ru⟩:=GB (t:= .st ut) hq' (qk y);have hg:=fun op=>(hQ tr.id hq tr ut hr qj (view E σ ν O w) p q vs us w op x y rv ru).1;have hb:=(hQ tr.id hq tr ut hr qj (view E σ ν O w) p q vs us w .eql x y rv ru).2;refine fin ?_;rw[ev,eu];exact SN x y hg hb (by rfl) (by rfl) he
    ·cases he
   ·exact fin (agS hT htr x y (qk x) (qk y) he)
  ·cases he
 ·obtain⟨h1,v,h2,h3⟩:=al4 (P:=P) (w:=w) (qk x) he;exact cm hE (by rw[ho];intro c e;cases e) h h1 (v:=v) (by simp[execOp,ho,h2]) h3
 ·obtain⟨h1,v,w',h2,hb,h3⟩:=aem (P:=P) hE hT h (qk x) he;exact VL hE (by rw[ho];intro c e;cases e) h h1 (v:=v) (by simp[execOp,ho,h2]) hb h3
 ·obtain⟨h1,v,h2,h3⟩:=abo (P:=P) hT h (qk x) he;exact cm hE (by rw[ho];intro c e;cases e) h h1 (v:=v) (by simp[execOp,ho,h2]) h3
 ·obtain⟨h1,v,h2,h3⟩:=abp (P:=P) hT h (qk x) (qk i) he;exact cm hE (by rw[ho];intro c e;cases e) h h1 (v:=v) (by simp[execOp,ho,h2]) h3
 ·obtain⟨h1,v,h2,h3⟩:=aen (P:=P) (w:=w) hT (qk x) (qk i) he;exact cm hE (by rw[ho];intro c e;cases e) h h1 (v:=v) (by simp[execOp,ho,h2]) h3
 ·split at he
  ·rename_i l hx;have ex:=qk x;rw[hx] at ex;obtain⟨vs,ex,hvs⟩:=ex;rw[nQ] at he;obtain⟨y,hy,he⟩:=he;rw[gB] at he;subst he;obtain⟨u,hu,hr⟩:=hvs.get i y hy;exact cm hE (by rw[ho];intro c e;cases e) h rfl (v:=u) (by simp[execOp,ho,ex,Instr.extract,hu]) hr
  ·cases he
theorem ama (hE:aE E)(hG:Mo E)(hT:iG P T.rows)(h:St E σ a w ν O){o:Oper}{r:cn}{args:Array Operand}{ats:Array TypeId}(ho:o.op= .call {callee:= .builtin .len,args:=args,argTypes:=ats})
  (he:(Dk T σ.av σ.sites o).val Φ σ=some r):lj P o a w (To E (aW σ o.dst r)):=by
 unfold Dk at he;simp only[ho] at he;split at he
 ·rename_i x t hx ht;have hx':args= #[x]:=by cases args;simp at hx;subst hx;rfl
  have ht':ats= #[t]:=by cases ats;simp at ht;subst ht;rfl
  subst hx' ht';split at he
  ·rename_i tr hr;obtain⟨rfl,htr⟩:=hT t tr hr;obtain⟨h1,v,h2,h3⟩:=agT (P:=P) hT htr h (h.av hG x) o.type he;exact cm hE (by rw[ho];intro c e;cases e) h h1 (v:=v) (by simp[execOp,ho,resolve,invoke,builtin,h2]) h3
  ·cases he
 ·cases he
theorem VM (hE:aE E)(hG:Mo E)(h:St E σ a w ν O){o:Oper}{r:cn}{b:Builtin}{args:Array Operand}{ats:Array TypeId}(hb:b= .max∨b= .min)(ho:o.op= .call {callee:= .builtin b,args:=args,argTypes:=ats})
  (he:(Dk T σ.av σ.sites o).val Φ σ=some r):lj P o a w (To E (aW σ o.dst r)):=by
 unfold Dk at he;have qk:=h.av hG;rcases hb with rfl |rfl<;>simp only[ho] at he
 all_goals
  split at he
  ·rename_i x y hx;have hx':args= #[x,y]:=by cases args;simp at hx;subst hx;rfl
   subst hx';split at he
   ·rename_i i n j m e1 e2;have hx:=qk x;rw[e1] at hx;have hy:=qk y;rw[e2] at hy;have ex:=xG hx rfl;have ey:=xG hy rfl;rw[cL] at he;subst he;refine cm hE (by rw[ho];intro c e;cases e) h rfl (v:= .int i _) ?_ xH;simp[execOp,ho,resolve,invoke,builtin,Builtin.max_,Builtin.max2,Builtin.min_,Builtin.min2,ex,ey]
   ·cases he
  ·cases he
end
section
variable {P:Program}{T:cG}{E:Env}{σ ag:AS}{a:Act}{w w':World}{ν aK:Nm→Value}{O:Nat→Prop}{Φ:bN T}{V:View}{Y:Value}
theorem GC {w:World}{B:Nat}{e:TypeId}{n:Nat}:w.ownsRow B e n (.slice none 0 0) 0 []:=World.ownsRow_nil w B e n
theorem NU (r b:Nat):(look (σ.freeze r).boxes b).isSome=(look σ.boxes b).isSome:=by
 unfold AS.freeze;cases look σ.rows r with
 |none=>rfl
 |some row=>show (look (IG _ _) b).isSome=_;rw[gV,Option.isSome_map]
theorem St.renamed (hE:aE E)(h:St E σ a w ν O){r d:Nat}(hr:(look σ.rows r).isSome=true)(hne:r≠d):
  ∃aK,St E ((σ.freeze d).rename r d) a w aK O∧(∀m,(∀k,m≠ .row k)→aK m=ν m)∧aK (.row d)=ν (.row r)∧(look ((σ.freeze d).rename r d).rows d).isSome=true:=by
 have h1:=h.freeze hE d;obtain⟨aK,h2,h3,h4⟩:=h1.rename hE (r:=r) (d:=d) (by rw[Dr,if_pos rfl]);obtain⟨h5,h6⟩:=h4 (by rw[Dr,if_neg (Ne.symm hne)];exact hr);exact⟨aK,h2,h3,h5,h6⟩
theorem St.ag3 (hE:aE E)(h:St E σ a w ν O)(d:Nat)(u:Ty)(e:TypeId):
  St E {(σ.freeze d) with rows:=put (σ.freeze d).rows d ⟨e,u,[]⟩} a w (tA ν d (.slice none 0 0)) O:=
 (h.freeze hE d).newRow hE (by rw[Dr,if_pos rfl]) (Below.refl _ _) (fun k hk=>by cases hk) (fun _=>⟨[],GC,trivial⟩)
theorem aer (hE:aE E)(hG:Mo E)(hT:iG P T.rows)(h:St E σ a w ν O){o:Oper}{r:cn}{x:Operand}(ho:o.op= .assign x)
  (he:(Dk T σ.av σ.sites o).val Φ σ=some r):lj P o a w (To E (aW σ o.dst r)):=by
 have hrun:(execOp a.eval o).run P w= .ok (.value (a.eval x)) w:=by simp[execOp,ho]
 have hd:∀c,o.op≠ .defer c:=by rw[ho];intro c e;cases e
 have hx:=h.av hG x;unfold Dk at he;simp only[ho] at he;split at he
 ·rename_i q d hq Pz;rw[hq] at hx;rw[mL,gD] at he;subst he;refine ck hd hrun ?_;simp only[aW,Pz];cases hb:Nat.beq q d with
  |true=>have:=(beq_iff _ _).1 hb;subst this;exact⟨ν,O,h.slot hx⟩
  |false=>obtain⟨aK,h2,_,h3,h4⟩:=h.renamed hE hx.2 (rW.1 hb);exact⟨aK,O,h2.slot ⟨by rw[h3];exact hx.1,h4⟩⟩
 ·rename_i d hl Pz;rw[hl] at hx;split at he
  ·rename_i h0 hh0;rw[gB] at he;subst he;refine cm hE hd h rfl hrun ?_;have hx':a.eval x= .slice none 0 0:=hx;rw[hx'];exact(rfl: [Value.slice none 0 0]=[.slice none 0 0])
  split at he
  ·rename_i u e b hel;rw[mL,gD] at he;subst he;refine ck hd hrun ?_;simp only[aW,Pz];refine⟨_,O,(h.ag3 hE d u e).slot ⟨?_, ?_⟩⟩
   ·rw[mY];exact hx
   ·show (look (put _ _ _) _).isSome=true;rw[aD,if_pos rfl];rfl
  ·obtain⟨h1,h2⟩:=Pv hx he;exact cm hE hd h h1 hrun h2
 ·obtain⟨h1,h2⟩:=Pv (SM hx) he;exact cm hE hd h h1 hrun h2
theorem BG {n:Nat}:∀{br:List (List Value)} (i:Nat) (ys vs:List Value) (off:Nat),(∀l∈br,l.length=n)→br[i]? =some ys→off+vs.length≤n→
  (br.set i (ys.take off++vs++ys.drop (off+vs.length))).flatten=br.flatten.take (i*n+off)++vs++br.flatten.drop (i*n+off+vs.length)
 | [],i,ys,vs,off,_,h,_=>by simp at h
 |l::br,0,ys,vs,off,hl,h,hle=>by
  simp at h;subst h;have h1:=hl l (by simp);have e1:off - l.length=0:=by omega
  have e2:off+vs.length - l.length=0:=by omega
  simp[List.take_append,List.drop_append,e1,e2]
 |l::br,i+1,ys,vs,off,hl,h,hle=>by
  have h1:=hl l (by simp);have ih:=BG (br:=br) i ys vs off (fun l hl'=>hl l (by simp[hl'])) (by simpa using h) hle;have e1:(i+1)*n+off - l.length=i*n+off:=by rw[Nat.succ_mul];omega
  have e2:(i+1)*n+off+vs.length - l.length=i*n+off+vs.length:=by rw[Nat.succ_mul];omega
  have e3:List.take ((i+1)*n+off) l=l:=List.take_of_length_le (by rw[Nat.succ_mul];omega);have e4:List.drop ((i+1)*n+off+vs.length) l=[]:=List.drop_eq_nil_of_le (by rw[Nat.succ_mul];omega);simp only[List.append_assoc] at ih;simp[List.take_append,List.drop_append,e1,e2,e3,e4,ih]
theorem GD {V:View}{t:Ty}:∀{xs:List t.den} {br:List (List Value)},aC (Rel V t) xs br→∀l∈br,l.length=t.size
 | [],[],_,l,h=>by simp at h
 |x::xs,y::br,h,l,hl=>by
  rcases List.mem_cons.1 hl with rfl |hl
  ·exact Rel.length h.1
  ·exact GD h.2 l hl
 | [],_::_,h,_,_=>h.elim
 |_::_,[],h,_,_=>h.elim
theorem VN {t:Ty}{y y':t.den}{off:Nat}{vs:List CV}{ys us:List Value}(h:acW t y off vs=some y')(hy:Rel V t y ys)(hv:aC (bJ V) vs us):
  Rel V t y' (ys.take off++us++ys.drop (off+us.length)):=by
 have hl:=hv.length;refine GA h ?_;rw[Gs,hl];exact(((iC hy).take off).append hv).append ((iC hy).drop _)
theorem aes {vs:List CV}{us:List Value}(h:aC (bJ V) vs us):∀u∈us,u.oneCell'=true:=fun u hu=>by obtain⟨j,hj⟩:=List.getElem?_of_mem hu;obtain⟨c,_,hc⟩:=h.get' j u hj;exact Ss hc
theorem E8 (hT:iG P T.rows){tr:fJ}(hr:YY P T.rows tr){u v:Value}{vs:List CV}(hv:aC (bJ V) vs v.cells.toList)(hl:vs.length=tr.ty.size){g off:Nat}{cur:Array Value}{e:TypeId}
  (hu:u= .pointer (some ⟨g,off,none⟩)) (hg:w.heap[g]? =some (.cells cur e (0,0))) (hle:off+vs.length≤cur.size):
  (Instr.storeAt tr.id u v).run P w= .ok () (w.setRow g (cur.toList.take off++v.cells.toList++cur.toList.drop (off+vs.length)).toArray):=by
 have hlen:v.cells.toList.length=vs.length:=hv.length.symm;have Y8:v.cells.size=vs.length:=by simpa using hlen
 have hst:=run_storeCells_at P g off e v.cells.toList 0 cur w hg (by rw[hlen];simpa using hle) (aes hv);rw[hlen] at hst;simp only[Nat.add_zero] at hst;simp[Instr.storeAt,hu,Instr.sureAddr,storeVar,BD hr,Y8,hl,hst]
theorem ac6 {t:Ty}{xs:List t.den}{i:Nat}{z z':t.den}{n cap:Nat}{e:TypeId}{off:Nat}{vs:List CV}{us:List Value}{g:Nat}{cur:Array Value}{V':View}{br:List (List Value)}
  (hV:∀a v,V a v→V' a v) (hl:br.flatten.length=xs.length*t.size) (hcap:xs.length≤cap) (aqr:cap≤maxLen) (hcs:cur.size=cap*t.size) (HC:cur.toList.take (xs.length*t.size)=br.flatten) (hg:w.heap[g]? =some (.cells cur e (0,0)))
  (hall:aC (Rel V t) xs br) (hz:xs[i]? =some z) (hf:acW t z off vs=some z') (hv:aC (bJ V) vs us) (hle:off+vs.length≤t.size):
  off+i*t.size+vs.length≤cur.size∧∃S0,(w.setRow g (cur.toList.take (i*t.size+off)++us++cur.toList.drop (i*t.size+off+vs.length)).toArray).ownsRow 0 e t.size (.slice (some ⟨g,0,none⟩) (xs.set i z').length cap) (xs.set i z').length S0.flatten∧aC (Rel V' t) (xs.set i z') S0:=by
 have hlen:=hv.length;obtain⟨ys,hy1,hy2,hy3⟩:=BC hall i z hz;have hilt:i<xs.length:=(List.getElem?_eq_some_iff.1 hz).1;have hmul:i*t.size+t.size≤xs.length*t.size:=by rw[←Nat.succ_mul];exact Nat.mul_le_mul_right _ hilt
 have ar8:xs.length*t.size≤cur.size:=by rw[hcs];exact Nat.mul_le_mul_right _ hcap
 have E6:=setRow_heap w g cur (cur.toList.take (i*t.size+off)++us++cur.toList.drop (i*t.size+off+vs.length)).toArray e (0,0) hg;have hsp:=BG (br:=br) i ys us off (GD hall) hy1 (by rw[←hlen];exact hle);have an8:=VN hf hy2 hv;refine⟨by omega,br.set i (ys.take off++us++ys.drop (off+us.length)),⟨?_, .inr ⟨g,cap,_,by simp,Nat.zero_le _,E6,by simpa using hcap,aqr, ?_, ?_⟩⟩,(hall.mono (Rel.mono hV _)).set (Rel.mono hV _ _ _ an8)⟩
 ·rw[hsp];simp[hl, ←hlen];omega
 ·simp[←hlen];omega
 ·rw[hsp, ←HC];simp only[List.length_set];have e5:i*t.size+off≤xs.length*t.size:=by omega
  rw[List.take_append,List.take_append,List.take_take,List.take_take];rw[Nat.min_eq_right e5,Nat.min_eq_left e5];rw[List.drop_take]
  congr 1
  ·congr 1
   rw[List.take_of_length_le];simp[←hlen];omega
  ·rw[←hlen]
   congr 1
   simp[←hlen];omega
end
section
variable {P:Program}{T:cG}{E:Env}{σ ag:AS}{a:Act}{w w':World}{ν aK:Nm→Value}{O:Nat→Prop}{Φ:bN T}{V:View}{Y:Value}
theorem rj {C:Nat→Prop}{w:World}{g:Nat}{cs:Array Value}(hg:C g):Grow C w (w.setRow g cs):=
 ⟨rfl,rfl,rfl,by simp,fun k _ hk=>setRow_other w g k _ (fun e=>hk (e ▸ hg))⟩
theorem ag4 {α:Type}{xs:List (Option (List α))}{n:Nat}{l l':List α}(hn:1≤n)(hle:n≤xs.length)(h:(ik xs n l)[n - 1]? =some (some l')):l'=l:=by
 cases n with
 |zero=>omega
 |succ m=>simp only[ik,Nat.add_sub_cancel] at h;rw[List.getElem?_set_self (by omega)] at h;simpa using h.symm
theorem abu {α:Type}{xs:List (Option (List α))}{n m:Nat}{l:List α}(h:m+1≠n):(ik xs n l)[m]? =xs[m]? :=by
 cases n with
 |zero=>rfl
 |succ k=>simp only[ik];rw[List.getElem?_set_ne (by omega)]
theorem Y9 {α:Type}{xs:List (Option (List α))}{n:Nat}{l:List α}:(ik xs n l).length=xs.length:=by
 cases n with
 |zero=>rfl
 |succ k=>simp[ik]
theorem St.ag5 (hE:aE E)(h:St E σ a w ν O){i n g:Nat}{hr:aV}{l l':List hr.t.den}(hh:σ.ae[i]? =some hr)(hw:hr.w=true)(hn:1≤n)(hl:ai hr.xs n=some l)(hg:cR (ν (.hp i n))=some g)(hgr:Grow (fun k=>k=g) w w')
  (cr:∀V',(∀key v,view E σ ν O w key v→V' key v)→Au V' w' hr.k (ν (.hp i n)) ⟨hr.e,hr.t,l'⟩):
  St E {σ with ae:=σ.ae.set i ⟨hr.e,hr.t,hr.k,hr.w,ik hr.xs n l'⟩} a w' (NT ν i n (ν (.hp i n))) O:=by
 have hle:=Km hl;have hob:(σ.obj (.hp i n)).isSome=true:=bf (abl hh hn hl);refine h.alg hE (n0:=n) (n1:=n) (C:=fun k=>cR (ν (.hp i n))=some k) hh hw hn (.inr ⟨Y9,rfl⟩) (fun m h1 _ l=>by rw[abu h1]) (.inl rfl) (fun k hk=>⟨hob,hk⟩) (hgr.mono (fun k _ e=>by rw[e];exact hg)) (fun k hk=> .inl ⟨hob,hk⟩) (h.nn i hr n hh hn hle) (fun hV l2 h2=> ?_);have:=ag4 hn hle h2;subst this;exact cr _ hV
theorem ac7 (hE:aE E)(hT:iG P T.rows)(h:St E σ a w ν O){tr:fJ}(htr:YY P T.rows tr){i n j off g:Nat}{hr:aV}{u v:Value}{vs:List CV}(hh:σ.ae[i]? =some hr)(hn:1≤n)(hg:cR (ν (.hp i n))=some g)
  (hu:u= .pointer (some ⟨g,j*hr.t.size+off,none⟩)) (hv:aC (bJ (view E σ ν O w)) vs v.cells.toList) (hl:vs.length=tr.ty.size) {r:cn} (he:(Pn (T:=T) i n j off vs).val Φ σ=some r):
  ∃us w',r=(.nil, .mI us)∧(Instr.storeAt tr.id u v).run P w= .ok () w'∧∃aK,St E (σ.app us) a w' aK O:=by
 unfold Pn at he;rw[ft] at he;obtain⟨hr',e1,he⟩:=he;rw[hh] at e1;obtain rfl:hr=hr':=by simpa using e1
 rw[b6] at he;obtain⟨l,hl1,he⟩:=he;rw[b6] at he;obtain⟨y,hy,he⟩:=he;rw[b6] at he;obtain⟨y',hf,he⟩:=he;rw[aB,gD] at he;obtain⟨hb,he⟩:=he;simp only[Bool.and_eq_true] at hb;obtain⟨hw,hle⟩:=hb;have hle:=Nat.le_of_ble_eq_true hle;subst he;have cr:=h.hp hh hn hl1;obtain⟨k,hk⟩:∃k,hr.k=k:=⟨_,rfl⟩
 rw[hk] at cr
 match k,hk,cr with
 |0,hk,⟨hs,br,⟨e1,e2⟩,hall⟩=>
  dsimp only at e1 e2 hall;rcases e2 with ⟨e2,e3⟩ | ⟨g',cap,cur,e2,_,hgg,hn1,hm,hcs,HC⟩
  ·have:l=[]:=List.eq_nil_of_length_eq_zero e3;rw[this] at hy;simp at hy
  ·have:g'=g:=by rw[e2] at hg;simpa [cR] using hg
   subst this;have hln:v.cells.toList.length=vs.length:=hv.length.symm;obtain⟨q1,S0,q2,q3⟩:=ac6 (n:=0) (V':=view E σ ν O w) (fun _ _ h=>h) e1 hn1 hm hcs HC hgg hall hy hf hv hle;have hrun:=E8 hT htr hv hl hu hgg (by omega);refine⟨_,_,rfl,hrun,_,h.ag5 (l':=l.set j y') hE hh hw hn hl1 hg (rj rfl) (fun V' hV=> ?_)⟩;rw[hk];refine⟨hs,S0, ?_,q3.mono (Rel.mono hV _)⟩;rw[e2];simpa using q2
 |1,hk,⟨g',cur,ys,x,e1,e2,e3,e4,e5⟩=>
  dsimp only at e2 x e4 e5;have:g'=g:=by rw[e1] at hg;simpa [cR] using hg
  subst this;subst e4;cases j with
  |succ j=>simp at hy
  |zero=>
   obtain rfl:x=y:=by simpa using hy
   have S1:cur.size=hr.t.size:=by have:=Rel.length e5;rw[←e3] at this;simpa using this
   have hrun:=E8 (w:=w) hT htr hv hl hu e2 (by rw[Nat.zero_mul];omega);have R6:=VN hf e5 hv;have E6:=setRow_heap w g' cur (cur.toList.take (0*hr.t.size+off)++v.cells.toList++cur.toList.drop (0*hr.t.size+off+vs.length)).toArray hr.e (0,0) e2;refine⟨_,_,rfl,hrun,_,h.ag5 (l':=[x].set 0 y') hE hh hw hn hl1 hg (rj rfl) (fun V' hV=> ?_)⟩;rw[hk];refine⟨g',_,_,y',e1,E6,rfl,rfl, ?_⟩;have hlen:vs.length=v.cells.toList.length:=hv.length;rw[e3];simp only[Nat.zero_mul,Nat.zero_add];rw[hlen];exact Rel.mono hV _ _ _ R6
theorem ac8 (hE:aE E)(hT:iG P T.rows)(h:St E σ a w ν O){tr:fJ}(htr:YY P T.rows tr){x:AV}{u v:Value}{vs:List CV}(hx:aj (view E σ ν O w) σ ν E.Y x u)(hv:aC (bJ (view E σ ν O w)) vs v.cells.toList)(hl:vs.length=tr.ty.size){r:cn}
  (he:(IJ (T:=T) x vs).val Φ σ=some r):
  ∃us w',r=(.nil, .mI us)∧(Instr.storeAt tr.id u v).run P w= .ok () w'∧∃aK,St E (σ.app us) a w' aK O:=by
 have hlen:vs.length=v.cells.toList.length:=hv.length;unfold IJ at he;split at he
 ·rename_i b off;obtain⟨hbs,g,RD,hu⟩:=hx;rw[Dm] at he;obtain⟨bx,hb,he⟩:=he;obtain⟨g',hg',hbr⟩:=h.box hb;obtain rfl:g=g':=by rw[RD] at hg';simpa using hg'
  have one:∀(cur:Array Value) (e:TypeId),w.heap[g]? =some (.cells cur e (0,0))→cur.size=1→(Q.fi (T:=T) (Nat.beq off 0&&Nat.beq vs.length 1) (.ret ((.nil, .mI [.box b (.cells vs)]):cn))).val Φ σ=some r→
    ∃us w',r=(.nil, .mI us)∧(Instr.storeAt tr.id u v).run P w= .ok () w'∧∃aK,St E (σ.app us) a w' aK O:=fun cur e hg h1 he=>by
   rw[aB,gD] at he;obtain⟨hc,rfl⟩:=he;simp only[Bool.and_eq_true,beq_iff] at hc;obtain⟨rfl,hc⟩:=hc;have hrun:=E8 hT htr hv hl hu hg (by omega);have E6:=setRow_heap w g cur (cur.toList.take 0++v.cells.toList++cur.toList.drop (0+vs.length)).toArray e (0,0) hg;refine⟨_,_,rfl,hrun,ν,h.abt hE hbs (rj (by rw[RD];rfl)) (fun hV=>⟨g,RD,_,e,E6, ?_⟩)⟩;have hd:cur.toList.drop (0+vs.length)=[]:=List.drop_eq_nil_of_le (by simp;omega);have he':(cur.toList.take 0++v.cells.toList++cur.toList.drop (0+vs.length)).toArray.toList=v.cells.toList:=by rw[hd];simp
   rw[he'];exact hv.mono (bJ.mono hV)
  split at he
  ·rename_i cs;obtain⟨cur,e,hg,cr⟩:=hbr;rw[aB,gD] at he;obtain⟨hc,rfl⟩:=he;have hc:=Nat.le_of_ble_eq_true hc;have S1:cs.length=cur.size:=by simpa using cr.length
   have hrun:=E8 hT htr hv hl hu hg (by omega);have E6:=setRow_heap w g cur (cur.toList.take off++v.cells.toList++cur.toList.drop (off+vs.length)).toArray e (0,0) hg;refine⟨_,_,rfl,hrun,ν,h.abt hE hbs (rj (by rw[RD];rfl)) (fun hV=>⟨g,RD,_,e,E6, ?_⟩)⟩;simp only[Gs];exact(((cr.mono (bJ.mono hV)).take off).append (hv.mono (bJ.mono hV))).append ((cr.mono (bJ.mono hV)).drop _)
  ·rename_i hnc;cases bx with
   |cells cs=>exact absurd rfl (hnc cs)
   |own q=>obtain⟨e,hg,_⟩:=hbr;exact one _ e hg rfl he
   |nil=>obtain⟨u0,e,hg⟩:=hbr;exact one _ e hg rfl he
 ·rename_i q sz i off;obtain⟨row,g,hrow,hgq,rfl,hu⟩:=hx;rw[qi] at he;obtain⟨row',e1,he⟩:=he;rw[hrow] at e1;obtain rfl:row=row':=by simpa using e1
  rw[b6] at he;obtain⟨y,hy,he⟩:=he;rw[b6] at he;obtain⟨y',hf,he⟩:=he;rw[aB,gD] at he;obtain⟨hle,rfl⟩:=he;have hle:=Nat.le_of_ble_eq_true hle;obtain⟨br,⟨e1,e2⟩,hall⟩:=h.row hrow;rcases e2 with ⟨e2,e3⟩ | ⟨g',cap,cur,e2,_,hg,hn,hm,hcs,HC⟩
  ·have:row.xs=[]:=List.eq_nil_of_length_eq_zero e3;rw[this] at hy;simp at hy
  ·have:g'=g:=by rw[e2] at hgq;simpa [cR] using hgq
   subst this;obtain⟨q1,S0,q2,q3⟩:=ac6 (n:=0) (V':=view E σ ν O w) (fun _ _ h=>h) e1 hn hm hcs HC hg hall hy hf hv hle;have hrun:=E8 hT htr hv hl hu hg (by omega);refine⟨_,_,rfl,hrun,ν,h.setRow hE (row':=⟨row.e,row.t,row.xs.set i y'⟩) hrow rfl (rj hgq) (fun hV=>⟨S0, ?_,q3.mono (Rel.mono hV _)⟩)⟩;rw[e2];simpa using q2
 ·rename_i i n j off;obtain⟨hr,g,h1,h2,h3,h4,h5⟩:=hx;exact ac7 hE hT h htr h1 h2 h4 h5 hv hl he
 ·rename_i i n;by_cases hn:n=0
  ·subst hn;unfold Pn at he;rw[ft] at he;obtain⟨hr',e1,he⟩:=he;rw[b6] at he;obtain⟨l,hl1,he⟩:=he;rw[b6] at he;obtain⟨y,hy,he⟩:=he;simp only[ai,Option.some.injEq] at hl1;subst hl1;simp at hy
  ·obtain⟨hr,g,h1,h2,h3,h4,h5⟩:=Xj h hx hn;exact ac7 (j:=0) (off:=0) hE hT h htr h1 h2 h4 (by rw[h5,Nat.zero_mul]) hv hl he
 ·cases he
theorem Xq (hT:iG P T.rows){tr:fJ}(htr:YY P T.rows tr)(h1:tr.ty.size=1){g:Nat}{cur:Array Value}{e:TypeId}{v:Value}(hv:v.oneCell'=true)(hg:w.heap[g]? =some (.cells cur e (0,0)))(hc:cur.size=1):
  (Instr.storeAt tr.id (.pointer (some ⟨g,0,none⟩)) v).run P w= .ok () (w.setRow g #[v]):=by
 have S1:v.cells= #[v]:=by cases v<;>first |rfl |cases hv
 have hst:=run_storeCells_at P g 0 e [v] 0 cur w hg (by simp;omega) (by simpa using hv);have hd:cur.toList.drop 1=[]:=List.drop_eq_nil_of_le (by simp;omega);simp only[Nat.add_zero,List.take_zero,List.nil_append,List.length_singleton,Nat.zero_add,hd,List.append_nil] at hst;simp[Instr.storeAt,Instr.sureAddr,storeVar,BD htr,S1,h1,hst]
theorem PA (hE:aE E)(hT:iG P T.rows)(h:St E σ a w ν O){tr:fJ}(htr:YY P T.rows tr)(h1:tr.ty.size=1){b q:Nat}{u v:Value}(hb:Bz σ ν b 0 u){bx:BX}(hbx:look σ.boxes b=some bx)(hone:bx.one=true)(hq:(look σ.rows q).isSome=true)(hv:v=ν (.row q)):
  ∃w',(Instr.storeAt tr.id u v).run P w= .ok () w'∧St E {σ with boxes:=put σ.boxes b (.own q)} a w' ν O:=by
 obtain⟨hbs,g,RD,rfl⟩:=hb;obtain⟨g',hg',hbr⟩:=h.box hbx;obtain rfl:g=g':=by rw[RD] at hg';simpa using hg'
 obtain⟨row,hrow⟩:=Option.isSome_iff_exists.1 hq;obtain⟨A,c,hA,_⟩:=Dp (h.row hrow);have an9:v.oneCell'=true:=by rw[hv,hA];rfl
 have:∃cur e,w.heap[g]? =some (.cells cur e (0,0))∧cur.size=1:=by
  cases bx with
  |cells cs=>obtain⟨cur,e,h2,h3⟩:=hbr;exact⟨cur,e,h2,by rw[BX.one,beq_iff] at hone;have:=h3.length;rw[hone] at this;simpa using this.symm⟩
  |own k=>obtain⟨e,h2,_⟩:=hbr;exact⟨_,e,h2,rfl⟩
  |nil=>obtain⟨u0,e,h2⟩:=hbr;exact⟨_,e,h2,rfl⟩
 obtain⟨cur,e,hg,hc⟩:=this;have hrun:=Xq hT htr h1 an9 hg hc;refine⟨_,hrun,h.abt hE hbs (rj (by rw[RD];rfl)) (fun hV=>⟨g,RD,e, ?_,hq⟩)⟩;rw[←hv];exact setRow_heap w g cur #[v] e (0,0) hg
theorem IZ {d b:Nat}{bx:BX}(hb:look σ.boxes b=some bx)(h1:bx.one=true):∃bx',look (σ.freeze d).boxes b=some bx'∧bx'.one=true:=by
 unfold AS.freeze;cases look σ.rows d with
 |none=>exact⟨bx,hb,h1⟩
 |some row=>
  refine⟨bx.tw d ⟨.slice row.t,row.xs⟩,by show look (IG _ _) b=_;rw[gV,hb];rfl, ?_⟩;cases bx with
  |own q=>simp only[BX.tw];cases Nat.beq q d<;>rfl
  |cells cs=>exact h1
  |nil=>rfl
theorem S2 {r d b:Nat}{bx:BX}(hb:look σ.boxes b=some bx)(h1:bx.one=true):∃bx',look (σ.rename r d).boxes b=some bx'∧bx'.one=true:=by
 unfold AS.rename;cases look σ.rows r with
 |none=>exact⟨bx,hb,h1⟩
 |some row=>
  refine⟨bx.YM r d,by show look (IG _ _) b=_;rw[gV,hb];rfl, ?_⟩;cases bx with
  |own q=>rfl
  |cells cs=>exact h1
  |nil=>rfl
theorem ag6 (hE:aE E)(hG:Mo E)(hT:iG P T.rows)(h:St E σ a w ν O){o:Oper}{r:cn}{t:TypeId}{x v:Operand}(ho:o.op= .store t x v)
  (he:(Dk T σ.av σ.sites o).val Φ σ=some r):lj P o a w (To E (aW σ o.dst r)):=by
 have hd:∀c,o.op≠ .defer c:=by rw[ho];intro c e;cases e
 have hx:=h.av hG x;have hv:=h.av hG v;have fin:∀{w':World} {ag:AS},r=(.nil, .set ag)→(Instr.storeAt t (a.eval x) (a.eval v)).run P w= .ok () w'→(∃aK,St E ag a w' aK O)→lj P o a w (To E (aW σ o.dst r)):=fun {w' ag} e hrun ⟨aK,hs⟩=>by subst e;exact VK hd (by simp[execOp,ho,hrun]) ⟨aK,O,hs.slot trivial⟩
 unfold Dk at he;simp only[ho] at he;split at he
 ·rename_i tr hr;obtain⟨rfl,htr⟩:=hT t tr hr;split at he
  ·rename_i q b e1 e2;rw[e1] at hv;rw[e2] at hx;rw[Dm] at he;obtain⟨bx,hbx,he⟩:=he;rw[aB,mL] at he;obtain⟨hc,he⟩:=he;simp only[Bool.and_eq_true,beq_iff] at hc;obtain⟨h1,h2⟩:=hc;cases hb:Nat.beq q b with
   |true=>have:=(beq_iff _ _).1 hb;subst this;rw[hb,cond_true,gD] at he;obtain⟨w',hrun,hs⟩:=PA hE hT h htr h2 hx hbx h1 hv.2 hv.1;exact fin he.symm hrun ⟨ν,hs⟩
   |false=>
    rw[hb,cond_false,gD] at he;obtain⟨aK,s1,s2,s3,s4⟩:=h.renamed hE hv.2 (rW.1 hb);obtain⟨bx1,ajX,h11⟩:=IZ (d:=b) hbx h1;obtain⟨bx2,aob,h12⟩:=S2 (r:=q) (d:=b) ajX h11;obtain⟨w',hrun,hs⟩:=PA (u:=a.eval x) (v:=a.eval v) hE hT s1 htr h2 (by
     obtain⟨g1,g,g2,g3⟩:=hx;exact⟨bf aob,g,(s2 _ (fun k e=>by cases e)).trans g2,g3⟩) aob h12 s4 (by rw[s3];exact hv.1)
    exact fin he.symm hrun ⟨aK,hs⟩
  ·rename_i q hnb e1;rw[mL,R2] at he;obtain⟨y,he,rfl⟩:=he;rw[SJ,nQ] at he;obtain⟨vs,hvs,he⟩:=he;rw[aB] at he;obtain⟨hl,he⟩:=he;have s1:=h.freeze hE q;obtain⟨us,w',rfl,hrun,aK,hs⟩:=ac8 hE hT s1 htr (s1.av hG x) (Py hvs (s1.av hG v)) ((beq_iff _ _).1 hl) he;exact fin rfl hrun ⟨aK,hs⟩
  ·rename_i b e1 e2;rw[e1] at hv;rw[e2] at hx;split at he
   ·rename_i u e bytes hel;rw[Dm] at he;obtain⟨bx,hbx,he⟩:=he;rw[aB,mL,gD] at he;obtain⟨h1,he⟩:=he;have h2:tr.ty.size=1:=by
     unfold gC at hel;rw[hr] at hel;dsimp only at hel;split at hel
     ·rename_i u' hu;rw[hu];rfl
     ·cases hel
    have s1:=h.ag3 hE b u e;obtain⟨bx1,ajX,h11⟩:=IZ (d:=b) hbx h1;obtain⟨w',hrun,hs⟩:=PA (u:=a.eval x) (v:=a.eval v) (q:=b) hE hT s1 htr h2 (by
     obtain⟨g1,g,g2,g3⟩:=hx;exact⟨bf ajX,g,g2,g3⟩) ajX h11 (by show (look (put _ _ _) _).isSome=true;rw[aD,if_pos rfl];rfl) (by rw[mY];exact hv)
    exact fin he.symm hrun ⟨_,hs⟩
   ·cases he
  ·rw[nQ] at he;obtain⟨vs,hvs,he⟩:=he;rw[aB] at he;obtain⟨hl,he⟩:=he;obtain⟨us,w',rfl,hrun,aK,hs⟩:=ac8 hE hT h htr hx (Py hvs hv) ((beq_iff _ _).1 hl) he;exact VK hd (by simp[execOp,ho,hrun]) ⟨aK,O,hs.slot trivial⟩
 ·cases he
end
def Dt (P:Program)(T:cG):Prop:=∀(i:Nat) (ht:HT),T.ae[i]? =some ht→∃(j:TypeInfo) (z:Value),P.info? ht.e=some j∧j.size=ht.t.size∧j.zero=some z∧∀V,Rel V ht.t ht.t.zero z.cells.toList
section
variable {P:Program}{T:cG}{E:Env}{σ ag:AS}{a:Act}{w w':World}{ν aK:Nm→Value}{O:Nat→Prop}{Φ:bN T}{V:View}{Y:Value}
theorem nS {α:Type}{xs:List (Option (List α))}{n:Nat}:(dh xs n).length=xs.length:=by cases n<;>simp[dh]
theorem Za {α:Type}{xs:List (Option (List α))}{n m:Nat}(h:m+1≠n):(dh xs n)[m]? =xs[m]? :=by
 cases n with
 |zero=>rfl
 |succ k=>simp only[dh];rw[List.getElem?_set_ne (by omega)]
theorem abv {α:Type}{xs:List (Option (List α))}{n:Nat}(hn:1≤n)(l:List α):(dh xs n)[n - 1]? ≠some (some l):=by
 cases n with
 |zero=>omega
 |succ k=>
  simp only[dh,Nat.add_sub_cancel];intro h;rw[List.getElem?_set] at h;split at h
  ·split at h<;>cases h
  ·rename_i h1;exact h1 rfl
theorem St.ali (hE:aE E)(h:St E σ a w ν O){i n1:Nat}{hr:aV}{l':List hr.t.den}{v0:Value}{C:Nat→Prop}(hh:σ.ae[i]? =some hr)(hw:hr.w=true)(hn1:n1≤hr.xs.length)
  (hC:∀k,C k→Own σ ν (.hp i n1) k) (hg:Grow C w w') (hblk:∀k,cR v0=some k→Own σ ν (.hp i n1) k∨(w.heap.size≤k∧k<w'.heap.size)) (hv0:ael hr.k v0)
  (cr:∀V',(∀key v,view E σ ν O w key v→V' key v)→Au V' w' hr.k v0 ⟨hr.e,hr.t,l'⟩):
  St E {σ with ae:=σ.ae.set i ⟨hr.e,hr.t,hr.k,hr.w,dh hr.xs n1++[some l']⟩} a w' (NT ν i (hr.xs.length+1) v0) O∧
   view E {σ with ae:=σ.ae.set i ⟨hr.e,hr.t,hr.k,hr.w,dh hr.xs n1++[some l']⟩} (NT ν i (hr.xs.length+1) v0) O w' (.ref i (hr.xs.length+1)) v0:=by
 have hlt:i<σ.ae.length:=(List.getElem?_eq_some_iff.1 hh).1;have hl:(dh hr.xs n1++[some l']).length=hr.xs.length+1:=by simp[nS]
 refine⟨h.alg hE (n0:=hr.xs.length+1) (n1:=n1) (C:=C) hh hw (by omega) (.inl ⟨hl.symm,hl⟩) (fun m h1 h2 l=> ?_) ?_ hC hg (fun k hk=> .inr (hblk k hk)) hv0 (fun hV l2 h2=> ?_), ?_⟩
 ·rcases Nat.lt_trichotomy m hr.xs.length with h3 |h3 |h3
  ·rw[List.getElem?_append_left (by rw[nS];exact h3),Za h2]
  ·omega
  ·rw[List.getElem?_eq_none (by omega),List.getElem?_eq_none (by omega)]
 ·by_cases h0:n1=0
  ·exact .inr (.inl h0)
  ·refine .inr (.inr fun l=> ?_);rw[List.getElem?_append_left (by rw[nS];omega)];exact abv (by omega) l
 ·rw[Nat.add_sub_cancel,List.getElem?_append_right (by rw[nS];exact Nat.le_refl _),nS] at h2;simp only[Nat.sub_self,List.getElem?_cons_zero,Option.some.injEq] at h2;subst h2;exact cr _ hV
 ·refine⟨by omega, ?_,by simp only[NT,and_self,if_pos]⟩;show hr.xs.length+1≤hlen (σ.ae.set i _) i;unfold hlen;rw[List.getElem?_set_self hlt];simp[nS]
theorem ac9 (hE:aE E)(h:St E σ a w ν O){i:Nat}{hr:aV}{x:hr.t.den}{cur:Array Value}(hh:σ.ae[i]? =some hr)(hx:Rel (view E σ ν O w) hr.t x cur.toList){r:cn}(he:(Mk (T:=T) i hr x).val Φ σ=some r):
  ∃us n,r=(.rv (.cv ⟨.ptr i,n⟩), .mI us)∧∃aK,St E (σ.app us) a (w.alloc (.cells cur hr.e)) aK O∧bJ (view E (σ.app us) aK O (w.alloc (.cells cur hr.e))) ⟨.ptr i,n⟩ (.pointer (some ⟨w.heap.size,0,none⟩)):=by
 unfold Mk at he;rw[aB,gD] at he;obtain⟨hc,rfl⟩:=he;simp only[Bool.and_eq_true,beq_iff] at hc;obtain⟨hw,hk⟩:=hc;obtain⟨h1,h2⟩:=h.ali hE (n1:=0) (l':=[x]) (v0:= .pointer (some ⟨w.heap.size,0,none⟩)) (w':=w.alloc (.cells cur hr.e)) (C:=fun _=>False) hh hw (Nat.zero_le _) (fun _ hk=>hk.elim)
  (Grow.BB ⟨rfl,rfl,rfl,by simp,fun k hk=>heap_alloc_old w _ k hk⟩) (fun k hk=>by simp only[cR,Option.some.injEq] at hk;subst hk;exact .inr ⟨Nat.le_refl _,by simp⟩) (.inr ⟨hk,_,rfl⟩)
  (fun V' hV=>by rw[hk];exact⟨w.heap.size,cur,_,x,rfl,heap_alloc_new w _,rfl,rfl,Rel.mono hV _ _ _ hx⟩)
 exact⟨_,_,rfl,_,h1,ajR (by omega) ⟨_,rfl⟩ h2⟩
theorem PB {i:Nat}{hr:aV}(hH:Dt P T)(h:YO T i hr=true)(hi:i<T.ae.length):∃(j:TypeInfo) (z:Value),P.info? hr.e=some j∧j.size=hr.t.size∧j.zero=some z∧∀V,Rel V hr.t hr.t.zero z.cells.toList:=by
 simp only[YO,Bool.and_eq_true,beq_iff,decide_eq_true_eq] at h;have e:T.ae[i]? =some (T.ht i):=by unfold cG.ht;rw[List.getElem?_eq_getElem hi];rfl
 obtain⟨j,z,h1,h2,h3,h4⟩:=hH i _ e;obtain⟨⟨e1,_⟩,e2⟩:=h;rw[e1,e2];exact⟨j,z,h1,h2,h3,h4⟩
theorem ada (hE:aE E)(h:St E σ a w ν O){d:Option Tmp}{cs:List CV}{cur:Array Value}{e:TypeId}(hx:aC (bJ (view E σ ν O w)) cs cur.toList){r:cn}(he:(zS (T:=T) d (.cells cs)).val Φ σ=some r):
  ∃b us,r=(.box b 0, .mI us)∧∃aK,St E (σ.app us) a (w.alloc (.cells cur e)) aK O∧Bz (σ.app us) aK b 0 (.pointer (some ⟨w.heap.size,0,none⟩)):=by
 unfold zS at he;split at he
 ·rename_i d;rw[xF,gD] at he;obtain⟨hd,rfl⟩:=he;refine⟨_,_,rfl,_,h.zS hE hd (fun hV=>⟨w.heap.size,rfl,cur,e,heap_alloc_new w _,hx.mono (bJ.mono hV)⟩), ?_,w.heap.size,by simp only[Px,if_pos],rfl⟩;show (look (put _ _ _) _).isSome=true;rw[aD,if_pos rfl];rfl
 ·cases he
theorem ag7 (hE:aE E)(hG:Mo E)(hT:iG P T.rows)(hH:Dt P T)(hl:σ.ae.length=T.ae.length)(h:St E σ a w ν O){o:Oper}{r:cn}{t:TypeId}(ho:o.op= .alloc t)
  (he:(Dk T σ.av σ.sites o).val Φ σ=some r):lj P o a w (To E (aW σ o.dst r)):=by
 have hd:∀c,o.op≠ .defer c:=by rw[ho];intro c e;cases e
 unfold Dk at he;simp only[ho] at he;split at he
 ·rename_i tr hr;obtain⟨rfl,htr⟩:=hT t tr hr;obtain⟨i,z,h1,h2,h3,h4,h5⟩:=SZ (V:=view E σ ν O w) htr;have hrun:(execOp a.eval o).run P w= .ok (.value (.pointer (some ⟨w.heap.size,0,none⟩))) (w.alloc (.cells z.cells tr.id)):=by simp[execOp,ho,Instr.alloc,zeroValue,typeInfo,h1,h4,newVar,Go.newRow]
  split at he
  ·rename_i k hk;rw[ft] at he;obtain⟨NA,hh,he⟩:=he;rw[aB] at he;obtain⟨hc,he⟩:=he;simp only[Bool.and_eq_true,beq_iff] at hc;obtain⟨e1,hc⟩:=hc;obtain⟨j,z',j1,j2,j3,j4⟩:=PB hH hc (by rw[←hl];exact(List.getElem?_eq_some_iff.1 hh).1);rw[e1,h1] at j1;obtain rfl:i=j:=by simpa using j1
   rw[h4] at j3;obtain rfl:z=z':=by simpa using j3
   obtain⟨us,n,rfl,aK,hs,hv⟩:=ac9 hE h (cur:=z.cells) hh (j4 _) he;rw[e1] at hs hv;exact ck hd hrun ⟨aK,O,hs.slot hv⟩
  ·split at he
   ·rename_i u0 u e b d qj hel Pz;rw[xF,xE,gD] at he;obtain⟨f1,f2,rfl⟩:=he;have hz:z= .slice none 0 0:=by
     obtain⟨i',z',k1,_,_,k4,_,_,k5⟩:=htr.info;rw[h1] at k1;obtain rfl:i=i':=by simpa using k1
     rw[h4] at k4;obtain rfl:z=z':=by simpa using k4
     exact k5 _ qj
    have s1:=h.newRow hE (d:=d) (row':=⟨e,u,[]⟩) (v':= .slice none 0 0) f2 (Below.refl _ _) (fun k hk=>by cases hk) (fun _=>⟨[],GC,trivial⟩);have hrow:(look (put σ.rows d (⟨e,u,[]⟩:Row)) d).isSome=true:=by rw[aD,if_pos rfl];rfl
    have s2:=s1.zS hE (d:=d) (x:= .own d) (o:= .cells z.cells tr.id) f1 (fun hV=>⟨w.heap.size,rfl,tr.id,by rw[hz];simp only[Px,tA,if_pos];exact heap_alloc_new w _,hrow⟩);refine ck hd hrun ⟨Px (tA ν d (.slice none 0 0)) d (.pointer (some ⟨w.heap.size,0,none⟩)),O, ?_⟩;simp only[aW,Pz];refine s2.slot (x:= .box d 0) ⟨?_,w.heap.size,by simp only[Px,if_pos],rfl⟩;show (look (put _ _ _) _).isSome=true;rw[aD,if_pos rfl];rfl
   ·obtain⟨b,us,rfl,aK,hs,hv⟩:=ada hE h (cur:=z.cells) (e:=tr.id) (iC h5) he;exact ck hd hrun ⟨aK,O,hs.slot (x:= .box b 0) hv⟩
 ·cases he
theorem ajY (f:AV→AV)(hf:f .nil= .nil)(s:eY)(t:Nat):nth (s.map f) t=f (nth s t):=by
 unfold nth;show (match look (US f s.l) t with |some x=>x |none=> .nil)=_;rw[Kj];cases look s.l t with
 |none=>exact hf.symm
 |some x=>rfl
theorem amb (f:AV→AV)(hf:f .nil= .nil)(hc:∀v,f (ofConst v)=ofConst v)(hF:∀g,f (.fn g [])= .fn g [])(s:eY)(x:Operand):(s.map f).av x=f (s.av x):=by
 cases x with
 |tmp t=>exact ajY f hf s t
 |const v=>exact(hc v).symm
 |func g=>exact(hF g).symm
 |global g=>
  show (match look (US f s.s) (gk g) with |some x=>x |none=> .nil)=f (match look s.s (gk g) with |some x=>x |none=> .nil);rw[Kj];cases look s.s (gk g) with
  |none=>exact hf.symm
  |some x=>rfl
theorem Xr (r:Nat)(c:CV)(v:Value):(ofConst v).tw r c=ofConst v:=by cases v<;>rfl
theorem Kp {q:Nat}{row:Row}(hq:look σ.rows q=some row)(x:Operand):(σ.freeze q).av x=(σ.av x).tw q ⟨.slice row.t,row.xs⟩:=by unfold AS.freeze;rw[hq];exact amb _ rfl (Xr q _) (fun _=>rfl) σ.tmps x
theorem amc (hE:aE E)(hG:Mo E)(hT:iG P T.rows)(h:St E σ a w ν O){o:Oper}{r:cn}{t:TypeId}{v:Operand}(ho:o.op= .box t v)
  (he:(Dk T σ.av σ.sites o).val Φ σ=some r):lj P o a w (To E (aW σ o.dst r)):=by
 have hd:∀c,o.op≠ .defer c:=by rw[ho];intro c e;cases e
 have hv:=h.av hG v;have hrun:(execOp a.eval o).run P w= .ok (.value (.pointer (some ⟨w.heap.size,0,none⟩))) (w.alloc (.cells (a.eval v).cells t)):=by simp[execOp,ho,Instr.box,newVar,Go.newRow]
 unfold Dk at he;simp only[ho] at he;split at he
 ·rename_i tr hr;obtain⟨rfl,htr⟩:=hT t tr hr;split at he
  ·rename_i q hq;rw[qi] at he;obtain⟨row,hrow,he⟩:=he;rw[mL] at he;split at he
   ·rename_i d Pz;split at he
    ·rename_i hbd;rw[gD] at he;subst he;have s1:=h.freeze hE q;have Xs:=s1.av hG v;rw[Kp hrow,hq] at Xs;simp only[AV.tw,RV.tw,beq_refl,cond_true] at Xs;have hb1:look (σ.freeze q).boxes d=none:=by
      have:=NU (σ:=σ) q d;rw[hbd] at this;cases hl:look (σ.freeze q).boxes d with
      |none=>rfl
      |some x=>rw[hl] at this;cases this
     have s2:=s1.zS hE (d:=d) (x:= .cells [⟨.slice row.t,row.xs⟩]) (o:= .cells (a.eval v).cells tr.id) hb1 (fun hV=>⟨w.heap.size,rfl,_,tr.id,heap_alloc_new w _,by
      have e2:(a.eval v).cells.toList=[a.eval v]:=by rw[Gp Xs]
      rw[e2];exact⟨bJ.mono hV _ _ Xs,trivial⟩⟩)
     refine ck hd hrun ⟨Px ν d (.pointer (some ⟨w.heap.size,0,none⟩)),O, ?_⟩;simp only[aW,Pz];refine s2.slot (x:= .box d 0) ⟨?_,w.heap.size,by simp only[Px,if_pos],rfl⟩;show (look (put _ _ _) _).isSome=true;rw[aD,if_pos rfl];rfl
    ·cases he
   ·cases he
  ·rw[nQ] at he;obtain⟨vs,hvs,he⟩:=he;rw[aB] at he;obtain⟨hl,he⟩:=he;have R4:=Py hvs hv;split at he
   ·rename_i k hk;rw[ft] at he;obtain⟨NA,hh,he⟩:=he;rw[aB,b6] at he;obtain⟨hc,x,hx,he⟩:=he;have e1:=(beq_iff _ _).1 hc;obtain⟨us,n,rfl,aK,hs,hv⟩:=ac9 hE h (cur:=(a.eval v).cells) hh (GA hx R4) he;rw[e1] at hs hv;exact ck hd hrun ⟨aK,O,hs.slot hv⟩
   ·obtain⟨b,us,rfl,aK,hs,hv⟩:=ada hE h (cur:=(a.eval v).cells) (e:=tr.id) R4 he;exact ck hd hrun ⟨aK,O,hs.slot (x:= .box b 0) hv⟩
 ·cases he
theorem ag9 (hE:aE E)(hG:Mo E)(hT:iG P T.rows)(h:St E σ a w ν O){o:Oper}{r:cn}{t:TypeId}{parts:Array (Nat×Operand)}(ho:o.op= .build t parts)
  (he:(Dk T σ.av σ.sites o).val Φ σ=some r):lj P o a w (To E (aW σ o.dst r)):=by
 have hd:∀c,o.op≠ .defer c:=by rw[ho];intro c e;cases e
 unfold Dk at he;simp only[ho] at he;cases hb:(List.map (fun x=>x.2) parts.toList).any fun x=>wV (σ.av x) with
 |true=>rw[hb,cond_true,mL,R2] at he;obtain⟨y,he,rfl⟩:=he;have s1:=h.ve hE (parts.toList.map (·.2));obtain⟨e1,v,h2,h3⟩:=SV (P:=P) (w:=w) hT (s1.av hG) he;exact ck hd (v:=v) (by simp[execOp,ho,h2]) ⟨ν,O,s1.slot h3⟩
 |false=>rw[hb,cond_false] at he;obtain⟨e1,v,h2,h3⟩:=SV (P:=P) (w:=w) hT (h.av hG) he;exact cm hE hd h e1 (v:=v) (by simp[execOp,ho,h2]) h3
theorem Zb (qk:∀x,aj V σ ν Y (σ.av x) (a.eval x)):∀{xs:List Operand} {aQ:List Hv},lH (fun x=>match σ.av x with
   | .box b 0=>some (Hv.box b)
   | .pg cs=>some (.pg cs)
   |_=>none) xs=some aQ→aC (rX V σ ν) aQ (xs.map a.eval)
 | [],aQ,h=>by simp only[lH,Option.some.injEq] at h;subst h;trivial
 |x::xs,aQ,h=>by
  simp only[lH] at h;split at h
  ·rename_i y hy;split at h
   ·rename_i l hl;simp only[Option.some.injEq] at h;subst h;refine⟨?_,Zb qk hl⟩;have hx:=qk x;split at hy
    ·rename_i b e;simp only[Option.some.injEq] at hy;subst hy;rw[e] at hx;exact hx
    ·rename_i cs e;simp only[Option.some.injEq] at hy;subst hy;rw[e] at hx;exact hx
    ·cases hy
   ·cases h
  ·cases h
theorem Zc (hE:aE E)(hG:Mo E)(h:St E σ a w ν O){o:Oper}{r:cn}{f:Fn}{first captured:Array Operand}(ho:o.op= .makeFunc f first captured)
  (he:(Dk T σ.av σ.sites o).val Φ σ=some r):lj P o a w (To E (aW σ o.dst r)):=by
 have hd:∀c,o.op≠ .defer c:=by rw[ho];intro c e;cases e
 unfold Dk at he;simp only[ho] at he;split at he<;>first | (rename_i e;cases e;done) |skip
 all_goals try (cases he;done)
 rename_i f' fst' cap' e;cases e;split at he
 ·rename_i hf;have hf':first= #[]:=by cases first;simp at hf;subst hf;rfl
  subst hf';rw[nQ] at he;obtain⟨aQ,hc,he⟩:=he;rw[gB] at he;subst he;refine cm hE hd h rfl (v:= .func (.func f') #[] (captured.map a.eval)) (by simp[execOp,ho,Instr.makeFunc]) ⟨(captured.toList.map a.eval),(by rw[←Array.toList_map]),Zb (h.av hG) hc⟩
 ·cases he
end
end Go.Abs
