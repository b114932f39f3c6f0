/- YtcopbdamkjladaaXa: a part of the proof (AbsV, AbsE, AbsS ..). No condition. -/
import Derived.Laws.AppendOwn
import Derived.Laws.MakeOwn
import Derived.Below
import Derived.Orders
import Derived.Laws.StructEq
import Derived.Lib.ConvBytes
import Derived.Laws.BytesString
import Derived.RangeFuncLeaves
set_option linter.unusedVariables false
set_option linter.unusedSimpArgs false
set_option maxRecDepth 100000
set_option exponentiation.threshold 2000
namespace Go.Abs
inductive Ty where
 |int (k:IntKind) |bool |str |slice (t:Ty) |unit |pair (a b:Ty) |st (t:Ty) |ref (h:Nat) |ptr (h:Nat) |mN (t:Ty) |mp (h:Nat) |fn
 deriving DecidableEq
@[reducible] def Ty.den:Ty→Type
  | .int _=>Int
  | .bool=>Bool
  | .str=>ByteArray
  | .slice t=>List t.den
  | .unit=>Unit
  | .pair a b=>a.den×b.den
  | .st t=>t.den
  | .ref _=>Nat
  | .ptr _=>Nat
  | .mN t=>Option (List t.den)
  | .mp _=>Nat
  | .fn=>Nat
def Ty.size:Ty→Nat
 | .unit=>0
 | .pair a b=>a.size+b.size
 | .st t=>t.size
 |_=>1
def Ty.leaf:Ty→Bool
 | .unit | .pair .. | .st _=>false
 |_=>true
def Ty.zero:(t:Ty)→t.den
 | .int _=>(0:Int)
 | .bool=>false
 | .str=>ByteArray.empty
 | .slice t=>([]:List t.den)
 | .unit=>()
 | .pair a b=>(a.zero,b.zero)
 | .st t=>t.zero
 | .ref _=>(0:Nat)
 | .ptr _=>(0:Nat)
 | .mN t=>(none:Option (List t.den))
 | .mp _=>(0:Nat)
 | .fn=>(0:Nat)
def aE {α β:Type}(R:α→β→Prop):List α→List β→Prop
 | [],[]=>True
 |x::xs,y::ys=>R x y∧aE R xs ys
 |_,_=>False
section
variable {α β γ:Type}{R S:α→β→Prop}
theorem aE.length:∀{xs:List α} {ys:List β},aE R xs ys→xs.length=ys.length
 | [],[],_=>rfl
 |_::_,_::_,h=>by simp[aE.length h.2]
 | [],_::_,h=>h.elim
 |_::_,[],h=>h.elim
theorem aE.mono (hRS:∀x y,R x y→S x y):∀{xs:List α} {ys:List β},aE R xs ys→aE S xs ys
 | [],[],_=>trivial
 |_::_,_::_,h=>⟨hRS _ _ h.1,aE.mono hRS h.2⟩
 | [],_::_,h=>h.elim
 |_::_,[],h=>h.elim
theorem aE.get:∀{xs:List α} {ys:List β},aE R xs ys→∀(i:Nat) x,xs[i]? =some x→∃y,ys[i]? =some y∧R x y
 | [],[],_,i,x,h=>by simp at h
 |a::as,b::bs,h,0,x,hx=>⟨b,by simp,by simp at hx;subst hx;exact h.1⟩
 |a::as,b::bs,h,i+1,x,hx=>by obtain⟨y,hy,hr⟩:=aE.get h.2 i x (by simpa using hx);exact⟨y,by simpa using hy,hr⟩
 | [],_::_,h,_,_,_=>h.elim
 |_::_,[],h,_,_,_=>h.elim
theorem aE.get':∀{xs:List α} {ys:List β},aE R xs ys→∀(i:Nat) y,ys[i]? =some y→∃x,xs[i]? =some x∧R x y
 | [],[],_,i,x,h=>by simp at h
 |a::as,b::bs,h,0,y,hy=>⟨a,by simp,by simp at hy;subst hy;exact h.1⟩
 |a::as,b::bs,h,i+1,y,hy=>by obtain⟨x,hx,hr⟩:=aE.get' h.2 i y (by simpa using hy);exact⟨x,by simpa using hx,hr⟩
 | [],_::_,h,_,_,_=>h.elim
 |_::_,[],h,_,_,_=>h.elim
theorem aE.append:∀{xs:List α} {ys:List β} {xs':List α} {ys':List β},aE R xs ys→aE R xs' ys'→aE R (xs++xs') (ys++ys')
 | [],[],_,_,_,h=>h
 |_::_,_::_,_,_,h,h'=>⟨h.1,aE.append h.2 h'⟩
 | [],_::_,_,_,h,_=>h.elim
 |_::_,[],_,_,h,_=>h.elim
theorem aE.split:∀{xs xs':List α} {zs:List β},aE R (xs++xs') zs→∃ys ys',zs=ys++ys'∧aE R xs ys∧aE R xs' ys'
 | [],xs',zs,h=>⟨[],zs,rfl,trivial,h⟩
 |x::xs,xs',z::zs,h=>by obtain⟨ys,ys',rfl,h1,h2⟩:=aE.split (xs:=xs) h.2;exact⟨z::ys,ys',rfl,⟨h.1,h1⟩,h2⟩
 |x::xs,xs',[],h=>h.elim
theorem aE.set:∀{xs:List α} {ys:List β} {i:Nat} {x:α} {y:β},aE R xs ys→R x y→aE R (xs.set i x) (ys.set i y)
 | [],[],i,x,y,_,_=>trivial
 |_::_,_::_,0,x,y,h,hr=>⟨hr,h.2⟩
 |_::_,_::_,i+1,x,y,h,hr=>⟨h.1,aE.set h.2 hr⟩
 | [],_::_,_,_,_,h,_=>h.elim
 |_::_,[],_,_,_,h,_=>h.elim
theorem aE.drop:∀{xs:List α} {ys:List β} (i:Nat),aE R xs ys→aE R (xs.drop i) (ys.drop i)
 |xs,ys,0,h=>h
 | [],[],i+1,h=>trivial
 |_::_,_::_,i+1,h=>aE.drop i h.2
 | [],_::_,_,h=>h.elim
 |_::_,[],_,h=>h.elim
theorem aE.take:∀{xs:List α} {ys:List β} (i:Nat),aE R xs ys→aE R (xs.take i) (ys.take i)
 | [],[],0,h=>trivial
 |_::_,_::_,0,h=>trivial
 | [],[],i+1,h=>trivial
 |_::_,_::_,i+1,h=>⟨h.1,aE.take i h.2⟩
 | [],_::_,_,h=>h.elim
 |_::_,[],_,h=>h.elim
theorem aE.replicate {x:α}{y:β}(h:R x y):∀n,aE R (List.replicate n x) (List.replicate n y)
 |0=>trivial
 |n+1=>⟨h,aE.replicate h n⟩
end
inductive Key where
 |cell (a:Addr) |ref (h n:Nat)
instance:Coe Addr Key:=⟨Key.cell⟩
abbrev View:=Key→Value→Prop
def Ts (v:Value):Prop:=∃a n c,v= .slice (some a) n c
def X6 (v:Value):Prop:=∃a,v= .pointer (some a)
def ZK (v:Value):Prop:=∃a,v= .map (some a)
def fnV:Nat→Value
 |0=> .nilFunc
 |f+1=> .func (.func f) #[] #[]
def Rel (V:View):(t:Ty)→t.den→List Value→Prop
 | .int k,x,cs=>cs=[.int k x]
 | .bool,x,cs=>cs=[.bool x]
 | .str,x,cs=>cs=[.string x]
 | .slice t,xs,cs=>∃(A:Option Addr) (c:Nat) (bl:List (List Value)),cs=[.slice A (List.length xs) c]∧List.length xs≤c∧aE (Rel V t) xs bl∧
   (A=none→c=0)∧∀j u,bl.flatten[j]? =some u→∃ad,A=some ad∧V (ad.add j) u
 | .unit,_,cs=>cs=[]
 | .pair a b,x,cs=>∃c1 c2,cs=c1++c2∧Rel V a x.1 c1∧Rel V b x.2 c2
 | .st t,x,cs=>Rel V t x cs
 | .ref h,n,cs=>match (n:Nat) with
   |0=>cs=[.slice none 0 0]
   |m+1=>∃v,cs=[v]∧Ts v∧V (.ref h (m+1)) v
 | .ptr h,n,cs=>match (n:Nat) with
   |0=>cs=[.pointer none]
   |m+1=>∃v,cs=[v]∧X6 v∧V (.ref h (m+1)) v
 | .mN t,xs,cs=>match xs with
   |none=>cs=[.slice none 0 0]
   |some xs=>∃(ad:Addr) (c:Nat) (bl:List (List Value)),cs=[.slice (some ad) (List.length xs) c]∧List.length xs≤c∧aE (Rel V t) xs bl∧
    ∀j u,bl.flatten[j]? =some u→V (ad.add j) u
 | .mp h,n,cs=>match (n:Nat) with
   |0=>cs=[.map none]
   |m+1=>∃v,cs=[v]∧ZK v∧V (.ref h (m+1)) v
 | .fn,f,cs=>cs=[fnV f]
theorem Rel.mono {V V':View}(h:∀a v,V a v→V' a v):∀(t:Ty) (x:t.den) (cs:List Value),Rel V t x cs→Rel V' t x cs
 | .int k,x,cs,hr=>hr
 | .bool,x,cs,hr=>hr
 | .str,x,cs,hr=>hr
 | .slice t,xs,cs,⟨A,c,bl,h1,h2,h3,h5,h4⟩=>⟨A,c,bl,h1,h2,h3.mono (Rel.mono h t),h5,fun j u hj=>let ⟨ad,e,hv⟩:=h4 j u hj;⟨ad,e,h _ _ hv⟩⟩
 | .unit,_,cs,hr=>hr
 | .pair a b,x,cs,⟨c1,c2,e,h1,h2⟩=>⟨c1,c2,e,Rel.mono h a _ _ h1,Rel.mono h b _ _ h2⟩
 | .st t,x,cs,hr=>Rel.mono h t x cs hr
 | .ref _,0,_,hr=>hr
 | .ref _,_+1,_,⟨v,e,hs,hv⟩=>⟨v,e,hs,h _ _ hv⟩
 | .ptr _,0,_,hr=>hr
 | .ptr _,_+1,_,⟨v,e,hs,hv⟩=>⟨v,e,hs,h _ _ hv⟩
 | .mp _,0,_,hr=>hr
 | .mp _,_+1,_,⟨v,e,hs,hv⟩=>⟨v,e,hs,h _ _ hv⟩
 | .fn,_,_,hr=>hr
 | .mN t,none,cs,hr=>hr
 | .mN t,some xs,cs,⟨ad,c,bl,h1,h2,h3,h4⟩=>⟨ad,c,bl,h1,h2,h3.mono (Rel.mono h t),fun j u hj=>h _ _ (h4 j u hj)⟩
theorem Rel.length {V:View}:∀{t:Ty} {x:t.den} {cs:List Value},Rel V t x cs→cs.length=t.size
 | .int k,x,cs,hr=>by have:cs=_:=hr;subst this;rfl
 | .bool,x,cs,hr=>by have:cs=_:=hr;subst this;rfl
 | .str,x,cs,hr=>by have:cs=_:=hr;subst this;rfl
 | .slice t,xs,cs,⟨A,c,bl,h1,_⟩=>by subst h1;rfl
 | .unit,_,cs,hr=>by have:cs=_:=hr;subst this;rfl
 | .pair a b,x,cs,⟨c1,c2,e,h1,h2⟩=>by subst e;simp[Ty.size,Rel.length h1,Rel.length h2]
 | .st t,x,cs,hr=>Rel.length (t:=t) hr
 | .ref _,0,cs,hr=>by have:cs=_:=hr;subst this;rfl
 | .ref _,_+1,_,⟨v,e,_⟩=>by subst e;rfl
 | .ptr _,0,cs,hr=>by have:cs=_:=hr;subst this;rfl
 | .ptr _,_+1,_,⟨v,e,_⟩=>by subst e;rfl
 | .mp _,0,cs,hr=>by have:cs=_:=hr;subst this;rfl
 | .mp _,_+1,_,⟨v,e,_⟩=>by subst e;rfl
 | .fn,_,cs,hr=>by have:cs=_:=hr;subst this;rfl
 | .mN t,none,cs,hr=>by have:cs=_:=hr;subst this;rfl
 | .mN t,some xs,cs,⟨ad,c,bl,h1,_⟩=>by subst h1;rfl
abbrev CV:=(t:Ty)×t.den
def bw (V:View)(c:CV)(v:Value):Prop:=Rel V c.1 c.2 [v]
theorem bw.mono {V V':View}(h:∀a v,V a v→V' a v)(c:CV)(v:Value)(hr:bw V c v):bw V' c v:=Rel.mono h _ _ _ hr
def flat:(t:Ty)→t.den→List CV
 | .unit,_=>[]
 | .pair a b,x=>flat a x.1++flat b x.2
 | .st t,x=>flat t x
 | .int k,x=>[⟨.int k,x⟩]
 | .bool,x=>[⟨.bool,x⟩]
 | .str,x=>[⟨.str,x⟩]
 | .slice t,x=>[⟨.slice t,x⟩]
 | .ref h,x=>[⟨.ref h,x⟩]
 | .ptr h,x=>[⟨.ptr h,x⟩]
 | .mN t,x=>[⟨.mN t,x⟩]
 | .mp h,x=>[⟨.mp h,x⟩]
 | .fn,x=>[⟨.fn,x⟩]
theorem fM {V:View}:∀{t:Ty} {x:t.den} {cs:List Value},Rel V t x cs→aE (bw V) (flat t x) cs
 | .int k,x,cs,hr=>by have:cs=_:=hr;subst this;exact⟨hr,trivial⟩
 | .bool,x,cs,hr=>by have:cs=_:=hr;subst this;exact⟨hr,trivial⟩
 | .str,x,cs,hr=>by have:cs=_:=hr;subst this;exact⟨hr,trivial⟩
 | .slice t,xs,cs,hr=>by have h':=hr;obtain⟨A,c,bl,h1,_⟩:=h';subst h1;exact⟨hr,trivial⟩
 | .unit,_,cs,hr=>by have:cs=_:=hr;subst this;trivial
 | .pair a b,x,cs,⟨c1,c2,e,h1,h2⟩=>by subst e;exact aE.append (fM h1) (fM h2)
 | .st t,x,cs,hr=>fM (t:=t) hr
 | .ref _,0,cs,hr=>by have:cs=_:=hr;subst this;exact⟨hr,trivial⟩
 | .ref _,_+1,_,⟨v,e,hv⟩=>by subst e;exact⟨⟨v,rfl,hv⟩,trivial⟩
 | .ptr _,0,cs,hr=>by have:cs=_:=hr;subst this;exact⟨hr,trivial⟩
 | .ptr _,_+1,_,⟨v,e,hv⟩=>by subst e;exact⟨⟨v,rfl,hv⟩,trivial⟩
 | .mp _,0,cs,hr=>by have:cs=_:=hr;subst this;exact⟨hr,trivial⟩
 | .mp _,_+1,_,⟨v,e,hv⟩=>by subst e;exact⟨⟨v,rfl,hv⟩,trivial⟩
 | .fn,x,cs,hr=>by have:cs=_:=hr;subst this;exact⟨hr,trivial⟩
 | .mN t,none,cs,hr=>by have:cs=_:=hr;subst this;exact⟨hr,trivial⟩
 | .mN t,some xs,cs,hr=>by have h':=hr;obtain⟨ad,c,bl,h1,_⟩:=h';subst h1;exact⟨hr,trivial⟩
theorem fN {V:View}:∀{t:Ty} {x:t.den} {cs:List Value},aE (bw V) (flat t x) cs→Rel V t x cs
 | .int k,x,[v],h=>h.1
 | .bool,x,[v],h=>h.1
 | .str,x,[v],h=>h.1
 | .slice t,xs,[v],h=>h.1
 | .ref _,_,[v],h=>h.1
 | .ptr _,_,[v],h=>h.1
 | .mN _,_,[v],h=>h.1
 | .mp _,_,[v],h=>h.1
 | .fn,_,[v],h=>h.1
 | .mN _,_,[],h=>h.elim
 | .mp _,_,[],h=>h.elim
 | .fn,_,[],h=>h.elim
 | .mN _,_,_::_::_,h=>h.2.elim
 | .mp _,_,_::_::_,h=>h.2.elim
 | .fn,_,_::_::_,h=>h.2.elim
 | .ref _,_,[],h=>h.elim
 | .ptr _,_,[],h=>h.elim
 | .ref _,_,_::_::_,h=>h.2.elim
 | .ptr _,_,_::_::_,h=>h.2.elim
 | .int k,x,[],h=>h.elim
 | .bool,x,[],h=>h.elim
 | .str,x,[],h=>h.elim
 | .slice t,xs,[],h=>h.elim
 | .int k,x,_::_::_,h=>h.2.elim
 | .bool,x,_::_::_,h=>h.2.elim
 | .str,x,_::_::_,h=>h.2.elim
 | .slice t,xs,_::_::_,h=>h.2.elim
 | .unit,_,[],h=>rfl
 | .unit,_,_::_,h=>h.elim
 | .pair a b,x,cs,h=>by obtain⟨c1,c2,rfl,h1,h2⟩:=aE.split (xs:=flat a x.1) h;exact⟨c1,c2,rfl,fN h1,fN h2⟩
 | .st t,x,cs,h=>fN (t:=t) h
def cE (t:Ty):List CV→Option (t.den×List CV)
 | ⟨t',x⟩::r=>if h:t'=t then some (h ▸ x,r) else none
 | []=>none
def Cd:(t:Ty)→List CV→Option (t.den×List CV)
 | .unit,l=>some ((),l)
 | .pair a b,l=>match Cd a l with
   |some (x,l')=>match Cd b l' with
    |some (y,VO)=>some ((x,y),VO)
    |none=>none
   |none=>none
 | .st t,l=>Cd t l
 | .int k,l=>cE (.int k) l
 | .bool,l=>cE .bool l
 | .str,l=>cE .str l
 | .slice t,l=>cE (.slice t) l
 | .ref h,l=>cE (.ref h) l
 | .ptr h,l=>cE (.ptr h) l
 | .mN t,l=>cE (.mN t) l
 | .mp h,l=>cE (.mp h) l
 | .fn,l=>cE .fn l
theorem bG {t:Ty}{l:List CV}{x:t.den}{r:List CV}(h:cE t l=some (x,r)):l=⟨t,x⟩::r:=by
 cases l with
 |nil=>simp[cE] at h
 |cons c l=>
  obtain⟨t',y⟩:=c;simp only[cE] at h;split at h
  ·rename_i e;subst e;simp only[Option.some.injEq,Prod.mk.injEq] at h;obtain⟨rfl,rfl⟩:=h;rfl
  ·simp at h
theorem AJ:∀{t:Ty} {l:List CV} {x:t.den} {r:List CV},Cd t l=some (x,r)→l=flat t x++r
 | .unit,l,x,r,h=>by simp[Cd] at h;simp[flat,h]
 | .pair a b,l,x,r,h=>by
   simp only[Cd] at h;split at h
   ·rename_i y l' h1;split at h
    ·rename_i z VO h2;simp only[Option.some.injEq,Prod.mk.injEq] at h;obtain⟨rfl,rfl⟩:=h;rw[AJ h1,AJ h2];simp[flat]
    ·simp at h
   ·simp at h
 | .st t,l,x,r,h=>AJ (t:=t) h
 | .int k,l,x,r,h=>bG h
 | .bool,l,x,r,h=>bG h
 | .str,l,x,r,h=>bG h
 | .slice t,l,x,r,h=>bG h
 | .ref _,l,x,r,h=>bG h
 | .ptr _,l,x,r,h=>bG h
 | .mN _,l,x,r,h=>bG h
 | .mp _,l,x,r,h=>bG h
 | .fn,l,x,r,h=>bG h
def sP (t:Ty)(l:List CV):Option t.den:=
 match Cd t l with
 |some (x,[])=>some x
 |_=>none
theorem lU {t:Ty}{l:List CV}{x:t.den}(h:sP t l=some x):l=flat t x:=by
 unfold sP at h;split at h
 ·rename_i y h1;simp only[Option.some.injEq] at h;subst h;simpa using AJ h1
 ·simp at h
def wrap (t:Ty)(cs:List Value):Value:=match t with
 | .st _=> .agg cs.toArray
 |_=>cs.headD undef
theorem Hm {V:View}{c:CV}{v:Value}(h:bw V c v):v.oneCell'=true:=by
 obtain⟨t,x⟩:=c;unfold bw at h;induction t with
 |int k=>have: [v]=_:=h;simp at this;subst this;rfl
 |bool=>have: [v]=_:=h;simp at this;subst this;rfl
 |str=>have: [v]=_:=h;simp at this;subst this;rfl
 |slice t ih=>obtain⟨A,c,bl,h1,_⟩:=h;simp at h1;subst h1;rfl
 |unit=>have: [v]=_:=h;simp at this
 |pair a b MG K6=>
  obtain⟨c1,c2,e,h1,h2⟩:=h;cases c1 with
  |nil=>simp at e;subst e;exact K6 _ h2
  |cons y ys=>simp at e;obtain⟨rfl,h3⟩:=e;obtain⟨rfl,rfl⟩:=h3;exact MG _ h1
 |st t ih=>exact ih x h
 |ref _=>
  cases x with
  |zero=>have: [v]=_:=h;simp at this;subst this;rfl
  |succ m=>obtain⟨u,e,hs,_⟩:=h;simp at e;subst e;obtain⟨a,n,c,rfl⟩:=hs;rfl
 |ptr _=>
  cases x with
  |zero=>have: [v]=_:=h;simp at this;subst this;rfl
  |succ m=>obtain⟨u,e,hs,_⟩:=h;simp at e;subst e;obtain⟨a,rfl⟩:=hs;rfl
 |mp _=>
  cases x with
  |zero=>have: [v]=_:=h;simp at this;subst this;rfl
  |succ m=>obtain⟨u,e,hs,_⟩:=h;simp at e;subst e;obtain⟨a,rfl⟩:=hs;rfl
 |fn=>have: [v]=_:=h;simp at this;subst this;cases x<;>rfl
 |mN t ih=>
  cases x with
  |none=>have: [v]=_:=h;simp at this;subst this;rfl
  |some xs=>obtain⟨ad,c,bl,h1,_⟩:=h;simp at h1;subst h1;rfl
theorem xA {V:View}{c:CV}{v:Value}(h:bw V c v):v.cells= #[v]:=by have:=Hm h;cases v<;>first |rfl | (simp[Value.oneCell'] at this)
structure Row where
 e:TypeId
 t:Ty
 xs:List t.den
inductive BX where
 |cells (l:List CV) |own (r:Nat) |nil
inductive yy where
 |box (b:Nat) |pO (cs:List CV)
inductive RV where
 |cv (c:CV) |agg (cs:List CV) |own (r:Nat)
inductive AV where
 |rv (x:RV)
 |lit (v:Value)
 |box (b off:Nat)
 |CX (r sz i off:Nat)
 |pO (cs:List CV)
 |hel (h n i off:Nat)
 |fn (f:FuncId) (aP:List yy)
 |Gw
 |RG (l:List RV)
 |X7 (t:TypeId) (cs:List CV)
 |nil
structure dW where
 n:Nat
 l:List (Nat×AV)
 s:List (Nat×AV)
structure bh where
 e:TypeId
 t:Ty
 k:Nat
 w:Bool
 xs:List (Option (List t.den))
@[reducible] def gR:List Ty→Ty
  | []=> .unit
  |t::ts=> .pair t (gR ts)
structure VP where
 ts:List Ty
 xs:List (gR ts).den
inductive Site where
 |mN |heap (h:Nat) |vid (v:Nat) |pur
structure AS where
 tmps:dW
 rows:List (Nat×Row)
 boxes:List (Nat×BX)
 ab:List bh
 trace:CV
 cd:List VP
 sites:List (Nat×Site)
structure eI where
 id:TypeId
 ty:Ty
 bytes:Nat
 elem:TypeId
 lV:List (Nat×Nat)
 arr:Bool
@[reducible] def nt:List Ty→Type
  | []=>Unit
  | [a]=>a.den
  |a::b::r=>a.den×nt (b::r)
inductive jM where
 |v (t:Ty) |fn (f:FuncId) (ts:List Ty) |c (l:List CV) |rp (t:Ty) |bx (t:Ty) |Gw
@[reducible] def jM.den:jM→Type
  | .v t=>t.den
  | .fn _ ts=>nt ts
  | .c _=>Unit
  | .rp t=>t.den
  | .bx t=>t.den
  | .Gw=>Unit
@[reducible] def xB:List jM→Type
  | []=>Unit
  | [a]=>a.den
  |a::b::r=>a.den×xB (b::r)
abbrev Ba:=Ty×Option TypeId
structure za where
 args:List jM
 res:List Ba
 Xq:Option (FuncId×List Ty)
 ab:List (Nat×Bool)
 gen:Option (List Ty)
@[reducible] def Ce (s:za):Type:=match s.gen with
  |some ts=>List (gR ts).den
  |none=>match s.Xq with
   |some (_,ts)=>nt ts
   |none=>nt (s.res.map (·.1))
structure HT where
 e:TypeId
 t:Ty
 k:Nat
structure cm where
 rows:List eI
 ab:List HT
 real:Nat→FuncId
 sig:Nat→za
 V4:FuncId→List Nat
 hint:Nat→List (List (Nat×Bool))
 sites:Nat→List (Nat×Site)
 Xr:List (Nat×AV)
 eqs:List TypeId
 Gx:List (TypeId×String×FuncId)
def MH:List (TypeId×String×FuncId)→TypeId→String→Option FuncId
 | [],_,_=>none
 |p::r,t,m=>bif Nat.beq p.1 t&&p.2.1==m then some p.2.2 else MH r t m
def gE:List eI→TypeId→Option eI
 | [],_=>none
 |r::rs,t=>bif Nat.beq r.id t then some r else gE rs t
def cm.ht (T:cm)(h:Nat):HT:=(T.ab[h]?).getD ⟨0, .unit,0⟩
@[reducible] def HX (T:cm)(h:Nat):Type:=List (Option (List (T.ht h).t.den))
@[reducible] def wk (T:cm):List Nat→Type
  | []=>Unit
  | [h]=>HX T h
  |h::i::r=>HX T h×wk T (i::r)
@[reducible] def CY (T:cm)(A:Type):List Nat→Type
  | []=>A
  |h::r=>A×wk T (h::r)
@[reducible] def za.hin (s:za):List Nat:=s.ab.map (·.1)
@[reducible] def za.hout (s:za):List Nat:=(s.ab.filter (·.2)).map (·.1)
@[reducible] def wj (T:cm)(v:Nat):Type:=CY T (xB (T.sig v).args) (T.sig v).hin
@[reducible] def pP (T:cm)(v:Nat):Type:=CY T (Ce (T.sig v)) (T.sig v).hout
abbrev bE (T:cm):=(v:Nat)→wj T v→Option (pP T v)
def zb {T:cm}{A:Type}(x:A):(hs:List Nat)→Option (wk T hs)→Option (CY T A hs)
 | [],_=>some x
 |_::_,some h=>some (x,h)
 |_::_,none=>none
def oX {T:cm}{A:Type}:(hs:List Nat)→CY T A hs→A
 | [],x=>x
 |_::_,x=>x.1
def vC {T:cm}{A:Type}:(hs:List Nat)→CY T A hs→wk T hs
 | [],x=>()
 |_::_,x=>x.2
def Fz {s t:Ty}(h:s=t)(xs:List (Option (List s.den))):List (Option (List t.den)):=h ▸ xs
def Qz (T:cm)(ab:List bh)(h:Nat):Option (HX T h):=match ab[h]? with
 |some r=>if e:r.t=(T.ht h).t then some (Fz e r.xs) else none
 |none=>none
def Cf (T:cm)(ab:List bh):(hs:List Nat)→Option (wk T hs)
 | []=>some ()
 | [h]=>Qz T ab h
 |h::i::r=>match Qz T ab h with
  |some x=>match Cf T ab (i::r) with
   |some y=>some (x,y)
   |none=>none
  |none=>none
def nJ (T:cm)(w:Bool)(ab:List bh)(h:Nat)(x:HX T h):List bh:=ab.set h ⟨(T.ht h).e,(T.ht h).t,(T.ht h).k,w,x⟩
def lW (T:cm)(wr:List Nat):(hs:List Nat)→wk T hs→List bh→List bh
 | [],_,ab=>ab
 | [h],x,ab=>nJ T (wr.any (Nat.beq h)) ab h x
 |h::i::r,x,ab=>lW T wr (i::r) x.2 (nJ T (wr.any (Nat.beq h)) ab h x.1)
def ek (T:cm):List bh:=T.ab.map fun h=>⟨h.e,h.t,h.k,true,[]⟩
def look {α:Type}:List (Nat×α)→Nat→Option α
 | [],_=>none
 | (k,v)::r,j=>bif Nat.beq k j then some v else look r j
def put {α:Type}:List (Nat×α)→Nat→α→List (Nat×α)
 | [],j,v=>[(j,v)]
 | (k,u)::r,j,v=>bif Nat.blt j k then (j,v)::(k,u)::r else bif Nat.beq k j then (j,v)::r else (k,u)::put r j v
def del {α:Type}:List (Nat×α)→Nat→List (Nat×α)
 | [],_=>[]
 | (k,u)::r,j=>bif Nat.beq k j then del r j else (k,u)::del r j
def Cg {α:Type}:List (Nat×α)→Nat→α→List (Nat×α)
 | [],j,v=>[(j,v)]
 | (k,u)::r,j,v=>bif Nat.blt k j then (j,v)::(k,u)::r else bif Nat.beq k j then (j,v)::r else (k,u)::Cg r j v
def V5 {α:Type}:List (Nat×α)→Nat→α→List (Nat×α)
 | [],_,_=>[]
 | (k,u)::r,j,v=>bif Nat.beq k j then (k,v)::r else (k,u)::V5 r j v
def ae {α:Type}(xs:List (Option (List α))):Nat→Option (List α)
 |0=>some []
 |m+1=>match xs[m]? with
  |some o=>o
  |none=>none
def gF {α:Type}(xs:List (Option (List α))):Nat→List α→List (Option (List α))
 |0,_=>xs
 |m+1,l=>xs.set m (some l)
def jB {α:Type}(xs:List (Option (List α))):Nat→List (Option (List α))
 |0=>xs
 |m+1=>xs.set m none
def hk (h:Nat):Nat:=4*(1000000000+h)
def gk (g:Nat):Nat:=1000000000+g
def nth (s:dW)(i:Nat):AV:=
 match look s.l i with
 |some x=>x
 |none=> .nil
def uG (s:dW)(i:Nat)(v:AV):dW:=bif Nat.blt i s.n then ⟨s.n,Cg s.l i v,s.s⟩ else s
def Jp (f:AV→AV)(l:List (Nat×AV)):List (Nat×AV):=l.map fun p=>(p.1,f p.2)
def dW.map (f:AV→AV)(s:dW):dW:=⟨s.n,Jp f s.l,Jp f s.s⟩
def Tt {α:Type}:Nat→List α→List (Nat×α)→List (Nat×α)
 |_,[],acc=>acc
 |i,x::r,acc=>Tt (i+1) r ((i,x)::acc)
def dW.of (l:List AV)(m:Nat)(s:List (Nat×AV)):dW:=⟨l.length+m,Tt 0 l [],s⟩
def ofConst:Value→AV
 | .int k n=> .rv (.cv ⟨.int k,n⟩)
 | .bool b=> .rv (.cv ⟨.bool,b⟩)
 | .string s=> .rv (.cv ⟨.str,s⟩)
 |v=> .lit v
def dW.av (s:dW):Operand→AV
 | .tmp t=>nth s t
 | .const v=>ofConst v
 | .func f=> .fn f []
 | .global g=>match look s.s (gk g) with
   |some x=>x
   |none=> .nil
abbrev AS.av (σ:AS)(x:Operand):AV:=σ.tmps.av x
def AS.fG (σ:AS)(d:Option Tmp)(v:AV):AS:=
 match d with
 |some d=>{σ with tmps:=uG σ.tmps d v}
 |none=>σ
def idx {α:Type}(xs:List α)(i:Int):Option α:=
 match i with
 | .ofNat n=>xs[n]?
 | .negSucc _=>none
def En (s:ByteArray)(i:Int):Option Int:=
 match i with
 | .ofNat n=>s[n]?.map fun b=>(b.toNat:Int)
 | .negSucc _=>none
def nc (n:Nat)(l h:Int):Bool:=decide (0≤l)&&decide (l≤h)&&decide (h≤n)
def cut {α:Type}(xs:List α)(l h:Int):List α:=(xs.take h.toNat).drop l.toNat
def bytesOf (s:ByteArray):List Int:=s.data.toList.map fun b=>(b.toNat:Int)
def strOf (xs:List Int):ByteArray:=⟨(xs.map fun n=>UInt8.ofNat n.toNat).toArray⟩
def cB:(t:Ty)→List Value→Option (List CV×List Value)
 | .unit,l=>some ([],l)
 | .pair a b,l=>match cB a l with
   |some (x,l')=>match cB b l' with
    |some (y,VO)=>some (x++y,VO)
    |none=>none
   |none=>none
 | .st t,l=>cB t l
 | .int k, .int k' n::l=>if k=k' then some ([⟨.int k,n⟩],l) else none
 | .bool, .bool b::l=>some ([⟨.bool,b⟩],l)
 | .str, .string s::l=>some ([⟨.str,s⟩],l)
 | .slice t, .slice none 0 0::l=>some ([⟨.slice t,([]:List t.den)⟩],l)
 | .ref h, .slice none 0 0::l=>some ([⟨.ref h,(0:Nat)⟩],l)
 | .ptr h, .pointer none::l=>some ([⟨.ptr h,(0:Nat)⟩],l)
 | .mp h, .map none::l=>some ([⟨.mp h,(0:Nat)⟩],l)
 | .mN t, .slice none 0 0::l=>some ([⟨.mN t,(none:Option (List t.den))⟩],l)
 | .fn, .nilFunc::l=>some ([⟨.fn,(0:Nat)⟩],l)
 |_,_=>none
def cells (t:Ty):AV→Option (List CV)
 | .rv (.cv c)=>some [c]
 | .rv (.agg cs)=>some cs
 | .lit v=>match cB t v.cells.toList with
   |some (cs,[])=>some cs
   |_=>none
 |_=>none
def K7 {α:Type}:Option (List α)→List α
 |some xs=>xs
 |none=>[]
def mO {α β:Type}(f:α→Option β):List α→Option (List β)
 | []=>some []
 |x::r=>match f x with
  |some y=>match mO f r with
   |some l=>some (y::l)
   |none=>none
  |none=>none
def OY (ab:List bh)(t:Ty)(f:(u:Ty)→u.den→Option t.den):List CV→Option (List t.den×List CV)
 | ⟨.ref h,n⟩::l=>bif Nat.beq n 0 then some ([],l) else match ab[h]? with
   |some hr=>(ae hr.xs n).bind fun ys=>(mO (f hr.t) ys).bind fun xs=>some (xs,l)
   |none=>none
 | ⟨.mN t',o⟩::l=>(cE (.slice t) [⟨.slice t',K7 o⟩]).map fun p=>(p.1,l)
 |l=>cE (.slice t) l
def K8 (t:Ty):List CV→Option (Option (List t.den)×List CV)
 | ⟨.slice t',xs⟩::l=>match (xs:List t'.den) with
   | []=>none
   |x::xs=>(cE (.mN t) [⟨.mN t',some (x::xs)⟩]).map fun p=>(p.1,l)
 |l=>cE (.mN t) l
def K9 (h:Nat):List CV→Option (Nat×List CV)
 | ⟨.ref h',n⟩::l=>bif Nat.beq h h' then cE (.ref h) (⟨.ref h',n⟩::l) else bif Nat.beq n 0 then some (0,l) else none
 |l=>cE (.ref h) l
def snap (ab:List bh):(t:Ty)→List CV→Option (t.den×List CV)
 | .unit,l=>some ((),l)
 | .pair a b,l=>match snap ab a l with
   |some (x,l')=>match snap ab b l' with
    |some (y,VO)=>some ((x,y),VO)
    |none=>none
   |none=>none
 | .st t,l=>snap ab t l
 | .slice t,l=>OY ab t (fun u y=>match snap ab t (flat u y) with
   |some (x,[])=>some x
   |_=>none) l
 | .mN t,l=>K8 t l
 | .int k,l=>cE (.int k) l
 | .bool,l=>cE .bool l
 | .str,l=>cE .str l
 | .ref h,l=>K9 h l
 | .ptr h,l=>cE (.ptr h) l
 | .mp h,l=>cE (.mp h) l
 | .fn,l=>cE .fn l
def sB (ab:List bh)(t:Ty)(l:List CV):Option t.den:=match snap ab t l with
 |some (x,[])=>some x
 |_=>none
def typed (ab:List bh)(t:Ty)(a:AV):Option t.den:=
 match t,a with
 | .st t, .rv (.agg cs)=>sB ab t cs
 | .st t, .lit (.agg vs)=>match cB t vs.toList with
   |some (cs,[])=>sP t cs
   |_=>none
 | .st _,_=>none
 |t, .rv (.cv c)=>sB ab t [c]
 |t, .lit v=>match cB t [v] with
  |some ([c],[])=>(cE t [c]).map (·.1)
  |_=>none
 |_,_=>none
def La (t:Ty):List CV:=flat t t.zero
def xC (cs:List CV)(off:Nat)(vs:List CV):List CV:=cs.take off++vs++cs.drop (off+vs.length)
def jC (t:Ty)(cs:List CV):Option AV:=
 match t with
 | .st t=>bif Nat.ble t.size cs.length then some (.rv (.agg (cs.take t.size))) else none
 |_=>match cs with
  |c::_=>some (.rv (.cv c))
  | []=>none
def RV.n7 (r:Nat)(c:CV):RV→RV
 | .own r'=>bif Nat.beq r' r then .cv c else .own r'
 |x=>x
def AV.n7 (r:Nat)(c:CV):AV→AV
 | .rv x=> .rv (x.n7 r c)
 | .CX r' sz i off=>bif Nat.beq r' r then .nil else .CX r' sz i off
 | .RG l=> .RG (l.map (RV.n7 r c))
 |x=>x
def BX.n7 (r:Nat)(c:CV):BX→BX
 | .own r'=>bif Nat.beq r' r then .cells [c] else .own r'
 |x=>x
def zc (f:BX→BX)(l:List (Nat×BX)):List (Nat×BX):=l.map fun p=>(p.1,f p.2)
def AS.freeze (σ:AS)(r:Nat):AS:=
 match look σ.rows r with
 |none=>σ
 |some row=>{σ with tmps:=σ.tmps.map (AV.n7 r ⟨.slice row.t,row.xs⟩),rows:=del σ.rows r,boxes:=zc (BX.n7 r ⟨.slice row.t,row.xs⟩) σ.boxes}
def AS.OZ (σ:AS)(x:Operand):AS:=
 match σ.av x with
 | .rv (.own r)=>σ.freeze r
 |_=>σ
def AS.oR (σ:AS):List Operand→AS
 | []=>σ
 |x::xs=>(σ.OZ x).oR xs
def RV.MI (r d:Nat):RV→RV
 | .own r'=> .own (bif Nat.beq r' r then d else r')
 |x=>x
def AV.MI (r d:Nat):AV→AV
 | .rv x=> .rv (x.MI r d)
 | .CX r' sz i off=> .CX (bif Nat.beq r' r then d else r') sz i off
 | .RG l=> .RG (l.map (RV.MI r d))
 |x=>x
def BX.MI (r d:Nat):BX→BX
 | .own r'=> .own (bif Nat.beq r' r then d else r')
 |x=>x
def AS.rename (σ:AS)(r d:Nat):AS:=
 match look σ.rows r with
 |none=>σ
 |some row=>{σ with tmps:=σ.tmps.map (AV.MI r d),rows:=put (del σ.rows r) d row,boxes:=zc (BX.MI r d) σ.boxes}
def RV.pS (r:Nat):RV→Bool
 | .own r'=>Nat.beq r r'
 |_=>false
def yy.ZL (b:Nat):yy→Bool
 | .box b'=>Nat.beq b b'
 |_=>false
def AV.dY (r:Nat):AV→Bool
 | .rv x=>x.pS r
 | .CX r' _ _ _=>Nat.beq r r'
 | .RG l=>l.any (RV.pS r)
 |_=>false
def AV.iK (b:Nat):AV→Bool
 | .box b' _=>Nat.beq b b'
 | .fn _ aP=>aP.any (yy.ZL b)
 |_=>false
def BX.dY (r:Nat):BX→Bool
 | .own r'=>Nat.beq r r'
 |_=>false
def AV.bd (r:Nat)(x:AV):AV:=bif x.dY r then .nil else x
def AV.dr (b:Nat)(x:AV):AV:=bif x.iK b then .nil else x
def BX.bd (r:Nat)(x:BX):BX:=bif x.dY r then .nil else x
def AS.bd (σ:AS)(r:Nat):AS:={σ with tmps:=σ.tmps.map (AV.bd r),rows:=del σ.rows r,boxes:=zc (BX.bd r) σ.boxes}
def AS.dr (σ:AS)(b:Nat):AS:={σ with tmps:=σ.tmps.map (AV.dr b),boxes:=del σ.boxes b}
def Tu (l:List (Nat×AV))(h:List (Nat×Bool)):List (Nat×AV):=l.filter fun x=>h.any fun p=>Nat.beq p.1 x.1
def AS.share (σ:AS):List (Nat×Bool)→AS
 | []=>σ
 | (j,true)::h=>(σ.OZ (.tmp j)).share h
 | (_,false)::h=>σ.share h
def AS.forget (Eo:AS)(h:List (Nat×Bool)):AS:=
 let σ:=Eo.share h
 let l:=Tu σ.tmps.l h
 let bs:=σ.boxes.filter fun p=>l.any (fun q=>q.2.iK p.1)||σ.tmps.s.any fun q=>q.2.iK p.1
 {σ with tmps:=⟨σ.tmps.n,l,σ.tmps.s⟩,rows:=σ.rows.filter fun p=>(l.any fun q=>q.2.dY p.1)||(σ.tmps.s.any fun q=>q.2.dY p.1)||bs.any fun q=>q.2.dY p.1,boxes:=bs}
def AS.save (σ:AS):AS:={σ with tmps:=⟨σ.tmps.n,σ.tmps.l,(σ.tmps.l.map fun p=>(p.1+10000*σ.cd.length,p.2))++σ.tmps.s⟩}
def iu (d k:Nat):Bool:=Nat.ble (10000*d) k&&Nat.blt k (10000*(d+1))
def AS.back (σ:AS):AS:={σ with tmps:=⟨σ.tmps.n,(σ.tmps.s.filter fun p=>iu σ.cd.length p.1).map fun p=>(p.1 - 10000*σ.cd.length,p.2),σ.tmps.s⟩}
def AS.tj (σ:AS):AS:={σ with tmps:=⟨σ.tmps.n,σ.tmps.l,σ.tmps.s.filter fun p=> !(iu σ.cd.length p.1)⟩}
inductive js where
 |M (rd wr:List Nat) |X
def js.rd (k:Nat):js→js
 | .M r w=> .M (k::r) w
 | .X=> .X
inductive TU where
 |row (q:Nat) (r:Row)
 |zd (q:Nat) (r:Row)
 |box (b:Nat) (x:BX)
 |heap (h:Nat) (r:bh)
def TU.keys:TU→List Nat
 | .row q _=>[4*q,4*q+2]
 | .zd q _=>[4*q]
 | .box b _=>[2*b+1]
 | .heap h _=>[hk h]
def AS.one (σ:AS):TU→AS
 | .row q r=>{σ with rows:=put σ.rows q r}
 | .zd q r=>{σ with rows:=put σ.rows q r}
 | .box b x=>{σ with boxes:=put σ.boxes b x}
 | .heap h r=>{σ with ab:=σ.ab.set h r}
def AS.app (σ:AS):List TU→AS
 | []=>σ
 |u::us=>(σ.one u).app us
def MJ (us:List TU):List Nat:=us.flatMap TU.keys
inductive RH where
 |kt (us:List TU)
 |set (σ:AS)
inductive Q (T:cm) (α:Type):Type 1 where
 |ret (a:α)
 |fail
 |opt {β:Type} (o:Option β) (k:β→Q T α)
 |gG (b:Bool) (k:Q T α)
 |ite (b:Bool) (x y:Q T α)
 |row (q:Nat) (k:Row→Q T α)
 |len (q:Nat) (k:Nat→Q T α)
 |box (b:Nat) (k:BX→Q T α)
 |heap (h:Nat) (k:bh→Q T α)
 |lC (q:Nat) (k:Q T α)
 |lD (b:Nat) (k:Q T α)
 |call (v:Nat) (x:wj T v) (k:pP T v→Q T α)
 |all (k:AS→Q T α)
 |on (σ:AS) (k:Q T α)
section
variable {R:Type}{T:cm}
def Q.run {α:Type}(Φ:bE T)(σ:AS):Q T α→js→(js→α→Option R)→Option R
 | .ret a,c,k=>k c a
 | .fail,_,_=>none
 | .opt o q,c,k=>o.bind fun y=>(q y).run Φ σ c k
 | .gG b q,c,k=>bif b then q.run Φ σ c k else none
 | .ite b x y,c,k=>bif b then x.run Φ σ c k else y.run Φ σ c k
 | .row r q,c,k=>match look σ.rows r with
   |some x=>(q x).run Φ σ (c.rd (4*r)) k
   |none=>none
 | .len r q,c,k=>match look σ.rows r with
   |some x=>(q (List.length x.xs)).run Φ σ (c.rd (4*r+2)) k
   |none=>none
 | .box b q,c,k=>match look σ.boxes b with
   |some x=>(q x).run Φ σ (c.rd (2*b+1)) k
   |none=>none
 | .heap h q,c,k=>match σ.ab[h]? with
   |some x=>(q x).run Φ σ (c.rd (hk h)) k
   |none=>none
 | .lC r q,c,k=>match look σ.rows r with
   |none=>q.run Φ σ (c.rd (4*r)) k
   |some _=>none
 | .lD b q,c,k=>match look σ.boxes b with
   |none=>q.run Φ σ (c.rd (2*b+1)) k
   |some _=>none
 | .call v x q,c,k=>(Φ v x).bind fun y=>(q y).run Φ σ c k
 | .all q,_,k=>(q σ).run Φ σ .X k
 | .on af q,_,k=>q.run Φ af .X k
def Q.map {α β:Type}(f:α→β):Q T α→Q T β
 | .ret a=> .ret (f a)
 | .fail=> .fail
 | .opt o q=> .opt o fun y=>(q y).map f
 | .gG b q=> .gG b (q.map f)
 | .ite b x y=> .ite b (x.map f) (y.map f)
 | .row r q=> .row r fun y=>(q y).map f
 | .len r q=> .len r fun y=>(q y).map f
 | .box r q=> .box r fun y=>(q y).map f
 | .heap r q=> .heap r fun y=>(q y).map f
 | .lC r q=> .lC r (q.map f)
 | .lD r q=> .lD r (q.map f)
 | .call v x q=> .call v x fun y=>(q y).map f
 | .all q=> .all fun y=>(q y).map f
 | .on σ q=> .on σ (q.map f)
abbrev bH:=AV×RH
def O0 (op:BinOp)(a b:Int):Option Bool:=
 match op with
 | .eql=>some (a==b)
 | .neq=>some (a != b)
 | .lss=>some (decide (a<b))
 | .leq=>some (decide (a≤b))
 | .gtr=>some (decide (a>b))
 | .geq=>some (decide (a≥b))
 |_=>none
def Lb (op:BinOp)(x y:ByteArray):Option Bool:=
 match op with
 | .eql=>some (x.toList==y.toList)
 | .neq=>some (!(x.toList==y.toList))
 | .lss=>some (Op.bytesLess x.toList y.toList)
 | .leq=>some (Op.bytesLess x.toList y.toList||x.toList==y.toList)
 | .gtr=>some (!(Op.bytesLess x.toList y.toList||x.toList==y.toList))
 | .geq=>some (!(Op.bytesLess x.toList y.toList))
 |_=>none
def bits (op:BinOp)(i:IntKind)(a b:Int):Int:=match op with
 | .and=>i.wrap (BitVec.ofInt i.bits a&&& BitVec.ofInt i.bits b).toNat
 | .or=>i.wrap (BitVec.ofInt i.bits a|||BitVec.ofInt i.bits b).toNat
 | .xor=>i.wrap (BitVec.ofInt i.bits a^^^BitVec.ofInt i.bits b).toNat
 |_=>i.wrap (BitVec.ofInt i.bits a&&& ~~~ BitVec.ofInt i.bits b).toNat
def shl (i:IntKind)(a b:Int):Int:=i.wrap (a*2^(min b.toNat i.bits))
def shr (i:IntKind)(a b:Int):Int:=a.fdiv (2^(min b.toNat i.bits))
def CZ:(t:Ty)→t.den→t.den→Bool
 | .int _,a,b=>(a:Int)==b
 | .bool,a,b=>(a:Bool)==b
 | .str,a,b=>(a:ByteArray).toList==(b:ByteArray).toList
 | .pair s t,a,b=>CZ s a.1 b.1&&CZ t a.2 b.2
 | .st t,a,b=>CZ t a b
 | .unit,_,_=>true
 |_,_,_=>false
def Lc:Ty→Bool
 | .int _ | .bool | .str | .unit=>true
 | .pair a b=>Lc a&&Lc b
 | .st t=>Lc t
 |_=>false
def yz:Ty→Bool
 | .int _ | .bool | .str | .unit | .fn=>true
 | .pair a b=>yz a&&yz b
 | .st t=>yz t
 |_=>false
def vD:Ty→Bool
 | .slice _ | .mN _=>false
 | .pair a b=>vD a&&vD b
 | .st t=>vD t
 |_=>true
def dH (hs:List Nat):Ty→Bool
 | .ref h | .ptr h | .mp h=>hs.any (Nat.beq h)
 | .slice t | .mN t | .st t=>dH hs t
 | .pair a b=>dH hs a&&dH hs b
 |_=>true
def hU (T:cm)(s:za):Bool:=s.Xq.isNone&&(s.hout.all fun h=>vD (T.ht h).t)&&match s.gen with
 |some ts=>ts.all yz
 |none=>s.res.all fun p=>match p.1,p.2 with
  | .slice t,some _=>vD t
  |t,none=>vD t
  |_,_=>false
def G5 (hs:List Nat):jM→Bool
 | .v t | .rp t | .bx t=>dH hs t
 | .fn _ ts=>ts.all (dH hs)
 | .c cs=>cs.all fun c=>dH hs c.1
 | .Gw=>true
def yA (T:cm)(s:za):Bool:=s.args.all (G5 s.hin)&&(s.hin.all fun h=>dH s.hin (T.ht h).t)&&((s.res.all fun p=>dH s.hin p.1)&&(match s.Xq with |some (_,ts)=>ts.all (dH s.hin) |none=>true)&&match s.gen with
 |some ts=>ts.all yz&&s.ab.isEmpty
 |none=>true)
def pv (z:AV):Q T bH:= .ret (z, .kt [])
def uH (t:Ty)(x:t.den):Q T bH:=pv (.rv (.cv ⟨t,x⟩))
def gL {α:Type}(f:α→Q T bH):Option α→Q T bH
 |some x=>f x
 |none=> .fail
def RI (op:BinOp)(x y:AV):Q T bH:=
 match x,y with
 | .rv (.cv ⟨.int i,a⟩), .rv (.cv ⟨.int j,b⟩)=>
   match op with
   | .shl=> .gG (decide (0≤b)) (uH (.int i) (shl i a b))
   | .shr=> .gG (decide (0≤b)) (uH (.int i) (shr i a b))
   |op=>if i=j then match op with
    | .add=>uH (.int i) (i.wrap (a+b))
    | .sub=>uH (.int i) (i.wrap (a - b))
    | .mul=>uH (.int i) (i.wrap (a*b))
    | .quo=> .gG (!(b==0)) (uH (.int i) (i.wrap (a.tdiv b)))
    | .rem=> .gG (!(b==0)) (uH (.int i) (a.tmod b))
    | .and=>uH (.int i) (bits .and i a b)
    | .or=>uH (.int i) (bits .or i a b)
    | .xor=>uH (.int i) (bits .xor i a b)
    | .andNot=>uH (.int i) (bits .andNot i a b)
    |op=>gL (fun c=>uH .bool c) (O0 op a b)
    else .fail
 | .rv (.cv ⟨.str,a⟩), .rv (.cv ⟨.str,b⟩)=>
   match op with
   | .add=> .gG (Nat.ble (a.size+b.size) 9223372036854775807) (uH .str (a++b))
   |_=>gL (fun c=>uH .bool c) (Lb op a b)
 |_,_=> .fail
def O4 (op:BinOp)(b:Bool):Q T bH:=match op with
 | .eql=>uH .bool b
 | .neq=>uH .bool (!b)
 |_=> .fail
def RJ (op:BinOp)(x y:AV):Q T bH:=
 match x,y with
 | .rv (.cv ⟨.bool,a⟩), .rv (.cv ⟨.bool,b⟩)=>O4 op (a==b)
 |_,_=> .fail
def RK (ty:Ty)(op:BinOp)(x y:AV):Q T bH:=
 match ty,x,y with
 | .slice _, .rv (.cv ⟨.ref _,n⟩), .lit (.slice none 0 0)=>O4 op (Nat.beq n 0)
 | .ptr _, .rv (.cv ⟨.ptr _,n⟩), .lit (.pointer none)=>O4 op (Nat.beq n 0)
 | .mp _, .rv (.cv ⟨.mp _,n⟩), .lit (.map none)=>O4 op (Nat.beq n 0)
 | .slice _, .rv (.cv ⟨.mN t,o⟩), .lit (.slice none 0 0)=>O4 op (Option.isNone (α:=List t.den) o)
 |_,_,_=> .fail
def Tv (t:Ty)(op:BinOp)(x y:AV):Q T bH:=
 match typed [] (.st t) x,typed [] (.st t) y with
 |some a,some b=> .gG (Lc t) (O4 op (CZ t a b))
 |_,_=> .fail
def co:AV→AV
 | .rv (.cv ⟨.mN t,o⟩)=> .rv (.cv ⟨.slice t,(K7 o:List t.den)⟩)
 |a=>a
def RL (ty:Ty)(x:AV):Q T bH:=
 match ty,co x with
 | .slice _, .rv (.cv ⟨.slice t,xs⟩)=>uH (.int .i64) (List.length xs:Int)
 | .str, .rv (.cv ⟨.str,s⟩)=>uH (.int .i64) (s.size:Int)
 | .slice _, .rv (.own r)=> .len r fun n=>uH (.int .i64) (n:Int)
 | .slice _, .lit (.slice none 0 0)=>uH (.int .i64) (0:Int)
 | .slice _, .rv (.cv ⟨.ref h,n⟩)=> .heap h fun hr=> .opt (ae hr.xs n) fun l=>uH (.int .i64) (List.length l:Int)
 |_,_=> .fail
def fO (av:Operand→AV)(d:Int):Option Operand→Option Int
 |none=>some d
 |some x=>match av x with
  | .rv (.cv ⟨.int _,n⟩)=>some n
  |_=>none
def JW (rows:List eI)(t:TypeId)(x:AV):Q T bH:=match gE rows t with
 |none=> .fail
 |some r=>match x with
  | .box b off=> .box b fun bx=>match bx with
    | .cells cs=>gL pv (jC r.ty (cs.drop off))
    | .own q=>match r.ty with
      | .slice _=> .gG (Nat.beq off 0) (pv (.rv (.own q)))
      |_=> .fail
    | .nil=> .fail
  | .CX q sz i off=> .row q fun row=> .opt (row.xs[i]?) fun x=>gL pv (jC r.ty ((flat row.t x).drop off))
  | .pO cs=>gL pv (jC r.ty cs)
  | .hel h n i off=> .heap h fun hr=> .opt (ae hr.xs n) fun l=> .opt (l[i]?) fun x=>gL pv (jC r.ty ((flat hr.t x).drop off))
  | .rv (.cv ⟨.ptr h,n⟩)=> .heap h fun hr=> .opt (ae hr.xs n) fun l=> .opt (l[0]?) fun x=>gL pv (jC r.ty (flat hr.t x))
  |_=> .fail
def BB (rows:List eI)(ty:TypeId)(x:AV):Q T bH:=match x with
 | .lit v=>match gE rows ty with
   |some r=>match r.ty with
    | .st t=>match v with
      | .agg vs=>match cB t vs.toList with
        |some (cs,[])=>pv (.rv (.agg cs))
        |_=> .fail
      |_=> .fail
    |_=>pv (.lit v)
   |none=> .fail
 | .nil=> .fail
 |a=>pv a
def partsOf (av:Operand→AV)(lV:List (Nat×Nat)):List (Nat×Operand)→List CV→Option (List CV)
 | [],cs=>some cs
 | (i,x)::r,cs=>match lV[i]? with
   |some (off,size)=>match av x with
    | .rv (.cv c)=>bif Nat.beq size 1&&Nat.blt off cs.length then partsOf av lV r (xC cs off [c]) else none
    | .rv (.agg vs)=>bif Nat.beq size vs.length&&Nat.ble (off+vs.length) cs.length then partsOf av lV r (xC cs off vs) else none
    |_=>none
   |none=>none
def elems (av:Operand→AV)(t:Ty):List (Nat×Operand)→List t.den→Option (List t.den)
 | [],xs=>some xs
 | (i,x)::r,xs=>match typed [] t (av x) with
   |some v=>bif Nat.blt i xs.length then elems av t r (xs.set i v) else none
   |none=>none
def Ep (rows:List eI)(t:TypeId)(x i:AV):Q T bH:=match gE rows t with
 |some r=>match i with
  | .rv (.cv ⟨.int _,n⟩)=>match r.ty,co x with
    | .slice u, .rv (.cv ⟨.slice u',xs⟩)=> .gG (Nat.beq u.size u'.size) (.opt (idx xs n) fun y=>pv (.pO (flat u' y)))
    | .slice u, .rv (.own q)=> .row q fun row=> .gG (Nat.beq u.size row.t.size) (.opt (idx row.xs n) fun _=>pv (.CX q row.t.size n.toNat 0))
    | .slice u, .rv (.cv ⟨.ref h,m⟩)=> .heap h fun hr=> .gG (Nat.beq u.size hr.t.size) (.opt (ae hr.xs m) fun l=> .opt (idx l n) fun _=>pv (.hel h m n.toNat 0))
    | .st _,a=>match n with
      | .ofNat m=> .gG r.arr <| match r.lV[m]? with
        |some (off,_)=>match a with
         | .box b o=>pv (.box b (o+off))
         | .CX q sz j o=>pv (.CX q sz j (o+off))
         | .pO cs=>pv (.pO (cs.drop off))
         | .hel h k j o=>pv (.hel h k j (o+off))
         |_=> .fail
        |none=> .fail
      | .negSucc _=> .fail
    |_,_=> .fail
  |_=> .fail
 |none=> .fail
def Er (rows:List eI)(s:TypeId)(x:AV)(f:Nat):Q T bH:=match gE rows s with
 |some r=> .gG (!r.arr) <| match r.lV[f]? with
  |some (off,size)=>match x with
   | .box b o=>pv (.box b (o+off))
   | .CX q sz i o=>pv (.CX q sz i (o+off))
   | .pO cs=>pv (.pO (cs.drop off))
   | .hel h n i o=>pv (.hel h n i (o+off))
   | .rv (.cv ⟨.ptr h,n⟩)=> .gG (!(Nat.beq n 0)) (pv (.hel h n 0 off))
   |_=> .fail
  |none=> .fail
 |none=> .fail
def JX (rows:List eI)(s d:TypeId)(x:AV):Q T bH:=match gE rows s,gE rows d with
 |some rs,some rd=>match rs.ty,rd.ty,x with
  | .int _, .int j, .rv (.cv ⟨.int _,a⟩)=>uH (.int j) (j.wrap a)
  | .str, .str, .rv (.cv ⟨.str,s⟩)=>uH .str s
  | .slice (.int .u8), .str, .rv (.cv ⟨.slice (.int .u8),xs⟩)=>uH .str (strOf xs)
  | .slice (.int .u8), .str, .rv (.own r)=> .row r fun row=>match row with
    | ⟨_, .int .u8,xs⟩=>uH .str (strOf xs)
    |_=> .fail
  | .str, .slice (.int .u8), .rv (.cv ⟨.str,s⟩)=> .gG (Nat.ble s.size 140737488355328) (uH (.slice (.int .u8)) (bytesOf s))
  |_,_,_=> .fail
 |_,_=> .fail
def oY (rows:List eI)(av:Operand→AV)(t:TypeId)(x:AV)(lo hi mx:Option Operand):Q T bH:=match gE rows t with
 |some r=>match mx with
  |none=>match r.ty,co x with
   | .str, .rv (.cv ⟨.str,s⟩)=>match fO av 0 lo,fO av s.size hi with
     |some l,some h=> .gG (nc s.size l h) (uH .str (s.extract l.toNat h.toNat))
     |_,_=> .fail
   | .slice u, .rv (.cv ⟨.slice u',xs⟩)=>match fO av 0 lo,fO av (List.length xs) hi with
     |some l,some h=> .gG (Nat.beq u.size u'.size&&nc (List.length xs) l h) (uH (.slice u') (cut xs l h))
     |_,_=> .fail
   |_,_=> .fail
  |some mx=>match r.ty,co x with
   | .slice u, .rv (.cv ⟨.slice u',xs⟩)=>match hi with
     |some hx=>match fO av 0 lo,fO av 0 (some hx),fO av 0 (some mx) with
      |some l,some h,some m=> .gG (Nat.beq u.size u'.size&&nc (List.length xs) l h&&decide (h≤m)&&decide (m≤List.length xs)) (uH (.slice u') (cut xs l h))
      |_,_,_=> .fail
     |none=> .fail
   |_,_=> .fail
 |none=> .fail
def pS:AV→Bool
 | .rv (.own _)=>true
 |_=>false
def tk (rows:List eI)(av:Operand→AV)(t:TypeId)(parts:List (Nat×Operand)):Q T bH:=match gE rows t with
 |some r=>match r.ty with
  | .st u=>gL (fun cs=>pv (.rv (.agg cs))) (partsOf av r.lV parts (La u))
  |_=> .fail
 |none=> .fail
def fP (bytes:Nat)(l c:Int):Bool:=decide (0≤l)&&decide (l≤c)&&decide ((bytes:Int)*c≤140737488355328)
def bj (bytes size n m:Nat):Bool:=Nat.blt 0 size&&Nat.ble ((n+m)*bytes) 140737488355328
def fw (T:List eI)(t:TypeId):Option (Ty×TypeId×Nat):=
 match gE T t with
 |some r=>match r.ty with
  | .slice u=>match gE T r.elem with
    |some re=>bif Nat.blt 0 re.bytes then some (u,r.elem,re.bytes) else none
    |none=>none
  |_=>none
 |none=>none
def BC (s:Option Site)(u:Ty):Ty:=match s,u with
 |some .mN, .slice v=> .mN v
 |_,u=>u
def ze (s:Option Site):Option Nat:=match s with
 |some (.heap h)=>some h
 |_=>none
def QA (T:List eI)(t:TypeId):Option Nat:=
 match gE T t with
 |some r=>match r.ty with
  | .ptr h=>some h
  |_=>none
 |none=>none
def MK (T:cm)(h:Nat)(hr:bh):Bool:=Nat.beq hr.e (T.ht h).e&&Nat.beq hr.k (T.ht h).k&&decide (hr.t=(T.ht h).t)
def newRow (d:Option Tmp)(row:Row):Q T bH:=match d with
 |some d=> .lC d (.ret (.rv (.own d), .kt [.row d row]))
 |none=> .fail
def uN (st:Option Site)(d:Option Tmp)(row:Row):Q T bH:=match st with
 |some .pur=>pv (.rv (.cv ⟨.slice row.t,row.xs⟩))
 |_=>newRow d row
def rZ (d:Option Tmp)(x:BX):Q T bH:=match d with
 |some d=> .lD d (.ret (.box d 0, .kt [.box d x]))
 |none=> .fail
def qq (h:Nat)(hr:bh)(xs:List (Option (List hr.t.den)))(l:List hr.t.den):Q T bH:=
 .gG (hr.w&&Nat.beq hr.k 0) <| .ret (.rv (.cv ⟨.ref h,(List.length xs+1:Nat)⟩), .kt [.heap h ⟨hr.e,hr.t,hr.k,hr.w,xs++[some l]⟩])
def Ch (h:Nat)(hr:bh)(x:hr.t.den):Q T bH:=
 .gG (hr.w&&Nat.beq hr.k 1) <| .ret (.rv (.cv ⟨.ptr h,(List.length hr.xs+1:Nat)⟩), .kt [.heap h ⟨hr.e,hr.t,hr.k,hr.w,hr.xs++[some [x]]⟩])
def QB (t:Ty)(y:t.den)(off:Nat)(vs:List CV):Option t.den:=sB [] t (xC (flat t y) off vs)
def Es (h n i off:Nat)(vs:List CV):Q T bH:= .heap h fun hr=> .opt (ae hr.xs n) fun l=> .opt (l[i]?) fun y=> .opt (QB hr.t y off vs) fun y'=>
 .gG (hr.w&&Nat.ble (off+vs.length) hr.t.size) (.ret (.nil, .kt [.heap h ⟨hr.e,hr.t,hr.k,hr.w,gF hr.xs n (l.set i y')⟩]))
def BX.one:BX→Bool
 | .cells cs=>Nat.beq cs.length 1
 |_=>true
def zf (x:AV)(vs:List CV):Q T bH:=match x with
 | .box b off=> .box b fun bx=>match bx with
   | .cells cs=> .gG (Nat.ble (off+vs.length) cs.length) (.ret (.nil, .kt [.box b (.cells (xC cs off vs))]))
   |_=> .gG (Nat.beq off 0&&Nat.beq vs.length 1) (.ret (.nil, .kt [.box b (.cells vs)]))
 | .CX q sz i off=> .row q fun row=> .opt (row.xs[i]?) fun y=> .opt (QB row.t y off vs) fun y'=>
   .gG (Nat.ble (off+vs.length) row.t.size) (.ret (.nil, .kt [.zd q ⟨row.e,row.t,row.xs.set i y'⟩]))
 | .hel h n i off=>Es h n i off vs
 | .rv (.cv ⟨.ptr h,n⟩)=>Es h n 0 0 vs
 |_=> .fail
def appended (t:Ty)(x:AV)(k:List t.den→Q T bH):Q T bH:=match co x with
 | .rv (.cv ⟨.ref h,n⟩)=> .heap h fun hr=> .opt (ae hr.xs n) fun l=> .opt ((cE (.slice t) [⟨.slice hr.t,l⟩]).map (·.1)) k
 | .rv (.cv c)=> .opt ((cE (.slice t) [c]).map (·.1)) k
 | .rv (.own q)=> .row q fun row=> .opt ((cE (.slice t) [⟨.slice row.t,row.xs⟩]).map (·.1)) k
 | .lit (.slice none 0 0)=>k []
 |_=> .fail
def Tw:CV→CV→Bool
 | ⟨.int i,a⟩,⟨.int j,b⟩=>decide (i=j)&&(a:Int)==b
 | ⟨.bool,a⟩,⟨.bool,b⟩=>(a:Bool)==b
 | ⟨.fn,a⟩,⟨.fn,b⟩=>Nat.beq a b
 |_,_=>false
def Ld:List CV→List CV→Bool
 | [],[]=>true
 |a::r,b::s=>Tw a b&&Ld r s
 |_,_=>false
def Et:AV→Option (FuncId×List yy)
 | .fn f aP=>some (f,aP)
 | .rv (.cv ⟨.fn,n⟩)=>match (n:Nat) with
   |f+1=>some (f,[])
   |0=>none
 |_=>none
def JY:yy→AV
 | .box b=> .box b 0
 | .pO cs=> .pO cs
def Tx:jM→AV→Bool
 | .fn f _,a=>match Et a with
   |some (g,_)=>Nat.beq f g
   |none=>false
 | .c cs, .rv (.agg cs')=>Ld cs cs'
 | .c _,_=>false
 |_,_=>true
def fits:List jM→List AV→Bool
 | [],[]=>true
 |t::ts,a::as=>Tx t a&&fits ts as
 |_,_=>false
def pick (T:cm)(Jq:List AV):List Nat→Option Nat
 | []=>none
 |v::vs=>bif fits (T.sig v).args Jq then some v else pick T Jq vs
def Hn (T:cm)(s:Option Site)(f:FuncId)(Jq:List AV):Option Nat:=match s with
 |some (.vid v)=>bif Nat.beq (T.real v) f then some v else none
 |_=>match pick T Jq (T.V4 f) with
  |some v=>bif Nat.beq (T.real v) f then some v else none
  |none=>none
def zg (t:Ty)(k:t.den→Q T bH):yy→Q T bH
 | .box b=> .box b fun bx=>match bx with
   | .cells cs=> .opt (sP t cs) k
   | .own q=> .row q fun row=> .opt ((cE t [⟨.slice row.t,row.xs⟩]).map (·.1)) k
   | .nil=> .fail
 | .pO cs=> .opt (sP t cs) k
def ra:(ts:List Ty)→List yy→(nt ts→Q T bH)→Q T bH
 | [],[],k=>k ()
 | [t],[c],k=>zg t k c
 |t::u::ts,c::cs,k=>zg t (fun x=>ra (u::ts) cs fun y=>k (x,y)) c
 |_,_,_=> .fail
def Eu:AV→Bool
 | .rv (.cv ⟨.ref _,_⟩)=>true
 | .rv (.agg cs)=>cs.any fun | ⟨.ref _,_⟩=>true |_=>false
 |_=>false
def O5:Ty→Bool
 | .ref _=>true
 |_=>false
def s9:List Nat→List bh→(List bh→Q T bH)→Q T bH
 | [],acc,k=>k acc.reverse
 |h::hs,acc,k=> .heap h fun hr=>s9 hs (hr::acc) k
def RM (c7:Bool)(nh:Nat)(hout:List Nat)(p:jM)(a:AV)(k:p.den→Q T bH):Q T bH:=match p,k with
 | .v t,k=>match a with
   | .rv (.own q)=> .gG c7 (.row q fun row=> .opt ((cE t [⟨.slice row.t,row.xs⟩]).map (·.1)) k)
   |a=>bif Eu a&& !(O5 t)&&c7 then
     s9 (List.range nh) [] fun hs=> .opt (typed (hs.zipIdx.map fun p=>bif hout.any (Nat.beq p.2) then ⟨p.1.e,p.1.t,p.1.k,p.1.w,[]⟩ else p.1) t a) k
    else .opt (typed [] t a) k
 | .fn f ts,k=>match Et a with
   |some (g,aP)=> .gG (Nat.beq f g&&(c7||aP.isEmpty)) (ra ts aP k)
   |none=> .fail
 | .c cs,k=> .gG (Tx (.c cs) a) (k ())
 | .rp t,k=>match a with
   | .box b 0=> .gG c7 (zg t k (.box b))
   | .pO cs=>zg t k (.pO cs)
   |_=> .fail
 | .bx _,_=> .fail
 | .Gw,_=> .fail
def BD (c7:Bool)(nh:Nat)(hout:List Nat):(ps:List jM)→List AV→(xB ps→Q T bH)→Q T bH
 | [],[],k=>k ()
 | [p],[a],k=>RM c7 nh hout p a k
 |p::q::ps,a::as,k=>RM c7 nh hout p a fun x=>BD c7 nh hout (q::ps) as fun y=>k (x,y)
 |_,_,_=> .fail
def Ho (T:cm)(wr:List Nat):(hs:List Nat)→(wk T hs→Q T bH)→Q T bH
 | [],k=>k ()
 | [h],k=> .heap h fun hr=> .gG ((hr.w|| !(wr.any (Nat.beq h)))&&Nat.beq hr.e (T.ht h).e&&Nat.beq hr.k (T.ht h).k) (if e:hr.t=(T.ht h).t then k (Fz e hr.xs) else .fail)
 |h::i::r,k=> .heap h fun hr=> .gG ((hr.w|| !(wr.any (Nat.beq h)))&&Nat.beq hr.e (T.ht h).e&&Nat.beq hr.k (T.ht h).k) (if e:hr.t=(T.ht h).t then Ho T wr (i::r) fun y=>k (Fz e hr.xs,y) else .fail)
def sC (d:Nat):(ts:List Ba)→nt (ts.map (·.1))→List RV
 | [],_=>[]
 | [(t,some e)],x=>[.own d]
 | [(.st t,none)],x=>[.agg (flat t x)]
 | [(t,none)],x=>[.cv ⟨t,x⟩]
 | (t,some e)::u::ts,x=> .own d::sC (d+1) (u::ts) x.2
 | (.st t,none)::u::ts,x=> .agg (flat t x.1)::sC (d+1) (u::ts) x.2
 | (t,none)::u::ts,x=> .cv ⟨t,x.1⟩::sC (d+1) (u::ts) x.2
def ownRow (t:Ty)(e:TypeId)(x:t.den):Option Row:=
 match t,x with
 | .slice t',xs=>some ⟨e,t',xs⟩
 |_,_=>none
def ML:List RV→AV
 | [x]=> .rv x
 |l=> .RG l
def rb (d:Nat):(ts:List Ba)→nt (ts.map (·.1))→(List TU→Q T bH)→Q T bH
 | [],_,k=>k []
 | [(t,some e)],x,k=>match ownRow t e x with
   |some row=> .lC d (k [.row d row])
   |none=> .fail
 | [(t,none)],x,k=>k []
 | (t,some e)::u::ts,x,k=>match ownRow t e x.1 with
   |some row=> .lC d (rb (d+1) (u::ts) x.2 fun us=>k (.row d row::us))
   |none=> .fail
 | (t,none)::u::ts,x,k=>rb (d+1) (u::ts) x.2 k
def wm (d:Nat):(ts:List Ty)→nt ts→(List TU→List yy→Q T bH)→Q T bH
 | [],_,k=>k [] []
 | [t],x,k=> .lD d (k [.box d (.cells (flat t x))] [.box d])
 |t::u::ts,x,k=> .lD d (wm (d+1) (u::ts) x.2 fun us cs=>k (.box d (.cells (flat t x.1))::us) (.box d::cs))
def C0 (d:Option Tmp):Nat:=1000+16*d.getD 0
def sc (T:cm):(hs:List Nat)→wk T hs→List TU
 | [],_=>[]
 | [h],x=>[.heap h ⟨(T.ht h).e,(T.ht h).t,(T.ht h).k,true,x⟩]
 |h::i::r,x=> .heap h ⟨(T.ht h).e,(T.ht h).t,(T.ht h).k,true,x.1⟩::sc T (i::r) x.2
def Tz (T:cm)(d:Nat)(s:za)(y:Ce s)(us:List TU):Q T bH:=match s,y with
 | ⟨_,res,none,_,none⟩,y=>rb d res y fun vs=> .ret (ML (sC d res y), .kt (us++vs))
 | ⟨_,_,some (f,ts),_,none⟩,y=>wm d ts y fun vs cs=> .ret (.fn f cs, .kt (us++vs))
 |_,_=> .fail
def JZ (T:cm)(st:Option Site)(dst:Option Tmp)(f:FuncId)(Jq:List AV):Q T bH:=
 match Hn T st f Jq with
 |some v=>
  let s:=T.sig v
  BD (hU T s) T.ab.length s.hout s.args Jq fun x=>
  Ho T s.hout s.hin fun h=> .opt (zb x s.hin (some h)) fun xh=> .call v xh fun yh=>
  Tz T (C0 dst) s (oX _ yh) (sc T s.hout (vC _ yh))
 |none=> .fail
def C1 (T:cm)(av:Operand→AV)(st:Option Site)(dst:Option Tmp)(f:FuncId)(aP:List yy)(args:List Operand):Q T bH:=JZ T st dst f (args.map av++aP.map JY)
def xD (T:cm)(av:Operand→AV)(st:Option Site)(dst:Option Tmp)(x:Operand)(m:String)(args:List Operand):Q T bH:=match av x with
 | .X7 t cs=>match MH T.Gx t m with
   |some f=>JZ T st dst f (.rv (.agg cs)::args.map av)
   |none=> .fail
 |_=> .fail
def TA (T:cm)(t:TypeId):AV→Q T bH
 | .rv (.agg cs)=> .gG (T.Gx.any fun p=>Nat.beq p.1 t) (pv (.X7 t cs))
 |_=> .fail
def lX:(t:Ty)→List AV→Option t.den
 | .unit,[]=>some ()
 | .pair a b,x::r=>match typed [] a x with
   |some v=>match lX b r with
    |some u=>some (v,u)
    |none=>none
   |none=>none
 |_,_=>none
def uI (T:cm)(av:Operand→AV)(sites:List (Nat×Site))(o:Oper):Q T bH:=
 let st:=o.dst.bind (look sites)
 match o.op with
 | .move x=>BB T.rows o.type (av x)
 | .assign x=>match av x,o.dst with
   | .rv (.own r),some d=> .all fun σ=> .ret (.rv (.own d), .set (bif Nat.beq r d then σ else (σ.freeze d).rename r d))
   | .lit (.slice none 0 0),some d=>match ze st with
     |some h=>pv (.rv (.cv ⟨.ref h,(0:Nat)⟩))
     |none=>match fw T.rows o.type with
      |some (u,e,_)=> .all fun σ=> .ret (.rv (.own d), .set {(σ.freeze d) with rows:=put (σ.freeze d).rows d ⟨e,u,[]⟩})
      |none=>BB T.rows o.type (.lit (.slice none 0 0))
   |a,_=>BB T.rows o.type (co a)
 | .pick c a b=>match av c with
   | .rv (.cv ⟨.bool,t⟩)=> .ite t (pv (av a)) (pv (av b))
   |_=> .fail
 | .nilCheck x=>match av x with
   | .rv (.cv ⟨.ptr h,n⟩)=> .gG (!(Nat.beq n 0)) (pv (.rv (.cv ⟨.ptr h,n⟩)))
   | .box b off=>pv (.box b off)
   | .CX r sz i off=>pv (.CX r sz i off)
   | .pO cs=>pv (.pO cs)
   | .hel h n i off=>pv (.hel h n i off)
   |_=> .fail
 | .load t x=>JW T.rows t (av x)
 | .binOp op xt x y _=>match gE T.rows xt with
   |some r=>match r.ty with
    | .bool=>RJ op (av x) (av y)
    | .int _ | .str=>RI op (av x) (av y)
    | .st t=> .gG (T.eqs.any (Nat.beq xt)) (Tv t op (av x) (av y))
    |ty=>RK ty op (av x) (av y)
   |none=> .fail
 | .unOp op _ x=>match op,av x with
   | .not, .rv (.cv ⟨.bool,b⟩)=>uH .bool (!b)
   | .neg, .rv (.cv ⟨.int i,a⟩)=>uH (.int i) (i.wrap (0 - a))
   |_,_=> .fail
 | .convert s d x=>JX T.rows s d (av x)
 | .fieldAddr s x f=>Er T.rows s (av x) f
 | .indexAddr t x i=>Ep T.rows t (av x) (av i)
 | .index t x i=>match gE T.rows t with
   |some r=>match r.ty,av i,av x with
    | .str, .rv (.cv ⟨.int _,n⟩), .rv (.cv ⟨.str,s⟩)=> .opt (En s n) fun b=>uH (.int .u8) b
    |_,_,_=> .fail
   |none=> .fail
 | .extract x i=>match av x with
   | .RG l=>gL (fun v=>pv (.rv v)) l[i]?
   |_=> .fail
 | .makeInterface t x=>TA T t (av x)
 | .makeFunc (.func f) first captured=>match first.toList with
   | []=>gL (fun aP=>pv (.fn f aP)) (mO (fun x=>match av x with
     | .box b 0=>some (.box b)
     | .pO cs=>some (.pO cs)
     |_=>none) captured.toList)
   |_=> .fail
 | .slice t x lo hi mx=>match av x with
   | .rv (.own q)=>match lo,hi,mx with
     |none,some h,none=>match fw T.rows t,av h with
      |some (u,e,_), .rv (.cv ⟨.int _,h⟩)=> .row q fun row=> .gG (Nat.beq u.size row.t.size&&nc row.xs.length 0 h) (match o.dst with
       |some d=> .all fun σ=>match look (σ.bd q).rows d with
        |none=> .ret (.rv (.own d), .set {(σ.bd q) with rows:=put (σ.bd q).rows d ⟨row.e,row.t,row.xs.take h.toNat⟩})
        |some _=> .fail
       |none=> .fail)
      |_,_=> .fail
     |_,_,_=> .row q fun row=> .all fun σ=>(oY T.rows av t (.rv (.cv ⟨.slice row.t,row.xs⟩)) lo hi mx).map fun p=>(p.1, .set (σ.freeze q))
   | .rv (.cv ⟨.ref h,n⟩)=>match lo,hi,mx with
     |none,some y,none=>match fw T.rows t,av y with
      |some _, .rv (.cv ⟨.int _,y⟩)=> .heap h fun hr=> .opt (ae hr.xs n) fun l=> .gG (nc l.length 0 y)
        (.ite (Nat.beq n 0) (pv (.rv (.cv ⟨.ref h,n⟩))) (qq h hr (jB hr.xs n) (l.take y.toNat)))
      |_,_=> .fail
     |_,_,_=> .fail
   |a=>oY T.rows av t a lo hi mx
 | .build t parts=>let xs:=parts.toList.map (·.2)
   bif xs.any (fun x=>pS (av x)) then .all fun σ=>(tk T.rows (σ.oR xs).av t parts.toList).map fun p=>(p.1, .set (σ.oR xs))
   else tk T.rows av t parts.toList
 | .buildSlice t len parts=>let xs:=parts.toList.map (·.2)
   match fw T.rows t with
   |some (u0,e,_)=>match ze st with
    |some h=> .heap h fun hr=> .gG (Nat.beq e hr.e&&MK T h hr&&Nat.ble (len*hr.t.size) 16777216&&Nat.ble len 16777216) (.opt (elems av hr.t parts.toList (List.replicate len hr.t.zero)) fun ys=>qq h hr hr.xs ys)
    |none=>let u:=BC st u0
     .gG (Nat.ble (len*u.size) 16777216&&Nat.ble len 16777216) (bif xs.any (fun x=>pS (av x)) then
      .all fun σ=> .opt (elems (σ.oR xs).av u parts.toList (List.replicate len u.zero)) fun ys=>match o.dst with
       |some d=>match look (σ.oR xs).rows d with
        |none=> .ret (.rv (.own d), .set {(σ.oR xs) with rows:=put (σ.oR xs).rows d ⟨e,u,ys⟩})
        |some _=> .fail
       |none=> .fail
      else .opt (elems av u parts.toList (List.replicate len u.zero)) fun ys=>uN st o.dst ⟨e,u,ys⟩)
   |none=> .fail
 | .makeSlice t l c=>match fw T.rows t,av l,av c with
   |some (u0,e,bytes), .rv (.cv ⟨.int _,l⟩), .rv (.cv ⟨.int _,c⟩)=> .gG (fP bytes l c) (match ze st with
    |some h=> .heap h fun hr=> .gG (Nat.beq e hr.e&&MK T h hr) (qq h hr hr.xs (List.replicate l.toNat hr.t.zero))
    |none=>let u:=BC st u0
     uN st o.dst ⟨e,u,List.replicate l.toNat u.zero⟩)
   |_,_,_=> .fail
 | .alloc t=>match gE T.rows t with
   |some r=>match QA T.rows o.type with
    |some h=> .heap h fun hr=> .gG (Nat.beq hr.e t&&MK T h hr) (Ch h hr hr.t.zero)
    |none=>match r.ty,fw T.rows t,o.dst with
     | .slice _,some (u,e,_),some d=> .lD d (.lC d (.ret (.box d 0, .kt [.box d (.own d), .row d ⟨e,u,[]⟩])))
     |_,_,_=>rZ o.dst (.cells (La r.ty))
   |none=> .fail
 | .box t v=>match gE T.rows t with
   |some r=>match av v with
    | .rv (.own q)=> .row q fun row=> .all fun σ=>match o.dst with
      |some d=>match look σ.boxes d with
       |none=> .ret (.box d 0, .set {(σ.freeze q) with boxes:=put (σ.freeze q).boxes d (.cells [⟨.slice row.t,row.xs⟩])})
       |some _=> .fail
      |none=> .fail
    |a=>gL (fun vs=> .gG (Nat.beq vs.length r.ty.size) (match QA T.rows o.type with
     |some h=> .heap h fun hr=> .gG (Nat.beq hr.e t) (.opt (sB [] hr.t vs) fun x=>Ch h hr x)
     |none=>rZ o.dst (.cells vs))) (cells r.ty a)
   |none=> .fail
 | .store t x v=>match gE T.rows t with
   |some r=>match av v,av x with
    | .rv (.own q), .box b 0=> .box b fun bx=> .gG (bx.one&&Nat.beq r.ty.size 1) <| .all fun σ=>
      bif Nat.beq q b then .ret (.nil, .set {σ with boxes:=put σ.boxes b (.own b)})
      else .ret (.nil, .set {((σ.freeze b).rename q b) with boxes:=put ((σ.freeze b).rename q b).boxes b (.own b)})
    | .rv (.own q),_=> .all fun σ=>(Q.on (σ.freeze q) (gL (fun vs=> .gG (Nat.beq vs.length r.ty.size) (zf ((σ.freeze q).av x) vs)) (cells r.ty ((σ.freeze q).av v)))).map fun p=>(p.1,match p.2 with
      | .kt us=> .set ((σ.freeze q).app us)
      | .set af=> .set af)
    | .lit (.slice none 0 0), .box b 0=>match fw T.rows t with
      |some (u,e,_)=> .box b fun bx=> .gG bx.one <| .all fun σ=> .ret (.nil, .set {(σ.freeze b) with rows:=put (σ.freeze b).rows b ⟨e,u,[]⟩,boxes:=put (σ.freeze b).boxes b (.own b)})
      |none=> .fail
    |a,x=>gL (fun vs=> .gG (Nat.beq vs.length r.ty.size) (zf x vs)) (cells r.ty a)
   |none=> .fail
 | .call {callee:= .invoke x m,args, .. }=>xD T av st o.dst x m args.toList
 | .call {callee:= .builtin .len,args,argTypes}=>match args.toList,argTypes.toList with
   | [x],[t]=>match gE T.rows t with
     |some r=>RL r.ty (av x)
     |none=> .fail
   |_,_=> .fail
 | .call {callee:= .builtin .max,args, .. }=>match args.toList with
   | [x,y]=>match av x,av y with
     | .rv (.cv ⟨.int i,a⟩), .rv (.cv ⟨.int _,b⟩)=>uH (.int i) (bif decide (b>a) then b else a)
     |_,_=> .fail
   |_=> .fail
 | .call {callee:= .builtin .min,args, .. }=>match args.toList with
   | [x,y]=>match av x,av y with
     | .rv (.cv ⟨.int i,a⟩), .rv (.cv ⟨.int _,b⟩)=>uH (.int i) (bif decide (b<a) then b else a)
     |_,_=> .fail
   |_=> .fail
 | .call {callee:= .builtin .append,args,argTypes}=>match args.toList,argTypes.toList with
   | [s,x],[t,tx]=> .gG (Nat.beq t tx||(fw T.rows tx).isSome) (match fw T.rows t with
     |some (u,e,bytes)=>match av s with
      | .rv (.own r)=> .row r fun row=> .gG (match av x with | .rv (.own q)=> !(Nat.beq q r) |_=>true) (appended row.t (av x) fun ys=>
        .gG (Nat.beq row.e e&&Nat.beq row.t.size u.size&&bj bytes u.size row.xs.length ys.length) (match o.dst with
         |some d=> .all fun σ=>match look (σ.bd r).rows d with
          |none=> .ret (.rv (.own d), .set {(σ.bd r) with rows:=put (σ.bd r).rows d ⟨e,row.t,row.xs++ys⟩})
          |some _=> .fail
         |none=> .fail))
      | .rv (.cv ⟨.ref h,n⟩)=> .heap h fun hr=> .opt (ae hr.xs n) fun l=> .gG (Nat.beq e hr.e&&Nat.beq u.size hr.t.size) (appended hr.t (av x) fun ys=>
        .gG (bj bytes hr.t.size l.length ys.length) (.ite ys.isEmpty (pv (.rv (.cv ⟨.ref h,n⟩))) (qq h hr (jB hr.xs n) (l++ys))))
      | .lit (.slice none 0 0)=>match ze st with
        |some h=> .heap h fun hr=> .gG (Nat.beq e hr.e&&Nat.beq u.size hr.t.size) (appended hr.t (av x) fun ys=>
          .gG (bj bytes hr.t.size 0 ys.length) (.ite ys.isEmpty (pv (.rv (.cv ⟨.ref h,(0:Nat)⟩))) (qq h hr hr.xs ys)))
        |none=>appended u (av x) fun ys=> .gG (bj bytes u.size 0 ys.length) (newRow o.dst ⟨e,u,ys⟩)
      |_=> .fail
     |none=> .fail)
   |_,_=> .fail
 | .call {callee:= .value f,args, .. }=>match av f with
   | .Gw=> .all fun σ=>match σ.trace with
     | ⟨.slice t,xs⟩=> .gG (yz t) (.opt (lX t (args.toList.map av)) fun x=> .ret (.rv (.cv ⟨.bool,true⟩), .set {σ with trace:=⟨.slice t,xs++[x]⟩}))
     |_=> .fail
   |a=>match Et a with
    |some (f,aP)=>bif args.toList.any (fun x=>pS (av x))&& !(hU T (T.sig ((Hn T st f (args.toList.map av++aP.map JY)).getD 0))) then
      .all fun σ=>(Q.on (σ.oR args.toList) (C1 T (σ.oR args.toList).av st o.dst f aP args.toList)).map fun p=>(p.1,match p.2 with
       | .kt us=> .set ((σ.oR args.toList).app us)
       | .set af=> .set af)
     else C1 T av st o.dst f aP args.toList
    |none=> .fail
 |_=> .fail
def TB (T:cm)(av:Operand→AV)(st:Option Site)(o:Oper)(x:Operand):Q T bH:=
 match av x,o.dst with
  | .rv (.own r),some d=> .all fun σ=> .ret (.rv (.own d), .set (bif Nat.beq r d then σ else (σ.freeze d).rename r d))
  | .lit (.slice none 0 0),some d=>match ze st with
    |some h=>pv (.rv (.cv ⟨.ref h,(0:Nat)⟩))
    |none=>match fw T.rows o.type with
     |some (u,e,_)=> .all fun σ=> .ret (.rv (.own d), .set {(σ.freeze d) with rows:=put (σ.freeze d).rows d ⟨e,u,[]⟩})
     |none=>BB T.rows o.type (.lit (.slice none 0 0))
  |a,_=>BB T.rows o.type (co a)
def X8 (T:cm)(av:Operand→AV)(st:Option Site)(o:Oper)(c:Operand)(a:Operand)(b:Operand):Q T bH:=
 match av c with
  | .rv (.cv ⟨.bool,t⟩)=> .ite t (pv (av a)) (pv (av b))
  |_=> .fail
def O6 (T:cm)(av:Operand→AV)(st:Option Site)(o:Oper)(x:Operand):Q T bH:=
 match av x with
  | .rv (.cv ⟨.ptr h,n⟩)=> .gG (!(Nat.beq n 0)) (pv (.rv (.cv ⟨.ptr h,n⟩)))
  | .box b off=>pv (.box b off)
  | .CX r sz i off=>pv (.CX r sz i off)
  | .pO cs=>pv (.pO cs)
  | .hel h n i off=>pv (.hel h n i off)
  |_=> .fail
def V6 (T:cm)(av:Operand→AV)(st:Option Site)(o:Oper)(op:BinOp)(xt:TypeId)(x:Operand)(y:Operand):Q T bH:=
 match gE T.rows xt with
  |some r=>match r.ty with
   | .bool=>RJ op (av x) (av y)
   | .int _ | .str=>RI op (av x) (av y)
   | .st t=> .gG (T.eqs.any (Nat.beq xt)) (Tv t op (av x) (av y))
   |ty=>RK ty op (av x) (av y)
  |none=> .fail
def X9 (T:cm)(av:Operand→AV)(st:Option Site)(o:Oper)(op:UnOp)(x:Operand):Q T bH:=
 match op,av x with
  | .not, .rv (.cv ⟨.bool,b⟩)=>uH .bool (!b)
  | .neg, .rv (.cv ⟨.int i,a⟩)=>uH (.int i) (i.wrap (0 - a))
  |_,_=> .fail
def V7 (T:cm)(av:Operand→AV)(st:Option Site)(o:Oper)(t:TypeId)(x:Operand)(i:Operand):Q T bH:=
 match gE T.rows t with
  |some r=>match r.ty,av i,av x with
   | .str, .rv (.cv ⟨.int _,n⟩), .rv (.cv ⟨.str,s⟩)=> .opt (En s n) fun b=>uH (.int .u8) b
   |_,_,_=> .fail
  |none=> .fail
def RN (T:cm)(av:Operand→AV)(st:Option Site)(o:Oper)(x:Operand)(i:Nat):Q T bH:=
 match av x with
  | .RG l=>gL (fun v=>pv (.rv v)) l[i]?
  |_=> .fail
def O7 (T:cm)(av:Operand→AV)(st:Option Site)(o:Oper)(f:FuncId)(first:Array Operand)(captured:Array Operand):Q T bH:=
 match first.toList with
  | []=>gL (fun aP=>pv (.fn f aP)) (mO (fun x=>match av x with
    | .box b 0=>some (.box b)
    | .pO cs=>some (.pO cs)
    |_=>none) captured.toList)
  |_=> .fail
def V8 (T:cm)(av:Operand→AV)(st:Option Site)(o:Oper)(t:TypeId)(x:Operand)(lo:Option Operand)(hi:Option Operand)(mx:Option Operand):Q T bH:=
 match av x with
  | .rv (.own q)=>match lo,hi,mx with
    |none,some h,none=>match fw T.rows t,av h with
     |some (u,e,_), .rv (.cv ⟨.int _,h⟩)=> .row q fun row=> .gG (Nat.beq u.size row.t.size&&nc row.xs.length 0 h) (match o.dst with
      |some d=> .all fun σ=>match look (σ.bd q).rows d with
       |none=> .ret (.rv (.own d), .set {(σ.bd q) with rows:=put (σ.bd q).rows d ⟨row.e,row.t,row.xs.take h.toNat⟩})
       |some _=> .fail
      |none=> .fail)
     |_,_=> .fail
    |_,_,_=> .row q fun row=> .all fun σ=>(oY T.rows av t (.rv (.cv ⟨.slice row.t,row.xs⟩)) lo hi mx).map fun p=>(p.1, .set (σ.freeze q))
  | .rv (.cv ⟨.ref h,n⟩)=>match lo,hi,mx with
    |none,some y,none=>match fw T.rows t,av y with
     |some _, .rv (.cv ⟨.int _,y⟩)=> .heap h fun hr=> .opt (ae hr.xs n) fun l=> .gG (nc l.length 0 y)
       (.ite (Nat.beq n 0) (pv (.rv (.cv ⟨.ref h,n⟩))) (qq h hr (jB hr.xs n) (l.take y.toNat)))
     |_,_=> .fail
    |_,_,_=> .fail
  |a=>oY T.rows av t a lo hi mx
def V9 (T:cm)(av:Operand→AV)(st:Option Site)(o:Oper)(t:TypeId)(parts:Array (Nat×Operand)):Q T bH:=
 let xs:=parts.toList.map (·.2)
  bif xs.any (fun x=>pS (av x)) then .all fun σ=>(tk T.rows (σ.oR xs).av t parts.toList).map fun p=>(p.1, .set (σ.oR xs))
  else tk T.rows av t parts.toList
def Lf (T:cm)(av:Operand→AV)(st:Option Site)(o:Oper)(t:TypeId)(len:Nat)(parts:Array (Nat×Operand)):Q T bH:=
 let xs:=parts.toList.map (·.2)
  match fw T.rows t with
  |some (u0,e,_)=>match ze st with
   |some h=> .heap h fun hr=> .gG (Nat.beq e hr.e&&MK T h hr&&Nat.ble (len*hr.t.size) 16777216&&Nat.ble len 16777216) (.opt (elems av hr.t parts.toList (List.replicate len hr.t.zero)) fun ys=>qq h hr hr.xs ys)
   |none=>let u:=BC st u0
    .gG (Nat.ble (len*u.size) 16777216&&Nat.ble len 16777216) (bif xs.any (fun x=>pS (av x)) then
     .all fun σ=> .opt (elems (σ.oR xs).av u parts.toList (List.replicate len u.zero)) fun ys=>match o.dst with
      |some d=>match look (σ.oR xs).rows d with
       |none=> .ret (.rv (.own d), .set {(σ.oR xs) with rows:=put (σ.oR xs).rows d ⟨e,u,ys⟩})
       |some _=> .fail
      |none=> .fail
     else .opt (elems av u parts.toList (List.replicate len u.zero)) fun ys=>uN st o.dst ⟨e,u,ys⟩)
  |none=> .fail
def MM (T:cm)(av:Operand→AV)(st:Option Site)(o:Oper)(t:TypeId)(l:Operand)(c:Operand):Q T bH:=
 match fw T.rows t,av l,av c with
  |some (u0,e,bytes), .rv (.cv ⟨.int _,l⟩), .rv (.cv ⟨.int _,c⟩)=> .gG (fP bytes l c) (match ze st with
   |some h=> .heap h fun hr=> .gG (Nat.beq e hr.e&&MK T h hr) (qq h hr hr.xs (List.replicate l.toNat hr.t.zero))
   |none=>let u:=BC st u0
    uN st o.dst ⟨e,u,List.replicate l.toNat u.zero⟩)
  |_,_,_=> .fail
def Wa (T:cm)(av:Operand→AV)(st:Option Site)(o:Oper)(t:TypeId):Q T bH:=
 match gE T.rows t with
  |some r=>match QA T.rows o.type with
   |some h=> .heap h fun hr=> .gG (Nat.beq hr.e t&&MK T h hr) (Ch h hr hr.t.zero)
   |none=>match r.ty,fw T.rows t,o.dst with
    | .slice _,some (u,e,_),some d=> .lD d (.lC d (.ret (.box d 0, .kt [.box d (.own d), .row d ⟨e,u,[]⟩])))
    |_,_,_=>rZ o.dst (.cells (La r.ty))
  |none=> .fail
def ZM (T:cm)(av:Operand→AV)(st:Option Site)(o:Oper)(t:TypeId)(v:Operand):Q T bH:=
 match gE T.rows t with
  |some r=>match av v with
   | .rv (.own q)=> .row q fun row=> .all fun σ=>match o.dst with
     |some d=>match look σ.boxes d with
      |none=> .ret (.box d 0, .set {(σ.freeze q) with boxes:=put (σ.freeze q).boxes d (.cells [⟨.slice row.t,row.xs⟩])})
      |some _=> .fail
     |none=> .fail
   |a=>gL (fun vs=> .gG (Nat.beq vs.length r.ty.size) (match QA T.rows o.type with
    |some h=> .heap h fun hr=> .gG (Nat.beq hr.e t) (.opt (sB [] hr.t vs) fun x=>Ch h hr x)
    |none=>rZ o.dst (.cells vs))) (cells r.ty a)
  |none=> .fail
def Wb (T:cm)(av:Operand→AV)(st:Option Site)(o:Oper)(t:TypeId)(x:Operand)(v:Operand):Q T bH:=
 match gE T.rows t with
  |some r=>match av v,av x with
   | .rv (.own q), .box b 0=> .box b fun bx=> .gG (bx.one&&Nat.beq r.ty.size 1) <| .all fun σ=>
     bif Nat.beq q b then .ret (.nil, .set {σ with boxes:=put σ.boxes b (.own b)})
     else .ret (.nil, .set {((σ.freeze b).rename q b) with boxes:=put ((σ.freeze b).rename q b).boxes b (.own b)})
   | .rv (.own q),_=> .all fun σ=>(Q.on (σ.freeze q) (gL (fun vs=> .gG (Nat.beq vs.length r.ty.size) (zf ((σ.freeze q).av x) vs)) (cells r.ty ((σ.freeze q).av v)))).map fun p=>(p.1,match p.2 with
     | .kt us=> .set ((σ.freeze q).app us)
     | .set af=> .set af)
   | .lit (.slice none 0 0), .box b 0=>match fw T.rows t with
     |some (u,e,_)=> .box b fun bx=> .gG bx.one <| .all fun σ=> .ret (.nil, .set {(σ.freeze b) with rows:=put (σ.freeze b).rows b ⟨e,u,[]⟩,boxes:=put (σ.freeze b).boxes b (.own b)})
     |none=> .fail
   |a,x=>gL (fun vs=> .gG (Nat.beq vs.length r.ty.size) (zf x vs)) (cells r.ty a)
  |none=> .fail
def RP (T:cm)(av:Operand→AV)(st:Option Site)(o:Oper)(args:Array Operand)(argTypes:Array TypeId):Q T bH:=
 match args.toList,argTypes.toList with
  | [x],[t]=>match gE T.rows t with
    |some r=>RL r.ty (av x)
    |none=> .fail
  |_,_=> .fail
def RQ (T:cm)(av:Operand→AV)(st:Option Site)(o:Oper)(args:Array Operand):Q T bH:=
 match args.toList with
  | [x,y]=>match av x,av y with
    | .rv (.cv ⟨.int i,a⟩), .rv (.cv ⟨.int _,b⟩)=>uH (.int i) (bif decide (b>a) then b else a)
    |_,_=> .fail
  |_=> .fail
def RR (T:cm)(av:Operand→AV)(st:Option Site)(o:Oper)(args:Array Operand):Q T bH:=
 match args.toList with
  | [x,y]=>match av x,av y with
    | .rv (.cv ⟨.int i,a⟩), .rv (.cv ⟨.int _,b⟩)=>uH (.int i) (bif decide (b<a) then b else a)
    |_,_=> .fail
  |_=> .fail
def Lg (T:cm)(av:Operand→AV)(st:Option Site)(o:Oper)(args:Array Operand)(argTypes:Array TypeId):Q T bH:=
 match args.toList,argTypes.toList with
  | [s,x],[t,tx]=> .gG (Nat.beq t tx||(fw T.rows tx).isSome) (match fw T.rows t with
    |some (u,e,bytes)=>match av s with
     | .rv (.own r)=> .row r fun row=> .gG (match av x with | .rv (.own q)=> !(Nat.beq q r) |_=>true) (appended row.t (av x) fun ys=>
       .gG (Nat.beq row.e e&&Nat.beq row.t.size u.size&&bj bytes u.size row.xs.length ys.length) (match o.dst with
        |some d=> .all fun σ=>match look (σ.bd r).rows d with
         |none=> .ret (.rv (.own d), .set {(σ.bd r) with rows:=put (σ.bd r).rows d ⟨e,row.t,row.xs++ys⟩})
         |some _=> .fail
        |none=> .fail))
     | .rv (.cv ⟨.ref h,n⟩)=> .heap h fun hr=> .opt (ae hr.xs n) fun l=> .gG (Nat.beq e hr.e&&Nat.beq u.size hr.t.size) (appended hr.t (av x) fun ys=>
       .gG (bj bytes hr.t.size l.length ys.length) (.ite ys.isEmpty (pv (.rv (.cv ⟨.ref h,n⟩))) (qq h hr (jB hr.xs n) (l++ys))))
     | .lit (.slice none 0 0)=>match ze st with
       |some h=> .heap h fun hr=> .gG (Nat.beq e hr.e&&Nat.beq u.size hr.t.size) (appended hr.t (av x) fun ys=>
         .gG (bj bytes hr.t.size 0 ys.length) (.ite ys.isEmpty (pv (.rv (.cv ⟨.ref h,(0:Nat)⟩))) (qq h hr hr.xs ys)))
       |none=>appended u (av x) fun ys=> .gG (bj bytes u.size 0 ys.length) (newRow o.dst ⟨e,u,ys⟩)
     |_=> .fail
    |none=> .fail)
  |_,_=> .fail
def MN (T:cm)(av:Operand→AV)(st:Option Site)(o:Oper)(f:Operand)(args:Array Operand):Q T bH:=
 match av f with
  | .Gw=> .all fun σ=>match σ.trace with
    | ⟨.slice t,xs⟩=> .gG (yz t) (.opt (lX t (args.toList.map av)) fun x=> .ret (.rv (.cv ⟨.bool,true⟩), .set {σ with trace:=⟨.slice t,xs++[x]⟩}))
    |_=> .fail
  |a=>match Et a with
   |some (f,aP)=>bif args.toList.any (fun x=>pS (av x))&& !(hU T (T.sig ((Hn T st f (args.toList.map av++aP.map JY)).getD 0))) then
     .all fun σ=>(Q.on (σ.oR args.toList) (C1 T (σ.oR args.toList).av st o.dst f aP args.toList)).map fun p=>(p.1,match p.2 with
      | .kt us=> .set ((σ.oR args.toList).app us)
      | .set af=> .set af)
    else C1 T av st o.dst f aP args.toList
   |none=> .fail
def Ya (T:cm)(av:Operand→AV)(st:Option Site)(o:Oper)(c:Call):Q T bH:=match c with
 | {callee:= .builtin .len,args,argTypes}=>RP T av st o args argTypes
 | {callee:= .builtin .max,args, .. }=>RQ T av st o args
 | {callee:= .builtin .min,args, .. }=>RR T av st o args
 | {callee:= .builtin .append,args,argTypes}=>Lg T av st o args argTypes
 | {callee:= .value f,args, .. }=>MN T av st o f args
 | {callee:= .invoke x m,args, .. }=>xD T av st o.dst x m args.toList
 |_=> .fail
def opF (T:cm)(av:Operand→AV)(sites:List (Nat×Site))(o:Oper):Q T bH:=
 let st:=o.dst.bind (look sites)
 match o.op with
 | .move x=>BB T.rows o.type (av x)
 | .assign x=>TB T av st o x
 | .pick c a b=>X8 T av st o c a b
 | .nilCheck x=>O6 T av st o x
 | .load t x=>JW T.rows t (av x)
 | .binOp op xt x y _=>V6 T av st o op xt x y
 | .unOp op _ x=>X9 T av st o op x
 | .convert s d x=>JX T.rows s d (av x)
 | .fieldAddr s x f=>Er T.rows s (av x) f
 | .indexAddr t x i=>Ep T.rows t (av x) (av i)
 | .index t x i=>V7 T av st o t x i
 | .extract x i=>RN T av st o x i
 | .makeInterface t x=>TA T t (av x)
 | .makeFunc (.func f) first captured=>O7 T av st o f first captured
 | .slice t x lo hi mx=>V8 T av st o t x lo hi mx
 | .build t parts=>V9 T av st o t parts
 | .buildSlice t len parts=>Lf T av st o t len parts
 | .makeSlice t l c=>MM T av st o t l c
 | .alloc t=>Wa T av st o t
 | .box t v=>ZM T av st o t v
 | .store t x v=>Wb T av st o t x v
 | .call c=>Ya T av st o c
 |_=> .fail
theorem Yb (T:cm)(av:Operand→AV)(sites:List (Nat×Site))(o:Oper):opF T av sites o=uI T av sites o:=by
 unfold opF uI;generalize o.dst.bind (look sites)=st;cases o.op with
 |call c=>
  obtain⟨callee,args,ats⟩:=c;cases callee with
  |builtin b=>cases b<;>rfl
  |value f=>rfl
  |invoke r m=>rfl
 |makeFunc f a b=>cases f<;>rfl
 |_=>rfl
def js.wr (k:List Nat):js→js
 | .M r w=> .M r (k++w)
 | .X=> .X
noncomputable def QC {α:Type}(l:List (Nat×α))(j:Nat):Option α:=List.rec (motive:=fun _=>Option α) none (fun p _ ih=>bif Nat.beq p.1 j then some p.2 else ih) l
theorem Hp {α:Type}:∀(l:List (Nat×α)) (j:Nat),QC l j=look l j
 | [],j=>rfl
 | (k,v)::r,j=>by have ih:=Hp r j;unfold QC at ih ⊢;simp only[look];rw[ih]
noncomputable def TC {α:Type}(l:List (Nat×α))(j:Nat)(v:α):List (Nat×α):=List.rec (motive:=fun _=>List (Nat×α)) [(j,v)] (fun p r ih=>bif Nat.blt p.1 j then (j,v)::p::r else bif Nat.beq p.1 j then (j,v)::r else p::ih) l
theorem MO {α:Type}:∀(l:List (Nat×α)) (j:Nat) (v:α),TC l j v=Cg l j v
 | [],j,v=>rfl
 | (k,u)::r,j,v=>by have ih:=MO r j v;unfold TC at ih ⊢;simp only[Cg];rw[ih]
noncomputable def dW.ZN (s:dW)(x:Operand):AV:=match s with
 | ⟨_,l,sv⟩=>match x with
   | .tmp t=>match QC l t with
     |some x=>x
     |none=> .nil
   | .const v=>ofConst v
   | .func f=> .fn f []
   | .global g=>match QC sv (gk g) with
     |some x=>x
     |none=> .nil
theorem Yc (s:dW)(x:Operand):s.ZN x=s.av x:=by
 obtain⟨n,l,sv⟩:=s;cases x with
 |tmp t=>simp only[dW.ZN,dW.av,nth,Hp]
 |const v=>rfl
 |func f=>rfl
 |global g=>simp only[dW.ZN,dW.av,Hp]
noncomputable def Q.Jr {α:Type}(Φ:bE T)(q:Q T α):AS→js→(js→α→Option R)→Option R:=
 Q.rec (motive:=fun _=>AS→js→(js→α→Option R)→Option R)
   (fun a _ c k=>k c a)
   (fun _ _ _=>none)
   (fun o _ ih σ c k=>o.bind fun y=>ih y σ c k)
   (fun b _ ih σ c k=>bif b then ih σ c k else none)
   (fun b _ _ Bb yR σ c k=>bif b then Bb σ c k else yR σ c k)
   (fun r _ ih σ c k=>match look σ.rows r with
    |some x=>ih x σ (c.rd (4*r)) k
    |none=>none)
   (fun r _ ih σ c k=>match look σ.rows r with
    |some x=>ih (List.length x.xs) σ (c.rd (4*r+2)) k
    |none=>none)
   (fun b _ ih σ c k=>match look σ.boxes b with
    |some x=>ih x σ (c.rd (2*b+1)) k
    |none=>none)
   (fun h _ ih σ c k=>match σ.ab[h]? with
    |some x=>ih x σ (c.rd (hk h)) k
    |none=>none)
   (fun r _ ih σ c k=>match look σ.rows r with
    |none=>ih σ (c.rd (4*r)) k
    |some _=>none)
   (fun b _ ih σ c k=>match look σ.boxes b with
    |none=>ih σ (c.rd (2*b+1)) k
    |some _=>none)
   (fun v x _ ih σ c k=>(Φ v x).bind fun y=>ih y σ c k)
   (fun _ ih σ _ k=>ih σ σ .X k)
   (fun af _ ih _ _ k=>ih af .X k) q
theorem Wc {α:Type}(Φ:bE T)(q:Q T α):∀(σ:AS) (c:js) (k:js→α→Option R),q.Jr Φ σ c k=q.run Φ σ c k:=by
 induction q with
 |ret a=>intro σ c k;rfl
 |fail=>intro σ c k;rfl
 |opt o q ih=>intro σ c k;show o.bind (fun y=>(q y).Jr Φ σ c k)=o.bind fun y=>(q y).run Φ σ c k;congr 1;funext y;exact ih y σ c k
 |gG b q ih=>intro σ c k;cases b<;>first |rfl |exact ih σ c k
 |ite b x y Bb yR=>intro σ c k;cases b<;>first |exact Bb σ c k |exact yR σ c k
 |row r q ih=>
  intro σ c k;show (match look σ.rows r with |some x=>(q x).Jr Φ σ (c.rd (4*r)) k |none=>none)=_;simp only[Q.run];cases look σ.rows r with
  |none=>rfl
  |some x=>exact ih x σ _ k
 |len r q ih=>
  intro σ c k;show (match look σ.rows r with |some x=>(q (List.length x.xs)).Jr Φ σ (c.rd (4*r+2)) k |none=>none)=_;simp only[Q.run];cases look σ.rows r with
  |none=>rfl
  |some x=>exact ih _ σ _ k
 |box b q ih=>
  intro σ c k;show (match look σ.boxes b with |some x=>(q x).Jr Φ σ (c.rd (2*b+1)) k |none=>none)=_;simp only[Q.run];cases look σ.boxes b with
  |none=>rfl
  |some x=>exact ih x σ _ k
 |heap h q ih=>
  intro σ c k;show (match σ.ab[h]? with |some x=>(q x).Jr Φ σ (c.rd (hk h)) k |none=>none)=_;simp only[Q.run];cases σ.ab[h]? with
  |none=>rfl
  |some x=>exact ih x σ _ k
 |lC r q ih=>
  intro σ c k;show (match look σ.rows r with |none=>q.Jr Φ σ (c.rd (4*r)) k |some _=>none)=_;simp only[Q.run];cases look σ.rows r with
  |none=>exact ih σ _ k
  |some x=>rfl
 |lD b q ih=>
  intro σ c k;show (match look σ.boxes b with |none=>q.Jr Φ σ (c.rd (2*b+1)) k |some _=>none)=_;simp only[Q.run];cases look σ.boxes b with
  |none=>exact ih σ _ k
  |some x=>rfl
 |call v x q ih=>intro σ c k;show (Φ v x).bind (fun y=>(q y).Jr Φ σ c k)=(Φ v x).bind fun y=>(q y).run Φ σ c k;congr 1;funext y;exact ih y σ c k
 |all q ih=>intro σ c k;exact ih σ σ _ k
 |on af q ih=>intro σ c k;exact ih af _ k
noncomputable def TD (s:dW)(i:Nat)(v:AV):dW:=match s with
 | ⟨n,l,sv⟩=>bif Nat.blt i n then ⟨n,TC l i v,sv⟩ else ⟨n,l,sv⟩
theorem TE (s:dW)(i:Nat)(v:AV):TD s i v=uG s i v:=by obtain⟨n,l,sv⟩:=s;unfold TD uG;simp only[MO]
noncomputable def AS.Hq (σ:AS)(d:Option Tmp)(v:AV):AS:=match d with
 |some d=>match σ with
  | ⟨t,rows,boxes,ab,trace,cd,sites⟩=>⟨TD t d v,rows,boxes,ab,trace,cd,sites⟩
 |none=>σ
theorem Hr (σ:AS)(d:Option Tmp)(v:AV):σ.Hq d v=σ.fG d v:=by
 cases d with
 |none=>rfl
 |some d=>obtain⟨t,rows,boxes,ab,trace,cd,sites⟩:=σ;simp only[AS.Hq,AS.fG,TE]
def AS.Yd (σ:AS)(u:TU):AS:=match σ with
 | ⟨t,rows,boxes,ab,trace,cd,sites⟩=>match u with
   | .row q r=>⟨t,put rows q r,boxes,ab,trace,cd,sites⟩
   | .zd q r=>⟨t,put rows q r,boxes,ab,trace,cd,sites⟩
   | .box b x=>⟨t,rows,put boxes b x,ab,trace,cd,sites⟩
   | .heap h r=>⟨t,rows,boxes,ab.set h r,trace,cd,sites⟩
def AS.Wd (σ:AS):List TU→AS
 | []=>σ
 |u::us=>(σ.Yd u).Wd us
theorem QD:∀(us:List TU) (σ:AS),σ.Wd us=σ.app us
 | [],σ=>rfl
 |u::us,σ=>by
  have:σ.Yd u=σ.one u:=by obtain⟨t,rows,boxes,ab,trace,cd,sites⟩:=σ;cases u<;>rfl
  show (σ.Yd u).Wd us=(σ.one u).app us;rw[this,QD us]
noncomputable def Bc (T:cm)(Φ:bE T)(σ:AS)(o:Oper)(k:js→AS→Option R):Option R:=
 (opF T σ.tmps.ZN σ.sites o).Jr Φ σ (.M [] []) fun c r=>match r.2 with
  | .kt us=>k (c.wr (MJ us)) ((σ.Wd us).Hq o.dst r.1)
  | .set af=>k .X (af.Hq o.dst r.1)
theorem AK (T:cm)(Φ:bE T)(σ:AS)(o:Oper)(k:js→AS→Option R):Bc T Φ σ o k=(uI T σ.av σ.sites o).run Φ σ (.M [] []) fun c r=>match r.2 with
  | .kt us=>k (c.wr (MJ us)) ((σ.app us).fG o.dst r.1)
  | .set af=>k .X (af.fG o.dst r.1):=by
 unfold Bc;have e:σ.tmps.ZN=σ.av:=funext fun x=>Yc σ.tmps x;rw[Wc,Yb,e];simp only[QD,Hr]
def AS.Ci (σ:AS)(t:Nat)(b:Bool):AS:=match σ with
 | ⟨⟨n,l,sv⟩,rows,boxes,ab,trace,cd,sites⟩=>⟨⟨n,V5 l t (.rv (.cv ⟨.bool,b⟩)),sv⟩,rows,boxes,ab,trace,cd,sites⟩
noncomputable def zh (T:cm)(Φ:bE T)(ops:Array Oper)(σ:AS)(o:Oper)(k:js→AS→Option R):Option R:=
 match o.guard with
 |none=>Bc T Φ σ o k
 |some (j,want)=>match (ops[j]?).bind (·.dst) with
  |some t=>match nth σ.tmps t with
   | .rv (.cv ⟨.bool,b⟩)=>
     bif b then (bif want then Bc T Φ (σ.Ci t true) o k else k (.M [] []) ((σ.Ci t true).Hq o.dst (.lit undef)))
     else (bif want then k (.M [] []) ((σ.Ci t false).Hq o.dst (.lit undef)) else Bc T Φ (σ.Ci t false) o k)
   | .lit (.tuple _)=>k (.M [] []) (σ.Hq o.dst (.lit undef))
   |_=>none
  |none=>none
noncomputable def J0 (T:cm)(Φ:bE T)(ops:Array Oper):List Oper→AS→List js→(List js→AS→Option R)→Option R
 | [],σ,cs,k=>k cs σ
 |o::r,σ,cs,k=>zh T Φ ops σ o fun c af=>J0 T Φ ops r af (c::cs) k
def AS.gS (σ:AS):List Nat→AS
 | []=>σ
 |d::ds=>(σ.dr d).gS ds
def AS.MP (σ:AS)(d:Nat):AS:=match look σ.rows d with
 |none=>σ
 |some _=>σ.bd d
def AS.MQ (σ:AS)(d:Nat):AS:=match look σ.boxes d with
 |none=>σ
 |some _=>σ.dr d
def AS.Ew (σ:AS):List Nat→AS
 | []=>σ
 |d::ds=>match σ.rows with
  | []=>σ
  |_=>(σ.MP d).Ew ds
def AS.Ey (σ:AS):List Nat→AS
 | []=>σ
 |d::ds=>match σ.boxes with
  | []=>σ
  |_=>(σ.MQ d).Ey ds
def C2:List Oper→List Nat
 | []=>[]
 |o::r=>match o.op with
  | .alloc _ | .box .. | .buildSlice .. | .makeSlice .. | .slice .. | .call {callee:= .builtin .append, .. }=>o.dst.getD 0::C2 r
  | .call {callee:= .builtin _, .. }=>C2 r
  | .call _=>C0 o.dst::(C0 o.dst+1)::(C0 o.dst+2)::(C0 o.dst+3)::C2 r
  |_=>C2 r
def C3:List Oper→List Nat
 | []=>[]
 |o::r=>match o.op with
  | .alloc _ | .box .. =>o.dst.getD 0::C3 r
  | .call {callee:= .builtin _, .. }=>C3 r
  | .call _=>C0 o.dst::(C0 o.dst+1)::(C0 o.dst+2)::(C0 o.dst+3)::C3 r
  |_=>C3 r
def AS.We (σ:AS)(l:List Oper):AS:=(σ.Ew (C2 l)).Ey (C3 l)
def meets (a b:List Nat):Bool:=a.any fun x=>b.any fun y=>Nat.beq x y
def xE:js→js→Bool
 | .M r w, .M r' w'=> !(meets w r'||meets w w'||meets r w')
 |_,_=>false
def BE (acc:List Nat)(o:Oper):Nat:=
 o.after.toList.foldr (fun e s=>bif Region.binds .any e then (s|||2^e.on)||| (acc[e.on]?).getD 0 else s) 0
def Be:List Oper→List Nat→List Nat
 | [],acc=>acc
 |o::r,acc=>Be r (acc++[BE acc o])
def Lh (ops:Array Oper)(i:Nat)(a:Oper×js)(m:Nat)(b:Oper×js):Bool:=
 m.testBit i||(a.1.apart ops b.1&&xE a.2 b.2)
def Hs (ops:Array Oper)(i:Nat)(a:Oper×js):List (Oper×js)→List Nat→Bool
 | [],_=>true
 |b::r,m::ms=>Lh ops i a m b&&Hs ops i a r ms
 |_::_,[]=>false
def zi (ops:Array Oper):Nat→List (Oper×js)→List Nat→Bool
 |_,[],_=>true
 |i,a::r,_::ms=>Hs ops i a r ms&&zi ops (i+1) r ms
 |_,_::_,[]=>false
def zj:Nat→List Oper→Bool
 |_,[]=>true
 |i,o::r=>o.after.toList.all (fun e=> !(Region.binds .any e)||Nat.blt e.on i)&&zj (i+1) r
noncomputable def oZ (T:cm)(Φ:bE T)(ops:Array Oper)(draw:Bool)(σ:AS)(k:AS→Option R):Option R:=
 J0 T Φ ops ops.toList (σ.We ops.toList) [] fun cs af=>
  bif draw then (bif zj 0 ops.toList&&zi ops 0 (ops.toList.zip cs.reverse) (Be ops.toList []) then k af else none) else k af
inductive Ex where
 |normal |exit (id:Nat) |ret
def loops:Code→Nat
 | .seq a b=>loops a+loops b
 | .cond _ a b=>loops a+loops b
 | .block _ c=>loops c
 | .loop c=>loops c+1
 | .scope c=>loops c
 | .rangeFunc _ _ a b=>loops a+loops b+1
 |_=>0
def iL (h:List (Nat×Bool))(body:AS→(Ex→AS→Option R)→Option R)(k:Ex→AS→Option R):Nat→AS→Option R
 |0,_=>none
 |n+1,σ=>body σ fun e af=>match e with
  | .normal=>iL h body k n (af.forget h)
  | .exit i=>k (.exit i) af
  | .ret=>k .ret af
def TF:(t:Ty)→t.den→AV
 | .st t,x=> .rv (.agg (flat t x))
 |t,x=> .rv (.cv ⟨t,x⟩)
def yB (s:dW):List Tmp→(ts:List Ty)→(gR ts).den→Option dW
 | [],[],_=>some s
 |p::ps,t::ts,x=>yB (uG s p (TF t x.1)) ps ts x.2
 |_,_,_=>none
def qs (σ:AS):Bool:=(σ.tmps.l.all fun p=>Nat.blt p.1 10000)&&σ.tmps.s.all fun p=>Nat.ble 1000000000 p.1
def RNG:Nat:=1000000007
def fQ (ps:List Tmp)(Gy body:AS→(Ex→AS→Option R)→Option R)(σ:AS)(k:Ex→AS→Option R):Option R:=
 match σ.cd with
 | []=>none
 |r::rs=>match r with
  | ⟨ts,xs⟩=>match xs with
    | []=>k (.exit RNG) σ
    |x::xs=>match yB σ.tmps ps ts x with
     |some s=>Gy {σ with tmps:=s,cd:=⟨ts,xs⟩::rs} fun e cV=>match e with
      | .normal=>body cV fun e jr=>match e with
        | .normal=>k .normal jr.back
        |_=>none
      |_=>none
     |none=>none
def eJ (k:Ex→AS→Option R):Ex→AS→Option R
 | .exit _,σ=>k .normal {σ.tj with cd:=σ.cd.tail}
 |_,_=>none
def aD (boxes:List (Nat×BX)):(ps:List jM)→List yy→Option (xB ps)
 | [],[]=>some ()
 | [.bx t],[.box b]=>match look boxes b with
   |some (.cells cs)=>sP t cs
   |_=>none
 | .bx t::q::ps, .box b::cs=>match look boxes b with
   |some (.cells l)=>match sP t l with
    |some x=>match aD boxes (q::ps) cs with
     |some y=>some (x,y)
     |none=>none
    |none=>none
   |_=>none
 |_,_=>none
def bf:List yy→List Nat
 | []=>[]
 | .box b::r=>b::bf r
 | .pO _::r=>bf r
def pT:List Nat→Bool
 | []=>true
 |x::r=> !(r.any (Nat.beq x))&&pT r
def xF (boxes:List (Nat×BX)):(ps:List jM)→List yy→Option (xB ps)
 | [.Gw],[]=>some ()
 | .Gw::q::ps,cs=>match aD boxes (q::ps) cs with
   |some y=>some ((),y)
   |none=>none
 |_,_=>none
def o5 (T:cm)(Φ:bE T)(σ:AS)(f:AV)(k:VP→List Nat→Option R):Option R:=match f with
 | .fn g aP=>match T.V4 g with
   |v::_=>match xF σ.boxes (T.sig v).args aP with
    |some x=>match zb x (T.sig v).hin (Cf T σ.ab (T.sig v).hin) with
     |some xh=>(Φ v xh).bind fun yh=>bif pT (bf aP)&&(T.sig v).ab.isEmpty&&Nat.beq (T.real v) g then match T.sig v,oX _ yh with
      | ⟨_,_,_,_,some ts⟩,y=>k ⟨ts,y⟩ (bf aP)
      |_,_=>none
      else none
     |none=>none
    |none=>none
   | []=>none
 |_=>none
noncomputable def aJ (T:cm)(Φ:bE T)(n:Nat):Code→List (List (Nat×Bool))→AS→(Ex→AS→Option R)→Option R
 | .skip,_,σ,k=>k .normal σ
 | .region _ ops draw,_,σ,k=>oZ T Φ ops draw σ (k .normal)
 | .seq a b,hs,σ,k=>aJ T Φ n a hs σ fun e af=>match e with
   | .normal=>aJ T Φ n b (hs.drop (loops a)) af k
   | .exit i=>k (.exit i) af
   | .ret=>k .ret af
 | .cond c a b,hs,σ,k=>match c with
   | .tmp t=>match nth σ.tmps t with
     | .rv (.cv ⟨.bool,x⟩)=>bif x then aJ T Φ n a hs (σ.Ci t true) k else aJ T Φ n b (hs.drop (loops a)) (σ.Ci t false) k
     |_=>none
   | .const (.bool x)=>bif x then aJ T Φ n a hs σ k else aJ T Φ n b (hs.drop (loops a)) σ k
   |_=>none
 | .block id c,hs,σ,k=>aJ T Φ n c hs σ fun e af=>match e with
   | .normal=>k .normal af
   | .exit i=>bif Nat.beq i id then k .normal af else k (.exit i) af
   | .ret=>k .ret af
 | .loop c,hs,σ,k=>match hs with
   |h::hs'=>iL h (fun σ k'=>aJ T Φ n c hs' σ k') k n (σ.forget h)
   | []=>none
 | .rangeFunc f ps a b,hs,σ,k=>match hs,σ.cd,σ.trace with
   |h::hs',[],⟨.unit,_⟩=>o5 T Φ σ (σ.av f) fun r bs=>
     bif qs ((σ.gS bs).forget h) then
      iL h (fQ ps.toList (fun σ k'=>aJ T Φ n a hs' σ k') (fun σ k'=>aJ T Φ n b (hs'.drop (loops a)) σ k')) (eJ k) n
       {(((σ.gS bs).forget h)) with cd:=[r]}.save
     else none
   |_,_,_=>none
 | .scope c,hs,σ,k=>aJ T Φ n c hs σ k
 | .label _,_,σ,k=>k .normal σ
 | .exit i,_,σ,k=>k (.exit i) σ
 | .ret,_,σ,k=>k .ret σ
 |_,_,_,_=>none
end
def Ht:(ps:List jM)→xB ps→Nat→List AV
 | [],_,_=>[]
 | [p],x,i=>[one p x i]
 |p::q::ps,x,i=>one p x.1 i::Ht (q::ps) x.2 (i+1)
where
 O8:(ts:List Ty)→nt ts→List yy
  | [],_=>[]
  | [t],x=>[.pO (flat t x)]
  |t::u::ts,x=> .pO (flat t x.1)::O8 (u::ts) x.2
 one:(p:jM)→p.den→Nat→AV
  | .v t,x,_=>TF t x
  | .fn f ts,x,_=> .fn f (O8 ts x)
  | .c cs,_,_=> .rv (.agg cs)
  | .rp t,x,_=> .pO (flat t x)
  | .bx _,_,i=> .box i 0
  | .Gw,_,_=> .Gw
def c9:(ps:List jM)→xB ps→Nat→List (Nat×BX)
 | [],_,_=>[]
 | [p],x,i=>one p x i
 |p::q::ps,x,i=>one p x.1 i++c9 (q::ps) x.2 (i+1)
where
 one:(p:jM)→p.den→Nat→List (Nat×BX)
  | .bx t,x,i=>[(i, .cells (flat t x))]
  |_,_,_=>[]
def xG (T:List eI)(σ:AS):ResultVar→Option AV
 | .tmp t=>some (nth σ.tmps t)
 | .cell a t=>match nth σ.tmps a,gE T t with
   | .box b off,some r=>match look σ.boxes b with
     |some (.cells cs)=>jC r.ty (cs.drop off)
     |some (.own q)=>match r.ty with
      | .slice _=>bif Nat.beq off 0 then some (.rv (.own q)) else none
      |_=>none
     |_=>none
   |_,_=>none
def Li (ab:List bh)(hin:List Nat):List bh:=ab.zipIdx.map fun p=>bif hin.any (Nat.beq p.2) then ⟨p.1.e,p.1.t,p.1.k,p.1.w,[]⟩ else p.1
def zk (σ:AS)(hin:List Nat)(p:Ba)(a:AV):Option p.1.den:=
 match p.2,a with
 |none, .rv (.own r)=>match look σ.rows r with
  |some row=>(cE p.1 [⟨.slice row.t,row.xs⟩]).map (·.1)
  |none=>none
 |none,a=>bif Eu a then typed (Li σ.ab hin) p.1 a else typed [] p.1 a
 |some e, .rv (.own r)=>match look σ.rows r with
  |some row=>bif Nat.beq row.e e then (cE p.1 [⟨.slice row.t,row.xs⟩]).map (·.1) else none
  |none=>none
 |some _,_=>none
def nu (T:List eI)(σ:AS)(hin:List Nat):List ResultVar→(ts:List Ba)→Option (nt (ts.map (·.1)))
 | [],[]=>some ()
 | [v],[p]=>(xG T σ v).bind (zk σ hin p)
 |v::vs,p::q::ps=>match (xG T σ v).bind (zk σ hin p),nu T σ hin vs (q::ps) with
  |some x,some y=>some (x,y)
  |_,_=>none
 |_,_=>none
def nT (T:List eI)(σ:AS):List ResultVar→List Nat
 | []=>[]
 |v::vs=>match xG T σ v with
  |some (.rv (.own r))=>r::nT T σ vs
  |_=>nT T σ vs
def Hu (l:List Ba):Bool:=l.any fun p=>p.2.isSome
def iC (boxes:List (Nat×BX)):(ts:List Ty)→List yy→Option (nt ts)
 | [],[]=>some ()
 | [t],[.box b]=>match look boxes b with
   |some (.cells cs)=>sP t cs
   |_=>none
 |t::u::ts, .box b::cs=>match look boxes b with
  |some (.cells l)=>match sP t l with
   |some x=>match iC boxes (u::ts) cs with
    |some y=>some (x,y)
    |none=>none
   |none=>none
  |_=>none
 |_,_=>none
def Js (T:List eI)(vars:List ResultVar)(s:za)(σ:AS):Option (Ce s):=match s with
 | ⟨_,_,_,_,some ts⟩=>match vars with
   | []=>(cE (.slice (gR ts)) [σ.trace]).map (·.1)
   |_=>none
 | ⟨_,_,some (f,ts),_,none⟩=>match vars with
   | [v]=>match xG T σ v with
     |some (.fn g aP)=>bif Nat.beq g f&&pT (bf aP) then iC σ.boxes ts aP else none
     |_=>none
   |_=>none
 | ⟨_,res,none,hs,none⟩=>bif pT (nT T σ vars)|| !(Hu res) then nu T σ (hs.map (·.1)) vars res else none
def uO (s:za):CV:=match s.gen with
 |some ts=>⟨.slice (gR ts),([]:List (gR ts).den)⟩
 |none=>⟨.unit,()⟩
def C4 (T:cm)(fn:Func)(v:Nat)(x:wj T v):AS:=
 ⟨dW.of (Ht (T.sig v).args (oX _ x) 0) (fn.ntmps - (T.sig v).args.length) T.Xr,[],c9 (T.sig v).args (oX _ x) 0,lW T (T.sig v).hout (T.sig v).hin (vC _ x) (ek T),uO (T.sig v),[],T.sites v⟩
def Bf (T:cm)(fn:Func)(v:Nat):Ex→AS→Option (pP T v):=fun e σ=>match e with
 | .exit _=>none
 |_=>match Js T.rows fn.results.toList (T.sig v) σ with
  |some y=>zb y (T.sig v).hout (Cf T σ.ab (T.sig v).hout)
  |none=>none
noncomputable def Lj (T:cm)(fn:Func)(c:Code)(Φ:bE T)(n:Nat)(v:Nat)(x:wj T v):Option (pP T v):=
 aJ T Φ n c (T.hint v) (C4 T fn v x) (Bf T fn v)
abbrev Cj (T:cm):=(v:Nat)→Option (wj T v→Option (pP T v))
noncomputable def yS (T:cm)(B:Cj T)(fns:Nat→Option Func):Nat→bE T
 |0,_,_=>none
 |n+1,v,x=>match B v with
  |some g=>g x
  |none=>match fns v with
   |some fn=>match fn.body with
    |some c=>Lj T fn c (yS T B fns n) n v x
    |none=>none
   |none=>none
open Go.RowKit
section
variable {α:Type}
theorem beq_iff (a b:Nat):Nat.beq a b=true↔a=b:=⟨fun h=>Nat.eq_of_beq_eq_true h,fun h=>by subst h;exact Nat.beq_refl a⟩
theorem nv {a b:Nat}:Nat.beq a b=false↔a≠b:=by
 constructor
 ·intro h e;rw[(beq_iff a b).2 e] at h;cases h
 ·intro h;cases hb:Nat.beq a b
  ·rfl
  ·exact absurd ((beq_iff a b).1 hb) h
theorem beq_refl (a:Nat):Nat.beq a a=true:=(beq_iff a a).2 rfl
theorem jt {a b:Nat}(h:a≠b):Nat.beq a b=false:=nv.2 h
theorem aF (l:List (Nat×α))(j:Nat)(v:α)(i:Nat):look (put l j v) i=if j=i then some v else look l i:=by
 induction l with
 |nil=>by_cases h:j=i<;>simp[put,look,h,beq_refl,jt]
 |cons p r ih=>
  obtain⟨k,u⟩:=p;simp only[put];cases hlt:Nat.blt j k with
  |true=>simp only[cond_true,look];by_cases h:j=i<;>simp[h,beq_refl,jt]
  |false=>
   simp only[cond_false];cases hb:Nat.beq k j with
   |true=>have:=(beq_iff _ _).1 hb;subst this;simp only[cond_true,look];by_cases h:k=i<;>simp[h,beq_refl,jt]
   |false=>
    have hne:=nv.1 hb;simp only[cond_false,look,ih];by_cases h:k=i
    ·subst h;simp[beq_refl];intro e;exact absurd e.symm hne
    ·simp[jt h]
theorem tl (l:List (Nat×α))(j i:Nat):look (del l j) i=if j=i then none else look l i:=by
 induction l with
 |nil=>simp[del,look]
 |cons p r ih=>
  obtain⟨k,u⟩:=p;simp only[del];cases hb:Nat.beq k j with
  |true=>have:=(beq_iff _ _).1 hb;subst this;simp only[cond_true,ih,look];by_cases h:k=i<;>simp[h,jt]
  |false=>
   have hne:=nv.1 hb;simp only[cond_false,look,ih];by_cases h:k=i
   ·subst h;simp[beq_refl];intro e;exact absurd e.symm hne
   ·simp[jt h]
theorem rC (l:List (Nat×α))(p:Nat→Bool)(i:Nat):look (l.filter fun x=>p x.1) i=if p i then look l i else none:=by
 induction l with
 |nil=>simp[look]
 |cons q r ih=>
  obtain⟨k,u⟩:=q;simp only[List.filter_cons];by_cases hk:k=i
  ·subst hk;cases hp:p k<;>simp[look,hp,beq_refl,ih]
  ·cases hp:p k<;>simp[look,hp,jt hk,ih]
theorem put_comm (l:List (Nat×α)){i j:Nat}(u v:α)(h:i≠j):put (put l i u) j v=put (put l j v) i u:=by
 have FA:∀{a b:Nat},a<b→Nat.blt a b=true:=fun h=>by simp[Nat.blt,Nat.ble_eq];omega
 have FB:∀{a b:Nat},¬a<b→Nat.blt a b=false:=fun h=>by
  cases hb:Nat.blt _ _
  ·rfl
  ·simp[Nat.blt,Nat.ble_eq] at hb;omega
 induction l with
 |nil=>
  rcases Nat.lt_or_gt_of_ne h with h1 |h1
  ·simp[put,FA h1,FB (show ¬j<i by omega),jt h]
  ·simp[put,FA h1,FB (show ¬i<j by omega),jt (Ne.symm h)]
 |cons p r ih=>
  obtain⟨k,x⟩:=p;simp only[put];by_cases h1:i<k<;>by_cases h2:j<k<;>by_cases h3:k=i<;>by_cases h4:k=j<;>
   by_cases h5:i<j<;>
   first
   |omega
   | (have h6:¬j<i:=by omega
      simp[put, *,FA,FB,jt,beq_refl,Ne.symm h];try omega)
   | (have h6:j<i:=by omega
      simp[put, *,FA,FB,jt,beq_refl,Ne.symm h];try omega)
end
theorem J1 {α:Type}(l:List (Nat×α))(j:Nat)(v:α)(i:Nat):look (Cg l j v) i=if j=i then some v else look l i:=by
 induction l with
 |nil=>by_cases h:j=i<;>simp[Cg,look,h,beq_refl,jt]
 |cons p r ih=>
  obtain⟨k,u⟩:=p;simp only[Cg];cases hlt:Nat.blt k j with
  |true=>simp only[cond_true,look];by_cases h:j=i<;>simp[h,beq_refl,jt]
  |false=>
   simp only[cond_false];cases hb:Nat.beq k j with
   |true=>have:=(beq_iff _ _).1 hb;subst this;simp only[cond_true,look];by_cases h:k=i<;>simp[h,beq_refl,jt]
   |false=>
    have hne:=nv.1 hb;simp only[cond_false,look,ih];by_cases h:k=i
    ·subst h;simp[beq_refl];intro e;exact absurd e.symm hne
    ·simp[jt h]
theorem AL (f:AV→AV)(l:List (Nat×AV))(i:Nat):look (Jp f l) i=(look l i).map f:=by
 induction l with
 |nil=>rfl
 |cons p r ih=>obtain⟨k,u⟩:=p;simp only[Jp,List.map_cons,look] at ih ⊢;cases Nat.beq k i<;>simp[ih]
theorem tn {α:Type}{l:List (Nat×α)}{i:Nat}{x:α}(h:look l i=some x):(i,x)∈l:=by
 induction l with
 |nil=>cases h
 |cons p r ih=>
  obtain⟨k,u⟩:=p;simp only[look] at h;cases hb:Nat.beq k i with
  |true=>
   have:=(beq_iff _ _).1 hb;subst this;rw[hb] at h;have e:u=x:=by simpa using h
   subst e;exact List.mem_cons_self
  |false=>rw[hb] at h;exact List.mem_cons_of_mem _ (ih h)
theorem fA (f:BX→BX)(l:List (Nat×BX))(i:Nat):look (zc f l) i=(look l i).map f:=by
 induction l with
 |nil=>rfl
 |cons p r ih=>obtain⟨k,u⟩:=p;simp only[zc,List.map_cons,look] at ih ⊢;cases Nat.beq k i<;>simp[ih]
inductive Nm where
 |row (r:Nat) |box (b:Nat) |hp (h n:Nat)
inductive Obj where
 |row (r:Row) |box (x:BX) |hp (k:Nat) (r:Row)
def cr:Value→Option Nat
 | .slice (some a) _ _=>some a.block
 | .pointer (some a)=>some a.block
 | .map (some r)=>some r
 |_=>none
def yC (e:TypeId)(t:Ty)(k:Nat)(o:Option (Option (List t.den))):Option Obj:=match o with
 |some (some l)=>some (.hp k ⟨e,t,l⟩)
 |_=>none
def ki (ab:List bh)(h:Nat):Nat→Option Obj
 |0=>none
 |m+1=>match ab[h]? with
  |some hr=>yC hr.e hr.t hr.k hr.xs[m]?
  |none=>none
def AS.obj (σ:AS):Nm→Option Obj
 | .row r=>(look σ.rows r).map .row
 | .box b=>(look σ.boxes b).map .box
 | .hp h n=>ki σ.ab h n
def hlen (ab:List bh)(h:Nat):Nat:=match ab[h]? with
 |some hr=>hr.xs.length
 |none=>0
def Own (σ:AS)(ν:Nm→Value)(m:Nm)(k:Nat):Prop:=(σ.obj m).isSome=true∧cr (ν m)=some k
def Hid (σ:AS)(ν:Nm→Value)(k:Nat):Prop:=∃m,Own σ ν m k
structure Env where
 V0:View
 w0:World
 X:Nat→Prop
 J:CV→(Nat→Prop)→World→Prop
 XS:Nat→Value
 Y:Value
 ro:Nat→Option bh
 h0:List bh
 n0:Nat→Nat→Value
 M:Nat→Prop
 base:World
 CB:Nat→Prop
 Om:Nat→Prop
 acc:CV→Prop
 XH:Nat→Nat→Prop
def Env.J2 (E:Env):Nm→Nat→Prop
 | .row _,_=>False
 | .box _,_=>True
 | .hp i _,k=>E.XH i k
def Env.pQ (E:Env)(m:Nm):Prop:=∃i n hr,m= .hp i n∧E.ro i=some hr
theorem Ez {E:Env}{r:Nat}:¬E.pQ (.row r):=fun⟨_,_,_,e,_⟩=>by cases e
theorem Ck {E:Env}{r:Nat}:¬E.pQ (.box r):=fun⟨_,_,_,e,_⟩=>by cases e
def view (E:Env)(σ:AS)(ν:Nm→Value)(O:Nat→Prop)(w:World):View:=fun key v=>match key with
 | .cell a=>(a.block<E.w0.heap.size∧E.V0 (.cell a) v)∨(E.w0.heap.size≤a.block∧¬Hid σ ν a.block∧¬O a.block∧w.cell? a=some v)
 | .ref h n=>1≤n∧n≤hlen σ.ab h∧v=ν (.hp h n)
def nf (V:View)(σ:AS)(ν:Nm→Value):RV→Value→Prop
 | .cv c,v=>bw V c v
 | .agg cs,v=>∃vs:List Value,v= .agg vs.toArray∧aE (bw V) cs vs
 | .own r,v=>v=ν (.row r)∧(look σ.rows r).isSome=true
def tp (σ:AS)(ν:Nm→Value)(b off:Nat)(v:Value):Prop:=(look σ.boxes b).isSome=true∧∃g,ν (.box b)= .pointer (some ⟨g,0,none⟩)∧v= .pointer (some ⟨g,off,none⟩)
def ng (V:View)(cs:List CV)(v:Value):Prop:=∃(ad:Addr) (vs:List Value),v= .pointer (some ad)∧aE (bw V) cs vs∧∀(j:Nat) u,vs[j]? =some u→V (ad.add j) u
def nw (V:View)(σ:AS)(ν:Nm→Value):yy→Value→Prop
 | .box b,v=>tp σ ν b 0 v
 | .pO cs,v=>ng V cs v
def al (V:View)(σ:AS)(ν:Nm→Value)(Y:Value):AV→Value→Prop
 | .rv x,v=>nf V σ ν x v
 | .lit u,v=>v=u
 | .box b off,v=>tp σ ν b off v
 | .CX r sz i off,v=>∃row g,look σ.rows r=some row∧cr (ν (.row r))=some g∧sz=row.t.size∧v= .pointer (some ⟨g,i*sz+off,none⟩)
 | .pO cs,v=>ng V cs v
 | .hel h n i off,v=>∃hr g,σ.ab[h]? =some hr∧1≤n∧n≤hr.xs.length∧cr (ν (.hp h n))=some g∧v= .pointer (some ⟨g,i*hr.t.size+off,none⟩)
 | .fn f aP,v=>∃vs:List Value,v= .func (.func f) #[] vs.toArray∧aE (nw V σ ν) aP vs
 | .Gw,v=>v=Y
 | .RG l,v=>∃vs:List Value,v= .tuple vs.toArray∧aE (nf V σ ν) l vs
 | .X7 t cs,v=>∃vs:List Value,v= .iface t (.agg vs.toArray)∧aE (bw V) cs vs
 | .nil,_=>True
def fR (V:View)(w:World)(v:Value)(row:Row):Prop:=
 ∃bl:List (List Value),w.ownsRow 0 row.e row.t.size v row.xs.length bl.flatten∧aE (Rel V row.t) row.xs bl
def tq (V:View)(σ:AS)(ν:Nm→Value)(w:World)(v:Value)(x:BX):Prop:=
 ∃g,v= .pointer (some ⟨g,0,none⟩)∧match x with
  | .cells cs=>∃(cur:Array Value) (e:TypeId),w.heap[g]? =some (.cells cur e (0,0))∧aE (bw V) cs cur.toList
  | .own r=>∃e:TypeId,w.heap[g]? =some (.cells #[ν (.row r)] e (0,0))∧(look σ.rows r).isSome=true
  | .nil=>∃(u:Value) (e:TypeId),w.heap[g]? =some (.cells #[u] e (0,0))
def sD (V:View)(w:World)(k:Nat)(v:Value)(row:Row):Prop:=match k with
 |0=>Ts v∧fR V w v row
 |1=>∃(g:Nat) (cur:Array Value) (ys:List Value) (x:row.t.den),v= .pointer (some ⟨g,0,none⟩)∧w.heap[g]? =some (.cells cur row.e (0,0))∧cur.toList=ys∧row.xs=[x]∧Rel V row.t x ys
 |_=>False
def xH (V:View)(σ:AS)(ν:Nm→Value)(w:World)(v:Value):Obj→Prop
 | .row row=>fR V w v row
 | .box x=>tq V σ ν w v x
 | .hp k row=>sD V w k v row
def yT (R:AV→Value→Prop)(s:dW)(ys:List Value)(X:Nat→Value):Prop:=
 s.n=ys.length∧(∀i x,look s.l i=some x→R x (ys.getD i undef))∧∀i x,look s.s i=some x→R x (X i)
structure dp (C:Nat→Prop) (w w':World):Prop where
 os:w'.os=w.os
 tape:w'.tape=w.tape
 output:w'.output=w.output
 size:w.heap.size≤w'.heap.size
 block:∀k,k<w.heap.size→¬C k→w'.heap[k]? =w.heap[k]?
theorem dp.refl (C:Nat→Prop)(w:World):dp C w w:=⟨rfl,rfl,rfl,Nat.le_refl _,fun _ _ _=>rfl⟩
theorem dp.rD {C:Nat→Prop}{w w':World}(h:Below w.heap.size w w'):dp C w w':=⟨h.os,h.tape,h.output,h.size,fun k hk _=>h.block k hk⟩
theorem dp.mono {C C':Nat→Prop}{w w':World}(h:dp C w w')(hC:∀k,k<w.heap.size→C k→C' k):dp C' w w':=⟨h.os,h.tape,h.output,h.size,fun k hk hn=>h.block k hk fun hc=>hn (hC k hk hc)⟩
theorem dp.trans {C D:Nat→Prop}{a b c:World}(h:dp C a b)(k:dp D b c)(hD:∀i,i<a.heap.size→D i→C i):dp C a c:=
 ⟨k.os.trans h.os,k.tape.trans h.tape,k.output.trans h.output,Nat.le_trans h.size k.size,fun i hi hn=>
   (k.block i (Nat.lt_of_lt_of_le hi h.size) fun hd=>hn (hD i hi hd)).trans (h.block i hi hn)⟩
theorem dp.below {w w':World}(h:dp (fun _=>False) w w'):Below w.heap.size w w':=⟨h.os,h.tape,h.output,h.size,fun k hk=>h.block k hk id⟩
def RS (k:Nat)(v:Value):Prop:=(k=0∧∃g n c,v= .slice (some ⟨g,0,none⟩) n c)∨(k=1∧∃g,v= .pointer (some ⟨g,0,none⟩))
structure sE (hr hr':bh):Prop where
 e:hr'.e=hr.e
 t:hr'.t=hr.t
 k:hr'.k=hr.k
 w:hr'.w=hr.w
theorem sE.refl (hr:bh):sE hr hr:=⟨rfl,rfl,rfl,rfl⟩
theorem sE.trans {a b c:bh}(h:sE a b)(g:sE b c):sE a c:=⟨g.e.trans h.e,g.t.trans h.t,g.k.trans h.k,g.w.trans h.w⟩
structure HK (h0:List bh) (n0:Nat→Nat→Value) (hs:List bh) (ν:Nm→Value):Prop where
 num:hs.length=h0.length
 row:∀(h:Nat) (hr:bh),h0[h]? =some hr→∃hr':bh,hs[h]? =some hr'∧sE hr hr'∧hr.xs.length≤hr'.xs.length
 nm:∀h n,1≤n→n≤hlen h0 h→ν (.hp h n)=n0 h n
structure St (E:Env) (σ:AS) (a:Act) (w:World) (ν:Nm→Value) (O:Nat→Prop):Prop where
 keep:dp E.X E.w0 w
 marks:∀d∈a.defers,∃r,d=⟨.collected r, #[]⟩∧E.w0.heap.size≤r∧w.heap[r]? =some (.deferred (some []))∧¬O r
 slots:yT (al (view E σ ν O w) σ ν E.Y) σ.tmps a.tmps.toList E.XS
 sQ:∀m o,σ.obj m=some o→xH (view E σ ν O w) σ ν w (ν m) o
 inj:∀m m' k,Own σ ν m k→Own σ ν m' k→m=m'
 oW:∀m k,Own σ ν m k→(E.w0.heap.size≤k∨E.X k∨E.pQ m)∧k<w.heap.size∧¬O k
 new:∀m k,Own σ ν m k→E.w0.heap.size≤k∨E.J2 m k
 out:E.J σ.trace O w∧∀k,O k→k<w.heap.size∧(k<E.w0.heap.size→E.X k)
 nn:∀(h:Nat) (hr:bh) (n:Nat),σ.ab[h]? =some hr→1≤n→n≤hr.xs.length→RS hr.k (ν (.hp h n))
 ro:∀h hr,E.ro h=some hr→σ.ab[h]? =some hr∧hr.w=false
 kept:HK E.h0 E.n0 σ.ab ν
 waits:∀r,E.M r→w.heap[r]? =some (.deferred (some []))∧¬O r
 o6:dp E.CB E.base w
 pU:∀m k,Own σ ν m k→E.pQ m∨E.CB k∨E.base.heap.size≤k
 C5:∀k,E.Om k→O k
 nd:a.defers.Nodup
structure aB (E:Env):Prop where
 cell:∀ad v,E.V0 (.cell ad) v→E.w0.cell? ad=some v∧¬E.X ad.block
 stay:∀tr O w w' C,E.J tr O w→dp C w w'→(∀k,C k→¬O k∧(k<E.w0.heap.size→E.X k))→E.J tr O w'
section
variable {E:Env}{σ af:AS}{a:Act}{w w':World}{ν aK:Nm→Value}{O:Nat→Prop}
abbrev St.V (E:Env)(σ:AS)(w:World)(ν:Nm→Value)(O:Nat→Prop):View:=view E σ ν O w
theorem qt (hE:aB E)(hb:dp E.X E.w0 w){a:Addr}{v:Value}(h:view E σ ν O w a v):w.cell? a=some v:=by
 rcases h with ⟨hlt,h⟩ | ⟨_,_,_,h⟩
 ·obtain⟨h1,h2⟩:=hE.cell _ _ h;rw[World.cell?_of_block (hb.block a.block hlt h2)];exact h1
 ·exact h
structure HSub (σ:AS) (ν:Nm→Value) (af:AS) (aK:Nm→Value):Prop where
 num:af.ab.length=σ.ab.length
 row:∀(h:Nat) (hr:bh),σ.ab[h]? =some hr→∃hr':bh,af.ab[h]? =some hr'∧sE hr hr'∧hr.xs.length≤hr'.xs.length
 nm:∀h n,1≤n→n≤hlen σ.ab h→aK (.hp h n)=ν (.hp h n)
theorem HSub.of_eq (e:af.ab=σ.ab)(hν:∀i n,aK (.hp i n)=ν (.hp i n)):HSub σ ν af aK:=⟨by rw[e],fun i hr h=>⟨hr,by rw[e];exact h,sE.refl _,Nat.le_refl _⟩,fun i n _ _=>hν i n⟩
theorem HSub.refl (σ:AS)(ν:Nm→Value):HSub σ ν σ ν:=HSub.of_eq rfl fun _ _=>rfl
theorem HSub.len (h:HSub σ ν af aK)(i:Nat):hlen σ.ab i≤hlen af.ab i:=by
 unfold hlen;cases hi:σ.ab[i]? with
 |none=>exact Nat.zero_le _
 |some hr=>obtain⟨hr',h1,_,h2⟩:=h.row i hr hi;simp only[h1];exact h2
theorem HK.trans {h0:List bh}{n0:Nat→Nat→Value}(h:HK h0 n0 σ.ab ν)(hs:HSub σ ν af aK):HK h0 n0 af.ab aK:=by
 have hle:∀i n,1≤n→n≤hlen h0 i→n≤hlen σ.ab i:=fun i n h1 h2=>by
  unfold hlen at h2;cases hi:h0[i]? with
  |none=>rw[hi] at h2;dsimp only at h2;omega
  |some hr=>rw[hi] at h2;obtain⟨hr',e1,_,e2⟩:=h.row i hr hi;unfold hlen;rw[e1];exact Nat.le_trans h2 e2
 refine⟨hs.num.trans h.num,fun i hr e=> ?_,fun i n h1 h2=>(hs.nm i n h1 (hle i n h1 h2)).trans (h.nm i n h1 h2)⟩;obtain⟨EA,e1,e2,e3⟩:=h.row i hr e;obtain⟨yD,e4,e5,e6⟩:=hs.row i EA e1;exact⟨yD,e4,e2.trans e5,Nat.le_trans e3 e6⟩
theorem ta {O':Nat→Prop}{C:Nat→Prop}(hg:dp C w w')(hs:HSub σ ν af aK)
  (hk:∀k,E.w0.heap.size≤k→k<w.heap.size→¬Hid σ ν k→¬O k→¬Hid af aK k∧¬O' k∧¬C k) {key:Key} {v:Value}
  (h:view E σ ν O w key v):view E af aK O' w' key v:=by
 cases key with
 |cell a=>
  rcases h with h | ⟨h1,h2,h3,h4⟩
  ·exact .inl h
  ·have hlt:=World.block_lt_of_cell? w a h4;obtain⟨h5,h6,h7⟩:=hk _ h1 hlt h2 h3;exact .inr ⟨h1,h5,h6,by rw[World.cell?_of_block (hg.block _ hlt h7)];exact h4⟩
 |ref i n=>obtain⟨h1,h2,h3⟩:=h;exact⟨h1,Nat.le_trans h2 (hs.len i),by rw[hs.nm i n h1 h2];exact h3⟩
structure Sub (σ:AS) (ν:Nm→Value) (af:AS) (aK:Nm→Value):Prop extends HSub σ ν af aK where
 rows:∀r row,look σ.rows r=some row→aK (.row r)=ν (.row r)∧∃row',look af.rows r=some row'∧row'.t.size=row.t.size
 boxes:∀b,(look σ.boxes b).isSome=true→aK (.box b)=ν (.box b)∧(look af.boxes b).isSome=true
theorem Sub.refl (σ:AS)(ν:Nm→Value):Sub σ ν σ ν:=⟨HSub.refl σ ν,fun r row h=>⟨rfl,row,h,rfl⟩,fun b h=>⟨rfl,h⟩⟩
theorem Sub.zd (h:Sub σ ν af aK){r:Nat}(hr:(look σ.rows r).isSome=true):aK (.row r)=ν (.row r)∧(look af.rows r).isSome=true:=by obtain⟨row,hrow⟩:=Option.isSome_iff_exists.1 hr;obtain⟨h1,row',h2,_⟩:=h.rows r row hrow;exact⟨h1,by simp[h2]⟩
theorem nf.mono {V V':View}(hV:∀a v,V a v→V' a v)(hs:Sub σ ν af aK):∀(x:RV) (v:Value),nf V σ ν x v→nf V' af aK x v
 | .cv c,v,h=>bw.mono hV c v h
 | .agg cs,v,⟨vs,e,h⟩=>⟨vs,e,h.mono (bw.mono hV)⟩
 | .own r,v,⟨e,h⟩=>⟨by rw[(hs.zd h).1];exact e,(hs.zd h).2⟩
theorem tp.mono (hs:Sub σ ν af aK){b off:Nat}{v:Value}(h:tp σ ν b off v):tp af aK b off v:=by obtain⟨h1,g,h2,h3⟩:=h;obtain⟨h4,h5⟩:=hs.boxes b h1;exact⟨h5,g,by rw[h4];exact h2,h3⟩
theorem ng.mono {V V':View}(hV:∀a v,V a v→V' a v){cs:List CV}{v:Value}(h:ng V cs v):ng V' cs v:=by obtain⟨ad,vs,h1,h2,h3⟩:=h;exact⟨ad,vs,h1,h2.mono (bw.mono hV),fun j u hj=>hV _ _ (h3 j u hj)⟩
theorem nw.mono {V V':View}(hV:∀a v,V a v→V' a v)(hs:Sub σ ν af aK):∀(x:yy) (v:Value),nw V σ ν x v→nw V' af aK x v
 | .box b,v,h=>tp.mono hs h
 | .pO cs,v,h=>ng.mono hV h
theorem al.mono {V V':View}{Y:Value}(hV:∀a v,V a v→V' a v)(hs:Sub σ ν af aK):∀(x:AV) (v:Value),al V σ ν Y x v→al V' af aK Y x v:=by
 intro x v h;cases x with
 |rv x=>exact nf.mono hV hs x v h
 |lit u=>exact h
 |box b off=>exact tp.mono hs h
 |CX r sz i off=>obtain⟨row,g,h1,h2,h3,h4⟩:=h;obtain⟨h5,row',h6,h7⟩:=hs.rows r row h1;exact⟨row',g,h6,by rw[h5];exact h2,by rw[h7];exact h3,h4⟩
 |pO cs=>exact ng.mono hV h
 |hel i n j off=>obtain⟨hr,g,h1,h2,h3,h4,h5⟩:=h;obtain⟨hr',h6,h7,h8⟩:=hs.row i hr h1;exact⟨hr',g,h6,h2,Nat.le_trans h3 h8,by rw[hs.nm i n h2 (by unfold hlen;simp only[h1];exact h3)];exact h4,by rw[h7.t];exact h5⟩
 |fn f aP=>obtain⟨vs,h1,h2⟩:=h;exact⟨vs,h1,h2.mono (nw.mono hV hs)⟩
 |Gw=>exact h
 |RG l=>obtain⟨vs,h1,h2⟩:=h;exact⟨vs,h1,h2.mono (nf.mono hV hs)⟩
 |X7 t cs=>obtain⟨vs,h1,h2⟩:=h;exact⟨vs,h1,h2.mono (bw.mono hV)⟩
 |nil=>trivial
theorem Jt {w w':World}{e:TypeId}{size n:Nat}{v:Value}{xs:List Value}(hk:∀k,cr v=some k→w'.heap[k]? =w.heap[k]?)(h:w.ownsRow 0 e size v n xs):w'.ownsRow 0 e size v n xs:=by
 obtain⟨h1,h2⟩:=h;refine⟨h1, ?_⟩;rcases h2 with h2 | ⟨g,cap,cur,rfl,hb,hg,rest⟩
 ·exact .inl h2
 ·exact .inr ⟨g,cap,cur,rfl,hb,by rw[hk g rfl];exact hg,rest⟩
theorem fR.mono {V V':View}{v:Value}{row:Row}(hV:∀a v,V a v→V' a v)(hk:∀k,cr v=some k→w'.heap[k]? =w.heap[k]?)
  (h:fR V w v row):fR V' w' v row:=by
 obtain⟨bl,h1,h3⟩:=h;exact⟨bl,Jt hk h1,h3.mono (Rel.mono hV _)⟩
theorem sD.mono {V V':View}{k:Nat}{v:Value}{row:Row}(hV:∀a v,V a v→V' a v)(hk:∀k,cr v=some k→w'.heap[k]? =w.heap[k]?)
  (h:sD V w k v row):sD V' w' k v row:=by
 match k,h with
 |0,⟨h1,h2⟩=>exact⟨h1,h2.mono hV hk⟩
 |1,⟨g,cur,ys,x,h1,h2,h3,h4,h5⟩=>exact⟨g,cur,ys,x,h1,by rw[hk g (by rw[h1];rfl)];exact h2,h3,h4,Rel.mono hV _ _ _ h5⟩
theorem tq.mono {V V':View}{v:Value}{x:BX}(hV:∀a v,V a v→V' a v)(hk:∀k,cr v=some k→w'.heap[k]? =w.heap[k]?)
  (hr:∀r,x= .own r→(look σ.rows r).isSome=true→aK (.row r)=ν (.row r)∧(look af.rows r).isSome=true) (h:tq V σ ν w v x):tq V' af aK w' v x:=by
 obtain⟨g,h1,h2⟩:=h;have hg:=hk g (by rw[h1];rfl);refine⟨g,h1, ?_⟩;cases x with
 |cells cs=>obtain⟨cur,e,h3,h4⟩:=h2;exact⟨cur,e,by rw[hg];exact h3,h4.mono (bw.mono hV)⟩
 |own r=>obtain⟨e,h3,h4⟩:=h2;obtain⟨h5,h6⟩:=hr r rfl h4;exact⟨e,by rw[hg,h5];exact h3,h6⟩
 |nil=>obtain⟨u,e,h3⟩:=h2;exact⟨u,e,by rw[hg];exact h3⟩
theorem xH.mono {V V':View}{v:Value}{o:Obj}(hV:∀a v,V a v→V' a v)(hk:∀k,cr v=some k→w'.heap[k]? =w.heap[k]?)
  (hr:∀r,o= .box (.own r)→(look σ.rows r).isSome=true→aK (.row r)=ν (.row r)∧(look af.rows r).isSome=true) (h:xH V σ ν w v o):xH V' af aK w' v o:=by
 cases o with
 |row row=>exact fR.mono hV hk h
 |box x=>exact tq.mono hV hk (fun r e=>hr r (by rw[e])) h
 |hp k row=>exact sD.mono hV hk h
theorem yT.mono {R S:AV→Value→Prop}{s:dW}{ys:List Value}{X:Nat→Value}(h:yT R s ys X)(hf:∀x v,R x v→S x v):yT S s ys X:=
 ⟨h.1,fun i x hx=>hf _ _ (h.2.1 i x hx),fun i x hx=>hf _ _ (h.2.2 i x hx)⟩
theorem C6 {R:AV→Value→Prop}(hn:∀v,R .nil v){s:dW}{ys:List Value}{X:Nat→Value}(h:yT R s ys X)(i:Nat):R (nth s i) (ys.getD i undef):=by
 unfold nth;cases hl:look s.l i with
 |none=>exact hn _
 |some x=>exact h.2.1 i x hl
theorem nU (a b:Nat):Nat.blt a b=true↔a<b:=by simp[Nat.blt,Nat.ble_eq];omega
theorem MR {R:AV→Value→Prop}{s:dW}{ys:List Value}{X:Nat→Value}{i:Nat}{x:AV}{y:Value}(h:yT R s ys X)(hx:R x y):yT R (uG s i x) (ys.set i y) X:=by
 unfold uG;cases hb:Nat.blt i s.n with
 |true=>
  have hi:i<ys.length:=by rw[←h.1];exact(nU _ _).1 hb
  refine⟨by rw[List.length_set];exact h.1,fun j z hz=> ?_,h.2.2⟩;have TG:look (Cg s.l i x) j=some z:=hz;rw[J1] at TG;by_cases e:i=j
  ·subst e;rw[if_pos rfl] at TG;obtain rfl:x=z:=by simpa using TG
   simpa [List.getD,List.getElem?_set,hi] using hx
  ·rw[if_neg e] at TG;have:=h.2.1 j z TG;simpa [List.getD,List.getElem?_set,e] using this
 |false=>
  have hi:¬i<ys.length:=fun hi=>by rw[←h.1, ←nU,hb] at hi;cases hi
  simp only[cond_false];rw[List.set_eq_of_length_le (by omega)];exact h
theorem AM {R S:AV→Value→Prop}{f:AV→AV}(hf:∀x v,R x v→S (f x) v){s:dW}{ys:List Value}{X:Nat→Value}(h:yT R s ys X):yT S (s.map f) ys X:=by
 refine⟨h.1,fun i x hx=> ?_,fun i x hx=> ?_⟩
 ·have hx':look (Jp f s.l) i=some x:=hx;rw[AL] at hx';obtain⟨z,hz,rfl⟩:=Option.map_eq_some_iff.1 hx';exact hf _ _ (h.2.1 i z hz)
 ·have hx':look (Jp f s.s) i=some x:=hx;rw[AL] at hx';obtain⟨z,hz,rfl⟩:=Option.map_eq_some_iff.1 hx';exact hf _ _ (h.2.2 i z hz)
theorem TH {R:AV→Value→Prop}{σ:AS}{a:Act}{X:Nat→Value}{d:Option Tmp}{x:AV}{v:Value}(h:yT R σ.tmps a.tmps.toList X)(hx:R x v):
  yT R (σ.fG d x).tmps (a.put d v).tmps.toList X:=by
 cases d with
 |none=>exact h
 |some d=>simpa [AS.fG,Act.put] using MR h hx
theorem MS {a:Act}{d:Option Tmp}{v:Value}:(a.put d v).defers=a.defers:=by cases d<;>rfl
def Bg (σ af:AS):Prop:=af.rows=σ.rows∧af.boxes=σ.boxes∧af.ab=σ.ab∧af.trace=σ.trace
theorem Bg.obj (h:Bg σ af):af.obj=σ.obj:=by obtain⟨h1,h2,h3,_⟩:=h;funext m;cases m<;>simp[AS.obj,h1,h2,h3]
theorem Bg.view (h:Bg σ af):view E af ν O w=view E σ ν O w:=by have:=h.obj;unfold Abs.view Hid Own;rw[this,h.2.2.1]
theorem Bg.sub (h:Bg σ af):Sub σ ν af ν:=by obtain⟨h1,h2,h3,_⟩:=h;exact⟨HSub.of_eq h3 (fun _ _=>rfl),fun r row h=>⟨rfl,row,by rw[h1];exact h,rfl⟩,fun b h=>⟨rfl,by rw[h2];exact h⟩⟩
theorem Bg.av (h:Bg σ af){V:View}{Y:Value}{x:AV}{v:Value}(hr:al V σ ν Y x v):al V af ν Y x v:=al.mono (fun _ _ h=>h) h.sub x v hr
theorem Bg.symm (h:Bg σ af):Bg af σ:=⟨h.1.symm,h.2.1.symm,h.2.2.1.symm,h.2.2.2.symm⟩
theorem Bg.fG {d:Option Tmp}{x:AV}:Bg σ (σ.fG d x):=by cases d<;>exact⟨rfl,rfl,rfl,rfl⟩
theorem St.O9 (h:St E σ a w ν O)(hs:Bg σ af){a':Act}(hd:a'.defers=a.defers)(OR:yT (al (view E σ ν O w) σ ν E.Y) af.tmps a'.tmps.toList E.XS):St E af a' w ν O:=by
 have hv:view E af ν O w=view E σ ν O w:=hs.view;refine⟨h.keep,by rw[hd];exact h.marks, ?_, ?_, ?_, ?_, ?_, ?_, ?_, ?_, ?_,h.waits,h.o6, ?_,h.C5,by rw[hd];exact h.nd⟩
 ·rw[hv];exact OR.mono fun x v hr=>hs.av hr
 ·intro m o ho;rw[hs.obj] at ho;rw[hv];exact(h.sQ m o ho).mono (fun _ _ h=>h) (fun _ _=>rfl) (fun r _ hr=>⟨rfl,by rw[hs.1];exact hr⟩)
 ·unfold Own;rw[hs.obj];exact h.inj
 ·unfold Own;rw[hs.obj];exact h.oW
 ·unfold Own;rw[hs.obj];exact h.new
 ·rw[hs.2.2.2];exact h.out
 ·rw[hs.2.2.1];exact h.nn
 ·rw[hs.2.2.1];exact h.ro
 ·rw[hs.2.2.1];exact h.kept
 ·unfold Own;rw[hs.obj];exact h.pU
theorem St.slot (h:St E σ a w ν O){d:Option Tmp}{x:AV}{v:Value}(hx:al (view E σ ν O w) σ ν E.Y x v):St E (σ.fG d x) (a.put d v) w ν O:=
 h.O9 Bg.fG MS (TH h.slots hx)
theorem MT {V:View}{Y:Value}(v:Value):al V σ ν Y (ofConst v) v:=by cases v<;>first |exact rfl | (show Rel V _ _ _;rfl)
def Cl (E:Env):Prop:=∀g,E.XS (gk g)= .pointer (some ⟨g,0,none⟩)
theorem St.av (hG:Cl E)(h:St E σ a w ν O)(x:Operand):al (view E σ ν O w) σ ν E.Y (σ.av x) (a.eval x):=by
 cases x with
 |tmp t=>have:=C6 (fun v=>by trivial) h.slots t;simpa [AS.av,dW.av,Act.eval] using this
 |const v=>exact MT v
 |global g=>
  simp only[AS.av,dW.av];cases hl:look σ.tmps.s (gk g) with
  |none=>trivial
  |some x=>have:=h.slots.2.2 _ x hl;rw[hG g] at this;exact this
 |func f=>exact⟨[],rfl,trivial⟩
theorem St.step (hE:aB E)(h:St E σ a w ν O){C:Nat→Prop}{a':Act}(hg:dp C w w')(hC:∀k,C k→∃m,Own σ ν m k∧¬E.pQ m)(hs:HSub σ ν af aK)
  (hown:∀m k,Own af aK m k→(∃m',Own σ ν m' k∧(E.pQ m'→E.pQ m))∨w.heap.size≤k) (hlt:∀m k,Own af aK m k→k<w'.heap.size) (abX:∀m m' k,Own af aK m k→Own af aK m' k→m=m')
  (o7:∀m k,Own af aK m k→E.w0.heap.size≤k∨E.J2 m k) (oS:af.trace=σ.trace) (hd:a'.defers=a.defers)
  (VQ:∀(h:Nat) (hr:bh) (n:Nat),af.ab[h]? =some hr→1≤n→n≤hr.xs.length→RS hr.k (aK (.hp h n)))
  (hro:∀h hr,E.ro h=some hr→af.ab[h]? =some hr)
  (J3:(∀key v,view E σ ν O w key v→view E af aK O w' key v)→∀m o,af.obj m=some o→xH (view E af aK O w') af aK w' (aK m) o)
  (OR:(∀key v,view E σ ν O w key v→view E af aK O w' key v)→yT (al (view E af aK O w') af aK E.Y) af.tmps a'.tmps.toList E.XS):St E af a' w' aK O:=by
 have hmono:∀key v,view E σ ν O w key v→view E af aK O w' key v:=fun key v hv=>ta hg hs (fun k h1 h2 h3 h4=>⟨fun⟨m,hm⟩=>by
  rcases hown m k hm with ⟨m',h5,_⟩ |h5
  ·exact h3 ⟨m',h5⟩
  ·omega,h4,fun hc=>h3 ((hC k hc).imp fun _ h=>h.1)⟩) hv
 have hcell:∀r ds,w.heap[r]? =some (.deferred ds)→¬C r:=fun r ds h3 hc=>by
  obtain⟨m,hm,_⟩:=hC r hc;obtain⟨o,ho⟩:=Option.isSome_iff_exists.1 hm.1;have bP:=h.sQ m o ho;have fS:=hm.2
  -- an owned block holds cells
  have:∃cur e,w.heap[r]? =some (.cells cur e (0,0)):=by
   cases o with
   |row row=>
    obtain⟨bl,⟨_,h5⟩,_⟩:=bP;rcases h5 with ⟨h5,_⟩ | ⟨g,cap,cur,h5,_,h6,_⟩
    ·rw[h5] at fS;cases fS
    ·rw[h5] at fS;simp only[cr,Option.some.injEq] at fS;subst fS;exact⟨_,_,h6⟩
   |box x=>
    obtain⟨g,h5,h6⟩:=bP;rw[h5] at fS;simp only[cr,Option.some.injEq] at fS;subst fS;cases x with
    |cells cs=>obtain⟨cur,e,h7,_⟩:=h6;exact⟨_,_,h7⟩
    |own q=>obtain⟨e,h7,_⟩:=h6;exact⟨_,_,h7⟩
    |nil=>obtain⟨u,e,h7⟩:=h6;exact⟨_,_,h7⟩
   |hp k row=>
    match k,bP with
    |0,⟨_,bl,⟨_,h5⟩,_⟩=>
     rcases h5 with ⟨h5,_⟩ | ⟨g,cap,cur,h5,_,h6,_⟩
     ·rw[h5] at fS;cases fS
     ·rw[h5] at fS;simp only[cr,Option.some.injEq] at fS;subst fS;exact⟨_,_,h6⟩
    |1,⟨g,cur,ys,x,h5,h6,_⟩=>rw[h5] at fS;simp only[cr,Option.some.injEq] at fS;subst fS;exact⟨_,_,h6⟩
  obtain⟨cur,e,h5⟩:=this;rw[h5] at h3;cases h3
 refine⟨h.keep.trans hg (fun k hk hc=> ?_), ?_,OR hmono,J3 hmono,abX, ?_,o7, ?_,VQ,fun i hr e=>⟨hro i hr e,(h.ro i hr e).2⟩,h.kept.trans hs,fun r hr=> ?_,h.o6.trans hg (fun k hk hc=> ?_),fun m k hm=> ?_,h.C5,by rw[hd];exact h.nd⟩
 ·obtain⟨m,hm,hm2⟩:=hC k hc;rcases (h.oW m k hm).1 with h1 |h1 |h1
  ·omega
  ·exact h1
  ·exact absurd h1 hm2
 ·rw[hd];intro d OS;obtain⟨r,h1,h2,h3,h4⟩:=h.marks d OS;exact⟨r,h1,h2,by rw[hg.block r (Array.getElem?_eq_some_iff.1 h3).1 (hcell r _ h3)];exact h3,h4⟩
 ·intro m k hm;refine⟨?_,hlt m k hm, ?_⟩
  ·rcases hown m k hm with ⟨m',h1,h2⟩ |h1
   ·exact(h.oW m' k h1).1.imp id (Or.imp id h2)
   ·exact .inl (Nat.le_trans h.keep.size h1)
  ·intro ho;rcases hown m k hm with ⟨m',h1,_⟩ |h1
   ·exact(h.oW m' k h1).2.2 ho
   ·exact absurd (h.out.2 k ho).1 (by omega)
 ·rw[oS];refine⟨hE.stay _ _ _ _ C h.out.1 hg (fun k hc=> ?_),fun k hk=>⟨Nat.lt_of_lt_of_le (h.out.2 k hk).1 hg.size,(h.out.2 k hk).2⟩⟩;obtain⟨m,hm,hm2⟩:=hC k hc;refine⟨(h.oW m k hm).2.2,fun hk=> ?_⟩;rcases (h.oW m k hm).1 with h1 |h1 |h1
  ·omega
  ·exact h1
  ·exact absurd h1 hm2
 ·obtain⟨h1,h2⟩:=h.waits r hr;exact⟨by rw[hg.block r (Array.getElem?_eq_some_iff.1 h1).1 (hcell r _ h1)];exact h1,h2⟩
 ·obtain⟨m,hm,hm2⟩:=hC k hc;rcases h.pU m k hm with h1 |h1 |h1
  ·exact absurd h1 hm2
  ·exact h1
  ·omega
 ·rcases hown m k hm with ⟨m',h1,h2⟩ |h1
  ·exact(h.pU m' k h1).imp h2 id
  ·exact .inr (.inr (Nat.le_trans h.o6.size h1))
theorem St.grow (hE:aB E)(h:St E σ a w ν O)(hb:Below w.heap.size w w'):St E σ a w' ν O:=by refine h.step hE (C:=fun _=>False) (dp.rD hb) (fun k hk=>hk.elim) (HSub.refl σ ν) (fun m k hm=> .inl ⟨m,hm,id⟩) (fun m k hm=>Nat.lt_of_lt_of_le (h.oW m k hm).2.1 hb.size) h.inj h.new rfl rfl h.nn (fun i hr e=>(h.ro i hr e).1) (fun hV m o ho=> ?_) (fun hV=>h.slots.mono (al.mono hV (Sub.refl σ ν)));exact(h.sQ m o ho).mono hV (fun k hk=>hb.block k (h.oW m k ⟨by rw[ho];rfl,hk⟩).2.1) (fun r _ hr=>⟨rfl,hr⟩)
end
def Ye (P:Program)(T:List eI)(r:eI):Ty→Prop
 | .int k=>P.underlying r.id=some (.int k)
 | .bool=>P.underlying r.id=some .bool
 | .str=>P.underlying r.id=some .string
 | .slice u=>P.underlying r.id=some (.slice r.elem)∧∃re,gE T r.elem=some re∧re.ty=u
 | .st u=>(r.arr=false∧∃fs:Array Field,P.underlying r.id=some (.struct fs)∧fs.toList.mapM (fun f=>(P.info? f.type).map fun i=>(f.offset,i.size))=some r.lV∧∀(f off size:Nat),r.lV[f]? =some (off,size)→
   ∃(fd:Field) (j:TypeInfo),fs[f]? =some fd∧fd.offset=off∧P.info? fd.type=some j∧j.size=size∧size≠0∧off+size≤u.size)∨
   (r.arr=true∧∃(n e:Nat) (j:TypeInfo),P.underlying r.id=some (.array n e)∧P.info? e=some j∧r.lV=(List.range n).map (fun i=>(i*j.size,j.size))∧j.size≠0∧u.size=n*j.size)
 | .ptr _=>∃e,P.underlying r.id=some (.pointer e)
 | .mp _=>∃k e,P.underlying r.id=some (.map k e)
 | .fn=>∃a b c,P.underlying r.id=some (.func a b c)
 |_=>False
structure MU (P:Program) (T:List eI) (r:eI):Prop where
 info:∃i z,P.info? r.id=some i∧i.size=r.ty.size∧i.bytes=r.bytes∧i.zero=some z∧(∀V,Rel V r.ty r.ty.zero z.cells.toList)∧(z=wrap r.ty z.cells.toList)∧(∀u,r.ty= .slice u→z= .slice none 0 0)
 desc:Ye P T r r.ty
 lV:(∀u,r.ty≠ .st u)→r.lV=[]
def fT (P:Program)(T:List eI):Prop:=∀t r,gE T t=some r→r.id=t∧MU P T r
section
variable {P:Program}{T:List eI}{V:View}{r:eI}
theorem TI {i:IntKind}{n:Int}{v:Value}(h:bw V ⟨.int i,n⟩ v):v= .int i n:=by have: [v]=[Value.int i n]:=h;simpa using this
theorem J4 {b:Bool}{v:Value}(h:bw V ⟨.bool,b⟩ v):v= .bool b:=by have: [v]=[Value.bool b]:=h;simpa using this
theorem TJ {s:ByteArray}{v:Value}(h:bw V ⟨.str,s⟩ v):v= .string s:=by have: [v]=[Value.string s]:=h;simpa using this
theorem lY {t:Ty}{xs:List t.den}{v:Value}(h:bw V ⟨.slice t,xs⟩ v):∃(A:Option Addr) (c:Nat) (bl:List (List Value)),v= .slice A xs.length c∧
  xs.length≤c∧aE (Rel V t) xs bl∧(A=none→c=0)∧∀j u,bl.flatten[j]? =some u→∃ad,A=some ad∧V (ad.add j) u:=by
 obtain⟨A,c,bl,h1,h2⟩:=h;simp only[List.cons.injEq,and_true] at h1;exact⟨A,c,bl,h1,h2⟩
theorem QE {i:IntKind}{n:Int}:bw V ⟨.int i,n⟩ (.int i n):=by show [Value.int i n]=[Value.int i n];rfl
theorem MV {b:Bool}:bw V ⟨.bool,b⟩ (.bool b):=by show [Value.bool b]=[Value.bool b];rfl
theorem QF {s:ByteArray}:bw V ⟨.str,s⟩ (.string s):=by show [Value.string s]=[Value.string s];rfl
theorem eV {t:Ty}:∀{xs:List t.den} {bl:List (List Value)},aE (Rel V t) xs bl→bl.flatten.length=xs.length*t.size
 | [],[],_=>by simp
 |x::xs,y::ys,h=>by simp[Rel.length h.1,eV h.2,Nat.add_mul];omega
 | [],_::_,h=>h.elim
 |_::_,[],h=>h.elim
theorem tt {t:Ty}:∀{xs:List t.den} {bl:List (List Value)},aE (Rel V t) xs bl→∀(i:Nat) x,xs[i]? =some x→
  ∃ys,bl[i]? =some ys∧Rel V t x ys∧∀j u,ys[j]? =some u→bl.flatten[i*t.size+j]? =some u
 | [],[],_,i,x,hx=>by simp at hx
 |a::xs,b::bl,h,0,x,hx=>by simp at hx;subst hx;refine⟨b,by simp,h.1,fun j u hj=> ?_⟩;have hlt:j<b.length:=(List.getElem?_eq_some_iff.1 hj).1;simp[List.getElem?_append_left hlt,hj]
 |a::xs,b::bl,h,i+1,x,hx=>by obtain⟨ys,h1,h2,h3⟩:=tt h.2 i x (by simpa using hx);refine⟨ys,by simpa using h1,h2,fun j u hj=> ?_⟩;have hb:=Rel.length h.1;have:=h3 j u hj;rw[List.flatten_cons,List.getElem?_append_right (by rw[hb,Nat.succ_mul];omega)];rw[←this];congr 1;rw[hb,Nat.succ_mul];omega
 | [],_::_,h,_,_,_=>h.elim
 |_::_,[],h,_,_,_=>h.elim
theorem add_add (a:Addr)(m n:Nat):(a.add m).add n=a.add (m+n):=by unfold Addr.add;by_cases h1:m=0<;>by_cases h2:n=0<;>simp[h1,h2,Nat.add_assoc]
theorem Hv {α:Type}{xs:List α}{n:Int}{x:α}(h:idx xs n=some x):0≤n∧n<xs.length∧xs[n.toNat]? =some x:=by
 cases n with
 |ofNat m=>simp only[idx] at h;have:=(List.getElem?_eq_some_iff.1 h).1;exact⟨by simp,by simp;exact this,by simpa using h⟩
 |negSucc m=>simp[idx] at h
theorem wo {vs:List Value}{n j:Nat}{u:Value}(h:(vs.take n)[j]? =some u):vs[j]? =some u:=by
 rw[List.getElem?_take] at h;split at h
 ·exact h
 ·cases h
theorem zl {vs:List Value}{n j:Nat}{u:Value}(h:(vs.drop n)[j]? =some u):vs[n+j]? =some u:=by rwa [List.getElem?_drop] at h
theorem AN (hr:MU P T r)(w:World):(isAgg r.id).run P w= .ok (match r.ty with | .st _=>true |_=>false) w:=by
 have h:=hr.desc;cases ht:r.ty with
 |int k=>rw[ht] at h;simp[isAgg,run_underlying (show P.underlying r.id=some (.int k) from h)]
 |bool=>rw[ht] at h;simp[isAgg,run_underlying (show P.underlying r.id=some .bool from h)]
 |str=>rw[ht] at h;simp[isAgg,run_underlying (show P.underlying r.id=some .string from h)]
 |slice u=>rw[ht] at h;simp[isAgg,run_underlying h.1]
 |st u=>rw[ht] at h;rcases h with ⟨_,fs,h1,_,_⟩ | ⟨_,n,e,j,h1,_⟩<;>simp[isAgg,run_underlying h1]
 |ptr _=>rw[ht] at h;obtain⟨e,h1⟩:=h;simp[isAgg,run_underlying h1]
 |mp _=>rw[ht] at h;obtain⟨e,e',h1⟩:=h;simp[isAgg,run_underlying h1]
 |fn=>rw[ht] at h;obtain⟨e,e',e'',h1⟩:=h;simp[isAgg,run_underlying h1]
 |ref _=>rw[ht] at h;exact h.elim
 |mN _=>rw[ht] at h;exact h.elim
 |unit=>rw[ht] at h;exact h.elim
 |pair a b=>rw[ht] at h;exact h.elim
theorem tu (hr:MU P T r)(w:World):(sizeOf r.id).run P w= .ok r.ty.size w:=by obtain⟨i,z,h1,h2,_⟩:=hr.info;simp[sizeOf,typeInfo,h1,h2]
theorem MW (hr:MU P T r){w:World}{ad:Addr}{vs:List Value}{cs:List CV}{x:AV}{σ:AS}{ν:Nm→Value}{Y:Value}
  (hc:∀j u,vs[j]? =some u→w.cell? (ad.add j)=some u) (hcs:aE (bw V) cs vs) (hx:jC r.ty cs=some x):
  ∃v,(loadVar r.id ad).run P w= .ok v w∧al V σ ν Y x v:=by
 have one:(match r.ty with | .st _=>true |_=>false)=false→(∀c l,cs=c::l→x= .rv (.cv c))→cs≠ []→∃v,(loadVar r.id ad).run P w= .ok v w∧al V σ ν Y x v:=by
  intro h1 h2 h3;cases cs with
  |nil=>exact absurd rfl h3
  |cons c l=>
   cases vs with
   |nil=>exact hcs.elim
   |cons v vs=>
    refine⟨v, ?_, ?_⟩
    ·have:=hc 0 v (by simp);have h0:ad.add 0=ad:=rfl;rw[h0] at this;simp[loadVar,AN hr,h1,this]
    ·rw[h2 c l rfl];exact hcs.1
 cases ht:r.ty with
 |st t=>
  rw[ht] at hx;simp only[jC] at hx;cases hle:Nat.ble t.size cs.length with
  |false=>simp[hle] at hx
  |true=>
   simp only[hle,cond_true,Option.some.injEq] at hx;have hlen:=hcs.length;have hle':t.size≤vs.length:=by rw[←hlen];exact Nat.le_of_ble_eq_true hle
   refine⟨.agg (vs.take t.size).toArray, ?_, ?_⟩
   ·have hl:=run_loadCells_list (P:=P) w ad (vs.take t.size) (fun j v hj=>hc j v (wo hj));rw[List.length_take,Nat.min_eq_left hle'] at hl;have hs:Ty.size (.st t)=t.size:=rfl;simp[loadVar,AN hr,ht,tu hr,hl,hs]
   ·subst hx;exact⟨_,rfl,hcs.take _⟩
 |int k=>rw[ht] at hx;exact one (by simp[ht]) (fun c l e=>by subst e;simpa [jC] using hx.symm) (fun e=>by subst e;simp[jC] at hx)
 |bool=>rw[ht] at hx;exact one (by simp[ht]) (fun c l e=>by subst e;simpa [jC] using hx.symm) (fun e=>by subst e;simp[jC] at hx)
 |str=>rw[ht] at hx;exact one (by simp[ht]) (fun c l e=>by subst e;simpa [jC] using hx.symm) (fun e=>by subst e;simp[jC] at hx)
 |slice u=>rw[ht] at hx;exact one (by simp[ht]) (fun c l e=>by subst e;simpa [jC] using hx.symm) (fun e=>by subst e;simp[jC] at hx)
 |ptr _=>rw[ht] at hx;exact one (by simp[ht]) (fun c l e=>by subst e;simpa [jC] using hx.symm) (fun e=>by subst e;simp[jC] at hx)
 |mp _=>rw[ht] at hx;exact one (by simp[ht]) (fun c l e=>by subst e;simpa [jC] using hx.symm) (fun e=>by subst e;simp[jC] at hx)
 |fn=>rw[ht] at hx;exact one (by simp[ht]) (fun c l e=>by subst e;simpa [jC] using hx.symm) (fun e=>by subst e;simp[jC] at hx)
 |ref _=>rw[ht] at hx;exact one (by simp[ht]) (fun c l e=>by subst e;simpa [jC] using hx.symm) (fun e=>by subst e;simp[jC] at hx)
 |mN _=>rw[ht] at hx;exact one (by simp[ht]) (fun c l e=>by subst e;simpa [jC] using hx.symm) (fun e=>by subst e;simp[jC] at hx)
 |unit=>exact absurd hr.desc (by rw[ht];exact id)
 |pair a b=>exact absurd hr.desc (by rw[ht];exact id)
theorem fU:∀{t:Ty} {l:List Value} {cs:List CV} {r:List Value},cB t l=some (cs,r)→∃l1,l=l1++r∧aE (bw V) cs l1
 | .unit,l,cs,r,h=>by simp only[cB,Option.some.injEq,Prod.mk.injEq] at h;obtain⟨rfl,rfl⟩:=h;exact⟨[],rfl,trivial⟩
 | .pair a b,l,cs,r,h=>by
   simp only[cB] at h;split at h
   ·rename_i x l' h1;split at h
    ·rename_i y VO h2;simp only[Option.some.injEq,Prod.mk.injEq] at h;obtain⟨rfl,rfl⟩:=h;obtain⟨m1,e1,r1⟩:=fU h1;obtain⟨m2,e2,r2⟩:=fU h2;exact⟨m1++m2,by rw[e1,e2,List.append_assoc],r1.append r2⟩
    ·cases h
   ·cases h
 | .st t,l,cs,r,h=>fU (t:=t) h
 | .int k, .int k' n::l,cs,r,h=>by
   simp only[cB] at h;split at h
   ·rename_i e;subst e;simp only[Option.some.injEq,Prod.mk.injEq] at h;obtain⟨rfl,rfl⟩:=h;exact⟨[_],rfl,QE,trivial⟩
   ·cases h
 | .bool, .bool b::l,cs,r,h=>by simp only[cB,Option.some.injEq,Prod.mk.injEq] at h;obtain⟨rfl,rfl⟩:=h;exact⟨[_],rfl,MV,trivial⟩
 | .str, .string s::l,cs,r,h=>by simp only[cB,Option.some.injEq,Prod.mk.injEq] at h;obtain⟨rfl,rfl⟩:=h;exact⟨[_],rfl,QF,trivial⟩
 | .slice t, .slice none 0 0::l,cs,r,h=>by simp only[cB,Option.some.injEq,Prod.mk.injEq] at h;obtain⟨rfl,rfl⟩:=h;exact⟨[_],rfl,⟨none,0,[],rfl,Nat.le_refl _,trivial,fun _=>rfl,fun j u hj=>by simp at hj⟩,trivial⟩
 | .ref t, .slice none 0 0::l,cs,r,h=>by simp only[cB,Option.some.injEq,Prod.mk.injEq] at h;obtain⟨rfl,rfl⟩:=h;exact⟨[_],rfl,(show [_]=[_] from rfl),trivial⟩
 | .ptr t, .pointer none::l,cs,r,h=>by simp only[cB,Option.some.injEq,Prod.mk.injEq] at h;obtain⟨rfl,rfl⟩:=h;exact⟨[_],rfl,(show [_]=[_] from rfl),trivial⟩
 | .mp t, .map none::l,cs,r,h=>by simp only[cB,Option.some.injEq,Prod.mk.injEq] at h;obtain⟨rfl,rfl⟩:=h;exact⟨[_],rfl,(show [_]=[_] from rfl),trivial⟩
 | .mN t, .slice none 0 0::l,cs,r,h=>by simp only[cB,Option.some.injEq,Prod.mk.injEq] at h;obtain⟨rfl,rfl⟩:=h;exact⟨[_],rfl,(show [_]=[_] from rfl),trivial⟩
 | .fn, .nilFunc::l,cs,r,h=>by simp only[cB,Option.some.injEq,Prod.mk.injEq] at h;obtain⟨rfl,rfl⟩:=h;exact⟨[_],rfl,(show [_]=[_] from rfl),trivial⟩
end
open Go.RowKit Go.Lib
section
variable {T:cm}{α:Type}{Φ:bE T}{σ:AS}
def Q.val (Φ:bE T)(σ:AS):Q T α→Option α
 | .ret a=>some a
 | .fail=>none
 | .opt o q=>o.bind fun y=>(q y).val Φ σ
 | .gG b q=>bif b then q.val Φ σ else none
 | .ite b x y=>bif b then x.val Φ σ else y.val Φ σ
 | .row r q=>match look σ.rows r with
   |some x=>(q x).val Φ σ
   |none=>none
 | .len r q=>match look σ.rows r with
   |some x=>(q (List.length x.xs)).val Φ σ
   |none=>none
 | .box b q=>match look σ.boxes b with
   |some x=>(q x).val Φ σ
   |none=>none
 | .heap h q=>match σ.ab[h]? with
   |some x=>(q x).val Φ σ
   |none=>none
 | .lC r q=>match look σ.rows r with
   |none=>q.val Φ σ
   |some _=>none
 | .lD b q=>match look σ.boxes b with
   |none=>q.val Φ σ
   |some _=>none
 | .call v x q=>(Φ v x).bind fun y=>(q y).val Φ σ
 | .all q=>(q σ).val Φ σ
 | .on af q=>q.val Φ af
theorem fx {a r:α}:(Q.ret (T:=T) a).val Φ σ=some r↔a=r:=by simp[Q.val]
theorem rE {r:α}:(Q.fail (T:=T)).val Φ σ=some r↔False:=by simp[Q.val]
theorem bQ {β:Type}{o:Option β}{k:β→Q T α}{r:α}:(Q.opt o k).val Φ σ=some r↔∃y,o=some y∧(k y).val Φ σ=some r:=by simp[Q.val,Option.bind_eq_some_iff]
theorem aC {b:Bool}{q:Q T α}{r:α}:(Q.gG b q).val Φ σ=some r↔b=true∧q.val Φ σ=some r:=by cases b<;>simp[Q.val]
theorem C7 {b:Bool}{x y:Q T α}{r:α}:(Q.ite b x y).val Φ σ=some r↔(b=true∧x.val Φ σ=some r)∨(b=false∧y.val Φ σ=some r):=by cases b<;>simp[Q.val]
theorem lE {q:Nat}{k:Row→Q T α}{r:α}:(Q.row q k).val Φ σ=some r↔∃x,look σ.rows q=some x∧(k x).val Φ σ=some r:=by simp only[Q.val];cases look σ.rows q<;>simp
theorem G6 {q:Nat}{k:Nat→Q T α}{r:α}:(Q.len q k).val Φ σ=some r↔∃x,look σ.rows q=some x∧(k x.xs.length).val Φ σ=some r:=by simp only[Q.val];cases look σ.rows q<;>simp
theorem uP {q:Nat}{k:BX→Q T α}{r:α}:(Q.box q k).val Φ σ=some r↔∃x,look σ.boxes q=some x∧(k x).val Φ σ=some r:=by simp only[Q.val];cases look σ.boxes q<;>simp
theorem eK {q:Nat}{k:bh→Q T α}{r:α}:(Q.heap q k).val Φ σ=some r↔∃x,σ.ab[q]? =some x∧(k x).val Φ σ=some r:=by simp only[Q.val];cases σ.ab[q]? <;>simp
theorem qu {q:Nat}{k:Q T α}{r:α}:(Q.lC q k).val Φ σ=some r↔look σ.rows q=none∧k.val Φ σ=some r:=by simp only[Q.val];cases look σ.rows q<;>simp
theorem qv {q:Nat}{k:Q T α}{r:α}:(Q.lD q k).val Φ σ=some r↔look σ.boxes q=none∧k.val Φ σ=some r:=by simp only[Q.val];cases look σ.boxes q<;>simp
theorem C8 {v:Nat}{x:wj T v}{k:pP T v→Q T α}{r:α}:(Q.call v x k).val Φ σ=some r↔∃y,Φ v x=some y∧(k y).val Φ σ=some r:=by simp[Q.val,Option.bind_eq_some_iff]
theorem Hw {af:AS}{q:Q T α}{r:α}:(Q.on af q).val Φ σ=some r↔q.val Φ af=some r:=by simp[Q.val]
theorem jE {k:AS→Q T α}{r:α}:(Q.all k).val Φ σ=some r↔(k σ).val Φ σ=some r:=by simp[Q.val]
theorem eR {z:AV}{r:bH}:(pv (T:=T) z).val Φ σ=some r↔(z,RH.kt [])=r:=by simp[pv,Q.val]
theorem cC {t:Ty}{x:t.den}{r:bH}:(uH (T:=T) t x).val Φ σ=some r↔(AV.rv (.cv ⟨t,x⟩),RH.kt [])=r:=by simp[uH,eR]
theorem ku {β:Type}{f:β→Q T bH}{o:Option β}{r:bH}:(gL f o).val Φ σ=some r↔∃y,o=some y∧(f y).val Φ σ=some r:=by cases o<;>simp[gL,Q.val]
theorem G7 {β:Type}{f:α→β}:∀{q:Q T α} {r:β},(q.map f).val Φ σ=some r↔∃y,q.val Φ σ=some y∧f y=r:=by
 intro q;induction q generalizing σ with
 |ret a=>intro r;simp[Q.map,Q.val]
 |fail=>intro r;simp[Q.map,Q.val]
 |opt o k ih=>intro r;simp only[Q.map,bQ,ih];constructor
              ·rintro ⟨y,h1,z,h2,h3⟩;exact⟨z,⟨y,h1,h2⟩,h3⟩
              ·rintro ⟨z,⟨y,h1,h2⟩,h3⟩;exact⟨y,h1,z,h2,h3⟩
 |gG b k ih=>intro r;simp only[Q.map,aC,ih];constructor
             ·rintro ⟨h1,z,h2,h3⟩;exact⟨z,⟨h1,h2⟩,h3⟩
             ·rintro ⟨z,⟨h1,h2⟩,h3⟩;exact⟨h1,z,h2,h3⟩
 |ite b x y Bb yR=>intro r;cases b<;>simp only[Q.map,Q.val,cond_true,cond_false]
                   ·exact yR
                   ·exact Bb
 |row q k ih=>intro r;simp only[Q.map,lE,ih];constructor
              ·rintro ⟨y,h1,z,h2,h3⟩;exact⟨z,⟨y,h1,h2⟩,h3⟩
              ·rintro ⟨z,⟨y,h1,h2⟩,h3⟩;exact⟨y,h1,z,h2,h3⟩
 |len q k ih=>intro r;simp only[Q.map,G6,ih];constructor
              ·rintro ⟨y,h1,z,h2,h3⟩;exact⟨z,⟨y,h1,h2⟩,h3⟩
              ·rintro ⟨z,⟨y,h1,h2⟩,h3⟩;exact⟨y,h1,z,h2,h3⟩
 |box q k ih=>intro r;simp only[Q.map,uP,ih];constructor
              ·rintro ⟨y,h1,z,h2,h3⟩;exact⟨z,⟨y,h1,h2⟩,h3⟩
              ·rintro ⟨z,⟨y,h1,h2⟩,h3⟩;exact⟨y,h1,z,h2,h3⟩
 |heap q k ih=>intro r;simp only[Q.map,eK,ih];constructor
               ·rintro ⟨y,h1,z,h2,h3⟩;exact⟨z,⟨y,h1,h2⟩,h3⟩
               ·rintro ⟨z,⟨y,h1,h2⟩,h3⟩;exact⟨y,h1,z,h2,h3⟩
 |lC b k ih=>intro r;simp only[Q.map,qu,ih];constructor
             ·rintro ⟨h1,z,h2,h3⟩;exact⟨z,⟨h1,h2⟩,h3⟩
             ·rintro ⟨z,⟨h1,h2⟩,h3⟩;exact⟨h1,z,h2,h3⟩
 |lD b k ih=>intro r;simp only[Q.map,qv,ih];constructor
             ·rintro ⟨h1,z,h2,h3⟩;exact⟨z,⟨h1,h2⟩,h3⟩
             ·rintro ⟨z,⟨h1,h2⟩,h3⟩;exact⟨h1,z,h2,h3⟩
 |call v x k ih=>intro r;simp only[Q.map,C8,ih];constructor
                 ·rintro ⟨y,h1,z,h2,h3⟩;exact⟨z,⟨y,h1,h2⟩,h3⟩
                 ·rintro ⟨z,⟨y,h1,h2⟩,h3⟩;exact⟨y,h1,z,h2,h3⟩
 |all k ih=>intro r;simp only[Q.map,jE,ih]
 |on af k ih=>intro r;simp only[Q.map,Hw,ih]
theorem QG {R:Type}{k:js→α→Option R}{y:R}:∀(q:Q T α) (c:js),q.run Φ σ c k=some y→∃c' r,q.val Φ σ=some r∧k c' r=some y:=by
 intro q;induction q generalizing σ with
 |ret a=>intro c h;exact⟨c,a,rfl,h⟩
 |fail=>intro c h;cases h
 |opt o q ih=>intro c h;simp only[Q.run,Option.bind_eq_some_iff] at h;obtain⟨z,h1,h2⟩:=h;obtain⟨c',r,h3,h4⟩:=ih z c h2;exact⟨c',r,bQ.2 ⟨z,h1,h3⟩,h4⟩
 |gG b q ih=>
  intro c h;cases b
  ·cases h
  ·exact ih c h
 |ite b x z Bb Yf=>
  intro c h;cases b
  ·exact Yf c h
  ·exact Bb c h
 |row q k ih=>intro c h;simp only[Q.run] at h;split at h
              ·rename_i x hx;obtain⟨c',r,h3,h4⟩:=ih x _ h;exact⟨c',r,lE.2 ⟨x,hx,h3⟩,h4⟩
              ·cases h
 |len q k ih=>intro c h;simp only[Q.run] at h;split at h
              ·rename_i x hx;obtain⟨c',r,h3,h4⟩:=ih _ _ h;exact⟨c',r,G6.2 ⟨x,hx,h3⟩,h4⟩
              ·cases h
 |box q k ih=>intro c h;simp only[Q.run] at h;split at h
              ·rename_i x hx;obtain⟨c',r,h3,h4⟩:=ih x _ h;exact⟨c',r,uP.2 ⟨x,hx,h3⟩,h4⟩
              ·cases h
 |heap q k ih=>intro c h;simp only[Q.run] at h;split at h
               ·rename_i x hx;obtain⟨c',r,h3,h4⟩:=ih x _ h;exact⟨c',r,eK.2 ⟨x,hx,h3⟩,h4⟩
               ·cases h
 |lC q k ih=>intro c h;simp only[Q.run] at h;split at h
             ·rename_i hx;obtain⟨c',r,h3,h4⟩:=ih _ h;exact⟨c',r,qu.2 ⟨hx,h3⟩,h4⟩
             ·cases h
 |lD q k ih=>intro c h;simp only[Q.run] at h;split at h
             ·rename_i hx;obtain⟨c',r,h3,h4⟩:=ih _ h;exact⟨c',r,qv.2 ⟨hx,h3⟩,h4⟩
             ·cases h
 |call v x q ih=>intro c h;simp only[Q.run,Option.bind_eq_some_iff] at h;obtain⟨z,h1,h2⟩:=h;obtain⟨c',r,h3,h4⟩:=ih z c h2;exact⟨c',r,C8.2 ⟨z,h1,h3⟩,h4⟩
 |all q ih=>intro c h;obtain⟨c',r,h3,h4⟩:=ih σ _ h;exact⟨c',r,jE.2 h3,h4⟩
 |on af q ih=>intro c h;obtain⟨c',r,h3,h4⟩:=ih _ h;exact⟨c',r,Hw.2 h3,h4⟩
end
section
variable {P:Program}{Tb:cm}{T:List eI}{E:Env}{σ:AS}{a:Act}{w w':World}{ν:Nm→Value}{O:Nat→Prop}{Φ:bE Tb}
theorem wq (g j:Nat):(⟨g,0,none⟩:Addr).add j=⟨g,j,none⟩:=by unfold Addr.add;split<;>simp_all
theorem J5 (g i j:Nat):(⟨g,i,none⟩:Addr).add j=⟨g,i+j,none⟩:=by unfold Addr.add;split<;>simp_all
theorem qw {V:View}{Y u:Value}{x:AV}{i:IntKind}{n:Int}(h:al V σ ν Y x u)(he:x= .rv (.cv ⟨.int i,n⟩)):u= .int i n:=by subst he;exact TI (V:=V) h
theorem C9 {V:View}{Y u:Value}{x:AV}{b:Bool}(h:al V σ ν Y x u)(he:x= .rv (.cv ⟨.bool,b⟩)):u= .bool b:=by subst he;exact J4 (V:=V) h
theorem Cm {V:View}{Y u:Value}{x:AV}{s:ByteArray}(h:al V σ ν Y x u)(he:x= .rv (.cv ⟨.str,s⟩)):u= .string s:=by subst he;exact TJ (V:=V) h
theorem qx {V:View}{Y:Value}{i:IntKind}{n:Int}:al V σ ν Y (.rv (.cv ⟨.int i,n⟩)) (.int i n):=QE (V:=V)
theorem qy {V:View}{Y:Value}{b:Bool}:al V σ ν Y (.rv (.cv ⟨.bool,b⟩)) (.bool b):=MV (V:=V)
theorem wu {V:View}{Y:Value}{s:ByteArray}:al V σ ν Y (.rv (.cv ⟨.str,s⟩)) (.string s):=QF (V:=V)
theorem Da {V:View}{h n:Nat}{v:Value}(hr:bw V ⟨.ref h,n⟩ v):(n=0∧v= .slice none 0 0)∨(1≤n∧Ts v∧V (.ref h n) v):=by
 cases n with
 |zero=>have: [v]=_:=hr;simp at this;exact .inl ⟨rfl,this⟩
 |succ m=>obtain⟨u,e,h1,h2⟩:=hr;simp at e;subst e;exact .inr ⟨by omega,h1,h2⟩
theorem Hx {V:View}{h n:Nat}{v:Value}(hr:bw V ⟨.ptr h,n⟩ v):(n=0∧v= .pointer none)∨(1≤n∧X6 v∧V (.ref h n) v):=by
 cases n with
 |zero=>have: [v]=_:=hr;simp at this;exact .inl ⟨rfl,this⟩
 |succ m=>obtain⟨u,e,h1,h2⟩:=hr;simp at e;subst e;exact .inr ⟨by omega,h1,h2⟩
theorem Wf {V:View}{h n:Nat}{v:Value}(hr:bw V ⟨.mp h,n⟩ v):(n=0∧v= .map none)∨(1≤n∧ZK v∧V (.ref h n) v):=by
 cases n with
 |zero=>have: [v]=_:=hr;simp at this;exact .inl ⟨rfl,this⟩
 |succ m=>obtain⟨u,e,h1,h2⟩:=hr;simp at e;subst e;exact .inr ⟨by omega,h1,h2⟩
theorem Wg {V:View}{h n:Nat}{v:Value}(h0:1≤n)(h1:Ts v)(h2:V (.ref h n) v):bw V ⟨.ref h,n⟩ v:=by
 cases n with
 |zero=>omega
 |succ m=>exact⟨v,rfl,h1,h2⟩
theorem Wh {V:View}{h n:Nat}{v:Value}(h0:1≤n)(h1:X6 v)(h2:V (.ref h n) v):bw V ⟨.ptr h,n⟩ v:=by
 cases n with
 |zero=>omega
 |succ m=>exact⟨v,rfl,h1,h2⟩
theorem Hy {V:View}{t:Ty}{o:Option (List t.den)}{v:Value}(hr:bw V ⟨.mN t,o⟩ v):bw V ⟨.slice t,K7 o⟩ v:=by
 cases o with
 |none=>have: [v]=_:=hr;simp at this;subst this;exact⟨none,0,[],rfl,Nat.le_refl _,trivial,fun _=>rfl,fun j u hj=>by simp at hj⟩
 |some xs=>obtain⟨ad,c,bl,h1,h2,h3,h4⟩:=hr;exact⟨some ad,c,bl,h1,h2,h3,(fun e=>by cases e),fun j u hj=>⟨ad,rfl,h4 j u hj⟩⟩
theorem Hz {V:View}{Y:Value}{x:AV}{u:Value}(h:al V σ ν Y x u):al V σ ν Y (co x) u:=by
 unfold co;split
 ·exact Hy h
 ·exact h
theorem uQ {V:View}{v:Value}{row:Row}(h:fR V w v row):∃(A:Option Addr) (c:Nat),v= .slice A row.xs.length c∧row.xs.length≤c∧(A=none→c=0)∧∀ad,A=some ad→ad.off=0∧ad.spot=none:=by
 obtain⟨bl,⟨h1,h2⟩,h3⟩:=h;rcases h2 with ⟨h2,h4⟩ | ⟨g,cap,cur,h2,_,_,h4,_⟩
 ·exact⟨none,0,by rw[h2,h4],by rw[h4];exact Nat.le_refl _,fun _=>rfl,fun _ e=>by cases e⟩
 ·exact⟨some ⟨g,0,none⟩,cap,h2,h4,(fun e=>by cases e),fun ad e=>by cases e;exact⟨rfl,rfl⟩⟩
theorem Ju {e:TypeId}{size n:Nat}{v:Value}{xs:List Value}(h:w.ownsRow 0 e size v n xs){g:Nat}(hg:cr v=some g){j:Nat}{u:Value}(hj:xs[j]? =some u):w.cell? ⟨g,j,none⟩=some u:=by
 obtain⟨h1,h2⟩:=h;rcases h2 with ⟨rfl,_⟩ | ⟨g',cap,cur,rfl,_,h3,h4,h5,h6,h7⟩
 ·cases hg
 ·simp only[cr,Option.some.injEq] at hg;subst hg;rw[cell_of_row w _ _ cur e (0,0) h3];rw[←h7] at hj;simpa using wo hj
theorem EB {V:View}{v:Value}{row:Row}(h:fR V w v row):
  ∃bl:List (List Value),aE (Rel V row.t) row.xs bl∧∀g,cr v=some g→∀(j:Nat) u,bl.flatten[j]? =some u→w.cell? ⟨g,j,none⟩=some u:=by
 obtain⟨bl,h1,h3⟩:=h;exact⟨bl,h3,fun g hg j u hj=>Ju h1 hg hj⟩
theorem MX {V:View}{k:Nat}{v:Value}{row:Row}(h:sD V w k v row):
  ∃bl:List (List Value),aE (Rel V row.t) row.xs bl∧∀g,cr v=some g→∀(j:Nat) u,bl.flatten[j]? =some u→w.cell? ⟨g,j,none⟩=some u:=by
 match k,h with
 |0,⟨_,h⟩=>exact EB h
 |1,⟨g,cur,ys,x,h1,h2,h3,h4,h5⟩=>refine⟨[ys],by rw[h4];exact⟨h5,trivial⟩,fun g' hg j u hj=> ?_⟩;rw[h1] at hg;simp only[cr,Option.some.injEq] at hg;subst hg;rw[cell_of_row w _ _ cur _ (0,0) h2];subst h3;simpa using hj
theorem St.row (h:St E σ a w ν O){r:Nat}{row:Row}(hr:look σ.rows r=some row):fR (view E σ ν O w) w (ν (.row r)) row:=h.sQ (.row r) (.row row) (by simp[AS.obj,hr])
theorem St.box (h:St E σ a w ν O){b:Nat}{x:BX}(hb:look σ.boxes b=some x):tq (view E σ ν O w) σ ν w (ν (.box b)) x:=h.sQ (.box b) (.box x) (by simp[AS.obj,hb])
theorem Pa {ab:List bh}{h n:Nat}{hr:bh}{l:List hr.t.den}(hh:ab[h]? =some hr)(hn:1≤n)(hl:ae hr.xs n=some l):ki ab h n=some (.hp hr.k ⟨hr.e,hr.t,l⟩):=by
 cases n with
 |zero=>omega
 |succ m=>
  simp only[ae] at hl;simp only[ki,hh];split at hl
  ·rename_i o ho;rw[ho,hl];rfl
  ·cases hl
theorem sS {α:Type}{xs:List (Option (List α))}{n:Nat}{l:List α}(hl:ae xs n=some l):n≤xs.length:=by
 cases n with
 |zero=>omega
 |succ m=>
  simp only[ae] at hl;split at hl
  ·rename_i o ho;exact(List.getElem?_eq_some_iff.1 ho).1
  ·cases hl
theorem St.hp (hst:St E σ a w ν O){h n:Nat}{hr:bh}{l:List hr.t.den}(hh:σ.ab[h]? =some hr)(hn:1≤n)(hl:ae hr.xs n=some l):sD (view E σ ν O w) w hr.k (ν (.hp h n)) ⟨hr.e,hr.t,l⟩:=
 hst.sQ (.hp h n) (.hp hr.k ⟨hr.e,hr.t,l⟩) (Pa hh hn hl)
def PV (P:Program)(o:Oper)(E:Env)(σ:AS)(a:Act)(w:World)(ν:Nm→Value)(O:Nat→Prop)(r:bH):Prop:=
 r.2= .kt []∧∃v w',(execOp a.eval o).run P w= .ok (.value v) w'∧Below w.heap.size w w'∧al (view E σ ν O w') σ ν E.Y r.1 v
theorem PV.same {o:Oper}{z:AV}{r:bH}{v:Value}(hr:(z,RH.kt [])=r)(h1:(execOp a.eval o).run P w= .ok (.value v) w)
  (h2:al (view E σ ν O w) σ ν E.Y z v):PV P o E σ a w ν O r:=by subst hr;exact⟨rfl,v,w,h1,Below.refl _ _,h2⟩
theorem TK (hE:aB E)(hT:fT P T)(h:St E σ a w ν O){t:TypeId}{x:AV}{u:Value}(hx:al (view E σ ν O w) σ ν E.Y x u){r:bH}
  (he:(JW (T:=Tb) T t x).val Φ σ=some r):r.2= .kt []∧∃v,(Instr.loadAt t u).run P w= .ok v w∧al (view E σ ν O w) σ ν E.Y r.1 v:=by
 unfold JW at he;split at he
 ·cases he
 ·rename_i tr hr;obtain⟨rfl,hr'⟩:=hT t tr hr;have fin:∀{cs:List CV} {vs:List Value} {ad:Addr},u= .pointer (some ad)→(∀(j:Nat) u,vs[j]? =some u→w.cell? (ad.add j)=some u)→aE (bw (view E σ ν O w)) cs vs→
    (gL pv (jC tr.ty cs)).val Φ σ=some r→r.2= .kt []∧∃v,(Instr.loadAt tr.id u).run P w= .ok v w∧al (view E σ ν O w) σ ν E.Y r.1 v:=by
   intro cs vs ad hu hc hcs he;rw[ku] at he;obtain⟨z,hz,he⟩:=he;rw[eR] at he;subst he;obtain⟨v',h1,h2⟩:=MW (P:=P) hr' hc hcs hz (σ:=σ) (ν:=ν) (Y:=E.Y);exact⟨rfl,v',by simp only[Instr.loadAt,hu,Instr.sureAddr,Sem.run_bind,Sem.run_pure,Result.andThen_ok,h1],h2⟩
  have Js:∀{t:Ty} {xs:List t.den} {bl:List (List Value)} {g i off:Nat} {z:t.den},aE (Rel (view E σ ν O w) t) xs bl→(∀(j:Nat) u,bl.flatten[j]? =some u→w.cell? ⟨g,j,none⟩=some u)→
    u= .pointer (some ⟨g,i*t.size+off,none⟩)→xs[i]? =some z→(gL pv (jC tr.ty ((flat t z).drop off))).val Φ σ=some r→
    r.2= .kt []∧∃v,(Instr.loadAt tr.id u).run P w= .ok v w∧al (view E σ ν O w) σ ν E.Y r.1 v:=by
   intro t xs bl g i off z h1 h2 hu hz he;obtain⟨ys,h3,h4,h5⟩:=tt h1 i z hz;refine fin hu (fun j u hj=> ?_) ((fM h4).drop off) he;rw[J5,Nat.add_assoc];exact h2 _ u (h5 _ u (zl hj))
  split at he
  ·rename_i b off;rw[uP] at he;obtain⟨bx,OT,he⟩:=he;obtain⟨_,g,hg,hu⟩:=hx;obtain⟨g',e1,bP⟩:=h.box OT;rw[hg] at e1;simp only[Value.pointer.injEq,Option.some.injEq,Addr.mk.injEq,and_true] at e1;subst e1;cases bx with
   |cells cs=>obtain⟨cur,e,Yg,hcs⟩:=bP;refine fin hu (vs:=cur.toList.drop off) (fun j u hj=> ?_) (hcs.drop off) he;rw[J5,cell_of_row w _ _ cur e (0,0) Yg];simpa using zl hj
   |own q=>
    obtain⟨e,Yg,hq⟩:=bP;simp only at he;split at he
    ·rename_i ut lF;rw[aC,eR] at he;obtain⟨h0,rfl⟩:=he;have:=(beq_iff _ _).1 h0;subst this;refine⟨rfl,ν (.row q), ?_,rfl,hq⟩;have hc:w.cell? ⟨g,0,none⟩=some (ν (.row q)):=by rw[cell_of_row w _ _ _ e (0,0) Yg];rfl
     have ha:=AN hr' w;rw[lF] at ha;simp[Instr.loadAt,hu,Instr.sureAddr,loadVar,ha,hc]
    ·cases he
   |nil=>cases he
  ·rename_i q sz i off;rw[lE] at he;obtain⟨row,hrow,he⟩:=he;rw[bQ] at he;obtain⟨z,hz,he⟩:=he;obtain⟨row',g,Xs,hg,rfl,hu⟩:=hx;rw[hrow] at Xs;obtain rfl:row=row':=by simpa using Xs
   obtain⟨bl,h1,h2⟩:=EB (h.row hrow);exact Js h1 (fun j u hj=>h2 g hg j u hj) hu hz he
  ·rename_i cs;obtain⟨ad,vs,hu,h1,h2⟩:=hx;exact fin hu (fun j u hj=>qt hE h.keep (h2 j u hj)) h1 he
  ·rename_i i n j off;simp only[eK,bQ] at he;obtain⟨hr,hh,l,hl,z,hz,he⟩:=he;obtain⟨hr',g,hh',hn,_,hg,hu⟩:=hx;rw[hh] at hh';obtain rfl:hr=hr':=by simpa using hh'
   obtain⟨bl,h1,h2⟩:=MX (h.hp hh hn hl);exact Js h1 (fun j u hj=>h2 g hg j u hj) hu hz he
  ·rename_i i n;simp only[eK,bQ] at he;obtain⟨hr,hh,l,hl,z,hz,he⟩:=he;rcases Hx hx with ⟨rfl,_⟩ | ⟨hn,⟨ad,rfl⟩,_,_,hu⟩
   ·simp[ae] at hl;subst hl;simp at hz
   ·have bP:=h.hp hh hn hl;obtain⟨bl,h1,h2⟩:=MX bP;rw[←hu] at h2;have had:ad=⟨ad.block,0,none⟩:=by
     rw[←hu] at bP;generalize hr.k=k at bP
     match k,bP with
     |0,⟨⟨_,_,_,e⟩,_⟩=>cases e
     |1,⟨g,_,_,_,e,_⟩=>simp at e;rw[e]
    exact Js (i:=0) (off:=0) h1 (fun j u hj=>h2 _ rfl j u hj) (by rw[Nat.zero_mul, ←had]) hz (by simpa using he)
  ·cases he
theorem EC {Y:Value}{V:View}{ty:TypeId}{x:AV}{u:Value}(hx:al V σ ν Y x u){r:bH}
  (he:(BB (T:=Tb) T ty x).val Φ σ=some r):r.2= .kt []∧al V σ ν Y r.1 u:=by
 unfold BB at he;split at he
 ·rename_i v;split at he
  ·split at he
   ·split at he
    ·rename_i vs;split at he
     ·rename_i cs hl;rw[eR] at he;subst he;obtain⟨l1,e1,h1⟩:=fU (V:=V) hl;refine⟨rfl,vs.toList, ?_, ?_⟩
      ·have:u= .agg vs:=hx;simpa using this
      ·rw[e1,List.append_nil];exact h1
     ·cases he
    ·cases he
   ·rw[eR] at he;subst he;exact⟨rfl,hx⟩
  ·cases he
 ·cases he
 ·rw[eR] at he;subst he;exact⟨rfl,hx⟩
end
def TL (P:Program)(T:cm):Prop:=∀t,T.eqs.any (Nat.beq t)=true→∀r u,gE T.rows t=some r→r.ty= .st u→
 ∀(V:View) (x y:u.den) (vs us:List Value) (w:World) (op:BinOp) (ox oy:Operand),Rel V u x vs→Rel V u y us→
  (eqGuard op t ox oy (.agg vs.toArray) (.agg us.toArray)).run P w= .ok () w∧(Op.equal t (.agg vs.toArray) (.agg us.toArray)).run P w= .ok (CZ u x y) w
section
variable {P:Program}{Tb:cm}{T:List eI}{E:Env}{σ:AS}{a:Act}{w w':World}{ν:Nm→Value}{O:Nat→Prop}{Φ:bE Tb}{V:View}{Y:Value}
theorem Pb {op:BinOp}{x y:Int}{b:Bool}(h:O0 op x y=some b):(Op.intCmp op x y).run P w= .ok (.bool b) w:=by cases op<;>simp[O0] at h<;>subst h<;>simp[Op.intCmp]
theorem Pc {op:BinOp}{x y:ByteArray}{b:Bool}(h:Lb op x y=some b):(Op.stringOp op x y).run P w= .ok (.bool b) w:=by cases op<;>simp only[Lb,Option.some.injEq,reduceCtorEq] at h<;>subst h<;>simp[Op.stringOp]
theorem Wi {op:BinOp}{b:Bool}{r:bH}(he:(O4 (T:=Tb) op b).val Φ σ=some r):(op= .eql∧(AV.rv (.cv ⟨.bool,b⟩),RH.kt [])=r)∨(op= .neq∧(AV.rv (.cv ⟨.bool, !b⟩),RH.kt [])=r):=by
 unfold O4 at he;split at he
 ·rw[cC] at he;exact .inl ⟨rfl,he⟩
 ·rw[cC] at he;exact .inr ⟨rfl,he⟩
 ·cases he
theorem HA {op:BinOp}{t:TypeId}{u v:Value}{b:Bool}{r:bH}(ox oy:Operand)(hg:∀op,(eqGuard op t ox oy u v).run P w= .ok () w)(hb:(Op.equal t u v).run P w= .ok b w)
  (h1:binOp .eql t u v=(do pure (.bool (←Op.equal t u v)))) (h2:binOp .neq t u v=(do pure (.bool (!(←Op.equal t u v)))))
  (he:(O4 (T:=Tb) op b).val Φ σ=some r):r.2= .kt []∧∃z,(do eqGuard op t ox oy u v;binOp op t u v:Sem Value).run P w= .ok z w∧al V σ ν Y r.1 z:=by
 rcases Wi he with ⟨rfl,rfl⟩ | ⟨rfl,rfl⟩
 ·refine⟨rfl, .bool b, ?_,qy⟩;simp[Sem.run_bind,hg,h1,hb]
 ·refine⟨rfl, .bool (!b), ?_,qy⟩;simp[Sem.run_bind,hg,h2,hb]
theorem MY {op:BinOp}{t:TypeId}{x y:AV}{u v:Value}(ox oy:Operand)(hx:al V σ ν Y x u)(hy:al V σ ν Y y v){r:bH}(he:(RI (T:=Tb) op x y).val Φ σ=some r):
  r.2= .kt []∧∃z,(do eqGuard op t ox oy u v;binOp op t u v:Sem Value).run P w= .ok z w∧al V σ ν Y r.1 z:=by
 unfold RI at he;split at he
 ·rename_i i n j m;have ex:=qw hx rfl;have ey:=qw hy rfl;subst ex ey;have hg:eqGuard op t ox oy (.int i n) (.int j m)=pure ():=eqGuard_at_int ..;have fin:∀{k:IntKind} {q:Int},(AV.rv (.cv ⟨.int k,q⟩),RH.kt [])=r→(binOp op t (.int i n) (.int j m)).run P w= .ok (.int k q) w→
    r.2= .kt []∧∃z,(do eqGuard op t ox oy (.int i n) (.int j m);binOp op t (.int i n) (.int j m):Sem Value).run P w= .ok z w∧al V σ ν Y r.1 z:=fun e hrun=>by
   subst e;refine⟨rfl,_, ?_,qx⟩;rw[hg];simpa using hrun
  split at he
  ·rw[aC,cC] at he;obtain⟨hc,he⟩:=he;have Lk:¬m<0:=by simpa using hc
   exact fin he (by simp[binOp,Op.shift,Lk,shl])
  ·rw[aC,cC] at he;obtain⟨hc,he⟩:=he;have Lk:¬m<0:=by simpa using hc
   exact fin he (by simp[binOp,Op.shift,Lk,shr])
  ·rename_i hn1 hn2;split at he
   ·rename_i e;subst e;split at he
    ·rw[cC] at he;exact fin he (by simp[binOp,Op.intArith])
    ·rw[cC] at he;exact fin he (by simp[binOp,Op.intArith])
    ·rw[cC] at he;exact fin he (by simp[binOp,Op.intArith])
    ·rw[aC,cC] at he;obtain⟨hc,he⟩:=he;have Lk:¬m=0:=by simpa using hc
     exact fin he (by simp[binOp,Op.intDiv,Lk])
    ·rw[aC,cC] at he;obtain⟨hc,he⟩:=he;have Lk:¬m=0:=by simpa using hc
     exact fin he (by simp[binOp,Op.intDiv,Lk])
    ·rw[cC] at he;exact fin he (by simp[binOp,Op.intBits,bits])
    ·rw[cC] at he;exact fin he (by simp[binOp,Op.intBits,bits])
    ·rw[cC] at he;exact fin he (by simp[binOp,Op.intBits,bits])
    ·rw[cC] at he;exact fin he (by simp[binOp,Op.intBits,bits])
    ·rw[ku] at he;obtain⟨b,hb,he⟩:=he;rw[cC] at he;subst he;refine⟨rfl, .bool b, ?_,qy⟩;rw[hg];have:=Pb (P:=P) (w:=w) hb;cases op<;>first | (exfalso;simp_all;done) |simpa [binOp] using this
   ·cases he
 ·rename_i n m;have ex:=Cm hx rfl;have ey:=Cm hy rfl;subst ex ey;have hg:eqGuard op t ox oy (.string n) (.string m)=pure ():=eqGuard_at_string ..;split at he
  ·rw[aC,cC] at he;obtain⟨hb,rfl⟩:=he;have hle:=Nat.le_of_ble_eq_true hb;refine⟨rfl, .string (n++m), ?_,wu⟩;rw[hg];have hn:¬(((n.size+m.size:Nat):Int)>IntKind.i64.max):=by rw[IntKind.max_i64];omega
   simp only[binOp,Op.stringOp,Sem.run_bind,Sem.run_pure,Result.andThen_ok,if_neg hn]
  ·rw[ku] at he;obtain⟨b,hb,he⟩:=he;rw[cC] at he;subst he;refine⟨rfl, .bool b, ?_,qy⟩;rw[hg];have:=Pc (P:=P) (w:=w) hb;cases op<;>first | (simp[Lb] at hb;done) |simpa [binOp] using this
 ·cases he
theorem TM {op:BinOp}{t:TypeId}{x y:AV}{u v:Value}(ox oy:Operand)(ht:P.underlying t=some .bool)(hx:al V σ ν Y x u)(hy:al V σ ν Y y v){r:bH}(he:(RJ (T:=Tb) op x y).val Φ σ=some r):
  r.2= .kt []∧∃z,(do eqGuard op t ox oy u v;binOp op t u v:Sem Value).run P w= .ok z w∧al V σ ν Y r.1 z:=by
 unfold RJ at he;split at he
 ·rename_i n m;have ex:=C9 hx rfl;have ey:=C9 hy rfl;subst ex ey;exact HA ox oy (fun op=>by rw[eqGuard_at_bool];rfl) (run_equalIn_bool w 9999 t n m ht) (by rfl) (by rfl) he
 ·cases he
theorem Db (d:Nat){t:TypeId}{e:TypeId}(ht:P.underlying t=some (.slice e))(A:Option Addr)(n c:Nat):(Op.equalIn (d+1) t (.slice A n c) (.slice none 0 0)).run P w= .ok A.isNone w:=by cases A<;>simp[Op.equalIn,run_underlying ht]
theorem Gz (d:Nat){t:TypeId}{e:TypeId}(ht:P.underlying t=some (.pointer e))(A:Option Addr):(Op.equalIn (d+1) t (.pointer A) (.pointer none)).run P w= .ok A.isNone w:=by cases A<;>simp[Op.equalIn,run_underlying ht]
theorem GA (d:Nat){t k e:TypeId}(ht:P.underlying t=some (.map k e))(A:Option Nat):(Op.equalIn (d+1) t (.map A) (.map none)).run P w= .ok A.isNone w:=by cases A<;>simp[Op.equalIn,run_underlying ht]
theorem GB {t:TypeId}{e:TypeId}(ht:P.underlying t=some (.slice e))(A:Option Addr)(n c:Nat):(Op.equal t (.slice A n c) (.slice none 0 0)).run P w= .ok A.isNone w:=by exact Db 9999 ht A n c
theorem Jv {t:TypeId}{e:TypeId}(ht:P.underlying t=some (.pointer e))(A:Option Addr):(Op.equal t (.pointer A) (.pointer none)).run P w= .ok A.isNone w:=by exact Gz 9999 ht A
theorem Jw {t k e:TypeId}(ht:P.underlying t=some (.map k e))(A:Option Nat):(Op.equal t (.map A) (.map none)).run P w= .ok A.isNone w:=by exact GA 9999 ht A
theorem HB (n:Nat):Nat.beq n 0=decide (n=0):=by cases n<;>rfl
theorem TN (hT:fT P T){tr:eI}(oS:MU P T tr){op:BinOp}{x y:AV}{u v:Value}(ox oy:Operand)(hx:al V σ ν Y x u)(hy:al V σ ν Y y v){r:bH}(he:(RK (T:=Tb) tr.ty op x y).val Φ σ=some r):
  r.2= .kt []∧∃z,(do eqGuard op tr.id ox oy u v;binOp op tr.id u v:Sem Value).run P w= .ok z w∧al V σ ν Y r.1 z:=by
 unfold RK at he;have hd:=oS.desc;have sl:∀{A:Option Addr} {n c:Nat} {b:Bool},(∃e,P.underlying tr.id=some (.slice e))→u= .slice A n c→A.isNone=b→v= .slice none 0 0→(O4 (T:=Tb) op b).val Φ σ=some r→
   r.2= .kt []∧∃z,(do eqGuard op tr.id ox oy u v;binOp op tr.id u v:Sem Value).run P w= .ok z w∧al V σ ν Y r.1 z:=by
  intro A n c b ⟨e,ht⟩ hu hb hv he;subst hu hv;exact HA ox oy (fun op=>by rw[eqGuard_at_slice];rfl) (by rw[GB ht,hb]) (by rfl) (by rfl) he
 have pt:∀{A:Option Addr} {b:Bool},(∃e,P.underlying tr.id=some (.pointer e))→u= .pointer A→A.isNone=b→v= .pointer none→(O4 (T:=Tb) op b).val Φ σ=some r→
   r.2= .kt []∧∃z,(do eqGuard op tr.id ox oy u v;binOp op tr.id u v:Sem Value).run P w= .ok z w∧al V σ ν Y r.1 z:=by
  intro A b ⟨e,ht⟩ hu hb hv he;subst hu hv;exact HA ox oy (fun op=>by rw[eqGuard_at_pointer];rfl) (by rw[Jv ht,hb]) (by rfl) (by rfl) he
 have mp:∀{A:Option Nat} {b:Bool},(∃k e,P.underlying tr.id=some (.map k e))→u= .map A→A.isNone=b→v= .map none→(O4 (T:=Tb) op b).val Φ σ=some r→
   r.2= .kt []∧∃z,(do eqGuard op tr.id ox oy u v;binOp op tr.id u v:Sem Value).run P w= .ok z w∧al V σ ν Y r.1 z:=by
  intro A b ⟨k,e,ht⟩ hu hb hv he;subst hu hv;exact HA ox oy (fun op=>by rw[eqGuard_at_map];rfl) (by rw[Jw ht,hb]) (by rfl) (by rfl) he
 split at he
 ·rename_i ut h n lF;rw[lF] at hd;have hs:∃e,P.underlying tr.id=some (.slice e):=⟨_,hd.1⟩
  rcases Da hx with ⟨rfl,hu⟩ | ⟨hn,⟨ad,m,c,hu⟩,_⟩
  ·exact sl hs hu rfl hy he
  ·refine sl hs hu ?_ hy he;rw[HB,decide_eq_false (by omega)];rfl
 ·rename_i ut h n lF;rw[lF] at hd;rcases Hx hx with ⟨rfl,hu⟩ | ⟨hn,⟨ad,hu⟩,_⟩
  ·exact pt hd hu rfl hy he
  ·refine pt hd hu ?_ hy he;rw[HB,decide_eq_false (by omega)];rfl
 ·rename_i ut h n lF;rw[lF] at hd;rcases Wf hx with ⟨rfl,hu⟩ | ⟨hn,⟨ad,hu⟩,_⟩
  ·exact mp hd hu rfl hy he
  ·refine mp hd hu ?_ hy he;rw[HB,decide_eq_false (by omega)];rfl
 ·rename_i ut t' o lF;rw[lF] at hd;have hs:∃e,P.underlying tr.id=some (.slice e):=⟨_,hd.1⟩
  cases o with
  |none=>have: [u]=_:=hx;simp at this;exact sl hs this rfl hy he
  |some xs=>obtain⟨ad,c,bl,h1,_⟩:=hx;simp at h1;exact sl hs h1 rfl hy he
 ·cases he
theorem Yh {op:UnOp}{x:AV}{u:Value}(hx:al V σ ν Y x u){r:bH}
  (he:(match op,x with
  | .not, .rv (.cv ⟨.bool,b⟩)=>uH (T:=Tb) .bool (!b)
  | .neg, .rv (.cv ⟨.int i,a⟩)=>uH (.int i) (i.wrap (0 - a))
  |_,_=> .fail).val Φ σ=some r):r.2= .kt []∧∃z,(Op.unary op u).run P w= .ok z w∧al V σ ν Y r.1 z:=by
 split at he
 ·have ex:=C9 hx rfl;rw[cC] at he;subst he ex;exact⟨rfl,_,by simp[Op.unary],qy⟩
 ·have ex:=qw hx rfl;rw[cC] at he;subst he ex;exact⟨rfl,_,by simp[Op.unary,Op.intArith],qx⟩
 ·cases he
theorem TO (hT:fT P T){tr:eI}(oS:MU P T tr){x:AV}{u:Value}(h:St E σ a w ν O)(hx:al (view E σ ν O w) σ ν E.Y x u){r:bH}(ty:TypeId)
  (he:(RL (T:=Tb) tr.ty x).val Φ σ=some r):
  r.2= .kt []∧∃z,(Builtin.len_ #[tr.id] ty #[u]).run P w= .ok z w∧al (view E σ ν O w) σ ν E.Y r.1 z:=by
 have hc:=Hz hx;have hd:=oS.desc;unfold RL at he;have sl:∀{ut:Ty} {A:Option Addr} {n c m:Nat},tr.ty= .slice ut→u= .slice A n c→n=m→(AV.rv (.cv ⟨.int .i64,(m:Int)⟩),RH.kt [])=r→r.2= .kt []∧∃z,(Builtin.len_ #[tr.id] ty #[u]).run P w= .ok z w∧al (view E σ ν O w) σ ν E.Y r.1 z:=by intro ut A n c m lF hu hm he;rw[lF] at hd;subst hu hm he;exact⟨rfl, .int .i64 n,by simp[Builtin.len_,run_underlying hd.1,goInt],qx⟩
 split at he
 ·rename_i ut t' xs lF hb;rw[hb] at hc;rw[cC] at he;obtain⟨A,cc,bl,ex,_⟩:=lY hc;exact sl lF ex rfl he
 ·rename_i s lF hb;rw[hb] at hc;rw[lF] at hd;rw[cC] at he;have ex:=Cm hc rfl;subst ex he;exact⟨rfl, .int .i64 s.size,by simp[Builtin.len_,run_underlying (show P.underlying tr.id=some .string from hd),goInt],qx⟩
 ·rename_i ut q lF hb;rw[hb] at hc;rw[G6] at he;obtain⟨row,hrow,he⟩:=he;rw[cC] at he;obtain⟨A,cc,er,_⟩:=uQ (h.row hrow);exact sl lF (by rw[hc.1,er]) rfl he
 ·rename_i ut lF hb;rw[hb] at hc;rw[cC] at he;exact sl lF (show u= .slice none 0 0 from hc) rfl he
 ·rename_i ut i n lF hb;rw[hb] at hc;simp only[eK,bQ] at he;obtain⟨hr,hh,l,hl,he⟩:=he;rw[cC] at he;rcases Da hc with ⟨rfl,hu⟩ | ⟨hn,OR,_,_,hu⟩
  ·simp only[ae,Option.some.injEq] at hl;subst hl;exact sl lF hu rfl he
  ·have bP:=h.hp hh hn hl;rw[←hu] at bP;generalize hr.k=k at bP
   match k,bP with
   |0,⟨_,hrow⟩=>obtain⟨A,cc,er,_⟩:=uQ hrow;exact sl lF er rfl he
   |1,⟨g,_,_,_,e,_⟩=>obtain⟨_,_,_,e'⟩:=OR;rw[e] at e';cases e'
 ·cases he
end
section
variable {P:Program}{Tb:cm}{T:List eI}{E:Env}{σ:AS}{a:Act}{w w':World}{ν:Nm→Value}{O:Nat→Prop}{Φ:bE Tb}{V:View}{Y:Value}
theorem AO {ab:List bh}{h:Nat}{hr:bh}(e:ab[h]? =some hr):hlen ab h=hr.xs.length:=by unfold hlen;rw[e]
theorem zm {ab:List bh}{h n:Nat}(h1:1≤n)(h2:n≤hlen ab h):∃hr,ab[h]? =some hr∧n≤hr.xs.length:=by
 unfold hlen at h2;cases hh:ab[h]? with
 |none=>rw[hh] at h2;simp at h2;omega
 |some hr=>rw[hh] at h2;exact⟨hr,rfl,h2⟩
theorem Ll (h:St E σ a w ν O){i n:Nat}{u:Value}(hx:bw (view E σ ν O w) ⟨.ptr i,n⟩ u)(hn:n≠0):∃hr g,σ.ab[i]? =some hr∧1≤n∧n≤hr.xs.length∧cr (ν (.hp i n))=some g∧u= .pointer (some ⟨g,0,none⟩):=by
 rcases Hx hx with ⟨rfl,_⟩ | ⟨h1,⟨ad,hu⟩,h2,h3,h4⟩
 ·exact absurd rfl hn
 ·obtain⟨hr,h5,h6⟩:=zm h2 h3;rcases h.nn i hr n h5 h1 h6 with ⟨_,g,m,c,e⟩ | ⟨_,g,e⟩
  ·rw[←h4,hu] at e;cases e
  ·exact⟨hr,g,h5,h1,h6,by rw[e];rfl,by rw[h4,e]⟩
theorem Lm (h:St E σ a w ν O){x:AV}{u:Value}(hx:al (view E σ ν O w) σ ν E.Y x u){r:bH}
  (he:(match x with
  | .rv (.cv ⟨.ptr h,n⟩)=>Q.gG (T:=Tb) (!(Nat.beq n 0)) (pv (.rv (.cv ⟨.ptr h,n⟩)))
  | .box b off=>pv (.box b off)
  | .CX r sz i off=>pv (.CX r sz i off)
  | .pO cs=>pv (.pO cs)
  | .hel h n i off=>pv (T:=Tb) (.hel h n i off)
  |_=> .fail).val Φ σ=some r):r.2= .kt []∧(∃ad,u= .pointer (some ad))∧al (view E σ ν O w) σ ν E.Y r.1 u:=by
 split at he
 ·rename_i i n;rw[aC,eR] at he;obtain⟨hn,rfl⟩:=he;have hn':n≠0:=fun e=>by rw[e] at hn;cases hn
  obtain⟨hr,g,_,_,_,_,e⟩:=Ll h hx hn';exact⟨rfl,⟨_,e⟩,hx⟩
 ·rw[eR] at he;subst he;obtain⟨_,g,_,e⟩:=hx;exact⟨rfl,⟨_,e⟩,⟨by assumption,g,by assumption,e⟩⟩
 ·rw[eR] at he;subst he;obtain⟨row,g,e1,e2,e3,e4⟩:=hx;exact⟨rfl,⟨_,e4⟩,⟨row,g,e1,e2,e3,e4⟩⟩
 ·rw[eR] at he;subst he;obtain⟨ad,vs,e1,e2⟩:=hx;exact⟨rfl,⟨_,e1⟩,⟨ad,vs,e1,e2⟩⟩
 ·rw[eR] at he;subst he;obtain⟨hr,g,e1,e2,e3,e4,e5⟩:=hx;exact⟨rfl,⟨_,e5⟩,⟨hr,g,e1,e2,e3,e4,e5⟩⟩
 ·cases he
theorem QH (h:St E σ a w ν O){x:AV}{u:Value}(hx:al (view E σ ν O w) σ ν E.Y x u){off:Nat}{r:bH}
  (he:(match x with
   | .box b o=>pv (.box b (o+off))
   | .CX q sz i o=>pv (.CX q sz i (o+off))
   | .pO cs=>pv (.pO (cs.drop off))
   | .hel h n i o=>pv (.hel h n i (o+off))
   | .rv (.cv ⟨.ptr h,n⟩)=> .gG (!(Nat.beq n 0)) (pv (T:=Tb) (.hel h n 0 off))
   |_=> .fail).val Φ σ=some r):r.2= .kt []∧∃ad,u= .pointer (some ad)∧al (view E σ ν O w) σ ν E.Y r.1 (.pointer (some (ad.add off))):=by
 split at he
 ·rw[eR] at he;subst he;obtain⟨h1,g,h2,h3⟩:=hx;exact⟨rfl,_,h3,h1,g,h2,by rw[J5]⟩
 ·rw[eR] at he;subst he;obtain⟨row,g,e1,e2,e3,e4⟩:=hx;exact⟨rfl,_,e4,row,g,e1,e2,e3,by rw[J5,Nat.add_assoc]⟩
 ·rw[eR] at he;subst he;obtain⟨ad,vs,e1,e2,e3⟩:=hx;exact⟨rfl,_,e1,_,vs.drop off,rfl,e2.drop off,fun j u hj=>by rw[add_add];exact e3 _ u (zl hj)⟩
 ·rw[eR] at he;subst he;obtain⟨hr,g,e1,e2,e3,e4,e5⟩:=hx;exact⟨rfl,_,e5,hr,g,e1,e2,e3,e4,by rw[J5,Nat.add_assoc]⟩
 ·rename_i i n;rw[aC,eR] at he;obtain⟨hn,rfl⟩:=he;have hn':n≠0:=fun e=>by rw[e] at hn;cases hn
  obtain⟨hr,g,h1,h2,h3,h4,h5⟩:=Ll h hx hn';exact⟨rfl,_,h5,hr,g,h1,h2,h3,h4,by rw[wq,Nat.zero_mul,Nat.zero_add]⟩
 ·cases he
theorem Pd (hT:fT P T)(h:St E σ a w ν O){s:TypeId}{x:AV}{u:Value}{f:Nat}(hx:al (view E σ ν O w) σ ν E.Y x u){r:bH}(he:(Er (T:=Tb) T s x f).val Φ σ=some r):
  r.2= .kt []∧∃v,(Instr.fieldAt s u f).run P w= .ok v w∧al (view E σ ν O w) σ ν E.Y r.1 v:=by
 unfold Er at he;split at he
 ·rename_i tr hr;obtain⟨rfl,hr'⟩:=hT s tr hr;rw[aC] at he;obtain⟨GC,he⟩:=he;split at he
  ·rename_i off size hf;have hd:=hr'.desc;have abY:∃(fs:Array Field) (fd:Field) (j:TypeInfo),P.underlying tr.id=some (.struct fs)∧fs[f]? =some fd∧fd.offset=off∧P.info? fd.type=some j∧j.size≠0:=by
    cases lF:tr.ty with
    |st u=>
     rw[lF] at hd;rcases hd with ⟨_,fs,h1,_,h2⟩ | ⟨ha,n,e,j,h1,_⟩
     ·obtain⟨fd,j,h3,h4,h5,h6,h7,_⟩:=h2 f off size hf;exact⟨fs,fd,j,h1,h3,h4,h5,by rw[h6];exact h7⟩
     ·rw[ha] at GC;cases GC
    |_=>rw[hr'.lV (by rw[lF];simp)] at hf;simp at hf
   obtain⟨fs,fd,j,h1,h2,h3,h4,h5⟩:=abY;obtain⟨e1,ad,hu,bP⟩:=QH h hx he;refine⟨e1,_, ?_,bP⟩;subst hu;simp[Instr.fieldAt,run_underlying h1,h2,Instr.sureAddr,fieldPlace,sizeOf,typeInfo,h4,h5,h3]
  ·cases he
 ·cases he
theorem G8 (hT:fT P T){r:eI}(hr:MU P T r){u:Ty}(lF:r.ty= .slice u):
  P.underlying r.id=some (.slice r.elem)∧∃re,MU P T re∧re.id=r.elem∧re.ty=u:=by
 have hd:=hr.desc;rw[lF] at hd;obtain⟨h1,re,h2,h3⟩:=hd;obtain⟨h4,h5⟩:=hT _ re h2;exact⟨h1,re,h5,h4,h3⟩
theorem Pe (hT:fT P T)(h:St E σ a w ν O){t:TypeId}{x i:AV}{u v:Value}(hx:al (view E σ ν O w) σ ν E.Y x u)(hi:al (view E σ ν O w) σ ν E.Y i v)
  {r:bH} (he:(Ep (T:=Tb) T t x i).val Φ σ=some r):
  r.2= .kt []∧∃z,(Instr.indexAt t u v).run P w= .ok z w∧al (view E σ ν O w) σ ν E.Y r.1 z:=by
 unfold Ep at he;split at he
 ·rename_i tr hr;obtain⟨rfl,hr'⟩:=hT t tr hr;split at he
  ·rename_i k n;have ei:=qw hi rfl;have hc:=Hz hx;have run:∀{ut:Ty} {ad:Addr} {m cc:Nat},tr.ty= .slice ut→u= .slice (some ad) m cc→0≤n→n<m→
     (Instr.indexAt tr.id u v).run P w= .ok (.pointer (some (ad.add (n.toNat*ut.size)))) w:=fun {ut ad m cc} lF hu h0 h1=>by
    obtain⟨hd,re,GD,Jn,HC⟩:=G8 hT hr' lF;have hsz:(sizeOf tr.elem).run P w= .ok ut.size w:=by rw[←Jn, ←HC];exact tu GD w
    simp[Instr.indexAt,ei,asIntOf,run_underlying hd,hu,h0,h1,hsz]
   split at he
   ·rename_i ut u' xs lF hb;rw[hb] at hc;simp only[aC,bQ,eR] at he;obtain⟨Tn,y,hy,rfl⟩:=he;have Jx:=(beq_iff _ _).1 Tn;obtain⟨h0,h1,h2⟩:=Hv hy;obtain⟨A,cc,bl,ex,hlen,hall,hnone,xI⟩:=lY hc;cases A with
    |none=>have:=hnone rfl;omega
    |some ad=>
     obtain⟨ys,h3,h4,h5⟩:=tt hall n.toNat y h2;refine⟨rfl,_,run lF ex h0 h1,_,ys,rfl,fM h4,fun j v hj=> ?_⟩;obtain⟨RT,e,hv⟩:=xI _ v (h5 j v hj);obtain rfl:ad=RT:=by simpa using e
     rw[add_add,Jx];exact hv
   ·rename_i ut q lF hb;rw[hb] at hc;simp only[lE,aC,bQ,eR] at he;obtain⟨row,hrow,Tn,y,hy,rfl⟩:=he;have Jx:=(beq_iff _ _).1 Tn;obtain⟨h0,h1,h2⟩:=Hv hy;obtain⟨A,cc,er,_,_,hA⟩:=uQ (h.row hrow);cases A with
    |none=>
     obtain⟨bl,⟨h3,h4⟩,_⟩:=h.row hrow;rcases h4 with ⟨_,h6⟩ | ⟨g,cap,cur,h4,_⟩
     ·omega
     ·rw[er] at h4;cases h4
    |some ad=>obtain⟨hA1,hA2⟩:=hA ad rfl;refine⟨rfl,_,run lF (by rw[hc.1,er]) h0 h1,row,ad.block,hrow,by rw[er];rfl,rfl, ?_⟩;obtain⟨b,o,sp⟩:=ad;simp only at hA1 hA2;subst hA1 hA2;rw[wq,Jx];rfl
   ·rename_i ut j m lF hb;rw[hb] at hc;simp only[eK,aC,bQ,eR] at he;obtain⟨hr,hh,Tn,l,hl,y,hy,rfl⟩:=he;have Jx:=(beq_iff _ _).1 Tn;obtain⟨h0,h1,h2⟩:=Hv hy;rcases Da hc with ⟨rfl,_⟩ | ⟨hm,OR,_,hle,hu⟩
    ·simp[ae] at hl;subst hl;simp at h2
    ·have hle':m≤hr.xs.length:=by rw[AO hh] at hle;exact hle
     rcases h.nn j hr m hh hm hle' with ⟨hk,g,m',c',e⟩ | ⟨_,g,e⟩
     ·have bP:=h.hp hh hm hl;rw[hk] at bP;obtain⟨_,hrow⟩:=bP;obtain⟨A,cc,er,_⟩:=uQ hrow;rw[e] at er;simp only[Value.slice.injEq] at er;obtain⟨rfl,rfl,rfl⟩:=er;exact⟨rfl,_,run lF (by rw[hu,e]) h0 h1,hr,g,hh,hm,hle',by rw[e];rfl,by rw[wq,Jx];rfl⟩
     ·obtain⟨_,_,_,e'⟩:=OR;rw[hu,e] at e';cases e'
   ·rename_i ut lF;split at he
    ·rename_i m;rw[aC] at he;obtain⟨GC,he⟩:=he;split at he
     ·rename_i off size hf;have hd:=hr'.desc;rw[lF] at hd;rcases hd with ⟨ha,fs,h1,_⟩ | ⟨_,len,e,j,h1,h2,h3,h4,h5⟩
      ·rw[ha] at GC;cases GC
      ·have hm:m<len∧off=m*j.size:=by rw[h3,List.getElem?_map] at hf;simp only[Option.map_eq_some_iff,Prod.mk.injEq] at hf;obtain⟨k',hk,h6,h7⟩:=hf;obtain⟨h8,h9⟩:=List.getElem?_eq_some_iff.1 hk;simp at h8 h9;exact⟨h8,by rw[←h6,h9]⟩
       have he':(match co x with
        | .box b o=>pv (.box b (o+off))
        | .CX q sz i o=>pv (.CX q sz i (o+off))
        | .pO cs=>pv (.pO (cs.drop off))
        | .hel h n i o=>pv (.hel h n i (o+off))
        | .rv (.cv ⟨.ptr h,n⟩)=> .gG (!(Nat.beq n 0)) (pv (T:=Tb) (.hel h n 0 off))
        |_=> .fail).val Φ σ=some r:=by
        revert he;cases co x with
        |rv z=>intro he;cases he
        |_=>exact id
       obtain⟨e1,ad,hu,bP⟩:=QH h hc he';refine⟨e1,_, ?_,bP⟩;subst hu;have h0:(0:Int)≤Int.ofNat m:=by simp
       have h6:(Int.ofNat m:Int)<len:=by simp;exact hm.1
       simp only[Int.ofNat_eq_natCast] at ei h6 h0;simp[Instr.indexAt,ei,asIntOf,run_underlying h1,Instr.sureAddr,hm.1,sizeOf,typeInfo,h2,hm.2]
     ·cases he
    ·cases he
   ·cases he
  ·cases he
 ·cases he
end
section
variable {P:Program}{Tb:cm}{T:List eI}{E:Env}{σ:AS}{a:Act}{w w':World}{ν:Nm→Value}{O:Nat→Prop}{Φ:bE Tb}{V:View}{Y:Value}{af:AS}
theorem zn {V:View}{k:IntKind}:∀{xs:List Int} {bl:List (List Value)},aE (Rel V (.int k)) xs bl→bl.flatten=xs.map (Value.int k)
 | [],[],_=>rfl
 |x::xs,y::ys,h=>by have h1:y=[Value.int k x]:=h.1;have h2:=zn h.2;simp[h1,h2]
 | [],_::_,h=>h.elim
 |_::_,[],h=>h.elim
theorem MZ (xs:List Int):∀(s:ByteArray),(xs.foldl (fun r n=>r.push (UInt8.ofNat n.toNat)) s).data=s.data++(xs.map fun n=>UInt8.ofNat n.toNat).toArray:=by
 induction xs with
 |nil=>intro s;simp
 |cons x xs ih=>intro s;simp only[List.foldl_cons,ih,List.map_cons];show (s.data.push _)++_=_;apply Array.ext';simp
theorem TP (xs:List Int):xs.foldl (fun r n=>r.push (UInt8.ofNat n.toNat)) ByteArray.empty=strOf xs:=by
 have h:=MZ xs ByteArray.empty;have h2:(ByteArray.empty).data= #[]:=rfl;rw[h2,Array.empty_append] at h;cases hh:xs.foldl (fun r n=>r.push (UInt8.ofNat n.toNat)) ByteArray.empty with
 |mk d=>rw[hh] at h;simp only at h;subst h;rfl
theorem Dc {xs:List Int}{A:Option Addr}{c:Nat}(hA:A=none→xs=[])(hc:∀ad,A=some ad→∀j u,(xs.map (Value.int .u8))[j]? =some u→w.cell? (ad.add j)=some u):
  (Conv.bytesToString (.slice A xs.length c)).run P w= .ok (.string (strOf xs)) w:=by
 cases A with
 |none=>rw[hA rfl];rfl
 |some ad=>have hl:=run_loadCells_list (P:=P) w ad (xs.map (Value.int .u8)) (hc ad rfl);rw[List.length_map] at hl;rw[run_bytesToString w ad xs.length c xs hl,TP]
theorem RU (hE:aB E)(hT:fT P T)(h:St E σ a w ν O){s d:TypeId}{x:AV}{u:Value}(hx:al (view E σ ν O w) σ ν E.Y x u){r:bH}(he:(JX (T:=Tb) T s d x).val Φ σ=some r):
  r.2= .kt []∧∃v w',(convert s d u).run P w= .ok v w'∧Below w.heap.size w w'∧al (view E σ ν O w') σ ν E.Y r.1 v:=by
 unfold JX at he;split at he
 ·rename_i rs rd hrs hrd;obtain⟨rfl,hs'⟩:=hT s rs hrs;obtain⟨rfl,Xt⟩:=hT d rd hrd;have hs:=hs'.desc;have hd:=Xt.desc;have same:∀{z:AV} {v:Value},(z,RH.kt [])=r→(convert rs.id rd.id u).run P w= .ok v w→al (view E σ ν O w) σ ν E.Y z v→
    r.2= .kt []∧∃v w',(convert rs.id rd.id u).run P w= .ok v w'∧Below w.heap.size w w'∧al (view E σ ν O w') σ ν E.Y r.1 v:=fun e h1 h2=>by subst e;exact⟨rfl,_,w,h1,Below.refl _ _,h2⟩
  split at he
  ·rename_i k j i n Lo Lp;have ex:=qw hx rfl;rw[Lo] at hs;rw[Lp] at hd;rw[cC] at he;refine same he ?_ qx;simp[convert,run_underlying (show P.underlying rs.id=some (.int _) from hs),run_underlying (show P.underlying rd.id=some (.int _) from hd),ex,Conv.intToInt]
  ·rename_i n Lo Lp;have ex:=Cm hx rfl;rw[Lo] at hs;rw[Lp] at hd;rw[cC] at he;refine same (v:= .string n) he ?_ wu;simp[convert,run_underlying (show P.underlying rs.id=some .string from hs),run_underlying (show P.underlying rd.id=some .string from hd),ex]
  ·rename_i xs Lo Lp;rw[Lo] at hs;rw[Lp] at hd;obtain⟨FC,re,GD,HC⟩:=hs;obtain⟨Jn,TQ⟩:=hT _ re GD;have M4:=TQ.desc;rw[HC] at M4;have Yi:P.underlying rs.elem=some (.int .u8):=by rw[←Jn];exact M4
   rw[cC] at he;obtain⟨A,cc,bl,ex,hlen,hall,hnone,xI⟩:=lY hx;refine same (v:= .string (strOf xs)) he ?_ wu;have hb:=Dc (P:=P) (w:=w) (xs:=xs) (A:=A) (c:=cc) (fun e=>by
     have:=hnone e;cases xs with
     |nil=>rfl
     |cons y ys=>simp at hlen;omega) (fun ad e j u hj=>by
     rw[←zn hall] at hj;obtain⟨RT,e',hv⟩:=xI j u hj;rw[e] at e';obtain rfl:ad=RT:=by simpa using e'
     exact qt hE h.keep hv)
   rw[ex];cases A with
   |none=>simp[convert,run_underlying FC,run_underlying (show P.underlying rd.id=some .string from hd),run_underlying Yi,hb]
   |some ad=>simp[convert,run_underlying FC,run_underlying (show P.underlying rd.id=some .string from hd),run_underlying Yi,hb]
  ·rename_i q Lo Lp;rw[Lo] at hs;rw[Lp] at hd;obtain⟨FC,re,GD,HC⟩:=hs;obtain⟨Jn,TQ⟩:=hT _ re GD;have M4:=TQ.desc;rw[HC] at M4;have Yi:P.underlying rs.elem=some (.int .u8):=by rw[←Jn];exact M4
   rw[lE] at he;obtain⟨row,hrow,he⟩:=he;split at he
   ·rename_i e xs;rw[cC] at he;have hR:=h.row hrow;obtain⟨A,cc,er,hlen,hnone,hA⟩:=uQ hR;obtain⟨bl,h1,h2⟩:=EB hR;refine same (v:= .string (strOf xs)) he ?_ wu;have hb:=Dc (P:=P) (w:=w) (xs:=xs) (A:=A) (c:=cc) (fun e=>by
      have:=hnone e;cases xs with
      |nil=>rfl
      |cons y ys=>simp at hlen;omega) (fun ad e j u hj=>by
      rw[←zn h1] at hj;obtain⟨e1,e2⟩:=hA ad e;have:=h2 ad.block (by rw[er,e];rfl) j u hj;obtain⟨b,o,sp⟩:=ad;simp only at e1 e2 this;subst e1 e2;rw[wq];exact this)
    rw[hx.1,er];cases A with
    |none=>simp[convert,run_underlying FC,run_underlying (show P.underlying rd.id=some .string from hd),run_underlying Yi,hb]
    |some ad=>simp[convert,run_underlying FC,run_underlying (show P.underlying rd.id=some .string from hd),run_underlying Yi,hb]
   ·cases he
  ·rename_i n Lo Lp;have ex:=Cm hx rfl;rw[Lo] at hs;rw[Lp] at hd;obtain⟨ZO,re,GD,HC⟩:=hd;obtain⟨Jn,TQ⟩:=hT _ re GD;have M4:=TQ.desc;rw[HC] at M4;have Yi:P.underlying rd.elem=some (.int .u8):=by rw[←Jn];exact M4
   rw[aC,cC] at he;obtain⟨hle,rfl⟩:=he;refine⟨rfl,_,bytesWorld w rd.elem n,by rw[ex];exact run_convert_string_bytes w rs.id rd.id rd.elem n (show P.underlying rs.id=some .string from hs) ZO Yi, ?_, ?_⟩
   ·refine⟨rfl,rfl,rfl,by rw[bytesWorld_size];omega,fun k hk=>bytesWorld_at_old w rd.elem n k hk⟩
   ·refine⟨some ⟨w.heap.size,0,none⟩,grownCap w n.size 0 rd.elem,(bytesOf n).map fun n=>[Value.int .u8 n], ?_, ?_, ?_,fun e=>(by cases e), ?_⟩
    ·have:List.length (bytesOf n)=n.size:=by simp[bytesOf]
     rw[this]
    ·have:List.length (bytesOf n)=n.size:=by simp[bytesOf]
     rw[this];exact grownCap_ge w n.size 0 rd.elem
    ·have:∀l:List Int,aE (Rel (view E σ ν O (bytesWorld w rd.elem n)) (.int .u8)) l (l.map fun n=>[Value.int .u8 n]):=by
      intro l;induction l with
      |nil=>trivial
      |cons y ys ih=>exact⟨rfl,ih⟩
     exact this _
    ·intro j v hj;have Pf:∀l:List Int,(l.map fun n=>[Value.int .u8 n]).flatten=l.map (Value.int .u8):=by
      intro l;induction l with
      |nil=>rfl
      |cons y ys ih=>simp[ih]
     rw[Pf] at hj;refine⟨_,rfl, .inr ⟨?_, ?_, ?_, ?_⟩⟩
     ·rw[wq];exact h.keep.size
     ·rw[wq];rintro ⟨m,hm⟩;have:=(h.oW m _ hm).2.1;simp at this
     ·rw[wq];intro ho;have:=(h.out.2 _ ho).1;simp at this
     ·rw[wq];simp only[bytesOf,List.getElem?_map,List.map_map] at hj;cases hb:n.data.toList[j]? with
      |none=>simp[hb] at hj
      |some y=>
       have hlt:j<n.size:=by have:=(List.getElem?_eq_some_iff.1 hb).1;simpa using this
       rw[bytesWorld_cell w rd.elem n j hlt];simp[hb] at hj;simp[List.getD,hb, ←hj]
  ·cases he
 ·cases he
theorem Dd {V:View}{t:Ty}:∀{xs:List t.den} {bl:List (List Value)} (n:Nat),aE (Rel V t) xs bl→(bl.drop n).flatten=bl.flatten.drop (n*t.size)
 |xs,bl,0,h=>by simp
 | [],[],n+1,h=>by simp
 |x::xs,y::bl,n+1,h=>by
  have:=Rel.length h.1;rw[List.drop_succ_cons,Dd n h.2,List.flatten_cons,List.drop_append,Nat.succ_mul,this];have e:List.drop (n*t.size+t.size) y=[]:=by apply List.drop_eq_nil_of_le;omega
  rw[e,List.nil_append]
  congr 1;omega
 | [],_::_,_,h=>h.elim
 |_::_,[],_,h=>h.elim
theorem xJ {V:View}{t:Ty}:∀{xs:List t.den} {bl:List (List Value)} (n:Nat),aE (Rel V t) xs bl→(bl.take n).flatten=bl.flatten.take (n*t.size)
 |xs,bl,0,h=>by simp
 | [],[],n+1,h=>by simp
 |x::xs,y::bl,n+1,h=>by
  have:=Rel.length h.1;rw[List.take_succ_cons,List.flatten_cons,xJ n h.2,List.flatten_cons,List.take_append,Nat.succ_mul,this];have e:List.take (n*t.size+t.size) y=y:=by apply List.take_of_length_le;omega
  rw[e]
  congr 2;omega
 | [],_::_,_,h=>h.elim
 |_::_,[],_,h=>h.elim
theorem qz {n:Nat}{l h:Int}:nc n l h=true↔0≤l∧l≤h∧h≤n:=by simp[nc,and_assoc]
theorem HD {α:Type}{xs:List α}{l h:Int}(hc:nc xs.length l h=true):(cut xs l h).length=h.toNat - l.toNat:=by obtain⟨h1,h2,h3⟩:=qz.1 hc;simp[cut];omega
theorem rF {av:Operand→AV}(k8:∀x,al V σ ν Y (av x) (a.eval x)){d:Int}{x:Option Operand}{n:Int}(he:fO av d x=some n):
  (x=none∧n=d)∨∃y k,x=some y∧a.eval y= .int k n:=by
 cases x with
 |none=>simp[fO] at he;exact .inl ⟨rfl,he.symm⟩
 |some y=>
  simp only[fO] at he;split at he
  ·rename_i k m hy;simp only[Option.some.injEq] at he;subst he;have:=k8 y;rw[hy] at this;exact .inr ⟨y,_,rfl,qw this rfl⟩
  ·cases he
theorem ow {x:Value}{k:IntKind}{n:Int}{y:Nat}{code:BoundsCode}(hx:x= .int k n)(h0:0≤n)(h1:n≤y):
  (Instr.sliceBound x y code).run P w= .ok n.toNat w:=by
 subst hx;simp[Instr.sliceBound,asIntOf,h0,h1]
theorem FD {av:Operand→AV}(k8:∀x,al V σ ν Y (av x) (a.eval x)){s:Bool}{len cap:Nat}{lo hi:Option Operand}{l r:Int}(hl:fO av 0 lo=some l)(hh:fO av len hi=some r)
  (h0:0≤l) (h1:l≤r) (h2:r≤cap):
  (Instr.sliceBounds s len cap (lo.map a.eval) (hi.map a.eval) none).run P w= .ok (l.toNat,r.toNat,cap) w:=by
 rcases rF k8 hl with ⟨rfl,rfl⟩ | ⟨y,k,rfl,ey⟩<;>rcases rF k8 hh with ⟨rfl,rfl⟩ | ⟨z,k',rfl,ez⟩
 ·simp[Instr.sliceBounds]
 ·have hz:=fun c=>ow (P:=P) (w:=w) (code:=c) ez (by omega) h2;simp[Instr.sliceBounds,hz]
 ·have hy:=fun c=>ow (P:=P) (w:=w) (code:=c) (y:=len) ey h0 (by omega);simp[Instr.sliceBounds,hy]
 ·have hz:=fun c=>ow (P:=P) (w:=w) (code:=c) ez (by omega) h2;have hy:=fun c=>ow (P:=P) (w:=w) (code:=c) (y:=r.toNat) ey h0 (by omega);simp[Instr.sliceBounds,hz,hy]
theorem QI {V:View}{t:Ty}{xs:List t.den}{A:Option Addr}{c:Nat}{bl:List (List Value)}(hlen:xs.length≤c)(hall:aE (Rel V t) xs bl)(hnone:A=none→c=0)
  (xI:∀j u,bl.flatten[j]? =some u→∃ad,A=some ad∧V (ad.add j) u) {l r:Int} (hc:nc xs.length l r=true) {m:Nat} (hm:r.toNat≤m) (hmc:m≤c):
  bw V ⟨.slice t,cut xs l r⟩ (.slice (if m=l.toNat then A else A.map (·.add (l.toNat*t.size))) (r.toNat - l.toNat) (m - l.toNat)):=by
 obtain⟨h1,h2,h3⟩:=qz.1 hc;refine⟨_,_,(bl.take r.toNat).drop l.toNat,by rw[HD hc],by rw[HD hc];omega,(hall.take _).drop _, ?_, ?_⟩
 ·intro e;split at e
  ·have:=hnone e;omega
  ·have:A=none:=by simpa using e
   have:=hnone this;omega
 ·intro j u hj;rw[Dd l.toNat (hall.take _),xJ r.toNat hall] at hj;have h4:=wo (zl hj);obtain⟨ad,e,hv⟩:=xI _ u h4;subst e;by_cases hml:m=l.toNat
  ·have hlt:=(List.getElem?_eq_some_iff.1 hj).1;have:r.toNat=l.toNat:=by omega
   simp[this] at hlt
  ·exact⟨ad.add (l.toNat*t.size),by simp[hml],by rw[add_add];exact hv⟩
theorem HE (hT:fT P T){av:Operand→AV}(k8:∀x,al V σ ν Y (av x) (a.eval x)){t:TypeId}{x:AV}{u:Value}(hx:al V σ ν Y x u){lo hi mx:Option Operand}{r:bH}
  (he:(oY (T:=Tb) T av t x lo hi mx).val Φ af=some r):
  r.2= .kt []∧∃v,(Instr.sliceAt t u (lo.map a.eval) (hi.map a.eval) (mx.map a.eval)).run P w= .ok v w∧al V σ ν Y r.1 v:=by
 unfold oY at he;have hc:=Hz hx;split at he
 ·rename_i tr hr;obtain⟨rfl,hr'⟩:=hT t tr hr;have hd:=hr'.desc;split at he
  ·split at he
   ·rename_i s lF hb;rw[hb] at hc;rw[lF] at hd;have Xt:P.underlying tr.id=some .string:=hd;have ex:=Cm hc rfl;split at he
    ·rename_i l r' hl hh;rw[aC,cC] at he;obtain⟨hc,rfl⟩:=he;obtain⟨h1,h2,h3⟩:=qz.1 hc;have hb:=FD (P:=P) (w:=w) (s:=false) k8 hl hh h1 h2 h3;refine⟨rfl, .string (s.extract l.toNat r'.toNat), ?_,wu⟩;simp[Instr.sliceAt,Instr.slice,run_underlying Xt,ex,hb]
    ·cases he
   ·rename_i ut u' xs lF hb;rw[hb] at hc;obtain⟨hu,re,GD,Jn,HC⟩:=G8 hT hr' lF;have hsz:(sizeOf tr.elem).run P w= .ok ut.size w:=by rw[←Jn, ←HC];exact tu GD w
    obtain⟨A,cc,bl,ex,hlen,hall,hnone,xI⟩:=lY hc;split at he
    ·rename_i l r' hl hh;rw[aC,cC] at he;obtain⟨hc,rfl⟩:=he;rw[Bool.and_eq_true] at hc;obtain⟨Tn,hc⟩:=hc;have Jx:=(beq_iff _ _).1 Tn;obtain⟨h1,h2,h3⟩:=qz.1 hc;have hb:=FD (P:=P) (w:=w) (s:=true) k8 hl hh h1 h2 (show r'≤(cc:Int) by omega);refine⟨rfl,_, ?_,QI (m:=cc) hlen hall hnone xI hc (by omega) (Nat.le_refl _)⟩;simp[Instr.sliceAt,Instr.slice,run_underlying hu,ex,hb,hsz,Jx]
    ·cases he
   ·cases he
  ·rename_i mx;split at he
   ·rename_i ut u' xs lF hb;rw[hb] at hc;obtain⟨hu,re,GD,Jn,HC⟩:=G8 hT hr' lF;have hsz:(sizeOf tr.elem).run P w= .ok ut.size w:=by rw[←Jn, ←HC];exact tu GD w
    obtain⟨A,cc,bl,ex,hlen,hall,hnone,xI⟩:=lY hc;split at he
    ·rename_i hx';split at he
     ·rename_i l r' m hl hh hm;rw[aC,cC] at he;obtain⟨hc,rfl⟩:=he;simp only[Bool.and_eq_true,decide_eq_true_eq] at hc;obtain⟨⟨⟨Tn,hc⟩,hrm⟩,hml⟩:=hc;have Jx:=(beq_iff _ _).1 Tn;obtain⟨h1,h2,h3⟩:=qz.1 hc;obtain⟨_,k1,e1,ez⟩:=(rF k8 hh).resolve_left (by simp);obtain⟨_,k2,e2,em⟩:=(rF k8 hm).resolve_left (by simp);cases e1;cases e2;have hbm:=fun c=>ow (P:=P) (w:=w) (code:=c) (y:=cc) em (by omega) (by omega);have hbz:=fun c=>ow (P:=P) (w:=w) (code:=c) (y:=m.toNat) ez (by omega) (by omega);refine⟨rfl,_, ?_,QI (m:=m.toNat) hlen hall hnone xI hc (by omega) (by omega)⟩;rcases rF k8 hl with ⟨rfl,rfl⟩ | ⟨y,k,rfl,ey⟩
      ·simp[Instr.sliceAt,Instr.slice,Instr.sliceBounds,run_underlying hu,ex,hbm,hbz,hsz,Jx]
      ·have hby:=fun c=>ow (P:=P) (w:=w) (code:=c) (y:=r'.toNat) ey h1 (by omega);simp[Instr.sliceAt,Instr.slice,Instr.sliceBounds,run_underlying hu,ex,hbm,hbz,hby,hsz,Jx]
     ·cases he
    ·cases he
   ·cases he
 ·cases he
theorem zo:∀(vs:List Value) (k off:Nat) (cells:Array Value),off+k+vs.length≤cells.size→
  ((vs.zipIdx k).foldl (fun cs (p:Value×Nat)=>cs.setIfInBounds (off+p.2) p.1) cells).toList=cells.toList.take (off+k)++vs++cells.toList.drop (off+k+vs.length)
 | [],k,off,cells,h=>by simp
 |v::vs,k,off,cells,h=>by
  simp only[List.length_cons] at h;rw[List.zipIdx_cons,List.foldl_cons,zo vs (k+1) off _ (by simp;omega)];have:=list_seg_step cells.toList (off+k) v vs (by simp;omega);simp only[Array.toList_setIfInBounds];have e1:off+(k+1)=off+k+1:=by omega
  rw[e1,this]
  congr 2
theorem M5 {V:View}{lV:List (Nat×Nat)}{av:Operand→AV}(k8:∀x,al V σ ν Y (av x) (a.eval x)):∀(parts:List (Nat×Operand)) (cs cs':List CV) (cells:Array Value),partsOf av lV parts cs=some cs'→aE (bw V) cs cells.toList→
  ∃cells',Instr.fill (lV.toArray[·]?) cells (parts.map fun(i,x)=>(i,a.eval x))=some cells'∧aE (bw V) cs' cells'.toList
 | [],cs,cs',cells,h,hr=>by simp only[partsOf,Option.some.injEq] at h;subst h;exact⟨cells,rfl,hr⟩
 | (i,x)::parts,cs,cs',cells,h,hr=>by
   simp only[partsOf] at h;have hlen:=hr.length;have go:∀(vs:List CV) (off size:Nat) (ws:List Value),lV[i]? =some (off,size)→(a.eval x).cells=ws.toArray→aE (bw V) vs ws→size=vs.length→off+vs.length≤cs.length→
     partsOf av lV parts (xC cs off vs)=some cs'→∃cells',Instr.fill (lV.toArray[·]?) cells (((i,x)::parts).map fun(i,x)=>(i,a.eval x))=some cells'∧aE (bw V) cs' cells'.toList:=by
    intro vs off size ws hf hc hvs hs hle hp;have Wj:=hvs.length;have hfo:=zo ws 0 off cells (by simp at hlen;omega);obtain⟨cells',h1,h2⟩:=M5 k8 parts (xC cs off vs) cs' (ws.toArray.zipIdx.foldl (fun cs (p:Value×Nat)=>cs.setIfInBounds (off+p.2) p.1) cells) hp (by
     have e:(ws.toArray.zipIdx.foldl (fun cs (p:Value×Nat)=>cs.setIfInBounds (off+p.2) p.1) cells).toList=cells.toList.take off++ws++cells.toList.drop (off+ws.length):=by rw[←Array.foldl_toList];simpa using hfo
     rw[e,xC,Wj];exact((hr.take off).append hvs).append (hr.drop _))
    refine⟨cells', ?_,h2⟩;have Yj:(a.eval x).cells.size=size:=by rw[hc];simp;omega
    have hb:¬off+size>cells.size:=by simp at hlen;omega
    simp only[List.map_cons,Instr.fill];rw[show lV.toArray[i]? =some (off,size) by simpa using hf];simp only[Yj,ne_eq,not_true_eq_false,false_or];rw[if_neg (by simpa [Yj] using hb)];rw[hc];exact h1
   split at h
   ·rename_i off size hf;have hx:=k8 x;split at h
    ·rename_i c hc;rw[hc] at hx;cases hb:(Nat.beq size 1&&Nat.blt off cs.length) with
     |false=>simp[hb] at h
     |true=>simp only[hb,cond_true] at h;rw[Bool.and_eq_true] at hb;have h1:=(beq_iff _ _).1 hb.1;have h2:off+1≤cs.length:=Nat.le_of_ble_eq_true hb.2;exact go [c] off size [a.eval x] hf (xA hx) ⟨hx,trivial⟩ h1 h2 h
    ·rename_i vs hc;rw[hc] at hx;obtain⟨ws,e,hx⟩:=hx;cases hb:(Nat.beq size vs.length&&Nat.ble (off+vs.length) cs.length) with
     |false=>simp[hb] at h
     |true=>simp only[hb,cond_true] at h;rw[Bool.and_eq_true] at hb;have h1:=(beq_iff _ _).1 hb.1;have h2:=Nat.le_of_ble_eq_true hb.2;exact go vs off size ws hf (by rw[e];rfl) hx h1 h2 h
    ·cases h
   ·cases h
theorem HF {f g:Nat→Option (Nat×Nat)}:∀(l:List (Nat×Value)) (cells cells':Array Value),(∀i p,g i=some p→f i=some p)→Instr.fill g cells l=some cells'→Instr.fill f cells l=some cells'
 | [],_,_,_,h=>h
 | (i,v)::l,cells,cells',hfg,h=>by
   simp only[Instr.fill] at h ⊢;split at h
   ·cases h
   ·rename_i off size hg;rw[hfg i _ hg];simp only;split at h
    ·cases h
    ·rename_i hn;rw[if_neg hn];exact HF l _ _ hfg h
theorem HG (hT:fT P T){av:Operand→AV}(k8:∀x,al V σ ν Y (av x) (a.eval x)){t:TypeId}{parts:Array (Nat×Operand)}{r:bH}
  (he:(tk (T:=Tb) T av t parts.toList).val Φ af=some r):
  r.2= .kt []∧∃v,(Instr.build t (parts.map fun(i,x)=>(i,a.eval x))).run P w= .ok v w∧al V σ ν Y r.1 v:=by
 unfold tk at he;split at he
 ·rename_i tr hr;obtain⟨rfl,hr'⟩:=hT t tr hr;split at he
  ·rename_i u lF;simp only[ku,eR] at he;obtain⟨cs,hcs,rfl⟩:=he;have hd:=hr'.desc;rw[lF] at hd;obtain⟨i,zz,hi,hsz,_,hz,bP,_⟩:=hr'.info;have hz2:=fM (bP V);rw[lF] at hz2;obtain⟨cells',h1,h2⟩:=M5 (V:=V) k8 parts.toList _ cs zz.cells hcs hz2;rcases hd with ⟨_,fs,hu,hm,_⟩ | ⟨_,n,e,j,hu,hj,hf,h0,_⟩
   ·have hb:P.built tr.id (parts.map fun(i,x)=>(i,a.eval x)).toList=some cells':=by simp only[Program.built,hi,hu,hz,hm,Array.toList_map];exact h1
    exact⟨rfl, .agg cells',run_build w tr.id _ _ hb,cells'.toList,by simp,h2⟩
   ·refine⟨rfl, .agg cells', ?_,cells'.toList,by simp,h2⟩;have h3:Instr.fill (fun i=>some (i*j.size,j.size)) zz.cells (parts.toList.map fun(i,x)=>(i,a.eval x))=some cells':=by refine HF _ _ _ (fun i p hp=> ?_) h1;rw[hf] at hp;simp only[List.getElem?_toArray,List.getElem?_map,Option.map_eq_some_iff] at hp;obtain⟨k,hk,rfl⟩:=hp;obtain⟨_,h9⟩:=List.getElem?_eq_some_iff.1 hk;simp at h9;rw[h9]
    simp[Instr.build,zeroValue,typeInfo,hi,hz,run_underlying hu,sizeOf,hj,h3]
  ·cases he
 ·cases he
theorem RW (hT:fT P T){t:TypeId}{x i:AV}{u v:Value}(hx:al V σ ν Y x u)(hi:al V σ ν Y i v){r:bH}
  (he:(match gE T t with
  |some r=>match r.ty,i,x with
   | .str, .rv (.cv ⟨.int _,n⟩), .rv (.cv ⟨.str,s⟩)=>Q.opt (T:=Tb) (En s n) fun b=>uH (.int .u8) b
   |_,_,_=> .fail
  |none=> .fail).val Φ af=some r):r.2= .kt []∧∃z,(Instr.index t u v).run P w= .ok z w∧al V σ ν Y r.1 z:=by
 split at he
 ·rename_i tr hr;obtain⟨rfl,hr'⟩:=hT t tr hr;split at he
  ·rename_i k n s lF;have ei:=qw hi rfl;have ex:=Cm hx rfl;have hd:=hr'.desc;rw[lF] at hd;rw[bQ] at he;obtain⟨b,hb,he⟩:=he;rw[cC] at he;subst he;cases n with
   |negSucc m=>simp[En] at hb
   |ofNat m=>
    simp only[En,Option.map_eq_some_iff] at hb;obtain⟨u,hu,rfl⟩:=hb;refine⟨rfl, .int .u8 u.toNat, ?_,qx⟩;have h0:(0:Int)≤Int.ofNat m:=by simp
    simp[Instr.index,ei,ex,asIntOf,run_underlying (show P.underlying tr.id=some .string from hd),hu]
  ·cases he
 ·cases he
end
section
variable {P:Program}{E:Env}{σ af:AS}{a:Act}{w w':World}{ν aK:Nm→Value}{O:Nat→Prop}{V V':View}{Y:Value}
theorem HH {R S:RV→Value→Prop}{f:RV→RV}(hf:∀x v,R x v→S (f x) v):∀{xs:List RV} {ys:List Value},aE R xs ys→aE S (xs.map f) ys
 | [],[],_=>trivial
 |_::_,_::_,h=>⟨hf _ _ h.1,HH hf h.2⟩
 | [],_::_,h=>h.elim
 |_::_,[],h=>h.elim
theorem tv {α β:Type}{R S:α→β→Prop}:∀{xs:List α} {ys:List β},(∀x∈xs,∀y,R x y→S x y)→aE R xs ys→aE S xs ys
 | [],[],_,_=>trivial
 |x::xs,y::ys,hf,h=>⟨hf x (by simp) y h.1,tv (fun z hz=>hf z (by simp[hz])) h.2⟩
 | [],_::_,_,h=>h.elim
 |_::_,[],_,h=>h.elim
theorem aZ {α:Type}{o:Option α}{x:α}(h:o=some x):o.isSome=true:=by simp[h]
theorem al.keep (hV:∀a v,V a v→V' a v)(hh:HSub σ ν af aK)(x:AV)(v:Value)
  (hr:∀r,x.dY r=true→∀row,look σ.rows r=some row→aK (.row r)=ν (.row r)∧∃row',look af.rows r=some row'∧row'.t.size=row.t.size)
  (hb:∀b,x.iK b=true→(look σ.boxes b).isSome=true→aK (.box b)=ν (.box b)∧(look af.boxes b).isSome=true) (h:al V σ ν Y x v):al V' af aK Y x v:=by
 have rv:∀(y:RV) u,(∀r,y.pS r=true→∀row,look σ.rows r=some row→aK (.row r)=ν (.row r)∧∃row',look af.rows r=some row'∧row'.t.size=row.t.size)→nf V σ ν y u→nf V' af aK y u:=fun y u hy h=>by
  cases y with
  |cv c=>exact bw.mono hV c u h
  |agg cs=>obtain⟨vs,e,h⟩:=h;exact⟨vs,e,h.mono (bw.mono hV)⟩
  |own r=>obtain⟨row,hrow⟩:=Option.isSome_iff_exists.1 h.2;obtain⟨h1,row',h2,_⟩:=hy r (beq_refl r) row hrow;exact⟨by rw[h1];exact h.1,by rw[h2];rfl⟩
 have ba:∀b off u,((look σ.boxes b).isSome=true→aK (.box b)=ν (.box b)∧(look af.boxes b).isSome=true)→tp σ ν b off u→tp af aK b off u:=fun b off u hb h=>by obtain⟨h1,g,h2,h3⟩:=h;obtain⟨h4,h5⟩:=hb h1;exact⟨h5,g,by rw[h4];exact h2,h3⟩
 cases x with
 |rv x=>exact rv x v hr h
 |lit u=>exact h
 |box b off=>exact ba b off v (hb b (beq_refl b)) h
 |CX r sz i off=>obtain⟨row,g,h1,h2,h3,h4⟩:=h;obtain⟨h5,row',h6,h7⟩:=hr r (beq_refl r) row h1;exact⟨row',g,h6,by rw[h5];exact h2,by rw[h7];exact h3,h4⟩
 |pO cs=>exact ng.mono hV h
 |hel i n j off=>obtain⟨hr,g,h1,h2,h3,h4,h5⟩:=h;obtain⟨hr',h6,h7,h8⟩:=hh.row i hr h1;exact⟨hr',g,h6,h2,Nat.le_trans h3 h8,by rw[hh.nm i n h2 (by rw[AO h1];exact h3)];exact h4,by rw[h7.t];exact h5⟩
 |fn f aP=>
  obtain⟨vs,h1,h2⟩:=h;refine⟨vs,h1,tv (fun c hc u hu=> ?_) h2⟩;cases c with
  |box b=>exact ba b 0 u (hb b (List.any_eq_true.2 ⟨_,hc,beq_refl b⟩)) hu
  |pO cs=>exact ng.mono hV hu
 |Gw=>exact h
 |RG l=>obtain⟨vs,h1,h2⟩:=h;exact⟨vs,h1,tv (fun y hy u hu=>rv y u (fun r hyr=>hr r (List.any_eq_true.2 ⟨y,hy,hyr⟩)) hu) h2⟩
 |X7 t cs=>obtain⟨vs,h1,h2⟩:=h;exact⟨vs,h1,h2.mono (bw.mono hV)⟩
 |nil=>trivial
theorem De {ab:List bh}{h n:Nat}{o:Obj}(ho:ki ab h n=some o):∃k row,o= .hp k row:=by
 cases n with
 |zero=>cases ho
 |succ m=>
  simp only[ki] at ho;split at ho
  ·unfold yC at ho;split at ho
   ·simp only[Option.some.injEq] at ho;exact⟨_,_,ho.symm⟩
   ·cases ho
  ·cases ho
theorem St.less (hE:aB E)(h:St E σ a w ν O){a':Act}(hrow:∀r row,look af.rows r=some row→look σ.rows r=some row)(Yk:∀b,(look af.boxes b).isSome=true→(look σ.boxes b).isSome=true)
  (hh:af.ab=σ.ab) (oS:af.trace=σ.trace) (hd:a'.defers=a.defers)
  (ZP:(∀key v,view E σ ν O w key v→view E af ν O w key v)→∀b x,look af.boxes b=some x→tq (view E af ν O w) af ν w (ν (.box b)) x)
  (OR:(∀key v,view E σ ν O w key v→view E af ν O w key v)→yT (al (view E af ν O w) af ν E.Y) af.tmps a'.tmps.toList E.XS):St E af a' w ν O:=by
 have hown:∀m k,Own af ν m k→Own σ ν m k:=fun m k hm=>by
  refine⟨?_,hm.2⟩;have h1:=hm.1;cases m with
  |row r=>simp only[AS.obj,Option.isSome_map] at h1 ⊢;obtain⟨row,e⟩:=Option.isSome_iff_exists.1 h1;exact aZ (hrow r row e)
  |box b=>simp only[AS.obj,Option.isSome_map] at h1 ⊢;exact Yk b h1
  |hp i n=>simp only[AS.obj,hh] at h1 ⊢;exact h1
 refine h.step hE (C:=fun _=>False) (dp.refl _ _) (fun k hk=>hk.elim) (HSub.of_eq hh (fun _ _=>rfl)) (fun m k hm=> .inl ⟨m,hown m k hm,id⟩) (fun m k hm=>(h.oW m k (hown m k hm)).2.1) (fun m m' k h1 h2=>h.inj m m' k (hown _ _ h1) (hown _ _ h2)) (fun m k hk=>h.new m k (hown _ _ hk)) oS hd (by rw[hh];exact h.nn) (fun i hr e=>by rw[hh];exact(h.ro i hr e).1) (fun hV m o ho=> ?_) OR;cases m with
 |row r=>simp only[AS.obj,Option.map_eq_some_iff] at ho;obtain⟨row,e,rfl⟩:=ho;exact fR.mono hV (fun _ _=>rfl) (h.row (hrow r row e))
 |box b=>simp only[AS.obj,Option.map_eq_some_iff] at ho;obtain⟨x,e,rfl⟩:=ho;exact ZP hV b x e
 |hp i n=>
  have ho':σ.obj (.hp i n)=some o:=by simp only[AS.obj,hh] at ho ⊢;exact ho
  obtain⟨k,row,rfl⟩:=De ho';exact sD.mono hV (fun _ _=>rfl) (h.sQ _ _ ho')
theorem nK {α:Type}{l:List (Nat×α)}{j k:Nat}{x:α}(h:look (del l j) k=some x):look l k=some x:=by
 rw[tl] at h;split at h
 ·cases h
 ·exact h
theorem St.freeze (hE:aB E)(h:St E σ a w ν O)(r:Nat):St E (σ.freeze r) a w ν O:=by
 unfold AS.freeze;cases hrow:look σ.rows r with
 |none=>exact h
 |some row=>
  show St E ({σ with tmps:=σ.tmps.map (AV.n7 r ⟨.slice row.t,row.xs⟩),rows:=del σ.rows r,boxes:=zc (BX.n7 r ⟨.slice row.t,row.xs⟩) σ.boxes}:AS) a w ν O;generalize xK:({σ with tmps:=σ.tmps.map (AV.n7 r ⟨.slice row.t,row.xs⟩),rows:=del σ.rows r,boxes:=zc (BX.n7 r ⟨.slice row.t,row.xs⟩) σ.boxes}:AS)=af;have e1:af.rows=del σ.rows r:=by rw[←xK]
  have e2:af.boxes=zc (BX.n7 r ⟨.slice row.t,row.xs⟩) σ.boxes:=by rw[←xK]
  have e3:af.ab=σ.ab:=by rw[←xK]
  have hne:∀k,k≠r→look af.rows k=look σ.rows k:=fun k hk=>by rw[e1,tl,if_neg (Ne.symm hk)]
  have G9:(∀key v,view E σ ν O w key v→view E af ν O w key v)→bw (view E af ν O w) ⟨.slice row.t,row.xs⟩ (ν (.row r)):=fun hV=>by
   obtain⟨bl,⟨e4,e5⟩,hall⟩:=h.row hrow;rcases e5 with ⟨e5,e6⟩ | ⟨g,cap,cur,e5,_,hg,hn,hm,hcs,yE⟩
   ·have hx:row.xs=[]:=List.eq_nil_of_length_eq_zero e6;rw[e5,hx];exact⟨none,0,[],rfl,Nat.le_refl _,trivial,fun _=>rfl,fun j u hj=>by simp at hj⟩
   ·have hb:=h.oW (.row r) g ⟨by simp[AS.obj,hrow],by rw[e5];rfl⟩;rw[e5];refine⟨some ⟨g,0,none⟩,cap,bl,rfl,hn,hall.mono (Rel.mono hV _),(fun e=>by cases e),fun j u hj=>⟨_,rfl, ?_⟩⟩;have hcell:w.cell? ⟨g,j,none⟩=some u:=by rw[cell_of_row w g j cur row.e (0,0) hg];rw[←yE] at hj;simpa using wo hj
    rw[wq];have hB:=(h.new (.row r) g ⟨by simp[AS.obj,hrow],by rw[e5];rfl⟩).resolve_right id
    ·refine .inr ⟨hB, ?_,hb.2.2,hcell⟩;rintro ⟨m,hm1,hm2⟩;have:m= .row r:=h.inj m (.row r) g ⟨by
      cases m with
      |row k=>simp only[AS.obj,Option.isSome_map] at hm1 ⊢;obtain⟨_,e⟩:=Option.isSome_iff_exists.1 hm1;rw[e1] at e;exact aZ (nK e)
      |box b=>simp only[AS.obj,Option.isSome_map,e2,fA] at hm1 ⊢;exact hm1
      |hp i n=>simp only[AS.obj,e3] at hm1 ⊢;exact hm1,hm2⟩ ⟨by simp[AS.obj,hrow],by rw[e5];rfl⟩
     subst this;simp[AS.obj,e1,tl] at hm1
  refine h.less hE (a':=a) (fun k row' h1=>nK (by rw[←e1];exact h1)) (fun b h1=>by rw[e2,fA,Option.isSome_map] at h1;exact h1) e3 (by rw[←xK]) rfl (fun hV b x hx=> ?_) (fun hV=> ?_)
  ·rw[e2,fA,Option.map_eq_some_iff] at hx;obtain⟨x0,hx0,rfl⟩:=hx;have Pg:=h.box hx0;obtain⟨g,Zp,VR⟩:=Pg;refine⟨g,Zp, ?_⟩;cases x0 with
   |cells cs=>obtain⟨cur,e,h3,h4⟩:=VR;exact⟨cur,e,h3,h4.mono (bw.mono hV)⟩
   |own k=>
    obtain⟨e,h3,h4⟩:=VR;simp only[BX.n7];cases hk:Nat.beq k r with
    |true=>have:=(beq_iff _ _).1 hk;subst this;exact⟨_,e,h3,G9 hV,trivial⟩
    |false=>exact⟨e,h3,by rw[hne k (nv.1 hk)];exact h4⟩
   |nil=>exact VR
  ·have OR:af.tmps=σ.tmps.map (AV.n7 r ⟨.slice row.t,row.xs⟩):=by rw[←xK]
   rw[OR];refine AM (fun x v hx=> ?_) h.slots;have Wk:∀x v,nf (view E σ ν O w) σ ν x v→nf (view E af ν O w) af ν (x.n7 r ⟨.slice row.t,row.xs⟩) v:=by
    intro x v hx;cases x with
    |cv c=>exact bw.mono hV c v hx
    |agg cs=>obtain⟨vs,h1,h2⟩:=hx;exact⟨vs,h1,h2.mono (bw.mono hV)⟩
    |own k=>
     obtain⟨h1,h2⟩:=hx;simp only[RV.n7];cases hk:Nat.beq k r with
     |true=>have:=(beq_iff _ _).1 hk;subst this;rw[h1];exact G9 hV
     |false=>exact⟨h1,by rw[hne k (nv.1 hk)];exact h2⟩
   have Zq:∀b,(look af.boxes b).isSome=(look σ.boxes b).isSome:=fun b=>by rw[e2,fA,Option.isSome_map]
   cases x with
   |rv x=>exact Wk x v hx
   |CX k sz i off=>
    simp only[AV.n7];cases hk:Nat.beq k r with
    |true=>trivial
    |false=>obtain⟨row',g,h1,h2⟩:=hx;exact⟨row',g,by rw[hne k (nv.1 hk)];exact h1,h2⟩
   |RG l=>obtain⟨vs,h1,h2⟩:=hx;exact⟨vs,h1,HH Wk h2⟩
   |lit u=>exact hx
   |box b off=>exact al.keep hV (HSub.of_eq e3 (fun _ _=>rfl)) (.box b off) v (fun r hr=>by cases hr) (fun b _ hs=>⟨rfl,by rw[Zq b];exact hs⟩) hx
   |pO cs=>exact ng.mono hV hx
   |hel i n j off=>exact al.keep hV (HSub.of_eq e3 (fun _ _=>rfl)) (.hel i n j off) v (fun r hr=>by cases hr) (fun b _ hs=>⟨rfl,by rw[Zq b];exact hs⟩) hx
   |fn f aP=>exact al.keep hV (HSub.of_eq e3 (fun _ _=>rfl)) (.fn f aP) v (fun r hr=>by cases hr) (fun b _ hs=>⟨rfl,by rw[Zq b];exact hs⟩) hx
   |Gw=>exact hx
   |X7 t cs=>obtain⟨vs,h1,h2⟩:=hx;exact⟨vs,h1,h2.mono (bw.mono hV)⟩
   |nil=>trivial
theorem St.OZ (hE:aB E)(h:St E σ a w ν O)(x:Operand):St E (σ.OZ x) a w ν O:=by
 unfold AS.OZ;split
 ·exact h.freeze hE _
 ·exact h
theorem St.oR (hE:aB E)(h:St E σ a w ν O):∀xs,St E (σ.oR xs) a w ν O:=by
 intro xs;induction xs generalizing σ with
 |nil=>exact h
 |cons x xs ih=>exact ih (h.OZ hE x)
theorem xL (r k:Nat):look (σ.bd r).rows k=if r=k then none else look σ.rows k:=tl _ _ _
theorem kv (r k:Nat):look (σ.dr r).boxes k=if r=k then none else look σ.boxes k:=tl _ _ _
theorem M6 {w w':World}{r:Nat}{x:BX}{v:Value}(hV:∀a v,V a v→V' a v)(hr:∀k,k≠r→(look σ.rows k).isSome=true→aK (.row k)=ν (.row k)∧look af.rows k=look σ.rows k)
  (hk:∀k,cr v=some k→w'.heap[k]? =w.heap[k]?) (h:tq V σ ν w v x):tq V' af aK w' v (x.bd r):=by
 obtain⟨g,h1,h2⟩:=h;have hg:=hk g (by rw[h1];rfl);refine⟨g,h1, ?_⟩;unfold BX.bd;cases x with
 |cells cs=>obtain⟨cur,e,h3,h4⟩:=h2;exact⟨cur,e,by rw[hg];exact h3,h4.mono (bw.mono hV)⟩
 |own k=>
  obtain⟨e,h3,h4⟩:=h2;simp only[BX.dY];cases hb:Nat.beq r k with
  |true=>exact⟨_,e,by rw[hg];exact h3⟩
  |false=>have hne:=Ne.symm (nv.1 hb);obtain⟨i1,i2⟩:=hr k hne h4;exact⟨e,by rw[hg,i1];exact h3,by rw[i2];exact h4⟩
 |nil=>obtain⟨u,e,h3⟩:=h2;exact⟨u,e,by rw[hg];exact h3⟩
theorem QJ {r:Nat}(hV:∀a v,V a v→V' a v)(hh:HSub σ ν af aK)(hr:∀k,k≠r→(look σ.rows k).isSome=true→aK (.row k)=ν (.row k)∧look af.rows k=look σ.rows k)
  (hb:∀b,(look σ.boxes b).isSome=true→aK (.box b)=ν (.box b)∧(look af.boxes b).isSome=true) (x:AV) (v:Value)
  (h:al V σ ν Y x v):al V' af aK Y (x.bd r) v:=by
 unfold AV.bd;cases hk:x.dY r with
 |true=>trivial
 |false=>exact h.keep hV hh x v (fun k hkk row hrow=>by
   obtain⟨i1,i2⟩:=hr k (fun e=>by rw[e,hk] at hkk;cases hkk) (aZ hrow);exact⟨i1,row,by rw[i2];exact hrow,rfl⟩) (fun b _=>hb b)
theorem St.bd (hE:aB E)(h:St E σ a w ν O)(r:Nat):St E (σ.bd r) a w ν O:=by
 have hne:∀k,k≠r→look (σ.bd r).rows k=look σ.rows k:=fun k hk=>by rw[xL,if_neg (Ne.symm hk)]
 have Ph:∀b,(look (σ.bd r).boxes b).isSome=(look σ.boxes b).isSome:=fun b=>by show (look (zc _ _) b).isSome=_;rw[fA,Option.isSome_map]
 refine h.less hE (af:=σ.bd r) (a':=a) (fun k row h1=>nK h1) (fun b h1=>by rw[←Ph];exact h1) rfl rfl rfl (fun hV b x hx=> ?_) (fun hV=>AM (QJ (σ:=σ) (af:=σ.bd r) hV (HSub.of_eq rfl (fun _ _=>rfl)) (fun k hk _=>⟨rfl,hne k hk⟩) (fun b hs=>⟨rfl,by rw[Ph];exact hs⟩)) h.slots);have hx':look (zc (BX.bd r) σ.boxes) b=some x:=hx;rw[fA,Option.map_eq_some_iff] at hx';obtain⟨x0,hx0,rfl⟩:=hx';exact M6 hV (fun k hk _=>⟨rfl,hne k hk⟩) (fun _ _=>rfl) (h.box hx0)
theorem St.dr (hE:aB E)(h:St E σ a w ν O)(d:Nat):St E (σ.dr d) a w ν O:=by
 have hne:∀k,k≠d→look (σ.dr d).boxes k=look σ.boxes k:=fun k hk=>by rw[kv,if_neg (Ne.symm hk)]
 refine h.less hE (af:=σ.dr d) (a':=a) (fun k row h1=>h1) (fun b h1=> ?_) rfl rfl rfl (fun hV b x hx=> ?_) (fun hV=>AM (fun x v hx=> ?_) h.slots)
 ·obtain⟨x,e⟩:=Option.isSome_iff_exists.1 h1;exact aZ (nK e)
 ·exact(h.box (nK hx)).mono hV (fun _ _=>rfl) (fun r _ hr=>⟨rfl,hr⟩)
 ·unfold AV.dr;cases hk:x.iK d with
  |true=>trivial
  |false=>exact al.keep (σ:=σ) (af:=σ.dr d) hV (HSub.of_eq rfl (fun _ _=>rfl)) x v (fun _ _ row hrow=>⟨rfl,row,hrow,rfl⟩) (fun b hb hs=>⟨rfl,by rw[hne b (fun e=>by rw[e,hk] at hb;cases hb)];exact hs⟩) hx
theorem St.gS (hE:aB E)(h:St E σ a w ν O):∀ds,St E (σ.gS ds) a w ν O:=by
 intro ds;induction ds generalizing σ with
 |nil=>exact h
 |cons d ds ih=>exact ih (h.dr hE d)
theorem St.share (hE:aB E)(h:St E σ a w ν O):∀(hs:List (Nat×Bool)),St E (σ.share hs) a w ν O:=by
 intro hs;induction hs generalizing σ with
 |nil=>exact h
 |cons p hs ih=>
  obtain⟨j,b⟩:=p;cases b
  ·exact ih h
  ·exact ih (h.OZ hE _)
theorem St.forget (hE:aB E)(h:St E σ a w ν O)(hs:List (Nat×Bool)):St E (σ.forget hs) a w ν O:=by
 have h1:=h.share hE hs;unfold AS.forget;generalize σ.share hs=cV at h1;dsimp only;generalize hl:Tu cV.tmps.l hs=l;generalize Ph:(cV.boxes.filter fun p=>l.any (fun q=>q.2.iK p.1)||cV.tmps.s.any fun q=>q.2.iK p.1)=bs;generalize hrs:(cV.rows.filter fun p=>(l.any fun q=>q.2.dY p.1)||(cV.tmps.s.any fun q=>q.2.dY p.1)||bs.any fun q=>q.2.dY p.1)=rs;have hbl:∀b,look bs b=if (l.any (fun q=>q.2.iK b)||cV.tmps.s.any fun q=>q.2.iK b) then look cV.boxes b else none:=fun b=>by rw[←Ph];exact rC cV.boxes (fun k=>l.any (fun q=>q.2.iK k)||cV.tmps.s.any fun q=>q.2.iK k) b
 have hrl:∀r,look rs r=if ((l.any fun q=>q.2.dY r)||(cV.tmps.s.any fun q=>q.2.dY r)||bs.any fun q=>q.2.dY r) then look cV.rows r else none:=fun r=>by rw[←hrs];exact rC cV.rows (fun k=>(l.any fun q=>q.2.dY k)||(cV.tmps.s.any fun q=>q.2.dY k)||bs.any fun q=>q.2.dY k) r
 refine h1.less hE (a':=a) (fun r row e=> ?_) (fun b e=> ?_) rfl rfl rfl (fun hV b x hx=> ?_) (fun hV=>⟨h1.slots.1,fun i x hx=> ?_,fun i x hx=> ?_⟩)
 ·have e':look rs r=some row:=e;rw[hrl] at e';split at e'
  ·exact e'
  ·cases e'
 ·have e':(look bs b).isSome=true:=e;rw[hbl] at e';split at e'
  ·exact e'
  ·cases e'
 ·have hx':look bs b=some x:=hx;have hm:=tn hx';rw[hbl] at hx';split at hx'
  ·refine(h1.box hx').mono hV (fun _ _=>rfl) (fun r e hr=>⟨rfl, ?_⟩);show (look rs r).isSome=true;have hk:(bs.any fun q=>q.2.dY r)=true:=List.any_eq_true.2 ⟨(b,x),hm,by rw[e];exact beq_refl r⟩;rw[hrl,if_pos (by rw[hk,Bool.or_true])];exact hr
  ·cases hx'
 ·have hx':look l i=some x:=hx;have hm:=tn hx';have hv:look cV.tmps.l i=some x:=by
   rw[←hl] at hx';unfold Tu at hx';rw[rC cV.tmps.l (fun k=>hs.any fun p=>Nat.beq p.1 k) i] at hx';split at hx'
   ·exact hx'
   ·cases hx'
  refine al.keep (σ:=cV) hV (HSub.of_eq (by rfl) (fun _ _=>rfl)) x _ (fun r hk row hrow=>⟨rfl,row, ?_,rfl⟩) (fun b hk hs=>⟨rfl, ?_⟩) (h1.slots.2.1 i x hv)
  ·show look rs r=_;rw[hrl,if_pos (by rw[show (l.any fun q=>q.2.dY r)=true from List.any_eq_true.2 ⟨(i,x),hm,hk⟩];rfl)];exact hrow
  ·show (look bs b).isSome=_;rw[hbl,if_pos (by rw[show (l.any fun q=>q.2.iK b)=true from List.any_eq_true.2 ⟨(i,x),hm,hk⟩];rfl)];exact hs
 ·have hx':look cV.tmps.s i=some x:=hx;have hm:=tn hx';refine al.keep (σ:=cV) hV (HSub.of_eq (by rfl) (fun _ _=>rfl)) x _ (fun r hk row hrow=>⟨rfl,row, ?_,rfl⟩) (fun b hk hs=>⟨rfl, ?_⟩) (h1.slots.2.2 i x hx')
  ·show look rs r=_;rw[hrl,if_pos (by rw[show (cV.tmps.s.any fun q=>q.2.dY r)=true from List.any_eq_true.2 ⟨(i,x),hm,hk⟩];simp)];exact hrow
  ·show (look bs b).isSome=_;rw[hbl,if_pos (by rw[show (cV.tmps.s.any fun q=>q.2.iK b)=true from List.any_eq_true.2 ⟨(i,x),hm,hk⟩];simp)];exact hs
def n8 (ν:Nm→Value)(d:Nat)(v:Value):Nm→Value
 | .row k=>if k=d then v else ν (.row k)
 |m=>ν m
def ED (ν:Nm→Value)(d:Nat)(v:Value):Nm→Value
 | .box k=>if k=d then v else ν (.box k)
 |m=>ν m
def EF (ν:Nm→Value)(h n:Nat)(v:Value):Nm→Value
 | .hp i k=>if i=h∧k=n then v else ν (.hp i k)
 |m=>ν m
theorem Lq {r:Nat}{k:Nat}(h:Own σ ν (.row r) k):(look σ.rows r).isSome=true:=by have:=h.1;simpa [AS.obj] using this
theorem Lr {r:Nat}{row:Row}{k:Nat}(h:look σ.rows r=some row)(hb:cr (ν (.row r))=some k):Own σ ν (.row r) k:=⟨by simp[AS.obj,h],hb⟩
def o8 (r d:Nat):Nm→Nm
 | .row k=>if k=d then .row r else .row k
 |m=>m
theorem TR {r d:Nat}{m:Nm}(h:E.pQ (o8 r d m)):E.pQ m:=by
 cases m with
 |row k=>simp only[o8] at h;split at h<;>exact absurd h Ez
 |_=>exact h
theorem St.rename (hE:aB E)(h:St E σ a w ν O){r d:Nat}(hd:look σ.rows d=none):∃aK,St E (σ.rename r d) a w aK O∧(∀m,(∀k,m≠ .row k)→aK m=ν m)∧((look σ.rows r).isSome=true→aK (.row d)=ν (.row r)∧(look (σ.rename r d).rows d).isSome=true):=by
 unfold AS.rename;cases hrow:look σ.rows r with
 |none=>exact⟨ν,h,fun _ _=>rfl,by simp⟩
 |some row=>
  have hrd:r≠d:=fun e=>by rw[e,hd] at hrow;cases hrow
  generalize xK:({σ with tmps:=σ.tmps.map (AV.MI r d),rows:=put (del σ.rows r) d row,boxes:=zc (BX.MI r d) σ.boxes}:AS)=af;have e1:af.rows=put (del σ.rows r) d row:=by rw[←xK]
  have e2:af.boxes=zc (BX.MI r d) σ.boxes:=by rw[←xK]
  have e3:af.ab=σ.ab:=by rw[←xK]
  have FE:∀k,look af.rows k=if d=k then some row else if r=k then none else look σ.rows k:=fun k=>by rw[e1,aF,tl]
  have ZO:look af.rows d=some row:=by rw[FE,if_pos rfl]
  have hν:∀m,(n8 ν d (ν (.row r))) m=ν (o8 r d m):=fun m=>by
   cases m with
   |row k=>simp only[n8,o8];split<;>rfl
   |_=>rfl
  have ki:∀m,(af.obj m).isSome=true→(σ.obj (o8 r d m)).isSome=true∧o8 r d m≠ .row d∧m≠ .row r:=fun m hm=>by
   cases m with
   |row k=>
    simp only[AS.obj,Option.isSome_map,FE] at hm;simp only[o8];by_cases hk:d=k
    ·subst hk;rw[if_pos rfl];exact⟨by simp[AS.obj,hrow],fun e=>hrd (by injection e),fun e=>hrd (by injection e with e;exact e.symm)⟩
    ·rw[if_neg hk] at hm;rw[if_neg (Ne.symm hk)];split at hm
     ·cases hm
     ·rename_i hk2;exact⟨by simpa [AS.obj] using hm,fun e=>hk (by injection e with e;exact e.symm),fun e=>hk2 (by injection e with e;exact e.symm)⟩
   |box b=>simp only[AS.obj,Option.isSome_map,e2,fA] at hm;exact⟨by simpa [AS.obj,o8] using hm,fun e=>(by cases e),fun e=>(by cases e)⟩
   |hp i n=>simp only[AS.obj,e3] at hm;exact⟨by simpa [AS.obj,o8] using hm,fun e=>(by cases e),fun e=>(by cases e)⟩
  have hown:∀m k,Own af (n8 ν d (ν (.row r))) m k→Own σ ν (o8 r d m) k:=fun m k hm=>⟨(ki m hm.1).1,by rw[←hν];exact hm.2⟩
  have ZQ:∀m m',(af.obj m).isSome=true→(af.obj m').isSome=true→o8 r d m=o8 r d m'→m=m':=fun m m' h1 h2 he=>by
   have a1:=(ki m h1).2.2;have a2:=(ki m' h2).2.2;cases m with
   |row k=>
    cases m' with
    |row k'=>
     simp only[o8] at he;by_cases q1:k=d<;>by_cases q2:k'=d
     ·rw[q1,q2]
     ·rw[if_pos q1,if_neg q2] at he;injection he with he;exact absurd (by rw[he]) a2
     ·rw[if_neg q1,if_pos q2] at he;injection he with he;exact absurd (by rw[he]) a1
     ·rw[if_neg q1,if_neg q2] at he;exact he
    |box b=>simp only[o8] at he;split at he<;>cases he
    |hp i n=>simp only[o8] at he;split at he<;>cases he
   |box b=>cases m' with
    |row k'=>simp only[o8] at he;split at he<;>cases he
    |_=>exact he
   |hp i n=>cases m' with
    |row k'=>simp only[o8] at he;split at he<;>cases he
    |_=>exact he
  have yD:∀k,k≠r→(look σ.rows k).isSome=true→n8 ν d (ν (.row r)) (.row k)=ν (.row k)∧look af.rows k=look σ.rows k:=fun k hk hs=>by
   have hkd:k≠d:=fun e=>by rw[e,hd] at hs;cases hs
   exact⟨by simp only[n8,if_neg hkd],by rw[FE,if_neg (Ne.symm hkd),if_neg (Ne.symm hk)]⟩
  have TS:n8 ν d (ν (.row r)) (.row d)=ν (.row r):=by simp only[n8,if_pos]
  refine⟨n8 ν d (ν (.row r)), ?_,fun m hm=> ?_,fun _=>⟨TS, ?_⟩⟩
  ·show St E ({σ with tmps:=σ.tmps.map (AV.MI r d),rows:=put (del σ.rows r) d row,boxes:=zc (BX.MI r d) σ.boxes}:AS) a w _ O;rw[xK];refine h.step hE (C:=fun _=>False) (dp.refl _ _) (fun k hk=>hk.elim) (HSub.of_eq e3 (fun _ _=>rfl)) (fun m k hm=> .inl ⟨_,hown m k hm,fun e=>TR e⟩) (fun m k hm=>(h.oW _ k (hown m k hm)).2.1)
    (fun m m' k h1 h2=>ZQ m m' h1.1 h2.1 (h.inj _ _ k (hown _ _ h1) (hown _ _ h2))) (fun m' k hk=> ?_) (by rw[←xK]) rfl (by rw[e3];exact h.nn) (fun i hr e=>by rw[e3];exact(h.ro i hr e).1) (fun hV m o ho=> ?_) (fun hV=> ?_)
   ·have h9:=h.new _ k (hown _ _ hk);refine h9.imp id (fun QK=> ?_);cases m' with
    |row q=>simp only[o8] at QK;split at QK<;>exact QK
    |box q=>trivial
    |hp i n=>simp only[o8] at QK;exact QK
   ·cases m with
    |row k=>
     simp only[AS.obj,Option.map_eq_some_iff] at ho;obtain⟨row',e,rfl⟩:=ho;rw[FE] at e;split at e
     ·rename_i hk;subst hk;obtain rfl:row=row':=by simpa using e
      rw[TS];exact fR.mono hV (fun _ _=>rfl) (h.row hrow)
     ·rename_i hk;split at e
      ·cases e
      ·rename_i hk2;rw[(yD k (Ne.symm hk2) (aZ e)).1];exact fR.mono hV (fun _ _=>rfl) (h.row e)
    |box b=>
     simp only[AS.obj,Option.map_eq_some_iff] at ho;obtain⟨x,e,rfl⟩:=ho;rw[e2,fA,Option.map_eq_some_iff] at e;obtain⟨x0,hx0,rfl⟩:=e;obtain⟨g,Zp,VR⟩:=h.box hx0;refine⟨g,Zp, ?_⟩;cases x0 with
     |cells cs=>obtain⟨cur,e,h3,h4⟩:=VR;exact⟨cur,e,h3,h4.mono (bw.mono hV)⟩
     |own k=>
      obtain⟨e,h3,h4⟩:=VR;simp only[BX.MI];cases hk:Nat.beq k r with
      |true=>have:=(beq_iff _ _).1 hk;subst this;exact⟨e,by rw[cond_true,TS];exact h3,by rw[cond_true,ZO];rfl⟩
      |false=>obtain⟨i1,i2⟩:=yD k (nv.1 hk) h4;exact⟨e,by rw[cond_false,i1];exact h3,by rw[cond_false,i2];exact h4⟩
     |nil=>exact VR
    |hp i n=>
     have ho':σ.obj (.hp i n)=some o:=by simp only[AS.obj,e3] at ho ⊢;exact ho
     obtain⟨k,row,rfl⟩:=De ho';exact sD.mono hV (fun _ _=>rfl) (h.sQ _ _ ho')
   ·have OR:af.tmps=σ.tmps.map (AV.MI r d):=by rw[←xK]
    rw[OR];refine AM (fun x v hx=> ?_) h.slots;have Wk:∀x v,nf (view E σ ν O w) σ ν x v→nf (view E af (n8 ν d (ν (.row r))) O w) af (n8 ν d (ν (.row r))) (x.MI r d) v:=by
     intro x v hx;cases x with
     |cv c=>exact bw.mono hV c v hx
     |agg cs=>obtain⟨vs,h1,h2⟩:=hx;exact⟨vs,h1,h2.mono (bw.mono hV)⟩
     |own k=>
      obtain⟨h1,h2⟩:=hx;simp only[RV.MI];cases hk:Nat.beq k r with
      |true=>have:=(beq_iff _ _).1 hk;subst this;exact⟨by rw[cond_true,TS];exact h1,by rw[cond_true,ZO];rfl⟩
      |false=>obtain⟨i1,i2⟩:=yD k (nv.1 hk) h2;exact⟨by rw[cond_false,i1];exact h1,by rw[cond_false,i2];exact h2⟩
    have hba:∀b off v,tp σ ν b off v→tp af (n8 ν d (ν (.row r))) b off v:=fun b off v hb=>⟨by rw[e2,fA,Option.isSome_map];exact hb.1,hb.2⟩
    cases x with
    |rv x=>exact Wk x v hx
    |CX k sz i off=>
     obtain⟨row',g,h1,h2,h3⟩:=hx;simp only[AV.MI];cases hk:Nat.beq k r with
     |true=>
      have:=(beq_iff _ _).1 hk;subst this;rw[hrow] at h1;obtain rfl:row=row':=by simpa using h1
      exact⟨row,g,by rw[cond_true];exact ZO,by rw[cond_true,TS];exact h2,h3⟩
     |false=>obtain⟨i1,i2⟩:=yD k (nv.1 hk) (aZ h1);exact⟨row',g,by rw[cond_false,i2];exact h1,by rw[cond_false,i1];exact h2,h3⟩
    |RG l=>obtain⟨vs,h1,h2⟩:=hx;exact⟨vs,h1,HH Wk h2⟩
    |lit u=>exact hx
    |box b off=>exact hba b off v hx
    |pO cs=>exact ng.mono hV hx
    |hel i n j off=>obtain⟨hr',g,h1,h2⟩:=hx;exact⟨hr',g,by rw[e3];exact h1,h2⟩
    |fn f aP=>
     obtain⟨vs,h1,h2⟩:=hx;refine⟨vs,h1,h2.mono (fun c u hc=> ?_)⟩;cases c with
     |box b=>exact hba b 0 u hc
     |pO cs=>exact ng.mono hV hc
    |Gw=>exact hx
    |X7 t cs=>obtain⟨vs,h1,h2⟩:=hx;exact⟨vs,h1,h2.mono (bw.mono hV)⟩
    |nil=>trivial
  ·cases m with
   |row k=>exact absurd rfl (hm k)
   |_=>rfl
  ·show (look (put (del σ.rows r) d row) d).isSome=true;rw[aF,if_pos rfl];rfl
end
section
variable {P:Program}{E:Env}{σ af:AS}{a:Act}{w w':World}{ν aK:Nm→Value}{O:Nat→Prop}{V V':View}{Y:Value}
theorem jN {d:Nat}{v:Value}:n8 ν d v (.row d)=v:=by simp only[n8,if_pos]
theorem Ha {d k:Nat}{v:Value}(h:k≠d):n8 ν d v (.row k)=ν (.row k):=by simp only[n8,if_neg h]
theorem St.old (h:St E σ a w ν O){C:Nat→Prop}(hg:dp C w w'){m:Nm}{o:Obj}(ho:σ.obj m=some o)(hc:∀k,cr (ν m)=some k→¬C k)(hV:∀key v,view E σ ν O w key v→V key v)
  (hr:∀r,o= .box (.own r)→(look σ.rows r).isSome=true→aK (.row r)=ν (.row r)∧(look af.rows r).isSome=true):xH V af aK w' (ν m) o:=
 (h.sQ m o ho).mono hV (fun k hk=>hg.block k (h.oW m k ⟨aZ ho,hk⟩).2.1 (hc k hk)) hr
theorem St.QL (hE:aB E)(h:St E σ a w ν O){r d:Nat}{row':Row}{v':Value}(hd:look (σ.bd r).rows d=none)(hg:dp (fun k=>Own σ ν (.row r) k) w w')
  (o7:∀k,cr v'=some k→Own σ ν (.row r) k∨(w.heap.size≤k∧k<w'.heap.size))
  (bP:(∀key v,view E σ ν O w key v→view E {(σ.bd r) with rows:=put (σ.bd r).rows d row'} (n8 ν d v') O w' key v)→
   fR (view E {(σ.bd r) with rows:=put (σ.bd r).rows d row'} (n8 ν d v') O w') w' v' row'):
  St E {(σ.bd r) with rows:=put (σ.bd r).rows d row'} a w' (n8 ν d v') O:=by
 generalize xK:({(σ.bd r) with rows:=put (σ.bd r).rows d row'}:AS)=af at bP;have e1:af.rows=put (σ.bd r).rows d row':=by rw[←xK]
 have e2:af.boxes=zc (BX.bd r) σ.boxes:=by rw[←xK];rfl
 have e3:af.ab=σ.ab:=by rw[←xK];rfl
 have FE:∀k,look af.rows k=if d=k then some row' else if r=k then none else look σ.rows k:=fun k=>by rw[e1,aF,xL]
 have hdr:∀k,(look σ.rows k).isSome=true→k≠r→k≠d:=fun k hk ZR e=>by subst e;rw[xL,if_neg (Ne.symm ZR)] at hd;rw[hd] at hk;cases hk
 have hold:∀k,k≠r→(look σ.rows k).isSome=true→n8 ν d v' (.row k)=ν (.row k)∧look af.rows k=look σ.rows k:=fun k ZR hk=>
  ⟨Ha (hdr k hk ZR),by rw[FE,if_neg (Ne.symm (hdr k hk ZR)),if_neg (Ne.symm ZR)]⟩
 -- what is owned
 have hown:∀m k,Own af (n8 ν d v') m k→(m= .row d∧(Own σ ν (.row r) k∨(w.heap.size≤k∧k<w'.heap.size)))∨(m≠ .row d∧m≠ .row r∧Own σ ν m k):=by
  intro m k hm;obtain⟨h1,h2⟩:=hm;cases m with
  |row q=>
   simp only[AS.obj,Option.isSome_map,FE] at h1;by_cases hq:d=q
   ·subst hq;rw[jN] at h2;exact .inl ⟨rfl,o7 k h2⟩
   ·rw[if_neg hq] at h1;split at h1
    ·cases h1
    ·rename_i hqr;rw[Ha (Ne.symm hq)] at h2;exact .inr ⟨fun e=>hq (by injection e with e;exact e.symm),fun e=>hqr (by injection e with e;exact e.symm),by simpa [AS.obj] using h1,h2⟩
  |box b=>simp only[AS.obj,Option.isSome_map,e2,fA] at h1;exact .inr ⟨fun e=>(by cases e),fun e=>(by cases e),by simpa [AS.obj] using h1,h2⟩
  |hp i n=>simp only[AS.obj,e3] at h1;exact .inr ⟨fun e=>(by cases e),fun e=>(by cases e),by simpa [AS.obj] using h1,h2⟩
 refine h.step hE hg (fun k hk=>⟨_,hk,Ez⟩) (HSub.of_eq e3 (fun _ _=>rfl)) (fun m k hm=> ?_) (fun m k hm=> ?_) (fun m m' k h1 h2=> ?_) (fun q k hk=> ?_) (by rw[←xK];rfl) rfl (by rw[e3];exact h.nn) (fun i hr e=>by rw[e3];exact(h.ro i hr e).1) (fun hV m o ho=> ?_) (fun hV=> ?_)
 ·rcases hown m k hm with ⟨_,h1 |h1⟩ | ⟨_,_,h1⟩
  ·exact .inl ⟨_,h1,fun e=>absurd e Ez⟩
  ·exact .inr h1.1
  ·exact .inl ⟨_,h1,id⟩
 ·rcases hown m k hm with ⟨_,h1 |h1⟩ | ⟨_,_,h1⟩
  ·exact Nat.lt_of_lt_of_le (h.oW _ k h1).2.1 hg.size
  ·exact h1.2
  ·exact Nat.lt_of_lt_of_le (h.oW _ k h1).2.1 hg.size
 ·rcases hown m k h1 with ⟨e,h3⟩ | ⟨n1,n2,h3⟩<;>rcases hown m' k h2 with ⟨e',h4⟩ | ⟨n1',n2',h4⟩
  ·rw[e,e']
  ·rcases h3 with h3 |h3
   ·exact absurd (h.inj _ _ k h4 h3) n2'
   ·exact absurd (h.oW _ k h4).2.1 (by omega)
  ·rcases h4 with h4 |h4
   ·exact absurd (h.inj _ _ k h3 h4) n2
   ·exact absurd (h.oW _ k h3).2.1 (by omega)
  ·exact h.inj _ _ k h3 h4
 ·rcases hown _ k hk with ⟨e,h1 |h1⟩ | ⟨_,_,h1⟩
  ·exact .inl ((h.new _ k h1).resolve_right id)
  ·exact .inl (Nat.le_trans h.keep.size h1.1)
  ·exact h.new _ k h1
 ·have G9:∀m',m'≠ .row r→(σ.obj m').isSome=true→∀k,cr (ν m')=some k→¬Own σ ν (.row r) k:=fun m' hne hs k hk ho=>hne (h.inj _ _ k ⟨hs,hk⟩ ho);cases m with
  |row q=>
   simp only[AS.obj,Option.map_eq_some_iff] at ho;obtain⟨ZS,e,rfl⟩:=ho;rw[FE] at e;split at e
   ·rename_i hq;subst hq;obtain rfl:row'=ZS:=by simpa using e
    rw[jN];exact bP (by rw[xK] at*;exact hV)
   ·split at e
    ·cases e
    ·rename_i hqr;rw[(hold q (Ne.symm hqr) (aZ e)).1];have ho:σ.obj (.row q)=some (.row ZS):=by simp[AS.obj,e]
     exact h.old hg ho (G9 _ (fun e=>hqr (by injection e with e;exact e.symm)) (aZ ho)) hV (fun r' e=>by cases e)
  |box b=>
   simp only[AS.obj,Option.map_eq_some_iff] at ho;obtain⟨x,e,rfl⟩:=ho;rw[e2,fA,Option.map_eq_some_iff] at e;obtain⟨x0,hx0,rfl⟩:=e;have ho:σ.obj (.box b)=some (.box x0):=by simp[AS.obj,hx0]
   exact M6 (σ:=σ) (ν:=ν) (V:=view E σ ν O w) (w:=w) hV hold (fun k hk=>hg.block k (h.oW _ k ⟨aZ ho,hk⟩).2.1 (G9 _ (fun e=>by cases e) (aZ ho) k hk)) (h.box hx0)
  |hp i n=>
   have ho':σ.obj (.hp i n)=some o:=by simp only[AS.obj,e3] at ho ⊢;exact ho
   obtain⟨k,row,rfl⟩:=De ho';exact h.old (aK:=n8 ν d v') hg ho' (G9 _ (fun e=>by cases e) (aZ ho')) hV (fun r' e=>by cases e)
 ·have:af.tmps=σ.tmps.map (AV.bd r):=by rw[←xK];rfl
  rw[this];exact AM (QJ (ν:=ν) (aK:=n8 ν d v') hV (HSub.of_eq e3 (fun _ _=>rfl)) hold (fun b hs=>⟨rfl,by rw[e2,fA,Option.isSome_map];exact hs⟩)) h.slots
theorem St.TT (hE:aB E)(h:St E σ a w ν O){m0 m1:Nm}{o0:Obj}{C:Nat→Prop}(Zr:¬E.pQ m0∧¬E.pQ m1)(hg:dp C w w')(hC:∀k,C k→Own σ ν m1 k)
  (hs:HSub σ ν af aK) (ki:∀m,m≠m0→m≠m1→af.obj m=σ.obj m∧((σ.obj m).isSome=true→aK m=ν m)) (hm1:m1=m0∨af.obj m1=none) (TV:af.obj m0=none∨af.obj m0=some o0)
  (o7:∀k,(af.obj m0).isSome=true→cr (aK m0)=some k→Own σ ν m0 k∨Own σ ν m1 k∨(w.heap.size≤k∧k<w'.heap.size)) (hold:∀k,E.J2 m1 k→E.J2 m0 k)
  (Ls:∀r row,look σ.rows r=some row→aK (.row r)=ν (.row r)∧∃row',look af.rows r=some row'∧row'.t.size=row.t.size)
  (Pj:∀b,(look σ.boxes b).isSome=true→aK (.box b)=ν (.box b)∧(look af.boxes b).isSome=true)
  (oS:af.trace=σ.trace) (htm:af.tmps=σ.tmps) (VQ:∀(i:Nat) (hr:bh) (n:Nat),af.ab[i]? =some hr→1≤n→n≤hr.xs.length→RS hr.k (aK (.hp i n)))
  (hro:∀i hr,E.ro i=some hr→af.ab[i]? =some hr)
  (bP:(∀key v,view E σ ν O w key v→view E af aK O w' key v)→af.obj m0=some o0→xH (view E af aK O w') af aK w' (aK m0) o0):St E af a w' aK O:=by
 have hown:∀m k,Own af aK m k→(m=m0∧(Own σ ν m0 k∨Own σ ν m1 k∨(w.heap.size≤k∧k<w'.heap.size)))∨(m≠m0∧m≠m1∧Own σ ν m k):=fun m k hm=>by
  by_cases e:m=m0
  ·subst e;exact .inl ⟨rfl,o7 k hm.1 hm.2⟩
  ·by_cases e1:m=m1
   ·subst e1;rcases hm1 with h1 |h1
    ·exact absurd h1 e
    ·have:=hm.1;rw[h1] at this;cases this
   ·obtain⟨h1,h2⟩:=ki m e e1;have h3:(σ.obj m).isSome=true:=by rw[←h1];exact hm.1
    exact .inr ⟨e,e1,h3,by rw[←h2 h3];exact hm.2⟩
 have hsub:Sub σ ν af aK:={hs with rows:=Ls,boxes:=Pj}
 refine h.step hE hg (fun k hk=>⟨_,hC k hk,Zr.2⟩) hs (fun m k hm=> ?_) (fun m k hm=> ?_) (fun m m' k h1 h2=> ?_) (fun q k hk=> ?_) oS rfl VQ hro (fun hV m o ho=> ?_) (fun hV=>by rw[htm];exact h.slots.mono (al.mono hV hsub))
 ·rcases hown m k hm with ⟨_,h1 |h1 |h1⟩ | ⟨_,_,h1⟩
  ·exact .inl ⟨_,h1,fun e=>absurd e Zr.1⟩
  ·exact .inl ⟨_,h1,fun e=>absurd e Zr.2⟩
  ·exact .inr h1.1
  ·exact .inl ⟨_,h1,id⟩
 ·rcases hown m k hm with ⟨_,h1 |h1 |h1⟩ | ⟨_,_,h1⟩
  ·exact Nat.lt_of_lt_of_le (h.oW _ k h1).2.1 hg.size
  ·exact Nat.lt_of_lt_of_le (h.oW _ k h1).2.1 hg.size
  ·exact h1.2
  ·exact Nat.lt_of_lt_of_le (h.oW _ k h1).2.1 hg.size
 ·have Xu:∀m,m≠m0→m≠m1→Own σ ν m k→¬(Own σ ν m0 k∨Own σ ν m1 k∨(w.heap.size≤k∧k<w'.heap.size)):=fun m n0 n1 h3 h4=>by
   rcases h4 with h4 |h4 |h4
   ·exact n0 (h.inj _ _ k h3 h4)
   ·exact n1 (h.inj _ _ k h3 h4)
   ·exact absurd (h.oW _ k h3).2.1 (by omega)
  rcases hown m k h1 with ⟨e,h3⟩ | ⟨n0,n1,h3⟩<;>rcases hown m' k h2 with ⟨e',h4⟩ | ⟨n0',n1',h4⟩
  ·rw[e,e']
  ·exact absurd h3 (Xu m' n0' n1' h4)
  ·exact absurd h4 (Xu m n0 n1 h3)
  ·exact h.inj _ _ k h3 h4
 ·rcases hown _ k hk with ⟨e',h1 |h1 |h1⟩ | ⟨_,_,h1⟩
  ·rw[e'];exact h.new _ k h1
  ·rw[e'];exact(h.new _ k h1).imp id (hold k)
  ·exact .inl (Nat.le_trans h.keep.size h1.1)
  ·exact h.new _ k h1
 ·by_cases e:m=m0
  ·subst e;rcases TV with h0 |h0
   ·rw[h0] at ho;cases ho
   ·have ho':=ho;rw[h0] at ho;obtain rfl:o0=o:=by simpa using ho
    exact bP hV ho'
  ·by_cases e1:m=m1
   ·subst e1;rcases hm1 with h1 |h1
    ·exact absurd h1 e
    ·rw[h1] at ho;cases ho
   ·obtain⟨h1,h2⟩:=ki m e e1;rw[h1] at ho;rw[h2 (aZ ho)];exact h.old hg ho (fun k hk hc=>e1 (h.inj _ _ k ⟨aZ ho,hk⟩ (hC k hc))) hV (fun r _ hr=>hsub.zd hr)
theorem St.fresh (hE:aB E)(h:St E σ a w ν O){m0:Nm}{o0:Obj}{C:Nat→Prop}(Zr:¬E.pQ m0)(hg:dp C w w')(hC:∀k,C k→Own σ ν m0 k)
  (hs:HSub σ ν af aK) (ki:∀m,m≠m0→af.obj m=σ.obj m∧((σ.obj m).isSome=true→aK m=ν m)) (TV:af.obj m0=some o0)
  (o7:∀k,cr (aK m0)=some k→Own σ ν m0 k∨(w.heap.size≤k∧k<w'.heap.size)) (hrow:∀r,m0= .row r→∀k,cr (aK m0)=some k→E.w0.heap.size≤k)
  (Ls:∀r row,look σ.rows r=some row→aK (.row r)=ν (.row r)∧∃row',look af.rows r=some row'∧row'.t.size=row.t.size)
  (Pj:∀b,(look σ.boxes b).isSome=true→aK (.box b)=ν (.box b)∧(look af.boxes b).isSome=true)
  (oS:af.trace=σ.trace) (htm:af.tmps=σ.tmps) (VQ:∀(i:Nat) (hr:bh) (n:Nat),af.ab[i]? =some hr→1≤n→n≤hr.xs.length→RS hr.k (aK (.hp i n)))
  (hro:∀i hr,E.ro i=some hr→af.ab[i]? =some hr)
  (bP:(∀key v,view E σ ν O w key v→view E af aK O w' key v)→xH (view E af aK O w') af aK w' (aK m0) o0):St E af a w' aK O:=
 h.TT hE ⟨Zr,Zr⟩ hg hC hs (fun m hm _=>ki m hm) (.inl rfl) (.inr TV) (fun k _ hk=>(o7 k hk).imp id .inr) (fun _ h=>h) Ls Pj oS htm VQ hro (fun hV _=>bP hV)
theorem J6 {m:Nm}{d:Nat}(h:m≠ .row d)(σ:AS)(rows:List (Nat×Row))(hr:∀k,k≠d→look rows k=look σ.rows k):({σ with rows:=rows}:AS).obj m=σ.obj m:=by
 cases m with
 |row k=>simp only[AS.obj];rw[hr k (fun e=>h (by rw[e]))]
 |_=>rfl
theorem J7 {m:Nm}{d:Nat}(h:m≠ .box d)(σ:AS)(boxes:List (Nat×BX))(hr:∀k,k≠d→look boxes k=look σ.boxes k):({σ with boxes:=boxes}:AS).obj m=σ.obj m:=by
 cases m with
 |box k=>simp only[AS.obj];rw[hr k (fun e=>h (by rw[e]))]
 |_=>rfl
theorem St.newRow (hE:aB E)(h:St E σ a w ν O){d:Nat}{row':Row}{v':Value}(hd:look σ.rows d=none)(hg:Below w.heap.size w w')
  (o7:∀k,cr v'=some k→w.heap.size≤k∧k<w'.heap.size)
  (bP:(∀key v,view E σ ν O w key v→view E {σ with rows:=put σ.rows d row'} (n8 ν d v') O w' key v)→fR (view E {σ with rows:=put σ.rows d row'} (n8 ν d v') O w') w' v' row'):
  St E {σ with rows:=put σ.rows d row'} a w' (n8 ν d v') O:=by
 have hne:∀k,(look σ.rows k).isSome=true→k≠d:=fun k hk e=>by rw[e,hd] at hk;cases hk
 have hn0:∀k,¬Own σ ν (.row d) k:=fun k hk=>by have:=Lq hk;rw[hd] at this;cases this
 refine h.fresh hE (m0:= .row d) (o0:= .row row') (C:=fun _=>False) Ez (dp.rD hg) (fun k hk=>hk.elim) (HSub.of_eq rfl (fun _ _=>rfl)) (fun m hm=>⟨J6 hm σ _ (fun k hk=>by rw[aF,if_neg (Ne.symm hk)]),fun hs=> ?_⟩) (by simp[AS.obj,aF]) (fun k hk=> .inr (o7 k (by rw[jN] at hk;exact hk))) (fun r e k hk=>Nat.le_trans h.keep.size (o7 k (by rw[jN] at hk;exact hk)).1)
  (fun r row hr=>⟨Ha (hne r (aZ hr)),row,by show look (put _ _ _) _=_;rw[aF,if_neg (Ne.symm (hne r (aZ hr)))];exact hr,rfl⟩) (fun b hb=>⟨rfl,hb⟩) rfl rfl h.nn (fun i hr e=>(h.ro i hr e).1) (fun hV=>by rw[jN];exact bP hV)
 cases m with
 |row k=>exact Ha (fun e=>hm (by rw[e]))
 |_=>rfl
theorem St.setRow (hE:aB E)(h:St E σ a w ν O){q:Nat}{row row':Row}(hq:look σ.rows q=some row)(hsz:row'.t.size=row.t.size)(hg:dp (fun k=>cr (ν (.row q))=some k) w w')
  (bP:(∀key v,view E σ ν O w key v→view E {σ with rows:=put σ.rows q row'} ν O w' key v)→fR (view E {σ with rows:=put σ.rows q row'} ν O w') w' (ν (.row q)) row'):
  St E {σ with rows:=put σ.rows q row'} a w' ν O:=by
 have ho:(σ.obj (.row q)).isSome=true:=by simp[AS.obj,hq]
 refine h.fresh hE (m0:= .row q) (o0:= .row row') Ez hg (fun k hk=>⟨ho,hk⟩) (HSub.of_eq rfl (fun _ _=>rfl)) (fun m hm=>⟨J6 hm σ _ (fun k hk=>by rw[aF,if_neg (Ne.symm hk)]),fun _=>rfl⟩) (by simp[AS.obj,aF]) (fun k hk=> .inl ⟨ho,hk⟩) (fun r e k hk=>(h.new (.row q) k ⟨ho,hk⟩).resolve_right id)
  (fun r ZT hr=>⟨rfl, ?_⟩) (fun b hb=>⟨rfl,hb⟩) rfl rfl h.nn (fun i hr e=>(h.ro i hr e).1) bP
 show ∃ab1,look (put σ.rows q row') r=some ab1∧_;rw[aF];by_cases e:q=r
 ·subst e;rw[hq] at hr;obtain rfl:row=ZT:=by simpa using hr
  exact⟨row',by rw[if_pos rfl],hsz⟩
 ·exact⟨ZT,by rw[if_neg e];exact hr,rfl⟩
theorem St.rZ (hE:aB E)(h:St E σ a w ν O){d:Nat}{x:BX}{o:Go.Obj}(hd:look σ.boxes d=none)
  (bP:(∀key v,view E σ ν O w key v→view E {σ with boxes:=put σ.boxes d x} (ED ν d (.pointer (some ⟨w.heap.size,0,none⟩))) O (w.alloc o) key v)→
   tq (view E {σ with boxes:=put σ.boxes d x} (ED ν d (.pointer (some ⟨w.heap.size,0,none⟩))) O (w.alloc o)) {σ with boxes:=put σ.boxes d x} (ED ν d (.pointer (some ⟨w.heap.size,0,none⟩))) (w.alloc o) (.pointer (some ⟨w.heap.size,0,none⟩)) x):
  St E {σ with boxes:=put σ.boxes d x} a (w.alloc o) (ED ν d (.pointer (some ⟨w.heap.size,0,none⟩))) O:=by
 have hne:∀k,(look σ.boxes k).isSome=true→k≠d:=fun k hk e=>by rw[e,hd] at hk;cases hk
 have hb:Below w.heap.size w (w.alloc o):=⟨rfl,rfl,rfl,by simp,fun k hk=>heap_alloc_old w _ k hk⟩
 have hv:ED ν d (.pointer (some ⟨w.heap.size,0,none⟩)) (.box d)= .pointer (some ⟨w.heap.size,0,none⟩):=by simp only[ED,if_pos]
 refine h.fresh hE (m0:= .box d) (o0:= .box x) (C:=fun _=>False) Ck (dp.rD hb) (fun k hk=>hk.elim) (HSub.of_eq rfl (fun _ _=>rfl)) (fun m hm=>⟨J7 hm σ _ (fun k hk=>by rw[aF,if_neg (Ne.symm hk)]),fun hs=> ?_⟩) (by simp[AS.obj,aF]) (fun k hk=> .inr ?_) (fun r e=>by cases e)
  (fun r row hr=>⟨rfl,row,hr,rfl⟩) (fun b hb=>⟨by simp only[ED,if_neg (hne b hb)],by show (look (put _ _ _) _).isSome=_;rw[aF,if_neg (Ne.symm (hne b hb))];exact hb⟩) rfl rfl h.nn (fun i hr e=>(h.ro i hr e).1) (fun hV=>by rw[hv];exact bP hV)
 ·cases m with
  |box k=>exact if_neg (fun e=>hm (by rw[e]))
  |_=>rfl
 ·rw[hv] at hk;simp only[cr,Option.some.injEq] at hk;subst hk;exact⟨Nat.le_refl _,by simp⟩
theorem St.Pk (hE:aB E)(h:St E σ a w ν O){b:Nat}{x:BX}(hq:(look σ.boxes b).isSome=true)(hg:dp (fun k=>cr (ν (.box b))=some k) w w')
  (bP:(∀key v,view E σ ν O w key v→view E {σ with boxes:=put σ.boxes b x} ν O w' key v)→tq (view E {σ with boxes:=put σ.boxes b x} ν O w') {σ with boxes:=put σ.boxes b x} ν w' (ν (.box b)) x):
  St E {σ with boxes:=put σ.boxes b x} a w' ν O:=by
 have ho:(σ.obj (.box b)).isSome=true:=by simpa [AS.obj] using hq
 refine h.fresh hE (m0:= .box b) (o0:= .box x) Ck hg (fun k hk=>⟨ho,hk⟩) (HSub.of_eq rfl (fun _ _=>rfl)) (fun m hm=>⟨J7 hm σ _ (fun k hk=>by rw[aF,if_neg (Ne.symm hk)]),fun _=>rfl⟩) (by simp[AS.obj,aF]) (fun k hk=> .inl ⟨ho,hk⟩) (fun r e=>by cases e)
  (fun r row hr=>⟨rfl,row,hr,rfl⟩) (fun k hk=>⟨rfl, ?_⟩) rfl rfl h.nn (fun i hr e=>(h.ro i hr e).1) bP
 show (look (put σ.boxes b x) k).isSome=true;rw[aF];split
 ·rfl
 ·exact hk
theorem St.Xv (hE:aB E)(h:St E σ a w ν O){i n0 n1:Nat}{hr:bh}{xs':List (Option (List hr.t.den))}{v0:Value}{C:Nat→Prop}
  (hh:σ.ab[i]? =some hr) (hw:hr.w=true) (hn:1≤n0) (hlen:(n0=xs'.length∧xs'.length=hr.xs.length+1)∨(xs'.length=hr.xs.length∧v0=ν (.hp i n0)))
  (HJ:∀m:Nat,m+1≠n0→m+1≠n1→∀l,xs'[m]? =some (some l)↔hr.xs[m]? =some (some l)) (h1:n1=n0∨n1=0∨∀l,xs'[n1 - 1]? ≠some (some l))
  (hC:∀k,C k→Own σ ν (.hp i n1) k) (hg:dp C w w') (fS:∀k,cr v0=some k→Own σ ν (.hp i n0) k∨Own σ ν (.hp i n1) k∨(w.heap.size≤k∧k<w'.heap.size)) (Wl:RS hr.k v0)
  (bP:(∀key v,view E σ ν O w key v→view E {σ with ab:=σ.ab.set i ⟨hr.e,hr.t,hr.k,hr.w,xs'⟩} (EF ν i n0 v0) O w' key v)→∀l,xs'[n0 - 1]? =some (some l)→
   sD (view E {σ with ab:=σ.ab.set i ⟨hr.e,hr.t,hr.k,hr.w,xs'⟩} (EF ν i n0 v0) O w') w' hr.k v0 ⟨hr.e,hr.t,l⟩):
  St E {σ with ab:=σ.ab.set i ⟨hr.e,hr.t,hr.k,hr.w,xs'⟩} a w' (EF ν i n0 v0) O:=by
 have hlt:i<σ.ab.length:=(List.getElem?_eq_some_iff.1 hh).1;have gF:∀j,(σ.ab.set i ⟨hr.e,hr.t,hr.k,hr.w,xs'⟩)[j]? =if i=j then some ⟨hr.e,hr.t,hr.k,hr.w,xs'⟩ else σ.ab[j]? :=fun j=>by
  rw[List.getElem?_set];split
  ·rename_i e;subst e;simp[hlt]
  ·rfl
 have hle:hr.xs.length≤xs'.length:=by rcases hlen with h2 |h2<;>omega
 have hu0:EF ν i n0 v0 (.hp i n0)=v0:=by simp only[EF,and_self,if_pos]
 have RX:∀j n,¬(j=i∧n=n0)→EF ν i n0 v0 (.hp j n)=ν (.hp j n):=fun j n hj=>by simp only[EF,if_neg hj]
 have hold:∀n,1≤n→n≤hr.xs.length→EF ν i n0 v0 (.hp i n)=ν (.hp i n):=fun n h2 h3=>by
  by_cases e:n=n0
  ·subst e;rcases hlen with h4 |h4
   ·omega
   ·rw[hu0];exact h4.2
  ·exact RX i n (fun h4=>e h4.2)
 have J3:∀n,ki (σ.ab.set i ⟨hr.e,hr.t,hr.k,hr.w,xs'⟩) i (n+1)=yC hr.e hr.t hr.k xs'[n]? :=fun n=>by simp only[ki,gF,if_pos]
 have Yl:∀n,ki σ.ab i (n+1)=yC hr.e hr.t hr.k hr.xs[n]? :=fun n=>by simp only[ki,hh]
 have hsub:HSub σ ν {σ with ab:=σ.ab.set i ⟨hr.e,hr.t,hr.k,hr.w,xs'⟩} (EF ν i n0 v0):=by
  refine⟨by simp,fun j yD e=> ?_,fun j n h2 h3=> ?_⟩
  ·show ∃hr',(σ.ab.set i ⟨hr.e,hr.t,hr.k,hr.w,xs'⟩)[j]? =some hr'∧_;rw[gF];by_cases ej:i=j
   ·subst ej;rw[hh] at e;obtain rfl:hr=yD:=by simpa using e
    exact⟨_,if_pos rfl,⟨rfl,rfl,rfl,rfl⟩,hle⟩
   ·exact⟨yD,by rw[if_neg ej];exact e,sE.refl _,Nat.le_refl _⟩
  ·by_cases ej:j=i
   ·subst ej;rw[AO hh] at h3;exact hold n h2 h3
   ·exact RX j n (fun h4=>ej h4.1)
 have RY:∀n,¬E.pQ (.hp i n):=fun n ⟨j,_,hr',e,e2⟩=>by
  injection e with e3 e4
  subst e3;obtain⟨h5,h6⟩:=h.ro i hr' e2;rw[hh] at h5;obtain rfl:hr=hr':=by simpa using h5
  rw[hw] at h6;cases h6
 refine h.TT hE (m0:= .hp i n0) (m1:= .hp i n1) (o0:=(yC hr.e hr.t hr.k xs'[n0 - 1]?).getD (.box .nil)) ⟨RY _,RY _⟩ hg hC hsub (fun m hm0 hm1=> ?_) ?_ ?_ (fun k _ hk=>fS k (by rw[hu0] at hk;exact hk)) (fun _ h=>h)
  (fun r row hr'=>⟨rfl,row,hr',rfl⟩) (fun b hb=>⟨rfl,hb⟩) rfl rfl (fun j yD n e h2 h3=> ?_) (fun j yD e=> ?_) (fun hV hs=> ?_)
 ·cases m with
  |hp j n=>
   by_cases ej:j=i
   ·subst ej;have ZU:n≠n0:=fun e=>hm0 (by rw[e]);have ab2:n≠n1:=fun e=>hm1 (by rw[e]);refine⟨?_,fun _=>RX j n (fun h4=>ZU h4.2)⟩;cases n with
    |zero=>rfl
    |succ n=>
     simp only[AS.obj];rw[J3,Yl];have hiff:=HJ n ZU ab2;cases hx:xs'[n]? with
     |none=>cases hy:hr.xs[n]? with
      |none=>rfl
      |some o=>cases o with
       |none=>rfl
       |some l=>have:=(hiff l).2 hy;rw[hx] at this;cases this
     |some o=>cases o with
      |none=>cases hy:hr.xs[n]? with
       |none=>rfl
       |some o=>cases o with
        |none=>rfl
        |some l=>have:=(hiff l).2 hy;rw[hx] at this;cases this
      |some l=>have:=(hiff l).1 hx;rw[this]
   ·refine⟨?_,fun _=>RX j n (fun h4=>ej h4.1)⟩;simp only[AS.obj];cases n with
    |zero=>rfl
    |succ n=>simp only[ki,gF,if_neg (Ne.symm ej)]
  |_=>exact⟨rfl,fun _=>rfl⟩
 ·rcases h1 with h1 |h1 |h1
  ·exact .inl (by rw[h1])
  ·subst h1;exact .inr rfl
  ·by_cases hz:n1=0
   ·subst hz;exact .inr rfl
   ·right;simp only[AS.obj];obtain⟨q,rfl⟩:∃q,n1=q+1:=⟨n1 - 1,by omega⟩
    rw[J3];simp only[Nat.add_sub_cancel] at h1;cases hx:xs'[q]? with
    |none=>rfl
    |some o=>cases o with
     |none=>rfl
     |some l=>exact absurd hx (h1 l)
 ·obtain⟨q,rfl⟩:∃q,n0=q+1:=⟨n0 - 1,by omega⟩
  simp only[AS.obj];rw[J3];simp only[Nat.add_sub_cancel];cases hx:xs'[q]? with
  |none=>exact .inl rfl
  |some o=>cases o with
   |none=>exact .inl rfl
   |some l=>exact .inr rfl
 ·have e':(σ.ab.set i ⟨hr.e,hr.t,hr.k,hr.w,xs'⟩)[j]? =some yD:=e;rw[gF] at e';by_cases ej:i=j
  ·subst ej;rw[if_pos rfl] at e';obtain rfl:=(Option.some.inj e').symm;by_cases en:n=n0
   ·subst en;rw[hu0];exact Wl
   ·rw[RX i n (fun h4=>en h4.2)];have h3':n≤xs'.length:=h3;exact h.nn i hr n hh h2 (by rcases hlen with h4 |h4<;>omega)
  ·rw[if_neg ej] at e';rw[RX j n (fun h4=>ej h4.1.symm)];exact h.nn j yD n e' h2 h3
 ·show (σ.ab.set i ⟨hr.e,hr.t,hr.k,hr.w,xs'⟩)[j]? =some yD;rw[gF];obtain⟨h2,h3⟩:=h.ro j yD e;by_cases ej:i=j
  ·subst ej;rw[hh] at h2;obtain rfl:hr=yD:=by simpa using h2
   rw[hw] at h3;cases h3
  ·rw[if_neg ej];exact h2
 ·rw[hu0];obtain⟨q,rfl⟩:∃q,n0=q+1:=⟨n0 - 1,by omega⟩
  have hs':=hs;simp only[AS.obj] at hs';rw[J3] at hs';simp only[Nat.add_sub_cancel] at hs' ⊢;cases hx:xs'[q]? with
  |none=>rw[hx] at hs';cases hs'
  |some o=>cases o with
   |none=>rw[hx] at hs';cases hs'
   |some l=>exact bP hV l (by simpa using hx)
end
def qA (V:View):(t:Ty)→t.den→Value→Prop
 | .st t,x,v=>∃cs:List Value,v= .agg cs.toArray∧Rel V t x cs
 |t,x,v=>bw V ⟨t,x⟩ v
theorem qA.mono {V V':View}(h:∀a v,V a v→V' a v){t:Ty}{x:t.den}{v:Value}(hr:qA V t x v):qA V' t x v:=by
 cases t with
 |st t=>obtain⟨cs,h1,h2⟩:=hr;exact⟨cs,h1,Rel.mono h _ _ _ h2⟩
 |_=>exact bw.mono h _ _ hr
theorem qA.cells {V:View}{t:Ty}{x:t.den}{v:Value}(hr:qA V t x v):Rel V t x v.cells.toList:=by
 cases t with
 |st t=>obtain⟨cs,h1,h2⟩:=hr;subst h1;exact h2
 |_=>rw[xA hr];exact hr
section
variable {P:Program}{Tb:cm}{T:List eI}{E:Env}{σ af:AS}{a:Act}{w w':World}{ν aK:Nm→Value}{O:Nat→Prop}{Φ:bE Tb}{V:View}{Y:Value}
theorem uR {t:Ty}{c:CV}{x:t.den}(h:(cE t [c]).map (·.1)=some x):c=⟨t,x⟩:=by
 cases hu:cE t [c] with
 |none=>simp[hu] at h
 |some p=>obtain⟨y,r⟩:=p;simp[hu] at h;subst h;have:=bG hu;simp at this;exact this.1
theorem J8 {V V':View}{i:Nat}{t:Ty}{v:Value}(h:bw V ⟨.ref i,(0:Nat)⟩ v):Rel V' (.slice t) ([]:List t.den) [v]:=by have e: [v]=[.slice none 0 0]:=h;rw[e];exact⟨none,0,[],rfl,Nat.le_refl _,trivial,fun _=>rfl,fun j u hj=>by simp at hj⟩
theorem AP:∀{t:Ty} {l:List CV} {x:t.den} {r:List CV} {vs:List Value},snap [] t l=some (x,r)→aE (bw V) l vs→∃v1 v2,vs=v1++v2∧Rel V t x v1∧aE (bw V) r v2
 | .unit,l,x,r,vs,h,hr=>by simp only[snap,Option.some.injEq,Prod.mk.injEq] at h;obtain⟨_,rfl⟩:=h;exact⟨[],vs,rfl,rfl,hr⟩
 | .pair a b,l,x,r,vs,h,hr=>by
   simp only[snap] at h;split at h
   ·rename_i y l' h1;split at h
    ·rename_i z VO h2;simp only[Option.some.injEq,Prod.mk.injEq] at h;obtain⟨rfl,rfl⟩:=h;obtain⟨v1,v2,rfl,r1,r2⟩:=AP h1 hr;obtain⟨v3,v4,rfl,r3,r4⟩:=AP h2 r2;exact⟨v1++v3,v4,by rw[List.append_assoc],⟨v1,v3,rfl,r1,r3⟩,r4⟩
    ·cases h
   ·cases h
 | .st t,l,x,r,vs,h,hr=>AP (t:=t) h hr
 | .slice t,l,x,r,vs,h,hr=>by
   have leaf:∀{l:List CV} {vs:List Value},cE (.slice t) l=some (x,r)→aE (bw V) l vs→∃v1 v2,vs=v1++v2∧Rel V (.slice t) x v1∧aE (bw V) r v2:=fun {l vs} h hr=>by
    rw[bG h] at hr;cases vs with
    |nil=>exact hr.elim
    |cons v vs=>exact⟨[v],vs,rfl,hr.1,hr.2⟩
   simp only[snap] at h;unfold OY at h;split at h
   ·rename_i i n l';cases vs with
    |nil=>exact hr.elim
    |cons v vs=>
     cases hb:Nat.beq n 0 with
     |false=>rw[hb] at h;simp at h
     |true=>rw[hb,cond_true] at h;simp only[Option.some.injEq,Prod.mk.injEq] at h;obtain⟨rfl,rfl⟩:=h;have:=(beq_iff _ _).1 hb;subst this;exact⟨[v],vs,rfl,J8 hr.1,hr.2⟩
   ·rename_i t' o l';cases vs with
    |nil=>exact hr.elim
    |cons v vs=>simp only[Option.map_eq_some_iff,Prod.mk.injEq] at h;obtain⟨⟨y,r'⟩,h1,h2,h3⟩:=h;simp only at h2 h3;subst h2 h3;have he:=bG h1;simp only[List.cons.injEq] at he;have h4:bw V ⟨.slice t',K7 o⟩ v:=Hy hr.1;rw[he.1] at h4;exact⟨[v],vs,rfl,h4,hr.2⟩
   ·exact leaf h hr
 | .mN t,l,x,r,vs,h,hr=>by
   have leaf:∀{l:List CV} {vs:List Value},cE (.mN t) l=some (x,r)→aE (bw V) l vs→∃v1 v2,vs=v1++v2∧Rel V (.mN t) x v1∧aE (bw V) r v2:=fun {l vs} h hr=>by
    rw[bG h] at hr;cases vs with
    |nil=>exact hr.elim
    |cons v vs=>exact⟨[v],vs,rfl,hr.1,hr.2⟩
   simp only[snap] at h;unfold K8 at h;split at h
   ·rename_i t' xs l';cases vs with
    |nil=>exact hr.elim
    |cons v vs=>
     cases xs with
     |nil=>cases h
     |cons x0 xs=>
      simp only[Option.map_eq_some_iff,Prod.mk.injEq] at h;obtain⟨⟨y,r'⟩,h1,h2,h3⟩:=h;simp only at h2 h3;subst h2 h3;have he:=bG h1;simp only[List.cons.injEq] at he;obtain⟨A,c,bl,e1,e2,e3,e4,e5⟩:=lY hr.1;have h4:bw V ⟨.mN t',(some (x0::xs):Option (List t'.den))⟩ v:=by
       cases A with
       |none=>have:=e4 rfl;simp at e2;omega
       |some ad=>
        refine⟨ad,c,bl,by rw[e1],e2,e3,fun j u hj=> ?_⟩;obtain⟨RT,h5,h6⟩:=e5 j u hj;obtain rfl:ad=RT:=by simpa using h5
        exact h6
      rw[he.1] at h4;exact⟨[v],vs,rfl,h4,hr.2⟩
   ·exact leaf h hr
 | .int k,l,x,r,vs,h,hr=>by
   simp only[snap] at h;rw[bG h] at hr;cases vs with
   |nil=>exact hr.elim
   |cons v vs=>exact⟨[v],vs,rfl,hr.1,hr.2⟩
 | .bool,l,x,r,vs,h,hr=>by
   simp only[snap] at h;rw[bG h] at hr;cases vs with
   |nil=>exact hr.elim
   |cons v vs=>exact⟨[v],vs,rfl,hr.1,hr.2⟩
 | .str,l,x,r,vs,h,hr=>by
   simp only[snap] at h;rw[bG h] at hr;cases vs with
   |nil=>exact hr.elim
   |cons v vs=>exact⟨[v],vs,rfl,hr.1,hr.2⟩
 | .ref k,l,x,r,vs,h,hr=>by
   have leaf:∀{l:List CV} {vs:List Value},cE (.ref k) l=some (x,r)→aE (bw V) l vs→∃v1 v2,vs=v1++v2∧Rel V (.ref k) x v1∧aE (bw V) r v2:=fun {l vs} h hr=>by
    rw[bG h] at hr;cases vs with
    |nil=>exact hr.elim
    |cons v vs=>exact⟨[v],vs,rfl,hr.1,hr.2⟩
   simp only[snap] at h;unfold K9 at h;split at h
   ·rename_i h' n l';cases hc:Nat.beq k h' with
    |true=>rw[hc,cond_true] at h;exact leaf h hr
    |false=>
    rw[hc,cond_false] at h;cases hb:Nat.beq n 0 with
    |false=>rw[hb] at h;cases h
    |true=>
     rw[hb] at h;have e1:some ((0:Nat),l')=some (x,r):=h;simp only[Option.some.injEq,Prod.mk.injEq] at e1;obtain⟨rfl,rfl⟩:=e1;obtain rfl:n=0:=Nat.eq_of_beq_eq_true hb;cases vs with
     |nil=>exact hr.elim
     |cons v vs=>exact⟨[v],vs,rfl,(show [v]=[Value.slice none 0 0] from hr.1),hr.2⟩
   ·exact leaf h hr
 | .ptr k,l,x,r,vs,h,hr=>by
   simp only[snap] at h;rw[bG h] at hr;cases vs with
   |nil=>exact hr.elim
   |cons v vs=>exact⟨[v],vs,rfl,hr.1,hr.2⟩
 | .mp k,l,x,r,vs,h,hr=>by
   simp only[snap] at h;rw[bG h] at hr;cases vs with
   |nil=>exact hr.elim
   |cons v vs=>exact⟨[v],vs,rfl,hr.1,hr.2⟩
 | .fn,l,x,r,vs,h,hr=>by
   simp only[snap] at h;rw[bG h] at hr;cases vs with
   |nil=>exact hr.elim
   |cons v vs=>exact⟨[v],vs,rfl,hr.1,hr.2⟩
theorem xM {t:Ty}{l:List CV}{x:t.den}{vs:List Value}(h:sB [] t l=some x)(hr:aE (bw V) l vs):Rel V t x vs:=by
 unfold sB at h;split at h
 ·rename_i y h1;simp only[Option.some.injEq] at h;subst h;obtain⟨v1,v2,rfl,h2,h3⟩:=AP h1 hr;cases v2 with
  |nil=>simpa using h2
  |cons _ _=>exact h3.elim
 ·cases h
theorem xN {t:Ty}{av:AV}{x:t.den}{v:Value}(h:typed [] t av=some x)(hr:al V σ ν Y av v):qA V t x v:=by
 have Xw:∀{t:Ty} {x:t.den},(∀u,t≠ .st u)→Rel V t x [v]→qA V t x v:=fun {t x} hn h1=>by
  cases t with
  |st u=>exact absurd rfl (hn u)
  |_=>exact h1
 unfold typed at h;split at h
 ·rename_i cs;obtain⟨vs,h1,h2⟩:=hr;have:=xM h h2;exact⟨vs,h1,this⟩
 ·rename_i t vs;split at h
  ·rename_i cs hl;obtain⟨l1,h1,h2⟩:=fU (V:=V) hl;refine⟨vs.toList, ?_,fN ?_⟩
   ·have:v= .agg vs:=hr;simpa using this
   ·rw[←lU h,h1,List.append_nil];exact h2
  ·cases h
 ·cases h
 ·rename_i c hn;exact Xw (fun u e=>by subst e;exact hn u rfl) (xM h (vs:=[v]) ⟨hr,trivial⟩)
 ·rename_i v' hn1 hn2;split at h
  ·rename_i c hl;obtain⟨l1,h1,h2⟩:=fU (V:=V) hl;have h3:v=v':=hr;rw[List.append_nil] at h1;subst h1;subst h3;have:=uR h;subst this;exact Xw (fun u e=>by subst e;exact hn2 u rfl) h2.1
  ·cases h
 ·cases h
theorem EG {t:Ty}{av:AV}{cs:List CV}{v:Value}(h:cells t av=some cs)(hr:al V σ ν Y av v):aE (bw V) cs v.cells.toList:=by
 unfold cells at h;split at h
 ·simp only[Option.some.injEq] at h;subst h;rw[xA hr];exact⟨hr,trivial⟩
 ·simp only[Option.some.injEq] at h;subst h;obtain⟨vs,h1,h2⟩:=hr;subst h1;exact h2
 ·split at h
  ·rename_i v' cs' hl;simp only[Option.some.injEq] at h;subst h;obtain⟨l1,h1,h2⟩:=fU (V:=V) hl;have h3:v=_:=hr;rw[h3,h1,List.append_nil];exact h2
  ·cases h
 ·cases h
theorem uS (r k:Nat):look (σ.freeze r).rows k=if r=k then none else look σ.rows k:=by
 unfold AS.freeze;cases hr:look σ.rows r with
 |none=>by_cases h:r=k
        ·subst h;simp[hr]
        ·simp[h]
 |some row=>exact tl _ _ _
def FW (r:Option Nat):Fence:={Fence.wide with round:=r}
def gM (P:Program)(o:Oper)(a:Act)(w:World)(K:Act→World→Prop):Prop:=
 ∀(r:Option Nat) (next:Act→World→Prop) (Q:Exit→Act→World→Prop),(∀a' w',K a' w'→next a' w')→o.wpIn (FW r) 0 P a w next Q
theorem bX {o:Oper}{K:Act→World→Prop}{v:Value}(hd:∀c,o.op≠ .defer c)(h:(execOp a.eval o).run P w= .ok (.value v) w')(hK:K (a.put o.dst v) w'):gM P o a w K:=fun r next Q hn=>by refine⟨fun _ _=>trivial, ?_⟩;rw[Oper.semAt_eq _ _ _ hd,h];exact hn _ _ hK
theorem J9 {o:Oper}{K:Act→World→Prop}(hd:∀c,o.op≠ .defer c)(h:(execOp a.eval o).run P w= .ok .skip w')(hK:K (a.put o.dst undef) w'):gM P o a w K:=fun r next Q hn=>by refine⟨fun _ _=>trivial, ?_⟩;rw[Oper.semAt_eq _ _ _ hd,h];exact hn _ _ hK
def To (E:Env)(af:AS)(a':Act)(w':World):Prop:=∃aK O',St E af a' w' aK O'
def aV (σ:AS)(d:Option Tmp)(r:bH):AS:=match r.2 with
 | .kt us=>(σ.app us).fG d r.1
 | .set af=>af.fG d r.1
theorem Ka {o:Oper}(hE:aB E)(hd:∀c,o.op≠ .defer c)(h:St E σ a w ν O){r:bH}(hr:r.2= .kt []){v:Value}(h1:(execOp a.eval o).run P w= .ok (.value v) w')(hb:Below w.heap.size w w')
  (h2:al (view E σ ν O w') σ ν E.Y r.1 v):gM P o a w (To E (aV σ o.dst r)):=by
 refine bX hd h1 ⟨ν,O, ?_⟩;unfold aV;rw[hr];exact(h.grow hE hb).slot h2
theorem bC {o:Oper}(hE:aB E)(hd:∀c,o.op≠ .defer c)(h:St E σ a w ν O){r:bH}(hr:r.2= .kt []){v:Value}(h1:(execOp a.eval o).run P w= .ok (.value v) w)
  (h2:al (view E σ ν O w) σ ν E.Y r.1 v):gM P o a w (To E (aV σ o.dst r)):=Ka hE hd h hr h1 (Below.refl _ _) h2
theorem HL {V:View}{r:eI}(hr:MU P T r):∃i z,P.info? r.id=some i∧i.size=r.ty.size∧i.bytes=r.bytes∧i.zero=some z∧Rel V r.ty r.ty.zero z.cells.toList:=by obtain⟨i,z,h1,h2,h3,h4,h5,_⟩:=hr.info;exact⟨i,z,h1,h2,h3,h4,h5 V⟩
theorem o9 {P:Program}{T:List eI}{t:TypeId}{u:Ty}{e:TypeId}{bytes:Nat}(hT:fT P T)(h:fw T t=some (u,e,bytes)):
  ∃re,P.underlying t=some (.slice e)∧MU P T re∧re.id=e∧re.ty=u∧re.bytes=bytes∧0<bytes:=by
 unfold fw at h;split at h
 ·rename_i r hr;obtain⟨rfl,hr'⟩:=hT t r hr;split at h
  ·rename_i u' lF;split at h
   ·rename_i re GD;cases hb:Nat.blt 0 re.bytes with
    |false=>simp[hb] at h
    |true=>
     simp only[hb,cond_true,Option.some.injEq,Prod.mk.injEq] at h;obtain⟨rfl,rfl,rfl⟩:=h;obtain⟨h1,re',h2,h3,h4⟩:=G8 hT hr' lF;have hd:=hr'.desc;rw[lF] at hd;obtain⟨_,re2,h5,h6⟩:=hd;rw[GD] at h5;obtain rfl:re=re2:=by simpa using h5
     obtain⟨h7,h8⟩:=hT _ re GD;exact⟨re,h1,h8,h7,h6,rfl,Nat.le_of_ble_eq_true hb⟩
   ·cases h
  ·cases h
 ·cases h
theorem Cn (s:Option Site)(u:Ty):(BC s u).size=u.size:=by unfold BC;split<;>rfl
theorem M7 {r:eI}(hr:MU P T r)(s:Option Site):∃i z,P.info? r.id=some i∧i.size=r.ty.size∧i.bytes=r.bytes∧i.zero=some z∧∀V,Rel V (BC s r.ty) (BC s r.ty).zero z.cells.toList:=by
 obtain⟨i,z,h1,h2,h3,h4,h5,_,h6⟩:=hr.info;refine⟨i,z,h1,h2,h3,h4,fun V=> ?_⟩;cases lF:r.ty with
 |slice v=>
  have hz:=h6 v lF;have h7:=h5 V;rw[lF] at h7;cases s with
  |none=>exact h7
  |some s=>cases s with
   |mN=>subst hz;show (Value.slice none 0 0).cells.toList=_;rfl
   |_=>exact h7
 |_=>
  have h7:=h5 V;rw[lF] at h7;cases s with
  |none=>exact h7
  |some s=>cases s<;>exact h7
end
section
variable {P:Program}{T:cm}{E:Env}{σ af:AS}{a:Act}{w w':World}{ν aK:Nm→Value}{O:Nat→Prop}{Φ:bE T}{V:View}{Y:Value}
theorem jO (hE:aB E)(hG:Cl E)(hT:fT P T.rows)(hQ:TL P T)(h:St E σ a w ν O){o:Oper}{r:bH}
  (hop:(∃x,o.op= .move x)∨(∃c x y,o.op= .pick c x y)∨(∃x,o.op= .nilCheck x)∨(∃t x,o.op= .load t x)∨(∃b t x y u,o.op= .binOp b t x y u)∨(∃b t x,o.op= .unOp b t x)∨(∃s d x,o.op= .convert s d x)∨
   (∃s x f,o.op= .fieldAddr s x f)∨(∃t x i,o.op= .indexAddr t x i)∨(∃t x i,o.op= .index t x i)∨(∃x i,o.op= .extract x i))
  (he:(uI T σ.av σ.sites o).val Φ σ=some r):gM P o a w (To E (aV σ o.dst r)):=by
 have k8:=h.av hG;unfold uI at he;rcases hop with ⟨x,ho⟩ | ⟨c,x,y,ho⟩ | ⟨x,ho⟩ | ⟨t,x,ho⟩ | ⟨b,t,x,y,u,ho⟩ | ⟨b,t,x,ho⟩ | ⟨s,d,x,ho⟩ | ⟨s,x,f,ho⟩ | ⟨t,x,i,ho⟩ | ⟨t,x,i,ho⟩ | ⟨x,i,ho⟩<;>simp only[ho] at he
 ·obtain⟨h1,h2⟩:=EC (k8 x) he;exact bC hE (by rw[ho];intro c e;cases e) h h1 (v:=a.eval x) (by simp[execOp,ho]) h2
 ·split at he
  ·rename_i t hc;have G9:=k8 c;rw[hc] at G9;have ec:=C9 G9 rfl;rw[C7,eR,eR] at he;rcases he with ⟨rfl,rfl⟩ | ⟨rfl,rfl⟩
   ·exact bC hE (by rw[ho];intro c e;cases e) h rfl (v:=a.eval x) (by simp[execOp,ho,ec,asBool]) (k8 x)
   ·exact bC hE (by rw[ho];intro c e;cases e) h rfl (v:=a.eval y) (by simp[execOp,ho,ec,asBool]) (k8 y)
  ·cases he
 ·obtain⟨h1,⟨ad,h2⟩,h3⟩:=Lm h (k8 x) he;exact bC hE (by rw[ho];intro c e;cases e) h h1 (v:=a.eval x) (by simp[execOp,ho,h2]) h3
 ·obtain⟨h1,v,h2,h3⟩:=TK (P:=P) hE hT h (k8 x) he;exact bC hE (by rw[ho];intro c e;cases e) h h1 (v:=v) (by simp[execOp,ho,h2]) h3
 ·have done:∀v,(do eqGuard b t x y (a.eval x) (a.eval y);binOp b t (a.eval x) (a.eval y):Sem Value).run P w= .ok v w→(execOp a.eval o).run P w= .ok (.value v) w:=fun v hv=>by simp only[execOp,ho,Sem.run_bind,Sem.run_pure] at hv ⊢;rw[hv];rfl
  have fin:(r.2= .kt []∧∃z,(do eqGuard b t x y (a.eval x) (a.eval y);binOp b t (a.eval x) (a.eval y):Sem Value).run P w= .ok z w∧al (view E σ ν O w) σ ν E.Y r.1 z)→gM P o a w (To E (aV σ o.dst r)):=
   fun⟨h1,z,h2,h3⟩=>bC hE (by rw[ho];intro c e;cases e) h h1 (done z h2) h3
  split at he
  ·rename_i tr hr;obtain⟨rfl,oS⟩:=hT t tr hr;have hd:=oS.desc;split at he
   ·rename_i lF;rw[lF] at hd;exact fin (TM x y hd (k8 x) (k8 y) he)
   ·exact fin (MY x y (k8 x) (k8 y) he)
   ·exact fin (MY x y (k8 x) (k8 y) he)
   ·rename_i ut lF;rw[aC] at he;obtain⟨hq,he⟩:=he;unfold Tv at he;split at he
    ·rename_i p q hp TW;rw[aC] at he;obtain⟨_,he⟩:=he;obtain⟨vs,ev,rv⟩:=xN (t:= .st ut) hp (k8 x);obtain⟨us,eu,ru⟩:=xN (t:= .st ut) TW (k8 y);have hg:=fun op=>(hQ tr.id hq tr ut hr lF (view E σ ν O w) p q vs us w op x y rv ru).1;have hb:=(hQ tr.id hq tr ut hr lF (view E σ ν O w) p q vs us w .eql x y rv ru).2;refine fin ?_;rw[ev,eu];exact HA x y hg hb (by rfl) (by rfl) he
    ·cases he
   ·exact fin (TN hT oS x y (k8 x) (k8 y) he)
  ·cases he
 ·obtain⟨h1,v,h2,h3⟩:=Yh (P:=P) (w:=w) (k8 x) he;exact bC hE (by rw[ho];intro c e;cases e) h h1 (v:=v) (by simp[execOp,ho,h2]) h3
 ·obtain⟨h1,v,w',h2,hb,h3⟩:=RU (P:=P) hE hT h (k8 x) he;exact Ka hE (by rw[ho];intro c e;cases e) h h1 (v:=v) (by simp[execOp,ho,h2]) hb h3
 ·obtain⟨h1,v,h2,h3⟩:=Pd (P:=P) hT h (k8 x) he;exact bC hE (by rw[ho];intro c e;cases e) h h1 (v:=v) (by simp[execOp,ho,h2]) h3
 ·obtain⟨h1,v,h2,h3⟩:=Pe (P:=P) hT h (k8 x) (k8 i) he;exact bC hE (by rw[ho];intro c e;cases e) h h1 (v:=v) (by simp[execOp,ho,h2]) h3
 ·obtain⟨h1,v,h2,h3⟩:=RW (P:=P) (w:=w) hT (k8 x) (k8 i) he;exact bC hE (by rw[ho];intro c e;cases e) h h1 (v:=v) (by simp[execOp,ho,h2]) h3
 ·split at he
  ·rename_i l hx;have ex:=k8 x;rw[hx] at ex;obtain⟨vs,ex,hvs⟩:=ex;rw[ku] at he;obtain⟨y,hy,he⟩:=he;rw[eR] at he;subst he;obtain⟨u,hu,hr⟩:=hvs.get i y hy;exact bC hE (by rw[ho];intro c e;cases e) h rfl (v:=u) (by simp[execOp,ho,ex,Instr.extract,hu]) hr
  ·cases he
theorem Ym (hE:aB E)(hG:Cl E)(hT:fT P T.rows)(h:St E σ a w ν O){o:Oper}{r:bH}{args:Array Operand}{ats:Array TypeId}(ho:o.op= .call {callee:= .builtin .len,args:=args,argTypes:=ats})
  (he:(uI T σ.av σ.sites o).val Φ σ=some r):gM P o a w (To E (aV σ o.dst r)):=by
 unfold uI at he;simp only[ho] at he;split at he
 ·rename_i x t hx ht;have hx':args= #[x]:=by cases args;simp at hx;subst hx;rfl
  have ht':ats= #[t]:=by cases ats;simp at ht;subst ht;rfl
  subst hx' ht';split at he
  ·rename_i tr hr;obtain⟨rfl,oS⟩:=hT t tr hr;obtain⟨h1,v,h2,h3⟩:=TO (P:=P) hT oS h (h.av hG x) o.type he;exact bC hE (by rw[ho];intro c e;cases e) h h1 (v:=v) (by simp[execOp,ho,resolve,invoke,builtin,h2]) h3
  ·cases he
 ·cases he
theorem Kb (hE:aB E)(hG:Cl E)(h:St E σ a w ν O){o:Oper}{r:bH}{b:Builtin}{args:Array Operand}{ats:Array TypeId}(hb:b= .max∨b= .min)(ho:o.op= .call {callee:= .builtin b,args:=args,argTypes:=ats})
  (he:(uI T σ.av σ.sites o).val Φ σ=some r):gM P o a w (To E (aV σ o.dst r)):=by
 unfold uI at he;have k8:=h.av hG;rcases hb with rfl |rfl<;>simp only[ho] at he
 all_goals
  split at he
  ·rename_i x y hx;have hx':args= #[x,y]:=by cases args;simp at hx;subst hx;rfl
   subst hx';split at he
   ·rename_i i n j m e1 e2;have hx:=k8 x;rw[e1] at hx;have hy:=k8 y;rw[e2] at hy;have ex:=qw hx rfl;have ey:=qw hy rfl;rw[cC] at he;subst he;refine bC hE (by rw[ho];intro c e;cases e) h rfl (v:= .int i _) ?_ qx;simp[execOp,ho,resolve,invoke,builtin,Builtin.max_,Builtin.max2,Builtin.min_,Builtin.min2,ex,ey]
   ·cases he
  ·cases he
end
section
variable {P:Program}{T:cm}{E:Env}{σ af:AS}{a:Act}{w w':World}{ν aK:Nm→Value}{O:Nat→Prop}{Φ:bE T}{V:View}{Y:Value}
theorem xO {w:World}{B:Nat}{e:TypeId}{n:Nat}:w.ownsRow B e n (.slice none 0 0) 0 []:=World.ownsRow_nil w B e n
theorem Df (r b:Nat):(look (σ.freeze r).boxes b).isSome=(look σ.boxes b).isSome:=by
 unfold AS.freeze;cases look σ.rows r with
 |none=>rfl
 |some row=>show (look (zc _ _) b).isSome=_;rw[fA,Option.isSome_map]
theorem St.renamed (hE:aB E)(h:St E σ a w ν O){r d:Nat}(hr:(look σ.rows r).isSome=true)(hne:r≠d):
  ∃aK,St E ((σ.freeze d).rename r d) a w aK O∧(∀m,(∀k,m≠ .row k)→aK m=ν m)∧aK (.row d)=ν (.row r)∧(look ((σ.freeze d).rename r d).rows d).isSome=true:=by
 have h1:=h.freeze hE d;obtain⟨aK,h2,h3,h4⟩:=h1.rename hE (r:=r) (d:=d) (by rw[uS,if_pos rfl]);obtain⟨h5,h6⟩:=h4 (by rw[uS,if_neg (Ne.symm hne)];exact hr);exact⟨aK,h2,h3,h5,h6⟩
theorem St.TX (hE:aB E)(h:St E σ a w ν O)(d:Nat)(u:Ty)(e:TypeId):
  St E {(σ.freeze d) with rows:=put (σ.freeze d).rows d ⟨e,u,[]⟩} a w (n8 ν d (.slice none 0 0)) O:=
 (h.freeze hE d).newRow hE (by rw[uS,if_pos rfl]) (Below.refl _ _) (fun k hk=>by cases hk) (fun _=>⟨[],xO,trivial⟩)
theorem RZ (hE:aB E)(hG:Cl E)(hT:fT P T.rows)(h:St E σ a w ν O){o:Oper}{r:bH}{x:Operand}(ho:o.op= .assign x)
  (he:(uI T σ.av σ.sites o).val Φ σ=some r):gM P o a w (To E (aV σ o.dst r)):=by
 have hrun:(execOp a.eval o).run P w= .ok (.value (a.eval x)) w:=by simp[execOp,ho]
 have hd:∀c,o.op≠ .defer c:=by rw[ho];intro c e;cases e
 have hx:=h.av hG x;unfold uI at he;simp only[ho] at he;split at he
 ·rename_i q d hq EI;rw[hq] at hx;rw[jE,fx] at he;subst he;refine bX hd hrun ?_;simp only[aV,EI];cases hb:Nat.beq q d with
  |true=>have:=(beq_iff _ _).1 hb;subst this;exact⟨ν,O,h.slot hx⟩
  |false=>obtain⟨aK,h2,_,h3,h4⟩:=h.renamed hE hx.2 (nv.1 hb);exact⟨aK,O,h2.slot ⟨by rw[h3];exact hx.1,h4⟩⟩
 ·rename_i d hl EI;rw[hl] at hx;split at he
  ·rename_i h0 hh0;rw[eR] at he;subst he;refine bC hE hd h rfl hrun ?_;have hx':a.eval x= .slice none 0 0:=hx;rw[hx'];exact(rfl: [Value.slice none 0 0]=[.slice none 0 0])
  split at he
  ·rename_i u e b hel;rw[jE,fx] at he;subst he;refine bX hd hrun ?_;simp only[aV,EI];refine⟨_,O,(h.TX hE d u e).slot ⟨?_, ?_⟩⟩
   ·rw[jN];exact hx
   ·show (look (put _ _ _) _).isSome=true;rw[aF,if_pos rfl];rfl
  ·obtain⟨h1,h2⟩:=EC hx he;exact bC hE hd h h1 hrun h2
 ·obtain⟨h1,h2⟩:=EC (Hz hx) he;exact bC hE hd h h1 hrun h2
theorem tw {n:Nat}:∀{bl:List (List Value)} (i:Nat) (ys vs:List Value) (off:Nat),(∀l∈bl,l.length=n)→bl[i]? =some ys→off+vs.length≤n→
  (bl.set i (ys.take off++vs++ys.drop (off+vs.length))).flatten=bl.flatten.take (i*n+off)++vs++bl.flatten.drop (i*n+off+vs.length)
 | [],i,ys,vs,off,_,h,_=>by simp at h
 |l::bl,0,ys,vs,off,hl,h,hle=>by
  simp at h;subst h;have h1:=hl l (by simp);have e1:off - l.length=0:=by omega
  have e2:off+vs.length - l.length=0:=by omega
  simp[List.take_append,List.drop_append,e1,e2]
 |l::bl,i+1,ys,vs,off,hl,h,hle=>by
  have h1:=hl l (by simp);have ih:=tw (bl:=bl) i ys vs off (fun l hl'=>hl l (by simp[hl'])) (by simpa using h) hle;have e1:(i+1)*n+off - l.length=i*n+off:=by rw[Nat.succ_mul];omega
  have e2:(i+1)*n+off+vs.length - l.length=i*n+off+vs.length:=by rw[Nat.succ_mul];omega
  have e3:List.take ((i+1)*n+off) l=l:=List.take_of_length_le (by rw[Nat.succ_mul];omega);have e4:List.drop ((i+1)*n+off+vs.length) l=[]:=List.drop_eq_nil_of_le (by rw[Nat.succ_mul];omega);simp only[List.append_assoc] at ih;simp[List.take_append,List.drop_append,e1,e2,e3,e4,ih]
theorem xP {V:View}{t:Ty}:∀{xs:List t.den} {bl:List (List Value)},aE (Rel V t) xs bl→∀l∈bl,l.length=t.size
 | [],[],_,l,h=>by simp at h
 |x::xs,y::bl,h,l,hl=>by
  rcases List.mem_cons.1 hl with rfl |hl
  ·exact Rel.length h.1
  ·exact xP h.2 l hl
 | [],_::_,h,_,_=>h.elim
 |_::_,[],h,_,_=>h.elim
theorem Kc {t:Ty}{y y':t.den}{off:Nat}{vs:List CV}{ys us:List Value}(h:QB t y off vs=some y')(hy:Rel V t y ys)(hv:aE (bw V) vs us):
  Rel V t y' (ys.take off++us++ys.drop (off+us.length)):=by
 have hl:=hv.length;refine xM h ?_;rw[xC,hl];exact(((fM hy).take off).append hv).append ((fM hy).drop _)
theorem R1 {vs:List CV}{us:List Value}(h:aE (bw V) vs us):∀u∈us,u.oneCell'=true:=fun u hu=>by obtain⟨j,hj⟩:=List.getElem?_of_mem hu;obtain⟨c,_,hc⟩:=h.get' j u hj;exact Hm hc
theorem wx (hT:fT P T.rows){tr:eI}(hr:MU P T.rows tr){u v:Value}{vs:List CV}(hv:aE (bw V) vs v.cells.toList)(hl:vs.length=tr.ty.size){g off:Nat}{cur:Array Value}{e:TypeId}
  (hu:u= .pointer (some ⟨g,off,none⟩)) (hg:w.heap[g]? =some (.cells cur e (0,0))) (hle:off+vs.length≤cur.size):
  (Instr.storeAt tr.id u v).run P w= .ok () (w.setRow g (cur.toList.take off++v.cells.toList++cur.toList.drop (off+vs.length)).toArray):=by
 have hlen:v.cells.toList.length=vs.length:=hv.length.symm;have TY:v.cells.size=vs.length:=by simpa using hlen
 have hst:=run_storeCells_at P g off e v.cells.toList 0 cur w hg (by rw[hlen];simpa using hle) (R1 hv);rw[hlen] at hst;simp only[Nat.add_zero] at hst;simp[Instr.storeAt,hu,Instr.sureAddr,storeVar,tu hr,TY,hl,hst]
theorem QM {t:Ty}{xs:List t.den}{i:Nat}{z z':t.den}{n cap:Nat}{e:TypeId}{off:Nat}{vs:List CV}{us:List Value}{g:Nat}{cur:Array Value}{V':View}{bl:List (List Value)}
  (hV:∀a v,V a v→V' a v) (hl:bl.flatten.length=xs.length*t.size) (hcap:xs.length≤cap) (ab3:cap≤maxLen) (hcs:cur.size=cap*t.size) (yE:cur.toList.take (xs.length*t.size)=bl.flatten) (hg:w.heap[g]? =some (.cells cur e (0,0)))
  (hall:aE (Rel V t) xs bl) (hz:xs[i]? =some z) (hf:QB t z off vs=some z') (hv:aE (bw V) vs us) (hle:off+vs.length≤t.size):
  off+i*t.size+vs.length≤cur.size∧∃HM,(w.setRow g (cur.toList.take (i*t.size+off)++us++cur.toList.drop (i*t.size+off+vs.length)).toArray).ownsRow 0 e t.size (.slice (some ⟨g,0,none⟩) (xs.set i z').length cap) (xs.set i z').length HM.flatten∧aE (Rel V' t) (xs.set i z') HM:=by
 have hlen:=hv.length;obtain⟨ys,hy1,ZV,hy3⟩:=tt hall i z hz;have hilt:i<xs.length:=(List.getElem?_eq_some_iff.1 hz).1;have hmul:i*t.size+t.size≤xs.length*t.size:=by rw[←Nat.succ_mul];exact Nat.mul_le_mul_right _ hilt
 have adG:xs.length*t.size≤cur.size:=by rw[hcs];exact Nat.mul_le_mul_right _ hcap
 have o7:=setRow_heap w g cur (cur.toList.take (i*t.size+off)++us++cur.toList.drop (i*t.size+off+vs.length)).toArray e (0,0) hg;have hsp:=tw (bl:=bl) i ys us off (xP hall) hy1 (by rw[←hlen];exact hle);have ZW:=Kc hf ZV hv;refine⟨by omega,bl.set i (ys.take off++us++ys.drop (off+us.length)),⟨?_, .inr ⟨g,cap,_,by simp,Nat.zero_le _,o7,by simpa using hcap,ab3, ?_, ?_⟩⟩,(hall.mono (Rel.mono hV _)).set (Rel.mono hV _ _ _ ZW)⟩
 ·rw[hsp];simp[hl, ←hlen];omega
 ·simp[←hlen];omega
 ·rw[hsp, ←yE];simp only[List.length_set];have e5:i*t.size+off≤xs.length*t.size:=by omega
  rw[List.take_append,List.take_append,List.take_take,List.take_take];rw[Nat.min_eq_right e5,Nat.min_eq_left e5];rw[List.drop_take]
  congr 1
  ·congr 1
   rw[List.take_of_length_le];simp[←hlen];omega
  ·rw[←hlen]
   congr 1
   simp[←hlen];omega
end
section
variable {P:Program}{T:cm}{E:Env}{σ af:AS}{a:Act}{w w':World}{ν aK:Nm→Value}{O:Nat→Prop}{Φ:bE T}{V:View}{Y:Value}
theorem mP {C:Nat→Prop}{w:World}{g:Nat}{cs:Array Value}(hg:C g):dp C w (w.setRow g cs):=
 ⟨rfl,rfl,rfl,by simp,fun k _ hk=>setRow_other w g k _ (fun e=>hk (e ▸ hg))⟩
theorem TZ {α:Type}{xs:List (Option (List α))}{n:Nat}{l l':List α}(hn:1≤n)(hle:n≤xs.length)(h:(gF xs n l)[n - 1]? =some (some l')):l'=l:=by
 cases n with
 |zero=>omega
 |succ m=>simp only[gF,Nat.add_sub_cancel] at h;rw[List.getElem?_set_self (by omega)] at h;simpa using h.symm
theorem Pl {α:Type}{xs:List (Option (List α))}{n m:Nat}{l:List α}(h:m+1≠n):(gF xs n l)[m]? =xs[m]? :=by
 cases n with
 |zero=>rfl
 |succ k=>simp only[gF];rw[List.getElem?_set_ne (by omega)]
theorem M8 {α:Type}{xs:List (Option (List α))}{n:Nat}{l:List α}:(gF xs n l).length=xs.length:=by
 cases n with
 |zero=>rfl
 |succ k=>simp[gF]
theorem St.Xx (hE:aB E)(h:St E σ a w ν O){i n g:Nat}{hr:bh}{l l':List hr.t.den}(hh:σ.ab[i]? =some hr)(hw:hr.w=true)(hn:1≤n)(hl:ae hr.xs n=some l)(hg:cr (ν (.hp i n))=some g)(Wm:dp (fun k=>k=g) w w')
  (bP:∀V',(∀key v,view E σ ν O w key v→V' key v)→sD V' w' hr.k (ν (.hp i n)) ⟨hr.e,hr.t,l'⟩):
  St E {σ with ab:=σ.ab.set i ⟨hr.e,hr.t,hr.k,hr.w,gF hr.xs n l'⟩} a w' (EF ν i n (ν (.hp i n))) O:=by
 have hle:=sS hl;have R2:(σ.obj (.hp i n)).isSome=true:=aZ (Pa hh hn hl);refine h.Xv hE (n0:=n) (n1:=n) (C:=fun k=>cr (ν (.hp i n))=some k) hh hw hn (.inr ⟨M8,rfl⟩) (fun m h1 _ l=>by rw[Pl h1]) (.inl rfl) (fun k hk=>⟨R2,hk⟩) (Wm.mono (fun k _ e=>by rw[e];exact hg)) (fun k hk=> .inl ⟨R2,hk⟩) (h.nn i hr n hh hn hle) (fun hV l2 h2=> ?_);have:=TZ hn hle h2;subst this;exact bP _ hV
theorem QN (hE:aB E)(hT:fT P T.rows)(h:St E σ a w ν O){tr:eI}(oS:MU P T.rows tr){i n j off g:Nat}{hr:bh}{u v:Value}{vs:List CV}(hh:σ.ab[i]? =some hr)(hn:1≤n)(hg:cr (ν (.hp i n))=some g)
  (hu:u= .pointer (some ⟨g,j*hr.t.size+off,none⟩)) (hv:aE (bw (view E σ ν O w)) vs v.cells.toList) (hl:vs.length=tr.ty.size) {r:bH} (he:(Es (T:=T) i n j off vs).val Φ σ=some r):
  ∃us w',r=(.nil, .kt us)∧(Instr.storeAt tr.id u v).run P w= .ok () w'∧∃aK,St E (σ.app us) a w' aK O:=by
 unfold Es at he;rw[eK] at he;obtain⟨hr',e1,he⟩:=he;rw[hh] at e1;obtain rfl:hr=hr':=by simpa using e1
 rw[bQ] at he;obtain⟨l,R3,he⟩:=he;rw[bQ] at he;obtain⟨y,hy,he⟩:=he;rw[bQ] at he;obtain⟨y',hf,he⟩:=he;rw[aC,fx] at he;obtain⟨hb,he⟩:=he;simp only[Bool.and_eq_true] at hb;obtain⟨hw,hle⟩:=hb;have hle:=Nat.le_of_ble_eq_true hle;subst he;have bP:=h.hp hh hn R3;obtain⟨k,hk⟩:∃k,hr.k=k:=⟨_,rfl⟩
 rw[hk] at bP
 match k,hk,bP with
 |0,hk,⟨hs,bl,⟨e1,e2⟩,hall⟩=>
  dsimp only at e1 e2 hall;rcases e2 with ⟨e2,e3⟩ | ⟨g',cap,cur,e2,_,hgg,hn1,hm,hcs,yE⟩
  ·have:l=[]:=List.eq_nil_of_length_eq_zero e3;rw[this] at hy;simp at hy
  ·have:g'=g:=by rw[e2] at hg;simpa [cr] using hg
   subst this;have hln:v.cells.toList.length=vs.length:=hv.length.symm;obtain⟨q1,HM,q2,q3⟩:=QM (n:=0) (V':=view E σ ν O w) (fun _ _ h=>h) e1 hn1 hm hcs yE hgg hall hy hf hv hle;have hrun:=wx hT oS hv hl hu hgg (by omega);refine⟨_,_,rfl,hrun,_,h.Xx (l':=l.set j y') hE hh hw hn R3 hg (mP rfl) (fun V' hV=> ?_)⟩;rw[hk];refine⟨hs,HM, ?_,q3.mono (Rel.mono hV _)⟩;rw[e2];simpa using q2
 |1,hk,⟨g',cur,ys,x,e1,e2,e3,e4,e5⟩=>
  dsimp only at e2 x e4 e5;have:g'=g:=by rw[e1] at hg;simpa [cr] using hg
  subst this;subst e4;cases j with
  |succ j=>simp at hy
  |zero=>
   obtain rfl:x=y:=by simpa using hy
   have Wn:cur.size=hr.t.size:=by have:=Rel.length e5;rw[←e3] at this;simpa using this
   have hrun:=wx (w:=w) hT oS hv hl hu e2 (by rw[Nat.zero_mul];omega);have Kd:=Kc hf e5 hv;have o7:=setRow_heap w g' cur (cur.toList.take (0*hr.t.size+off)++v.cells.toList++cur.toList.drop (0*hr.t.size+off+vs.length)).toArray hr.e (0,0) e2;refine⟨_,_,rfl,hrun,_,h.Xx (l':=[x].set 0 y') hE hh hw hn R3 hg (mP rfl) (fun V' hV=> ?_)⟩;rw[hk];refine⟨g',_,_,y',e1,o7,rfl,rfl, ?_⟩;have hlen:vs.length=v.cells.toList.length:=hv.length;rw[e3];simp only[Nat.zero_mul,Nat.zero_add];rw[hlen];exact Rel.mono hV _ _ _ Kd
theorem QO (hE:aB E)(hT:fT P T.rows)(h:St E σ a w ν O){tr:eI}(oS:MU P T.rows tr){x:AV}{u v:Value}{vs:List CV}(hx:al (view E σ ν O w) σ ν E.Y x u)(hv:aE (bw (view E σ ν O w)) vs v.cells.toList)(hl:vs.length=tr.ty.size){r:bH}
  (he:(zf (T:=T) x vs).val Φ σ=some r):
  ∃us w',r=(.nil, .kt us)∧(Instr.storeAt tr.id u v).run P w= .ok () w'∧∃aK,St E (σ.app us) a w' aK O:=by
 have hlen:vs.length=v.cells.toList.length:=hv.length;unfold zf at he;split at he
 ·rename_i b off;obtain⟨Ph,g,GF,hu⟩:=hx;rw[uP] at he;obtain⟨bx,hb,he⟩:=he;obtain⟨g',hg',Pg⟩:=h.box hb;obtain rfl:g=g':=by rw[GF] at hg';simpa using hg'
  have one:∀(cur:Array Value) (e:TypeId),w.heap[g]? =some (.cells cur e (0,0))→cur.size=1→(Q.gG (T:=T) (Nat.beq off 0&&Nat.beq vs.length 1) (.ret ((.nil, .kt [.box b (.cells vs)]):bH))).val Φ σ=some r→
    ∃us w',r=(.nil, .kt us)∧(Instr.storeAt tr.id u v).run P w= .ok () w'∧∃aK,St E (σ.app us) a w' aK O:=fun cur e hg h1 he=>by
   rw[aC,fx] at he;obtain⟨hc,rfl⟩:=he;simp only[Bool.and_eq_true,beq_iff] at hc;obtain⟨rfl,hc⟩:=hc;have hrun:=wx hT oS hv hl hu hg (by omega);have o7:=setRow_heap w g cur (cur.toList.take 0++v.cells.toList++cur.toList.drop (0+vs.length)).toArray e (0,0) hg;refine⟨_,_,rfl,hrun,ν,h.Pk hE Ph (mP (by rw[GF];rfl)) (fun hV=>⟨g,GF,_,e,o7, ?_⟩)⟩;have hd:cur.toList.drop (0+vs.length)=[]:=List.drop_eq_nil_of_le (by simp;omega);have he':(cur.toList.take 0++v.cells.toList++cur.toList.drop (0+vs.length)).toArray.toList=v.cells.toList:=by rw[hd];simp
   rw[he'];exact hv.mono (bw.mono hV)
  split at he
  ·rename_i cs;obtain⟨cur,e,hg,bP⟩:=Pg;rw[aC,fx] at he;obtain⟨hc,rfl⟩:=he;have hc:=Nat.le_of_ble_eq_true hc;have Wn:cs.length=cur.size:=by simpa using bP.length
   have hrun:=wx hT oS hv hl hu hg (by omega);have o7:=setRow_heap w g cur (cur.toList.take off++v.cells.toList++cur.toList.drop (off+vs.length)).toArray e (0,0) hg;refine⟨_,_,rfl,hrun,ν,h.Pk hE Ph (mP (by rw[GF];rfl)) (fun hV=>⟨g,GF,_,e,o7, ?_⟩)⟩;simp only[xC];exact(((bP.mono (bw.mono hV)).take off).append (hv.mono (bw.mono hV))).append ((bP.mono (bw.mono hV)).drop _)
  ·rename_i hnc;cases bx with
   |cells cs=>exact absurd rfl (hnc cs)
   |own q=>obtain⟨e,hg,_⟩:=Pg;exact one _ e hg rfl he
   |nil=>obtain⟨u0,e,hg⟩:=Pg;exact one _ e hg rfl he
 ·rename_i q sz i off;obtain⟨row,g,hrow,hgq,rfl,hu⟩:=hx;rw[lE] at he;obtain⟨row',e1,he⟩:=he;rw[hrow] at e1;obtain rfl:row=row':=by simpa using e1
  rw[bQ] at he;obtain⟨y,hy,he⟩:=he;rw[bQ] at he;obtain⟨y',hf,he⟩:=he;rw[aC,fx] at he;obtain⟨hle,rfl⟩:=he;have hle:=Nat.le_of_ble_eq_true hle;obtain⟨bl,⟨e1,e2⟩,hall⟩:=h.row hrow;rcases e2 with ⟨e2,e3⟩ | ⟨g',cap,cur,e2,_,hg,hn,hm,hcs,yE⟩
  ·have:row.xs=[]:=List.eq_nil_of_length_eq_zero e3;rw[this] at hy;simp at hy
  ·have:g'=g:=by rw[e2] at hgq;simpa [cr] using hgq
   subst this;obtain⟨q1,HM,q2,q3⟩:=QM (n:=0) (V':=view E σ ν O w) (fun _ _ h=>h) e1 hn hm hcs yE hg hall hy hf hv hle;have hrun:=wx hT oS hv hl hu hg (by omega);refine⟨_,_,rfl,hrun,ν,h.setRow hE (row':=⟨row.e,row.t,row.xs.set i y'⟩) hrow rfl (mP hgq) (fun hV=>⟨HM, ?_,q3.mono (Rel.mono hV _)⟩)⟩;rw[e2];simpa using q2
 ·rename_i i n j off;obtain⟨hr,g,h1,h2,h3,h4,h5⟩:=hx;exact QN hE hT h oS h1 h2 h4 h5 hv hl he
 ·rename_i i n;by_cases hn:n=0
  ·subst hn;unfold Es at he;rw[eK] at he;obtain⟨hr',e1,he⟩:=he;rw[bQ] at he;obtain⟨l,R3,he⟩:=he;rw[bQ] at he;obtain⟨y,hy,he⟩:=he;simp only[ae,Option.some.injEq] at R3;subst R3;simp at hy
  ·obtain⟨hr,g,h1,h2,h3,h4,h5⟩:=Ll h hx hn;exact QN (j:=0) (off:=0) hE hT h oS h1 h2 h4 (by rw[h5,Nat.zero_mul]) hv hl he
 ·cases he
theorem Lt (hT:fT P T.rows){tr:eI}(oS:MU P T.rows tr)(h1:tr.ty.size=1){g:Nat}{cur:Array Value}{e:TypeId}{v:Value}(hv:v.oneCell'=true)(hg:w.heap[g]? =some (.cells cur e (0,0)))(hc:cur.size=1):
  (Instr.storeAt tr.id (.pointer (some ⟨g,0,none⟩)) v).run P w= .ok () (w.setRow g #[v]):=by
 have Wn:v.cells= #[v]:=by cases v<;>first |rfl |cases hv
 have hst:=run_storeCells_at P g 0 e [v] 0 cur w hg (by simp;omega) (by simpa using hv);have hd:cur.toList.drop 1=[]:=List.drop_eq_nil_of_le (by simp;omega);simp only[Nat.add_zero,List.take_zero,List.nil_append,List.length_singleton,Nat.zero_add,hd,List.append_nil] at hst;simp[Instr.storeAt,Instr.sureAddr,storeVar,tu oS,Wn,h1,hst]
theorem EJ (hE:aB E)(hT:fT P T.rows)(h:St E σ a w ν O){tr:eI}(oS:MU P T.rows tr)(h1:tr.ty.size=1){b q:Nat}{u v:Value}(hb:tp σ ν b 0 u){bx:BX}(OT:look σ.boxes b=some bx)(hone:bx.one=true)(hq:(look σ.rows q).isSome=true)(hv:v=ν (.row q)):
  ∃w',(Instr.storeAt tr.id u v).run P w= .ok () w'∧St E {σ with boxes:=put σ.boxes b (.own q)} a w' ν O:=by
 obtain⟨Ph,g,GF,rfl⟩:=hb;obtain⟨g',hg',Pg⟩:=h.box OT;obtain rfl:g=g':=by rw[GF] at hg';simpa using hg'
 obtain⟨row,hrow⟩:=Option.isSome_iff_exists.1 hq;obtain⟨A,c,hA,_⟩:=uQ (h.row hrow);have ZX:v.oneCell'=true:=by rw[hv,hA];rfl
 have:∃cur e,w.heap[g]? =some (.cells cur e (0,0))∧cur.size=1:=by
  cases bx with
  |cells cs=>obtain⟨cur,e,h2,h3⟩:=Pg;exact⟨cur,e,h2,by rw[BX.one,beq_iff] at hone;have:=h3.length;rw[hone] at this;simpa using this.symm⟩
  |own k=>obtain⟨e,h2,_⟩:=Pg;exact⟨_,e,h2,rfl⟩
  |nil=>obtain⟨u0,e,h2⟩:=Pg;exact⟨_,e,h2,rfl⟩
 obtain⟨cur,e,hg,hc⟩:=this;have hrun:=Lt hT oS h1 ZX hg hc;refine⟨_,hrun,h.Pk hE Ph (mP (by rw[GF];rfl)) (fun hV=>⟨g,GF,e, ?_,hq⟩)⟩;rw[←hv];exact setRow_heap w g cur #[v] e (0,0) hg
theorem zp {d b:Nat}{bx:BX}(hb:look σ.boxes b=some bx)(h1:bx.one=true):∃ZY,look (σ.freeze d).boxes b=some ZY∧ZY.one=true:=by
 unfold AS.freeze;cases look σ.rows d with
 |none=>exact⟨bx,hb,h1⟩
 |some row=>
  refine⟨bx.n7 d ⟨.slice row.t,row.xs⟩,by show look (zc _ _) b=_;rw[fA,hb];rfl, ?_⟩;cases bx with
  |own q=>simp only[BX.n7];cases Nat.beq q d<;>rfl
  |cells cs=>exact h1
  |nil=>rfl
theorem HO {r d b:Nat}{bx:BX}(hb:look σ.boxes b=some bx)(h1:bx.one=true):∃ZY,look (σ.rename r d).boxes b=some ZY∧ZY.one=true:=by
 unfold AS.rename;cases look σ.rows r with
 |none=>exact⟨bx,hb,h1⟩
 |some row=>
  refine⟨bx.MI r d,by show look (zc _ _) b=_;rw[fA,hb];rfl, ?_⟩;cases bx with
  |own q=>rfl
  |cells cs=>exact h1
  |nil=>rfl
theorem T0 (hE:aB E)(hG:Cl E)(hT:fT P T.rows)(h:St E σ a w ν O){o:Oper}{r:bH}{t:TypeId}{x v:Operand}(ho:o.op= .store t x v)
  (he:(uI T σ.av σ.sites o).val Φ σ=some r):gM P o a w (To E (aV σ o.dst r)):=by
 have hd:∀c,o.op≠ .defer c:=by rw[ho];intro c e;cases e
 have hx:=h.av hG x;have hv:=h.av hG v;have fin:∀{w':World} {af:AS},r=(.nil, .set af)→(Instr.storeAt t (a.eval x) (a.eval v)).run P w= .ok () w'→(∃aK,St E af a w' aK O)→gM P o a w (To E (aV σ o.dst r)):=fun {w' af} e hrun ⟨aK,hs⟩=>by subst e;exact J9 hd (by simp[execOp,ho,hrun]) ⟨aK,O,hs.slot trivial⟩
 unfold uI at he;simp only[ho] at he;split at he
 ·rename_i tr hr;obtain⟨rfl,oS⟩:=hT t tr hr;split at he
  ·rename_i q b e1 e2;rw[e1] at hv;rw[e2] at hx;rw[uP] at he;obtain⟨bx,OT,he⟩:=he;rw[aC,jE] at he;obtain⟨hc,he⟩:=he;simp only[Bool.and_eq_true,beq_iff] at hc;obtain⟨h1,h2⟩:=hc;cases hb:Nat.beq q b with
   |true=>have:=(beq_iff _ _).1 hb;subst this;rw[hb,cond_true,fx] at he;obtain⟨w',hrun,hs⟩:=EJ hE hT h oS h2 hx OT h1 hv.2 hv.1;exact fin he.symm hrun ⟨ν,hs⟩
   |false=>
    rw[hb,cond_false,fx] at he;obtain⟨aK,s1,s2,s3,s4⟩:=h.renamed hE hv.2 (nv.1 hb);obtain⟨bx1,Wo,VS⟩:=zp (d:=b) OT h1;obtain⟨bx2,ZZ,h12⟩:=HO (r:=q) (d:=b) Wo VS;obtain⟨w',hrun,hs⟩:=EJ (u:=a.eval x) (v:=a.eval v) hE hT s1 oS h2 (by
     obtain⟨g1,g,g2,g3⟩:=hx;exact⟨aZ ZZ,g,(s2 _ (fun k e=>by cases e)).trans g2,g3⟩) ZZ h12 s4 (by rw[s3];exact hv.1)
    exact fin he.symm hrun ⟨aK,hs⟩
  ·rename_i q hnb e1;rw[jE,G7] at he;obtain⟨y,he,rfl⟩:=he;rw[Hw,ku] at he;obtain⟨vs,hvs,he⟩:=he;rw[aC] at he;obtain⟨hl,he⟩:=he;have s1:=h.freeze hE q;obtain⟨us,w',rfl,hrun,aK,hs⟩:=QO hE hT s1 oS (s1.av hG x) (EG hvs (s1.av hG v)) ((beq_iff _ _).1 hl) he;exact fin rfl hrun ⟨aK,hs⟩
  ·rename_i b e1 e2;rw[e1] at hv;rw[e2] at hx;split at he
   ·rename_i u e bytes hel;rw[uP] at he;obtain⟨bx,OT,he⟩:=he;rw[aC,jE,fx] at he;obtain⟨h1,he⟩:=he;have h2:tr.ty.size=1:=by
     unfold fw at hel;rw[hr] at hel;dsimp only at hel;split at hel
     ·rename_i u' hu;rw[hu];rfl
     ·cases hel
    have s1:=h.TX hE b u e;obtain⟨bx1,Wo,VS⟩:=zp (d:=b) OT h1;obtain⟨w',hrun,hs⟩:=EJ (u:=a.eval x) (v:=a.eval v) (q:=b) hE hT s1 oS h2 (by
     obtain⟨g1,g,g2,g3⟩:=hx;exact⟨aZ Wo,g,g2,g3⟩) Wo VS (by show (look (put _ _ _) _).isSome=true;rw[aF,if_pos rfl];rfl) (by rw[jN];exact hv)
    exact fin he.symm hrun ⟨_,hs⟩
   ·cases he
  ·rw[ku] at he;obtain⟨vs,hvs,he⟩:=he;rw[aC] at he;obtain⟨hl,he⟩:=he;obtain⟨us,w',rfl,hrun,aK,hs⟩:=QO hE hT h oS hx (EG hvs hv) ((beq_iff _ _).1 hl) he;exact J9 hd (by simp[execOp,ho,hrun]) ⟨aK,O,hs.slot trivial⟩
 ·cases he
end
def uT (P:Program)(T:cm):Prop:=∀(i:Nat) (ht:HT),T.ab[i]? =some ht→∃(j:TypeInfo) (z:Value),P.info? ht.e=some j∧j.size=ht.t.size∧j.zero=some z∧∀V,Rel V ht.t ht.t.zero z.cells.toList
section
variable {P:Program}{T:cm}{E:Env}{σ af:AS}{a:Act}{w w':World}{ν aK:Nm→Value}{O:Nat→Prop}{Φ:bE T}{V:View}{Y:Value}
theorem kx {α:Type}{xs:List (Option (List α))}{n:Nat}:(jB xs n).length=xs.length:=by cases n<;>simp[jB]
theorem M9 {α:Type}{xs:List (Option (List α))}{n m:Nat}(h:m+1≠n):(jB xs n)[m]? =xs[m]? :=by
 cases n with
 |zero=>rfl
 |succ k=>simp only[jB];rw[List.getElem?_set_ne (by omega)]
theorem Pm {α:Type}{xs:List (Option (List α))}{n:Nat}(hn:1≤n)(l:List α):(jB xs n)[n - 1]? ≠some (some l):=by
 cases n with
 |zero=>omega
 |succ k=>
  simp only[jB,Nat.add_sub_cancel];intro h;rw[List.getElem?_set] at h;split at h
  ·split at h<;>cases h
  ·rename_i h1;exact h1 rfl
theorem St.Xy (hE:aB E)(h:St E σ a w ν O){i n1:Nat}{hr:bh}{l':List hr.t.den}{v0:Value}{C:Nat→Prop}(hh:σ.ab[i]? =some hr)(hw:hr.w=true)(hn1:n1≤hr.xs.length)
  (hC:∀k,C k→Own σ ν (.hp i n1) k) (hg:dp C w w') (fS:∀k,cr v0=some k→Own σ ν (.hp i n1) k∨(w.heap.size≤k∧k<w'.heap.size)) (Wl:RS hr.k v0)
  (bP:∀V',(∀key v,view E σ ν O w key v→V' key v)→sD V' w' hr.k v0 ⟨hr.e,hr.t,l'⟩):
  St E {σ with ab:=σ.ab.set i ⟨hr.e,hr.t,hr.k,hr.w,jB hr.xs n1++[some l']⟩} a w' (EF ν i (hr.xs.length+1) v0) O∧
   view E {σ with ab:=σ.ab.set i ⟨hr.e,hr.t,hr.k,hr.w,jB hr.xs n1++[some l']⟩} (EF ν i (hr.xs.length+1) v0) O w' (.ref i (hr.xs.length+1)) v0:=by
 have hlt:i<σ.ab.length:=(List.getElem?_eq_some_iff.1 hh).1;have hl:(jB hr.xs n1++[some l']).length=hr.xs.length+1:=by simp[kx]
 refine⟨h.Xv hE (n0:=hr.xs.length+1) (n1:=n1) (C:=C) hh hw (by omega) (.inl ⟨hl.symm,hl⟩) (fun m h1 h2 l=> ?_) ?_ hC hg (fun k hk=> .inr (fS k hk)) Wl (fun hV l2 h2=> ?_), ?_⟩
 ·rcases Nat.lt_trichotomy m hr.xs.length with h3 |h3 |h3
  ·rw[List.getElem?_append_left (by rw[kx];exact h3),M9 h2]
  ·omega
  ·rw[List.getElem?_eq_none (by omega),List.getElem?_eq_none (by omega)]
 ·by_cases h0:n1=0
  ·exact .inr (.inl h0)
  ·refine .inr (.inr fun l=> ?_);rw[List.getElem?_append_left (by rw[kx];omega)];exact Pm (by omega) l
 ·rw[Nat.add_sub_cancel,List.getElem?_append_right (by rw[kx];exact Nat.le_refl _),kx] at h2;simp only[Nat.sub_self,List.getElem?_cons_zero,Option.some.injEq] at h2;subst h2;exact bP _ hV
 ·refine⟨by omega, ?_,by simp only[EF,and_self,if_pos]⟩;show hr.xs.length+1≤hlen (σ.ab.set i _) i;unfold hlen;rw[List.getElem?_set_self hlt];simp[kx]
theorem QP (hE:aB E)(h:St E σ a w ν O){i:Nat}{hr:bh}{x:hr.t.den}{cur:Array Value}(hh:σ.ab[i]? =some hr)(hx:Rel (view E σ ν O w) hr.t x cur.toList){r:bH}(he:(Ch (T:=T) i hr x).val Φ σ=some r):
  ∃us n,r=(.rv (.cv ⟨.ptr i,n⟩), .kt us)∧∃aK,St E (σ.app us) a (w.alloc (.cells cur hr.e)) aK O∧bw (view E (σ.app us) aK O (w.alloc (.cells cur hr.e))) ⟨.ptr i,n⟩ (.pointer (some ⟨w.heap.size,0,none⟩)):=by
 unfold Ch at he;rw[aC,fx] at he;obtain⟨hc,rfl⟩:=he;simp only[Bool.and_eq_true,beq_iff] at hc;obtain⟨hw,hk⟩:=hc;obtain⟨h1,h2⟩:=h.Xy hE (n1:=0) (l':=[x]) (v0:= .pointer (some ⟨w.heap.size,0,none⟩)) (w':=w.alloc (.cells cur hr.e)) (C:=fun _=>False) hh hw (Nat.zero_le _) (fun _ hk=>hk.elim)
  (dp.rD ⟨rfl,rfl,rfl,by simp,fun k hk=>heap_alloc_old w _ k hk⟩) (fun k hk=>by simp only[cr,Option.some.injEq] at hk;subst hk;exact .inr ⟨Nat.le_refl _,by simp⟩) (.inr ⟨hk,_,rfl⟩)
  (fun V' hV=>by rw[hk];exact⟨w.heap.size,cur,_,x,rfl,heap_alloc_new w _,rfl,rfl,Rel.mono hV _ _ _ hx⟩)
 exact⟨_,_,rfl,_,h1,Wh (by omega) ⟨_,rfl⟩ h2⟩
theorem EK {i:Nat}{hr:bh}(hH:uT P T)(h:MK T i hr=true)(hi:i<T.ab.length):∃(j:TypeInfo) (z:Value),P.info? hr.e=some j∧j.size=hr.t.size∧j.zero=some z∧∀V,Rel V hr.t hr.t.zero z.cells.toList:=by
 simp only[MK,Bool.and_eq_true,beq_iff,decide_eq_true_eq] at h;have e:T.ab[i]? =some (T.ht i):=by unfold cm.ht;rw[List.getElem?_eq_getElem hi];rfl
 obtain⟨j,z,h1,h2,h3,h4⟩:=hH i _ e;obtain⟨⟨e1,_⟩,e2⟩:=h;rw[e1,e2];exact⟨j,z,h1,h2,h3,h4⟩
theorem QQ (hE:aB E)(h:St E σ a w ν O){d:Option Tmp}{cs:List CV}{cur:Array Value}{e:TypeId}(hx:aE (bw (view E σ ν O w)) cs cur.toList){r:bH}(he:(rZ (T:=T) d (.cells cs)).val Φ σ=some r):
  ∃b us,r=(.box b 0, .kt us)∧∃aK,St E (σ.app us) a (w.alloc (.cells cur e)) aK O∧tp (σ.app us) aK b 0 (.pointer (some ⟨w.heap.size,0,none⟩)):=by
 unfold rZ at he;split at he
 ·rename_i d;rw[qv,fx] at he;obtain⟨hd,rfl⟩:=he;refine⟨_,_,rfl,_,h.rZ hE hd (fun hV=>⟨w.heap.size,rfl,cur,e,heap_alloc_new w _,hx.mono (bw.mono hV)⟩), ?_,w.heap.size,by simp only[ED,if_pos],rfl⟩;show (look (put _ _ _) _).isSome=true;rw[aF,if_pos rfl];rfl
 ·cases he
theorem T1 (hE:aB E)(hG:Cl E)(hT:fT P T.rows)(hH:uT P T)(hl:σ.ab.length=T.ab.length)(h:St E σ a w ν O){o:Oper}{r:bH}{t:TypeId}(ho:o.op= .alloc t)
  (he:(uI T σ.av σ.sites o).val Φ σ=some r):gM P o a w (To E (aV σ o.dst r)):=by
 have hd:∀c,o.op≠ .defer c:=by rw[ho];intro c e;cases e
 unfold uI at he;simp only[ho] at he;split at he
 ·rename_i tr hr;obtain⟨rfl,oS⟩:=hT t tr hr;obtain⟨i,z,h1,h2,h3,h4,h5⟩:=HL (V:=view E σ ν O w) oS;have hrun:(execOp a.eval o).run P w= .ok (.value (.pointer (some ⟨w.heap.size,0,none⟩))) (w.alloc (.cells z.cells tr.id)):=by simp[execOp,ho,Instr.alloc,zeroValue,typeInfo,h1,h4,newVar,Go.newRow]
  split at he
  ·rename_i k hk;rw[eK] at he;obtain⟨EA,hh,he⟩:=he;rw[aC] at he;obtain⟨hc,he⟩:=he;simp only[Bool.and_eq_true,beq_iff] at hc;obtain⟨e1,hc⟩:=hc;obtain⟨j,z',j1,j2,j3,j4⟩:=EK hH hc (by rw[←hl];exact(List.getElem?_eq_some_iff.1 hh).1);rw[e1,h1] at j1;obtain rfl:i=j:=by simpa using j1
   rw[h4] at j3;obtain rfl:z=z':=by simpa using j3
   obtain⟨us,n,rfl,aK,hs,hv⟩:=QP hE h (cur:=z.cells) hh (j4 _) he;rw[e1] at hs hv;exact bX hd hrun ⟨aK,O,hs.slot hv⟩
  ·split at he
   ·rename_i u0 u e b d lF hel EI;rw[qv,qu,fx] at he;obtain⟨f1,f2,rfl⟩:=he;have hz:z= .slice none 0 0:=by
     obtain⟨i',z',k1,_,_,k4,_,_,k5⟩:=oS.info;rw[h1] at k1;obtain rfl:i=i':=by simpa using k1
     rw[h4] at k4;obtain rfl:z=z':=by simpa using k4
     exact k5 _ lF
    have s1:=h.newRow hE (d:=d) (row':=⟨e,u,[]⟩) (v':= .slice none 0 0) f2 (Below.refl _ _) (fun k hk=>by cases hk) (fun _=>⟨[],xO,trivial⟩);have hrow:(look (put σ.rows d (⟨e,u,[]⟩:Row)) d).isSome=true:=by rw[aF,if_pos rfl];rfl
    have s2:=s1.rZ hE (d:=d) (x:= .own d) (o:= .cells z.cells tr.id) f1 (fun hV=>⟨w.heap.size,rfl,tr.id,by rw[hz];simp only[ED,n8,if_pos];exact heap_alloc_new w _,hrow⟩);refine bX hd hrun ⟨ED (n8 ν d (.slice none 0 0)) d (.pointer (some ⟨w.heap.size,0,none⟩)),O, ?_⟩;simp only[aV,EI];refine s2.slot (x:= .box d 0) ⟨?_,w.heap.size,by simp only[ED,if_pos],rfl⟩;show (look (put _ _ _) _).isSome=true;rw[aF,if_pos rfl];rfl
   ·obtain⟨b,us,rfl,aK,hs,hv⟩:=QQ hE h (cur:=z.cells) (e:=tr.id) (fM h5) he;exact bX hd hrun ⟨aK,O,hs.slot (x:= .box b 0) hv⟩
 ·cases he
theorem Wp (f:AV→AV)(hf:f .nil= .nil)(s:dW)(t:Nat):nth (s.map f) t=f (nth s t):=by
 unfold nth;show (match look (Jp f s.l) t with |some x=>x |none=> .nil)=_;rw[AL];cases look s.l t with
 |none=>exact hf.symm
 |some x=>rfl
theorem Yn (f:AV→AV)(hf:f .nil= .nil)(hc:∀v,f (ofConst v)=ofConst v)(hF:∀g,f (.fn g [])= .fn g [])(s:dW)(x:Operand):(s.map f).av x=f (s.av x):=by
 cases x with
 |tmp t=>exact Wp f hf s t
 |const v=>exact(hc v).symm
 |func g=>exact(hF g).symm
 |global g=>
  show (match look (Jp f s.s) (gk g) with |some x=>x |none=> .nil)=f (match look s.s (gk g) with |some x=>x |none=> .nil);rw[AL];cases look s.s (gk g) with
  |none=>exact hf.symm
  |some x=>rfl
theorem Lu (r:Nat)(c:CV)(v:Value):(ofConst v).n7 r c=ofConst v:=by cases v<;>rfl
theorem AQ {q:Nat}{row:Row}(hq:look σ.rows q=some row)(x:Operand):(σ.freeze q).av x=(σ.av x).n7 q ⟨.slice row.t,row.xs⟩:=by unfold AS.freeze;rw[hq];exact Yn _ rfl (Lu q _) (fun _=>rfl) σ.tmps x
theorem Yo (hE:aB E)(hG:Cl E)(hT:fT P T.rows)(h:St E σ a w ν O){o:Oper}{r:bH}{t:TypeId}{v:Operand}(ho:o.op= .box t v)
  (he:(uI T σ.av σ.sites o).val Φ σ=some r):gM P o a w (To E (aV σ o.dst r)):=by
 have hd:∀c,o.op≠ .defer c:=by rw[ho];intro c e;cases e
 have hv:=h.av hG v;have hrun:(execOp a.eval o).run P w= .ok (.value (.pointer (some ⟨w.heap.size,0,none⟩))) (w.alloc (.cells (a.eval v).cells t)):=by simp[execOp,ho,Instr.box,newVar,Go.newRow]
 unfold uI at he;simp only[ho] at he;split at he
 ·rename_i tr hr;obtain⟨rfl,oS⟩:=hT t tr hr;split at he
  ·rename_i q hq;rw[lE] at he;obtain⟨row,hrow,he⟩:=he;rw[jE] at he;split at he
   ·rename_i d EI;split at he
    ·rename_i hbd;rw[fx] at he;subst he;have s1:=h.freeze hE q;have Lv:=s1.av hG v;rw[AQ hrow,hq] at Lv;simp only[AV.n7,RV.n7,beq_refl,cond_true] at Lv;have Pn:look (σ.freeze q).boxes d=none:=by
      have:=Df (σ:=σ) q d;rw[hbd] at this;cases hl:look (σ.freeze q).boxes d with
      |none=>rfl
      |some x=>rw[hl] at this;cases this
     have s2:=s1.rZ hE (d:=d) (x:= .cells [⟨.slice row.t,row.xs⟩]) (o:= .cells (a.eval v).cells tr.id) Pn (fun hV=>⟨w.heap.size,rfl,_,tr.id,heap_alloc_new w _,by
      have e2:(a.eval v).cells.toList=[a.eval v]:=by rw[xA Lv]
      rw[e2];exact⟨bw.mono hV _ _ Lv,trivial⟩⟩)
     refine bX hd hrun ⟨ED ν d (.pointer (some ⟨w.heap.size,0,none⟩)),O, ?_⟩;simp only[aV,EI];refine s2.slot (x:= .box d 0) ⟨?_,w.heap.size,by simp only[ED,if_pos],rfl⟩;show (look (put _ _ _) _).isSome=true;rw[aF,if_pos rfl];rfl
    ·cases he
   ·cases he
  ·rw[ku] at he;obtain⟨vs,hvs,he⟩:=he;rw[aC] at he;obtain⟨hl,he⟩:=he;have G9:=EG hvs hv;split at he
   ·rename_i k hk;rw[eK] at he;obtain⟨EA,hh,he⟩:=he;rw[aC,bQ] at he;obtain⟨hc,x,hx,he⟩:=he;have e1:=(beq_iff _ _).1 hc;obtain⟨us,n,rfl,aK,hs,hv⟩:=QP hE h (cur:=(a.eval v).cells) hh (xM hx G9) he;rw[e1] at hs hv;exact bX hd hrun ⟨aK,O,hs.slot hv⟩
   ·obtain⟨b,us,rfl,aK,hs,hv⟩:=QQ hE h (cur:=(a.eval v).cells) (e:=tr.id) G9 he;exact bX hd hrun ⟨aK,O,hs.slot (x:= .box b 0) hv⟩
 ·cases he
theorem T2 (hE:aB E)(hG:Cl E)(hT:fT P T.rows)(h:St E σ a w ν O){o:Oper}{r:bH}{t:TypeId}{parts:Array (Nat×Operand)}(ho:o.op= .build t parts)
  (he:(uI T σ.av σ.sites o).val Φ σ=some r):gM P o a w (To E (aV σ o.dst r)):=by
 have hd:∀c,o.op≠ .defer c:=by rw[ho];intro c e;cases e
 unfold uI at he;simp only[ho] at he;cases hb:(List.map (fun x=>x.2) parts.toList).any fun x=>pS (σ.av x) with
 |true=>rw[hb,cond_true,jE,G7] at he;obtain⟨y,he,rfl⟩:=he;have s1:=h.oR hE (parts.toList.map (·.2));obtain⟨e1,v,h2,h3⟩:=HG (P:=P) (w:=w) hT (s1.av hG) he;exact bX hd (v:=v) (by simp[execOp,ho,h2]) ⟨ν,O,s1.slot h3⟩
 |false=>rw[hb,cond_false] at he;obtain⟨e1,v,h2,h3⟩:=HG (P:=P) (w:=w) hT (h.av hG) he;exact bC hE hd h e1 (v:=v) (by simp[execOp,ho,h2]) h3
theorem Na (k8:∀x,al V σ ν Y (σ.av x) (a.eval x)):∀{xs:List Operand} {aP:List yy},mO (fun x=>match σ.av x with
   | .box b 0=>some (yy.box b)
   | .pO cs=>some (.pO cs)
   |_=>none) xs=some aP→aE (nw V σ ν) aP (xs.map a.eval)
 | [],aP,h=>by simp only[mO,Option.some.injEq] at h;subst h;trivial
 |x::xs,aP,h=>by
  simp only[mO] at h;split at h
  ·rename_i y hy;split at h
   ·rename_i l hl;simp only[Option.some.injEq] at h;subst h;refine⟨?_,Na k8 hl⟩;have hx:=k8 x;split at hy
    ·rename_i b e;simp only[Option.some.injEq] at hy;subst hy;rw[e] at hx;exact hx
    ·rename_i cs e;simp only[Option.some.injEq] at hy;subst hy;rw[e] at hx;exact hx
    ·cases hy
   ·cases h
  ·cases h
theorem Nb (hE:aB E)(hG:Cl E)(h:St E σ a w ν O){o:Oper}{r:bH}{f:Fn}{first captured:Array Operand}(ho:o.op= .makeFunc f first captured)
  (he:(uI T σ.av σ.sites o).val Φ σ=some r):gM P o a w (To E (aV σ o.dst r)):=by
 have hd:∀c,o.op≠ .defer c:=by rw[ho];intro c e;cases e
 unfold uI at he;simp only[ho] at he;split at he<;>first | (rename_i e;cases e;done) |skip
 all_goals try (cases he;done)
 rename_i f' fst' cap' e;cases e;split at he
 ·rename_i hf;have hf':first= #[]:=by cases first;simp at hf;subst hf;rfl
  subst hf';rw[ku] at he;obtain⟨aP,hc,he⟩:=he;rw[eR] at he;subst he;refine bC hE hd h rfl (v:= .func (.func f') #[] (captured.map a.eval)) (by simp[execOp,ho,Instr.makeFunc]) ⟨(captured.toList.map a.eval),(by rw[←Array.toList_map]),Na (h.av hG) hc⟩
 ·cases he
end
end Go.Abs
