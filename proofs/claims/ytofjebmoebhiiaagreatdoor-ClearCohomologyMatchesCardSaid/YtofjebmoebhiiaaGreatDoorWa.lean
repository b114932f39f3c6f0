/- YtofjebmoebhiiaaGreatDoorWa: a part of the proof (AbsV, AbsE, AbsS ..). No condition. -/
import Derived.Laws.AppendOwn
import Derived.Laws.MakeOwn
import Derived.Below
import Derived.Orders
import Derived.Laws.StructEq
import Derived.Lib.ConvBytes
import Derived.Laws.BytesString
import Derived.RangeFuncLeaves
set_option linter.unusedVariables false
set_option linter.unusedSimpArgs false
set_option maxRecDepth 100000
set_option exponentiation.threshold 2000
namespace Go.Abs
inductive Ty where
 |int (k:IntKind) |bool |str |slice (t:Ty) |unit |pair (a b:Ty) |st (t:Ty) |ref (h:Nat) |ptr (h:Nat) |pg (t:Ty) |mp (h:Nat) |fn
 deriving DecidableEq
@[reducible] def Ty.den:Ty→Type
  | .int _=>Int
  | .bool=>Bool
  | .str=>ByteArray
  | .slice t=>List t.den
  | .unit=>Unit
  | .pair a b=>a.den×b.den
  | .st t=>t.den
  | .ref _=>Nat
  | .ptr _=>Nat
  | .pg t=>Option (List t.den)
  | .mp _=>Nat
  | .fn=>Nat
def Ty.size:Ty→Nat
 | .unit=>0
 | .pair a b=>a.size+b.size
 | .st t=>t.size
 |_=>1
def Ty.leaf:Ty→Bool
 | .unit | .pair .. | .st _=>false
 |_=>true
def Ty.zero:(t:Ty)→t.den
 | .int _=>(0:Int)
 | .bool=>false
 | .str=>ByteArray.empty
 | .slice t=>([]:List t.den)
 | .unit=>()
 | .pair a b=>(a.zero,b.zero)
 | .st t=>t.zero
 | .ref _=>(0:Nat)
 | .ptr _=>(0:Nat)
 | .pg t=>(none:Option (List t.den))
 | .mp _=>(0:Nat)
 | .fn=>(0:Nat)
def aS {α β:Type}(R:α→β→Prop):List α→List β→Prop
 | [],[]=>True
 |x::xs,y::ys=>R x y∧aS R xs ys
 |_,_=>False
section
variable {α β γ:Type}{R S:α→β→Prop}
theorem aS.length:∀{xs:List α} {ys:List β},aS R xs ys→xs.length=ys.length
 | [],[],_=>rfl
 |_::_,_::_,h=>by simp[aS.length h.2]
 | [],_::_,h=>h.elim
 |_::_,[],h=>h.elim
theorem aS.mono (hRS:∀x y,R x y→S x y):∀{xs:List α} {ys:List β},aS R xs ys→aS S xs ys
 | [],[],_=>trivial
 |_::_,_::_,h=>⟨hRS _ _ h.1,aS.mono hRS h.2⟩
 | [],_::_,h=>h.elim
 |_::_,[],h=>h.elim
theorem aS.get:∀{xs:List α} {ys:List β},aS R xs ys→∀(i:Nat) x,xs[i]? =some x→∃y,ys[i]? =some y∧R x y
 | [],[],_,i,x,h=>by simp at h
 |a::as,b::bs,h,0,x,hx=>⟨b,by simp,by simp at hx;subst hx;exact h.1⟩
 |a::as,b::bs,h,i+1,x,hx=>by
  obtain⟨y,hy,hr⟩:=aS.get h.2 i x (by simpa using hx)
  exact⟨y,by simpa using hy,hr⟩
 | [],_::_,h,_,_,_=>h.elim
 |_::_,[],h,_,_,_=>h.elim
theorem aS.get':∀{xs:List α} {ys:List β},aS R xs ys→∀(i:Nat) y,ys[i]? =some y→∃x,xs[i]? =some x∧R x y
 | [],[],_,i,x,h=>by simp at h
 |a::as,b::bs,h,0,y,hy=>⟨a,by simp,by simp at hy;subst hy;exact h.1⟩
 |a::as,b::bs,h,i+1,y,hy=>by
  obtain⟨x,hx,hr⟩:=aS.get' h.2 i y (by simpa using hy)
  exact⟨x,by simpa using hx,hr⟩
 | [],_::_,h,_,_,_=>h.elim
 |_::_,[],h,_,_,_=>h.elim
theorem aS.append:∀{xs:List α} {ys:List β} {xs':List α} {ys':List β},aS R xs ys→aS R xs' ys'→aS R (xs++xs') (ys++ys')
 | [],[],_,_,_,h=>h
 |_::_,_::_,_,_,h,h'=>⟨h.1,aS.append h.2 h'⟩
 | [],_::_,_,_,h,_=>h.elim
 |_::_,[],_,_,h,_=>h.elim
theorem aS.split:∀{xs xs':List α} {zs:List β},aS R (xs++xs') zs→∃ys ys',zs=ys++ys'∧aS R xs ys∧aS R xs' ys'
 | [],xs',zs,h=>⟨[],zs,rfl,trivial,h⟩
 |x::xs,xs',z::zs,h=>by
  obtain⟨ys,ys',rfl,h1,h2⟩:=aS.split (xs:=xs) h.2
  exact⟨z::ys,ys',rfl,⟨h.1,h1⟩,h2⟩
 |x::xs,xs',[],h=>h.elim
theorem aS.set:∀{xs:List α} {ys:List β} {i:Nat} {x:α} {y:β},aS R xs ys→R x y→aS R (xs.set i x) (ys.set i y)
 | [],[],i,x,y,_,_=>trivial
 |_::_,_::_,0,x,y,h,hr=>⟨hr,h.2⟩
 |_::_,_::_,i+1,x,y,h,hr=>⟨h.1,aS.set h.2 hr⟩
 | [],_::_,_,_,_,h,_=>h.elim
 |_::_,[],_,_,_,h,_=>h.elim
theorem aS.drop:∀{xs:List α} {ys:List β} (i:Nat),aS R xs ys→aS R (xs.drop i) (ys.drop i)
 |xs,ys,0,h=>h
 | [],[],i+1,h=>trivial
 |_::_,_::_,i+1,h=>aS.drop i h.2
 | [],_::_,_,h=>h.elim
 |_::_,[],_,h=>h.elim
theorem aS.take:∀{xs:List α} {ys:List β} (i:Nat),aS R xs ys→aS R (xs.take i) (ys.take i)
 | [],[],0,h=>trivial
 |_::_,_::_,0,h=>trivial
 | [],[],i+1,h=>trivial
 |_::_,_::_,i+1,h=>⟨h.1,aS.take i h.2⟩
 | [],_::_,_,h=>h.elim
 |_::_,[],_,h=>h.elim
theorem aS.replicate {x:α}{y:β}(h:R x y):∀n,aS R (List.replicate n x) (List.replicate n y)
 |0=>trivial
 |n+1=>⟨h,aS.replicate h n⟩
end
inductive Key where
 |cell (a:Addr) |ref (h n:Nat)
instance:Coe Addr Key:=⟨Key.cell⟩
abbrev View:=Key→Value→Prop
def ail (v:Value):Prop:=∃a n c,v= .slice (some a) n c
def anl (v:Value):Prop:=∃a,v= .pointer (some a)
def apb (v:Value):Prop:=∃a,v= .map (some a)
def fnV:Nat→Value
 |0=> .nilFunc
 |f+1=> .func (.func f) #[] #[]
def Rel (V:View):(t:Ty)→t.den→List Value→Prop
 | .int k,x,cs=>cs=[.int k x]
 | .bool,x,cs=>cs=[.bool x]
 | .str,x,cs=>cs=[.string x]
 | .slice t,xs,cs=>∃(A:Option Addr) (c:Nat) (bQ:List (List Value)),cs=[.slice A (List.length xs) c]∧List.length xs≤c∧aS (Rel V t) xs bQ∧
   (A=none→c=0)∧∀j u,bQ.flatten[j]? =some u→∃ad,A=some ad∧V (ad.add j) u
 | .unit,_,cs=>cs=[]
 | .pair a b,x,cs=>∃c1 c2,cs=c1++c2∧Rel V a x.1 c1∧Rel V b x.2 c2
 | .st t,x,cs=>Rel V t x cs
 | .ref h,n,cs=>match (n:Nat) with
   |0=>cs=[.slice none 0 0]
   |m+1=>∃v,cs=[v]∧ail v∧V (.ref h (m+1)) v
 | .ptr h,n,cs=>match (n:Nat) with
   |0=>cs=[.pointer none]
   |m+1=>∃v,cs=[v]∧anl v∧V (.ref h (m+1)) v
 | .pg t,xs,cs=>match xs with
   |none=>cs=[.slice none 0 0]
   |some xs=>∃(ad:Addr) (c:Nat) (bQ:List (List Value)),cs=[.slice (some ad) (List.length xs) c]∧List.length xs≤c∧aS (Rel V t) xs bQ∧
    ∀j u,bQ.flatten[j]? =some u→V (ad.add j) u
 | .mp h,n,cs=>match (n:Nat) with
   |0=>cs=[.map none]
   |m+1=>∃v,cs=[v]∧apb v∧V (.ref h (m+1)) v
 | .fn,f,cs=>cs=[fnV f]
theorem Rel.mono {V V':View}(h:∀a v,V a v→V' a v):∀(t:Ty) (x:t.den) (cs:List Value),Rel V t x cs→Rel V' t x cs
 | .int k,x,cs,hr=>hr
 | .bool,x,cs,hr=>hr
 | .str,x,cs,hr=>hr
 | .slice t,xs,cs,⟨A,c,bQ,h1,h2,h3,h5,h4⟩=>⟨A,c,bQ,h1,h2,h3.mono (Rel.mono h t),h5,fun j u hj=>let ⟨ad,e,hv⟩:=h4 j u hj;⟨ad,e,h _ _ hv⟩⟩
 | .unit,_,cs,hr=>hr
 | .pair a b,x,cs,⟨c1,c2,e,h1,h2⟩=>⟨c1,c2,e,Rel.mono h a _ _ h1,Rel.mono h b _ _ h2⟩
 | .st t,x,cs,hr=>Rel.mono h t x cs hr
 | .ref _,0,_,hr=>hr
 | .ref _,_+1,_,⟨v,e,hs,hv⟩=>⟨v,e,hs,h _ _ hv⟩
 | .ptr _,0,_,hr=>hr
 | .ptr _,_+1,_,⟨v,e,hs,hv⟩=>⟨v,e,hs,h _ _ hv⟩
 | .mp _,0,_,hr=>hr
 | .mp _,_+1,_,⟨v,e,hs,hv⟩=>⟨v,e,hs,h _ _ hv⟩
 | .fn,_,_,hr=>hr
 | .pg t,none,cs,hr=>hr
 | .pg t,some xs,cs,⟨ad,c,bQ,h1,h2,h3,h4⟩=>⟨ad,c,bQ,h1,h2,h3.mono (Rel.mono h t),fun j u hj=>h _ _ (h4 j u hj)⟩
theorem Rel.length {V:View}:∀{t:Ty} {x:t.den} {cs:List Value},Rel V t x cs→cs.length=t.size
 | .int k,x,cs,hr=>by have:cs=_:=hr;subst this;rfl
 | .bool,x,cs,hr=>by have:cs=_:=hr;subst this;rfl
 | .str,x,cs,hr=>by have:cs=_:=hr;subst this;rfl
 | .slice t,xs,cs,⟨A,c,bQ,h1,_⟩=>by subst h1;rfl
 | .unit,_,cs,hr=>by have:cs=_:=hr;subst this;rfl
 | .pair a b,x,cs,⟨c1,c2,e,h1,h2⟩=>by subst e;simp[Ty.size,Rel.length h1,Rel.length h2]
 | .st t,x,cs,hr=>Rel.length (t:=t) hr
 | .ref _,0,cs,hr=>by have:cs=_:=hr;subst this;rfl
 | .ref _,_+1,_,⟨v,e,_⟩=>by subst e;rfl
 | .ptr _,0,cs,hr=>by have:cs=_:=hr;subst this;rfl
 | .ptr _,_+1,_,⟨v,e,_⟩=>by subst e;rfl
 | .mp _,0,cs,hr=>by have:cs=_:=hr;subst this;rfl
 | .mp _,_+1,_,⟨v,e,_⟩=>by subst e;rfl
 | .fn,_,cs,hr=>by have:cs=_:=hr;subst this;rfl
 | .pg t,none,cs,hr=>by have:cs=_:=hr;subst this;rfl
 | .pg t,some xs,cs,⟨ad,c,bQ,h1,_⟩=>by subst h1;rfl
abbrev CV:=(t:Ty)×t.den
def cw (V:View)(c:CV)(v:Value):Prop:=Rel V c.1 c.2 [v]
theorem cw.mono {V V':View}(h:∀a v,V a v→V' a v)(c:CV)(v:Value)(hr:cw V c v):cw V' c v:=Rel.mono h _ _ _ hr
def flat:(t:Ty)→t.den→List CV
 | .unit,_=>[]
 | .pair a b,x=>flat a x.1++flat b x.2
 | .st t,x=>flat t x
 | .int k,x=>[⟨.int k,x⟩]
 | .bool,x=>[⟨.bool,x⟩]
 | .str,x=>[⟨.str,x⟩]
 | .slice t,x=>[⟨.slice t,x⟩]
 | .ref h,x=>[⟨.ref h,x⟩]
 | .ptr h,x=>[⟨.ptr h,x⟩]
 | .pg t,x=>[⟨.pg t,x⟩]
 | .mp h,x=>[⟨.mp h,x⟩]
 | .fn,x=>[⟨.fn,x⟩]
theorem jv {V:View}:∀{t:Ty} {x:t.den} {cs:List Value},Rel V t x cs→aS (cw V) (flat t x) cs
 | .int k,x,cs,hr=>by have:cs=_:=hr;subst this;exact⟨hr,trivial⟩
 | .bool,x,cs,hr=>by have:cs=_:=hr;subst this;exact⟨hr,trivial⟩
 | .str,x,cs,hr=>by have:cs=_:=hr;subst this;exact⟨hr,trivial⟩
 | .slice t,xs,cs,hr=>by have h':=hr;obtain⟨A,c,bQ,h1,_⟩:=h';subst h1;exact⟨hr,trivial⟩
 | .unit,_,cs,hr=>by have:cs=_:=hr;subst this;trivial
 | .pair a b,x,cs,⟨c1,c2,e,h1,h2⟩=>by subst e;exact aS.append (jv h1) (jv h2)
 | .st t,x,cs,hr=>jv (t:=t) hr
 | .ref _,0,cs,hr=>by have:cs=_:=hr;subst this;exact⟨hr,trivial⟩
 | .ref _,_+1,_,⟨v,e,hv⟩=>by subst e;exact⟨⟨v,rfl,hv⟩,trivial⟩
 | .ptr _,0,cs,hr=>by have:cs=_:=hr;subst this;exact⟨hr,trivial⟩
 | .ptr _,_+1,_,⟨v,e,hv⟩=>by subst e;exact⟨⟨v,rfl,hv⟩,trivial⟩
 | .mp _,0,cs,hr=>by have:cs=_:=hr;subst this;exact⟨hr,trivial⟩
 | .mp _,_+1,_,⟨v,e,hv⟩=>by subst e;exact⟨⟨v,rfl,hv⟩,trivial⟩
 | .fn,x,cs,hr=>by have:cs=_:=hr;subst this;exact⟨hr,trivial⟩
 | .pg t,none,cs,hr=>by have:cs=_:=hr;subst this;exact⟨hr,trivial⟩
 | .pg t,some xs,cs,hr=>by have h':=hr;obtain⟨ad,c,bQ,h1,_⟩:=h';subst h1;exact⟨hr,trivial⟩
theorem jw {V:View}:∀{t:Ty} {x:t.den} {cs:List Value},aS (cw V) (flat t x) cs→Rel V t x cs
 | .int k,x,[v],h=>h.1
 | .bool,x,[v],h=>h.1
 | .str,x,[v],h=>h.1
 | .slice t,xs,[v],h=>h.1
 | .ref _,_,[v],h=>h.1
 | .ptr _,_,[v],h=>h.1
 | .pg _,_,[v],h=>h.1
 | .mp _,_,[v],h=>h.1
 | .fn,_,[v],h=>h.1
 | .pg _,_,[],h=>h.elim
 | .mp _,_,[],h=>h.elim
 | .fn,_,[],h=>h.elim
 | .pg _,_,_::_::_,h=>h.2.elim
 | .mp _,_,_::_::_,h=>h.2.elim
 | .fn,_,_::_::_,h=>h.2.elim
 | .ref _,_,[],h=>h.elim
 | .ptr _,_,[],h=>h.elim
 | .ref _,_,_::_::_,h=>h.2.elim
 | .ptr _,_,_::_::_,h=>h.2.elim
 | .int k,x,[],h=>h.elim
 | .bool,x,[],h=>h.elim
 | .str,x,[],h=>h.elim
 | .slice t,xs,[],h=>h.elim
 | .int k,x,_::_::_,h=>h.2.elim
 | .bool,x,_::_::_,h=>h.2.elim
 | .str,x,_::_::_,h=>h.2.elim
 | .slice t,xs,_::_::_,h=>h.2.elim
 | .unit,_,[],h=>rfl
 | .unit,_,_::_,h=>h.elim
 | .pair a b,x,cs,h=>by
   obtain⟨c1,c2,rfl,h1,h2⟩:=aS.split (xs:=flat a x.1) h
   exact⟨c1,c2,rfl,jw h1,jw h2⟩
 | .st t,x,cs,h=>jw (t:=t) h
def dJ (t:Ty):List CV→Option (t.den×List CV)
 | ⟨t',x⟩::r=>if h:t'=t then some (h ▸ x,r) else none
 | []=>none
def OM:(t:Ty)→List CV→Option (t.den×List CV)
 | .unit,l=>some ((),l)
 | .pair a b,l=>match OM a l with
   |some (x,l')=>match OM b l' with
    |some (y,l'')=>some ((x,y),l'')
    |none=>none
   |none=>none
 | .st t,l=>OM t l
 | .int k,l=>dJ (.int k) l
 | .bool,l=>dJ .bool l
 | .str,l=>dJ .str l
 | .slice t,l=>dJ (.slice t) l
 | .ref h,l=>dJ (.ref h) l
 | .ptr h,l=>dJ (.ptr h) l
 | .pg t,l=>dJ (.pg t) l
 | .mp h,l=>dJ (.mp h) l
 | .fn,l=>dJ .fn l
theorem cz {t:Ty}{l:List CV}{x:t.den}{r:List CV}(h:dJ t l=some (x,r)):l=⟨t,x⟩::r:=by
 cases l with
 |nil=>simp[dJ] at h
 |cons c l=>
  obtain⟨t',y⟩:=c
  simp only[dJ] at h
  split at h
  ·rename_i e
   subst e
   simp only[Option.some.injEq,Prod.mk.injEq] at h
   obtain⟨rfl,rfl⟩:=h
   rfl
  ·simp at h
theorem MI:∀{t:Ty} {l:List CV} {x:t.den} {r:List CV},OM t l=some (x,r)→l=flat t x++r
 | .unit,l,x,r,h=>by simp[OM] at h;simp[flat,h]
 | .pair a b,l,x,r,h=>by
   simp only[OM] at h
   split at h
   ·rename_i y l' h1
    split at h
    ·rename_i z l'' h2
     simp only[Option.some.injEq,Prod.mk.injEq] at h
     obtain⟨rfl,rfl⟩:=h
     rw[MI h1,MI h2]
     simp[flat]
    ·simp at h
   ·simp at h
 | .st t,l,x,r,h=>MI (t:=t) h
 | .int k,l,x,r,h=>cz h
 | .bool,l,x,r,h=>cz h
 | .str,l,x,r,h=>cz h
 | .slice t,l,x,r,h=>cz h
 | .ref _,l,x,r,h=>cz h
 | .ptr _,l,x,r,h=>cz h
 | .pg _,l,x,r,h=>cz h
 | .mp _,l,x,r,h=>cz h
 | .fn,l,x,r,h=>cz h
def DK (t:Ty)(l:List CV):Option t.den:=
 match OM t l with
 |some (x,[])=>some x
 |_=>none
theorem sC {t:Ty}{l:List CV}{x:t.den}(h:DK t l=some x):l=flat t x:=by
 unfold DK at h
 split at h
 ·rename_i y h1
  simp only[Option.some.injEq] at h
  subst h
  simpa using MI h1
 ·simp at h
def wrap (t:Ty)(cs:List Value):Value:=match t with
 | .st _=> .agg cs.toArray
 |_=>cs.headD undef
theorem U3 {V:View}{c:CV}{v:Value}(h:cw V c v):v.oneCell'=true:=by
 obtain⟨t,x⟩:=c
 unfold cw at h
 induction t with
 |int k=>have: [v]=_:=h;simp at this;subst this;rfl
 |bool=>have: [v]=_:=h;simp at this;subst this;rfl
 |str=>have: [v]=_:=h;simp at this;subst this;rfl
 |slice t ih=>obtain⟨A,c,bQ,h1,_⟩:=h;simp at h1;subst h1;rfl
 |unit=>have: [v]=_:=h;simp at this
 |pair a b iha Y5=>
  obtain⟨c1,c2,e,h1,h2⟩:=h
  cases c1 with
  |nil=>simp at e;subst e;exact Y5 _ h2
  |cons y ys=>
   simp at e
   obtain⟨rfl,h3⟩:=e
   obtain⟨rfl,rfl⟩:=h3
   exact iha _ h1
 |st t ih=>exact ih x h
 |ref _=>
  cases x with
  |zero=>have: [v]=_:=h;simp at this;subst this;rfl
  |succ m=>obtain⟨u,e,hs,_⟩:=h;simp at e;subst e;obtain⟨a,n,c,rfl⟩:=hs;rfl
 |ptr _=>
  cases x with
  |zero=>have: [v]=_:=h;simp at this;subst this;rfl
  |succ m=>obtain⟨u,e,hs,_⟩:=h;simp at e;subst e;obtain⟨a,rfl⟩:=hs;rfl
 |mp _=>
  cases x with
  |zero=>have: [v]=_:=h;simp at this;subst this;rfl
  |succ m=>obtain⟨u,e,hs,_⟩:=h;simp at e;subst e;obtain⟨a,rfl⟩:=hs;rfl
 |fn=>have: [v]=_:=h;simp at this;subst this;cases x<;>rfl
 |pg t ih=>
  cases x with
  |none=>have: [v]=_:=h;simp at this;subst this;rfl
  |some xs=>obtain⟨ad,c,bQ,h1,_⟩:=h;simp at h1;subst h1;rfl
theorem I4 {V:View}{c:CV}{v:Value}(h:cw V c v):v.cells= #[v]:=by
 have:=U3 h
 cases v<;>first |rfl | (simp[Value.oneCell'] at this)
end Go.Abs
namespace Go.Abs
structure Row where
 e:TypeId
 t:Ty
 xs:List t.den
inductive BX where
 |cells (l:List CV) |own (r:Nat) |nil
inductive J2 where
 |box (b:Nat) |qB (cs:List CV)
inductive RV where
 |cv (c:CV) |agg (cs:List CV) |own (r:Nat)
inductive AV where
 |rv (x:RV)
 |lit (v:Value)
 |box (b off:Nat)
 |Qe (r sz i off:Nat)
 |qB (cs:List CV)
 |hel (h n i off:Nat)
 |fn (f:FuncId) (bj:List J2)
 |N3
 |tup (l:List RV)
 |nil
structure fT where
 n:Nat
 l:List (Nat×AV)
 s:List (Nat×AV)
structure bK where
 e:TypeId
 t:Ty
 k:Nat
 w:Bool
 xs:List (Option (List t.den))
@[reducible] def kI:List Ty→Ty
  | []=> .unit
  |t::ts=> .pair t (kI ts)
structure Rng where
 ts:List Ty
 xs:List (kI ts).den
inductive Site where
 |pg |heap (h:Nat) |vid (v:Nat)
structure AS where
 tmps:fT
 rows:List (Nat×Row)
 boxes:List (Nat×BX)
 ag:List bK
 trace:CV
 cU:List Rng
 sites:List (Nat×Site)
structure gJ where
 id:TypeId
 ty:Ty
 bytes:Nat
 elem:TypeId
 sD:List (Nat×Nat)
 arr:Bool
@[reducible] def uv:List Ty→Type
  | []=>Unit
  | [a]=>a.den
  |a::b::r=>a.den×uv (b::r)
inductive oX where
 |v (t:Ty) |fn (f:FuncId) (ts:List Ty) |c (l:List CV) |rp (t:Ty) |bx (t:Ty) |N3
@[reducible] def oX.den:oX→Type
  | .v t=>t.den
  | .fn _ ts=>uv ts
  | .c _=>Unit
  | .rp t=>t.den
  | .bx t=>t.den
  | .N3=>Unit
@[reducible] def I5:List oX→Type
  | []=>Unit
  | [a]=>a.den
  |a::b::r=>a.den×I5 (b::r)
abbrev ON:=Ty×Option TypeId
structure KX where
 args:List oX
 res:List ON
 clo:Option (FuncId×List Ty)
 ag:List (Nat×Bool)
 gen:Option (List Ty)
@[reducible] def OO (s:KX):Type:=match s.gen with
  |some ts=>List (kI ts).den
  |none=>match s.clo with
   |some (_,ts)=>uv ts
   |none=>uv (s.res.map (·.1))
structure HT where
 e:TypeId
 t:Ty
 k:Nat
structure c9 where
 rows:List gJ
 ag:List HT
 real:Nat→FuncId
 sig:Nat→KX
 ak5:FuncId→List Nat
 hint:Nat→List (List (Nat×Bool))
 sites:Nat→List (Nat×Site)
 amB:List (Nat×AV)
 eqs:List TypeId
def kh:List gJ→TypeId→Option gJ
 | [],_=>none
 |r::rs,t=>bif Nat.beq r.id t then some r else kh rs t
def c9.ht (T:c9)(h:Nat):HT:=(T.ag[h]?).getD ⟨0, .unit,0⟩
@[reducible] def HX (T:c9)(h:Nat):Type:=List (Option (List (T.ht h).t.den))
@[reducible] def GW (T:c9):List Nat→Type
  | []=>Unit
  | [h]=>HX T h
  |h::i::r=>HX T h×GW T (i::r)
@[reducible] def Qf (T:c9)(A:Type):List Nat→Type
  | []=>A
  |h::r=>A×GW T (h::r)
@[reducible] def KX.hin (s:KX):List Nat:=s.ag.map (·.1)
@[reducible] def KX.hout (s:KX):List Nat:=(s.ag.filter (·.2)).map (·.1)
@[reducible] def D2 (T:c9)(v:Nat):Type:=Qf T (I5 (T.sig v).args) (T.sig v).hin
@[reducible] def Ak (T:c9)(v:Nat):Type:=Qf T (OO (T.sig v)) (T.sig v).hout
abbrev cd (T:c9):=(v:Nat)→D2 T v→Option (Ak T v)
def KY {T:c9}{A:Type}(x:A):(hs:List Nat)→Option (GW T hs)→Option (Qf T A hs)
 | [],_=>some x
 |_::_,some h=>some (x,h)
 |_::_,none=>none
def xZ {T:c9}{A:Type}:(hs:List Nat)→Qf T A hs→A
 | [],x=>x
 |_::_,x=>x.1
def GX {T:c9}{A:Type}:(hs:List Nat)→Qf T A hs→GW T hs
 | [],x=>()
 |_::_,x=>x.2
def S9 {s t:Ty}(h:s=t)(xs:List (Option (List s.den))):List (Option (List t.den)):=h ▸ xs
def ae1 (T:c9)(ag:List bK)(h:Nat):Option (HX T h):=match ag[h]? with
 |some r=>if e:r.t=(T.ht h).t then some (S9 e r.xs) else none
 |none=>none
def OP (T:c9)(ag:List bK):(hs:List Nat)→Option (GW T hs)
 | []=>some ()
 | [h]=>ae1 T ag h
 |h::i::r=>match ae1 T ag h with
  |some x=>match OP T ag (i::r) with
   |some y=>some (x,y)
   |none=>none
  |none=>none
def u9 (T:c9)(w:Bool)(ag:List bK)(h:Nat)(x:HX T h):List bK:=ag.set h ⟨(T.ht h).e,(T.ht h).t,(T.ht h).k,w,x⟩
def sx (T:c9)(wr:List Nat):(hs:List Nat)→GW T hs→List bK→List bK
 | [],_,ag=>ag
 | [h],x,ag=>u9 T (wr.any (Nat.beq h)) ag h x
 |h::i::r,x,ag=>sx T wr (i::r) x.2 (u9 T (wr.any (Nat.beq h)) ag h x.1)
def eM (T:c9):List bK:=T.ag.map fun h=>⟨h.e,h.t,h.k,true,[]⟩
def look {α:Type}:List (Nat×α)→Nat→Option α
 | [],_=>none
 | (k,v)::r,j=>bif Nat.beq k j then some v else look r j
def put {α:Type}:List (Nat×α)→Nat→α→List (Nat×α)
 | [],j,v=>[(j,v)]
 | (k,u)::r,j,v=>bif Nat.blt j k then (j,v)::(k,u)::r else bif Nat.beq k j then (j,v)::r else (k,u)::put r j v
def del {α:Type}:List (Nat×α)→Nat→List (Nat×α)
 | [],_=>[]
 | (k,u)::r,j=>bif Nat.beq k j then del r j else (k,u)::del r j
def OQ {α:Type}:List (Nat×α)→Nat→α→List (Nat×α)
 | [],j,v=>[(j,v)]
 | (k,u)::r,j,v=>bif Nat.blt k j then (j,v)::(k,u)::r else bif Nat.beq k j then (j,v)::r else (k,u)::OQ r j v
def ak6 {α:Type}:List (Nat×α)→Nat→α→List (Nat×α)
 | [],_,_=>[]
 | (k,u)::r,j,v=>bif Nat.beq k j then (k,v)::r else (k,u)::ak6 r j v
def af {α:Type}(xs:List (Option (List α))):Nat→Option (List α)
 |0=>some []
 |m+1=>match xs[m]? with
  |some o=>o
  |none=>none
def b9 {α:Type}(xs:List (Option (List α))):Nat→List α→List (Option (List α))
 |0,_=>xs
 |m+1,l=>xs.set m (some l)
def ix {α:Type}(xs:List (Option (List α))):Nat→List (Option (List α))
 |0=>xs
 |m+1=>xs.set m none
def hk (h:Nat):Nat:=4*(1000000000+h)
def gk (g:Nat):Nat:=1000000000+g
def nth (s:fT)(i:Nat):AV:=
 match look s.l i with
 |some x=>x
 |none=> .nil
def FK (s:fT)(i:Nat)(v:AV):fT:=bif Nat.blt i s.n then ⟨s.n,OQ s.l i v,s.s⟩ else s
def W8 (f:AV→AV)(l:List (Nat×AV)):List (Nat×AV):=l.map fun p=>(p.1,f p.2)
def fT.map (f:AV→AV)(s:fT):fT:=⟨s.n,W8 f s.l,W8 f s.s⟩
def aim {α:Type}:Nat→List α→List (Nat×α)→List (Nat×α)
 |_,[],acc=>acc
 |i,x::r,acc=>aim (i+1) r ((i,x)::acc)
def fT.of (l:List AV)(m:Nat)(s:List (Nat×AV)):fT:=⟨l.length+m,aim 0 l [],s⟩
def ofConst:Value→AV
 | .int k n=> .rv (.cv ⟨.int k,n⟩)
 | .bool b=> .rv (.cv ⟨.bool,b⟩)
 | .string s=> .rv (.cv ⟨.str,s⟩)
 |v=> .lit v
def fT.av (s:fT):Operand→AV
 | .tmp t=>nth s t
 | .const v=>ofConst v
 | .func f=> .fn f []
 | .global g=>match look s.s (gk g) with
   |some x=>x
   |none=> .nil
abbrev AS.av (σ:AS)(x:Operand):AV:=σ.tmps.av x
def AS.jO (σ:AS)(d:Option Tmp)(v:AV):AS:=
 match d with
 |some d=>{σ with tmps:=FK σ.tmps d v}
 |none=>σ
def idx {α:Type}(xs:List α)(i:Int):Option α:=
 match i with
 | .ofNat n=>xs[n]?
 | .negSucc _=>none
def uw (s:ByteArray)(i:Int):Option Int:=
 match i with
 | .ofNat n=>s[n]?.map fun b=>(b.toNat:Int)
 | .negSucc _=>none
def dN (n:Nat)(l h:Int):Bool:=decide (0≤l)&&decide (l≤h)&&decide (h≤n)
def cut {α:Type}(xs:List α)(l h:Int):List α:=(xs.take h.toNat).drop l.toNat
def bytesOf (s:ByteArray):List Int:=s.data.toList.map fun b=>(b.toNat:Int)
def strOf (xs:List Int):ByteArray:=⟨(xs.map fun n=>UInt8.ofNat n.toNat).toArray⟩
def de:(t:Ty)→List Value→Option (List CV×List Value)
 | .unit,l=>some ([],l)
 | .pair a b,l=>match de a l with
   |some (x,l')=>match de b l' with
    |some (y,l'')=>some (x++y,l'')
    |none=>none
   |none=>none
 | .st t,l=>de t l
 | .int k, .int k' n::l=>if k=k' then some ([⟨.int k,n⟩],l) else none
 | .bool, .bool b::l=>some ([⟨.bool,b⟩],l)
 | .str, .string s::l=>some ([⟨.str,s⟩],l)
 | .slice t, .slice none 0 0::l=>some ([⟨.slice t,([]:List t.den)⟩],l)
 | .ref h, .slice none 0 0::l=>some ([⟨.ref h,(0:Nat)⟩],l)
 | .ptr h, .pointer none::l=>some ([⟨.ptr h,(0:Nat)⟩],l)
 | .mp h, .map none::l=>some ([⟨.mp h,(0:Nat)⟩],l)
 | .pg t, .slice none 0 0::l=>some ([⟨.pg t,(none:Option (List t.den))⟩],l)
 | .fn, .nilFunc::l=>some ([⟨.fn,(0:Nat)⟩],l)
 |_,_=>none
def cells (t:Ty):AV→Option (List CV)
 | .rv (.cv c)=>some [c]
 | .rv (.agg cs)=>some cs
 | .lit v=>match de t v.cells.toList with
   |some (cs,[])=>some cs
   |_=>none
 |_=>none
def lst {α:Type}:Option (List α)→List α
 |some xs=>xs
 |none=>[]
def mP {α β:Type}(f:α→Option β):List α→Option (List β)
 | []=>some []
 |x::r=>match f x with
  |some y=>match mP f r with
   |some l=>some (y::l)
   |none=>none
  |none=>none
def OR (ag:List bK)(t:Ty)(f:(u:Ty)→u.den→Option t.den):List CV→Option (List t.den×List CV)
 | ⟨.ref h,n⟩::l=>bif Nat.beq n 0 then some ([],l) else match ag[h]? with
   |some hr=>(af hr.xs n).bind fun ys=>(mP (f hr.t) ys).bind fun xs=>some (xs,l)
   |none=>none
 | ⟨.pg t',o⟩::l=>(dJ (.slice t) [⟨.slice t',lst o⟩]).map fun p=>(p.1,l)
 |l=>dJ (.slice t) l
def Y6 (t:Ty):List CV→Option (Option (List t.den)×List CV)
 | ⟨.slice t',xs⟩::l=>match (xs:List t'.den) with
   | []=>none
   |x::xs=>(dJ (.pg t) [⟨.pg t',some (x::xs)⟩]).map fun p=>(p.1,l)
 |l=>dJ (.pg t) l
def snap (ag:List bK):(t:Ty)→List CV→Option (t.den×List CV)
 | .unit,l=>some ((),l)
 | .pair a b,l=>match snap ag a l with
   |some (x,l')=>match snap ag b l' with
    |some (y,l'')=>some ((x,y),l'')
    |none=>none
   |none=>none
 | .st t,l=>snap ag t l
 | .slice t,l=>OR ag t (fun u y=>match snap ag t (flat u y) with
   |some (x,[])=>some x
   |_=>none) l
 | .pg t,l=>Y6 t l
 | .int k,l=>dJ (.int k) l
 | .bool,l=>dJ .bool l
 | .str,l=>dJ .str l
 | .ref h,l=>dJ (.ref h) l
 | .ptr h,l=>dJ (.ptr h) l
 | .mp h,l=>dJ (.mp h) l
 | .fn,l=>dJ .fn l
def va (ag:List bK)(t:Ty)(l:List CV):Option t.den:=match snap ag t l with
 |some (x,[])=>some x
 |_=>none
def typed (ag:List bK)(t:Ty)(a:AV):Option t.den:=
 match t,a with
 | .st t, .rv (.agg cs)=>va ag t cs
 | .st t, .lit (.agg vs)=>match de t vs.toList with
   |some (cs,[])=>DK t cs
   |_=>none
 | .st _,_=>none
 |t, .rv (.cv c)=>va ag t [c]
 |t, .lit v=>match de t [v] with
  |some ([c],[])=>(dJ t [c]).map (·.1)
  |_=>none
 |_,_=>none
def Y7 (t:Ty):List CV:=flat t t.zero
def I6 (cs:List CV)(off:Nat)(vs:List CV):List CV:=cs.take off++vs++cs.drop (off+vs.length)
def nJ (t:Ty)(cs:List CV):Option AV:=
 match t with
 | .st t=>bif Nat.ble t.size cs.length then some (.rv (.agg (cs.take t.size))) else none
 |_=>match cs with
  |c::_=>some (.rv (.cv c))
  | []=>none
def RV.vX (r:Nat)(c:CV):RV→RV
 | .own r'=>bif Nat.beq r' r then .cv c else .own r'
 |x=>x
def AV.vX (r:Nat)(c:CV):AV→AV
 | .rv x=> .rv (x.vX r c)
 | .Qe r' sz i off=>bif Nat.beq r' r then .nil else .Qe r' sz i off
 | .tup l=> .tup (l.map (RV.vX r c))
 |x=>x
def BX.vX (r:Nat)(c:CV):BX→BX
 | .own r'=>bif Nat.beq r' r then .cells [c] else .own r'
 |x=>x
def KZ (f:BX→BX)(l:List (Nat×BX)):List (Nat×BX):=l.map fun p=>(p.1,f p.2)
def AS.freeze (σ:AS)(r:Nat):AS:=
 match look σ.rows r with
 |none=>σ
 |some row=>{σ with tmps:=σ.tmps.map (AV.vX r ⟨.slice row.t,row.xs⟩),rows:=del σ.rows r,boxes:=KZ (BX.vX r ⟨.slice row.t,row.xs⟩) σ.boxes}
def AS.frz (σ:AS)(x:Operand):AS:=
 match σ.av x with
 | .rv (.own r)=>σ.freeze r
 |_=>σ
def AS.ya (σ:AS):List Operand→AS
 | []=>σ
 |x::xs=>(σ.frz x).ya xs
def RV.ren (r d:Nat):RV→RV
 | .own r'=> .own (bif Nat.beq r' r then d else r')
 |x=>x
def AV.ren (r d:Nat):AV→AV
 | .rv x=> .rv (x.ren r d)
 | .Qe r' sz i off=> .Qe (bif Nat.beq r' r then d else r') sz i off
 | .tup l=> .tup (l.map (RV.ren r d))
 |x=>x
def BX.ren (r d:Nat):BX→BX
 | .own r'=> .own (bif Nat.beq r' r then d else r')
 |x=>x
def AS.rename (σ:AS)(r d:Nat):AS:=
 match look σ.rows r with
 |none=>σ
 |some row=>{σ with tmps:=σ.tmps.map (AV.ren r d),rows:=put (del σ.rows r) d row,boxes:=KZ (BX.ren r d) σ.boxes}
def RV.zO (r:Nat):RV→Bool
 | .own r'=>Nat.beq r r'
 |_=>false
def J2.apc (b:Nat):J2→Bool
 | .box b'=>Nat.beq b b'
 |_=>false
def AV.fU (r:Nat):AV→Bool
 | .rv x=>x.zO r
 | .Qe r' _ _ _=>Nat.beq r r'
 | .tup l=>l.any (RV.zO r)
 |_=>false
def AV.mQ (b:Nat):AV→Bool
 | .box b' _=>Nat.beq b b'
 | .fn _ bj=>bj.any (J2.apc b)
 |_=>false
def BX.fU (r:Nat):BX→Bool
 | .own r'=>Nat.beq r r'
 |_=>false
def AV.bL (r:Nat)(x:AV):AV:=bif x.fU r then .nil else x
def AV.eQ (b:Nat)(x:AV):AV:=bif x.mQ b then .nil else x
def BX.bL (r:Nat)(x:BX):BX:=bif x.fU r then .nil else x
def AS.bL (σ:AS)(r:Nat):AS:={σ with tmps:=σ.tmps.map (AV.bL r),rows:=del σ.rows r,boxes:=KZ (BX.bL r) σ.boxes}
def AS.eQ (σ:AS)(b:Nat):AS:={σ with tmps:=σ.tmps.map (AV.eQ b),boxes:=del σ.boxes b}
def ain (l:List (Nat×AV))(h:List (Nat×Bool)):List (Nat×AV):=l.filter fun x=>h.any fun p=>Nat.beq p.1 x.1
def AS.share (σ:AS):List (Nat×Bool)→AS
 | []=>σ
 | (j,true)::h=>(σ.frz (.tmp j)).share h
 | (_,false)::h=>σ.share h
def AS.forget (σ0:AS)(h:List (Nat×Bool)):AS:=
 let σ:=σ0.share h
 let l:=ain σ.tmps.l h
 let bs:=σ.boxes.filter fun p=>l.any (fun q=>q.2.mQ p.1)||σ.tmps.s.any fun q=>q.2.mQ p.1
 {σ with tmps:=⟨σ.tmps.n,l,σ.tmps.s⟩,rows:=σ.rows.filter fun p=>(l.any fun q=>q.2.fU p.1)||(σ.tmps.s.any fun q=>q.2.fU p.1)||bs.any fun q=>q.2.fU p.1,boxes:=bs}
def AS.save (σ:AS):AS:={σ with tmps:=⟨σ.tmps.n,σ.tmps.l,(σ.tmps.l.map fun p=>(p.1+10000*σ.cU.length,p.2))++σ.tmps.s⟩}
def lJ (d k:Nat):Bool:=Nat.ble (10000*d) k&&Nat.blt k (10000*(d+1))
def AS.back (σ:AS):AS:={σ with tmps:=⟨σ.tmps.n,(σ.tmps.s.filter fun p=>lJ σ.cU.length p.1).map fun p=>(p.1 - 10000*σ.cU.length,p.2),σ.tmps.s⟩}
def AS.D3 (σ:AS):AS:={σ with tmps:=⟨σ.tmps.n,σ.tmps.l,σ.tmps.s.filter fun p=> !(lJ σ.cU.length p.1)⟩}
inductive np where
 |M (rd wr:List Nat) |X
def np.rd (k:Nat):np→np
 | .M r w=> .M (k::r) w
 | .X=> .X
inductive TU where
 |row (q:Nat) (r:Row)
 |K0 (q:Nat) (r:Row)
 |box (b:Nat) (x:BX)
 |heap (h:Nat) (r:bK)
def TU.keys:TU→List Nat
 | .row q _=>[4*q,4*q+2]
 | .K0 q _=>[4*q]
 | .box b _=>[2*b+1]
 | .heap h _=>[hk h]
def AS.one (σ:AS):TU→AS
 | .row q r=>{σ with rows:=put σ.rows q r}
 | .K0 q r=>{σ with rows:=put σ.rows q r}
 | .box b x=>{σ with boxes:=put σ.boxes b x}
 | .heap h r=>{σ with ag:=σ.ag.set h r}
def AS.app (σ:AS):List TU→AS
 | []=>σ
 |u::us=>(σ.one u).app us
def aaP (us:List TU):List Nat:=us.flatMap TU.keys
inductive Eff where
 |mw (us:List TU)
 |set (σ:AS)
inductive Q (T:c9) (α:Type):Type 1 where
 |ret (a:α)
 |fail
 |opt {β:Type} (o:Option β) (k:β→Q T α)
 |iN (b:Bool) (k:Q T α)
 |ite (b:Bool) (x y:Q T α)
 |row (q:Nat) (k:Row→Q T α)
 |len (q:Nat) (k:Nat→Q T α)
 |box (b:Nat) (k:BX→Q T α)
 |heap (h:Nat) (k:bK→Q T α)
 |rU (q:Nat) (k:Q T α)
 |rV (b:Nat) (k:Q T α)
 |call (v:Nat) (x:D2 T v) (k:Ak T v→Q T α)
 |all (k:AS→Q T α)
 |on (σ:AS) (k:Q T α)
section
variable {R:Type}{T:c9}
def Q.run {α:Type}(Φ:cd T)(σ:AS):Q T α→np→(np→α→Option R)→Option R
 | .ret a,c,k=>k c a
 | .fail,_,_=>none
 | .opt o q,c,k=>o.bind fun y=>(q y).run Φ σ c k
 | .iN b q,c,k=>bif b then q.run Φ σ c k else none
 | .ite b x y,c,k=>bif b then x.run Φ σ c k else y.run Φ σ c k
 | .row r q,c,k=>match look σ.rows r with
   |some x=>(q x).run Φ σ (c.rd (4*r)) k
   |none=>none
 | .len r q,c,k=>match look σ.rows r with
   |some x=>(q (List.length x.xs)).run Φ σ (c.rd (4*r+2)) k
   |none=>none
 | .box b q,c,k=>match look σ.boxes b with
   |some x=>(q x).run Φ σ (c.rd (2*b+1)) k
   |none=>none
 | .heap h q,c,k=>match σ.ag[h]? with
   |some x=>(q x).run Φ σ (c.rd (hk h)) k
   |none=>none
 | .rU r q,c,k=>match look σ.rows r with
   |none=>q.run Φ σ (c.rd (4*r)) k
   |some _=>none
 | .rV b q,c,k=>match look σ.boxes b with
   |none=>q.run Φ σ (c.rd (2*b+1)) k
   |some _=>none
 | .call v x q,c,k=>(Φ v x).bind fun y=>(q y).run Φ σ c k
 | .all q,_,k=>(q σ).run Φ σ .X k
 | .on σ' q,_,k=>q.run Φ σ' .X k
def Q.map {α β:Type}(f:α→β):Q T α→Q T β
 | .ret a=> .ret (f a)
 | .fail=> .fail
 | .opt o q=> .opt o fun y=>(q y).map f
 | .iN b q=> .iN b (q.map f)
 | .ite b x y=> .ite b (x.map f) (y.map f)
 | .row r q=> .row r fun y=>(q y).map f
 | .len r q=> .len r fun y=>(q y).map f
 | .box r q=> .box r fun y=>(q y).map f
 | .heap r q=> .heap r fun y=>(q y).map f
 | .rU r q=> .rU r (q.map f)
 | .rV r q=> .rV r (q.map f)
 | .call v x q=> .call v x fun y=>(q y).map f
 | .all q=> .all fun y=>(q y).map f
 | .on σ q=> .on σ (q.map f)
abbrev cS:=AV×Eff
def ade (op:BinOp)(a b:Int):Option Bool:=
 match op with
 | .eql=>some (a==b)
 | .neq=>some (a != b)
 | .lss=>some (decide (a<b))
 | .leq=>some (decide (a≤b))
 | .gtr=>some (decide (a>b))
 | .geq=>some (decide (a≥b))
 |_=>none
def Y8 (op:BinOp)(x y:ByteArray):Option Bool:=
 match op with
 | .eql=>some (x.toList==y.toList)
 | .neq=>some (!(x.toList==y.toList))
 | .lss=>some (Op.bytesLess x.toList y.toList)
 | .leq=>some (Op.bytesLess x.toList y.toList||x.toList==y.toList)
 | .gtr=>some (!(Op.bytesLess x.toList y.toList||x.toList==y.toList))
 | .geq=>some (!(Op.bytesLess x.toList y.toList))
 |_=>none
def bits (op:BinOp)(i:IntKind)(a b:Int):Int:=match op with
 | .and=>i.wrap (BitVec.ofInt i.bits a&&& BitVec.ofInt i.bits b).toNat
 | .or=>i.wrap (BitVec.ofInt i.bits a|||BitVec.ofInt i.bits b).toNat
 | .xor=>i.wrap (BitVec.ofInt i.bits a^^^BitVec.ofInt i.bits b).toNat
 |_=>i.wrap (BitVec.ofInt i.bits a&&& ~~~ BitVec.ofInt i.bits b).toNat
def shl (i:IntKind)(a b:Int):Int:=i.wrap (a*2^(min b.toNat i.bits))
def shr (i:IntKind)(a b:Int):Int:=a.fdiv (2^(min b.toNat i.bits))
def zP:(t:Ty)→t.den→t.den→Bool
 | .int _,a,b=>(a:Int)==b
 | .bool,a,b=>(a:Bool)==b
 | .str,a,b=>(a:ByteArray).toList==(b:ByteArray).toList
 | .pair s t,a,b=>zP s a.1 b.1&&zP t a.2 b.2
 | .st t,a,b=>zP t a b
 | .unit,_,_=>true
 |_,_,_=>false
def Y9:Ty→Bool
 | .int _ | .bool | .str | .unit=>true
 | .pair a b=>Y9 a&&Y9 b
 | .st t=>Y9 t
 |_=>false
def J3:Ty→Bool
 | .int _ | .bool | .str | .unit | .fn=>true
 | .pair a b=>J3 a&&J3 b
 | .st t=>J3 t
 |_=>false
def GY:Ty→Bool
 | .slice _ | .pg _=>false
 | .pair a b=>GY a&&GY b
 | .st t=>GY t
 |_=>true
def fp (hs:List Nat):Ty→Bool
 | .ref h | .ptr h | .mp h=>hs.any (Nat.beq h)
 | .slice t | .pg t | .st t=>fp hs t
 | .pair a b=>fp hs a&&fp hs b
 |_=>true
def adW (T:c9)(s:KX):Bool:=s.clo.isNone&&(s.hout.all fun h=>GY (T.ht h).t)&&match s.gen with
 |some ts=>ts.all J3
 |none=>s.res.all fun p=>match p.1,p.2 with
  | .slice t,some _=>GY t
  |t,none=>GY t
  |_,_=>false
def UL (hs:List Nat):oX→Bool
 | .v t | .rp t | .bx t=>fp hs t
 | .fn _ ts=>ts.all (fp hs)
 | .c cs=>cs.all fun c=>fp hs c.1
 | .N3=>true
def J4 (T:c9)(s:KX):Bool:=s.args.all (UL s.hin)&&(s.hin.all fun h=>fp s.hin (T.ht h).t)&&((s.res.all fun p=>fp s.hin p.1)&&(match s.clo with |some (_,ts)=>ts.all (fp s.hin) |none=>true)&&match s.gen with
 |some ts=>ts.all J3&&s.ag.isEmpty
 |none=>true)
def pv (z:AV):Q T cS:= .ret (z, .mw [])
def FL (t:Ty)(x:t.den):Q T cS:=pv (.rv (.cv ⟨t,x⟩))
def kr {α:Type}(f:α→Q T cS):Option α→Q T cS
 |some x=>f x
 |none=> .fail
def af8 (op:BinOp)(x y:AV):Q T cS:=
 match x,y with
 | .rv (.cv ⟨.int i,a⟩), .rv (.cv ⟨.int j,b⟩)=>
   match op with
   | .shl=> .iN (decide (0≤b)) (FL (.int i) (shl i a b))
   | .shr=> .iN (decide (0≤b)) (FL (.int i) (shr i a b))
   |op=>if i=j then match op with
    | .add=>FL (.int i) (i.wrap (a+b))
    | .sub=>FL (.int i) (i.wrap (a - b))
    | .mul=>FL (.int i) (i.wrap (a*b))
    | .quo=> .iN (!(b==0)) (FL (.int i) (i.wrap (a.tdiv b)))
    | .rem=> .iN (!(b==0)) (FL (.int i) (a.tmod b))
    | .and=>FL (.int i) (bits .and i a b)
    | .or=>FL (.int i) (bits .or i a b)
    | .xor=>FL (.int i) (bits .xor i a b)
    | .andNot=>FL (.int i) (bits .andNot i a b)
    |op=>kr (fun c=>FL .bool c) (ade op a b)
    else .fail
 | .rv (.cv ⟨.str,a⟩), .rv (.cv ⟨.str,b⟩)=>
   match op with
   | .add=> .iN (Nat.ble (a.size+b.size) 9223372036854775807) (FL .str (a++b))
   |_=>kr (fun c=>FL .bool c) (Y8 op a b)
 |_,_=> .fail
def eqV (op:BinOp)(b:Bool):Q T cS:=match op with
 | .eql=>FL .bool b
 | .neq=>FL .bool (!b)
 |_=> .fail
def af9 (op:BinOp)(x y:AV):Q T cS:=
 match x,y with
 | .rv (.cv ⟨.bool,a⟩), .rv (.cv ⟨.bool,b⟩)=>eqV op (a==b)
 |_,_=> .fail
def aga (ty:Ty)(op:BinOp)(x y:AV):Q T cS:=
 match ty,x,y with
 | .slice _, .rv (.cv ⟨.ref _,n⟩), .lit (.slice none 0 0)=>eqV op (Nat.beq n 0)
 | .ptr _, .rv (.cv ⟨.ptr _,n⟩), .lit (.pointer none)=>eqV op (Nat.beq n 0)
 | .mp _, .rv (.cv ⟨.mp _,n⟩), .lit (.map none)=>eqV op (Nat.beq n 0)
 | .slice _, .rv (.cv ⟨.pg t,o⟩), .lit (.slice none 0 0)=>eqV op (Option.isNone (α:=List t.den) o)
 |_,_,_=> .fail
def aio (t:Ty)(op:BinOp)(x y:AV):Q T cS:=
 match typed [] (.st t) x,typed [] (.st t) y with
 |some a,some b=> .iN (Y9 t) (eqV op (zP t a b))
 |_,_=> .fail
def co:AV→AV
 | .rv (.cv ⟨.pg t,o⟩)=> .rv (.cv ⟨.slice t,(lst o:List t.den)⟩)
 |a=>a
def agb (ty:Ty)(x:AV):Q T cS:=
 match ty,co x with
 | .slice _, .rv (.cv ⟨.slice t,xs⟩)=>FL (.int .i64) (List.length xs:Int)
 | .str, .rv (.cv ⟨.str,s⟩)=>FL (.int .i64) (s.size:Int)
 | .slice _, .rv (.own r)=> .len r fun n=>FL (.int .i64) (n:Int)
 | .slice _, .lit (.slice none 0 0)=>FL (.int .i64) (0:Int)
 | .slice _, .rv (.cv ⟨.ref h,n⟩)=> .heap h fun hr=> .opt (af hr.xs n) fun l=>FL (.int .i64) (List.length l:Int)
 |_,_=> .fail
def jx (av:Operand→AV)(d:Int):Option Operand→Option Int
 |none=>some d
 |some x=>match av x with
  | .rv (.cv ⟨.int _,n⟩)=>some n
  |_=>none
def XO (rows:List gJ)(t:TypeId)(x:AV):Q T cS:=match kh rows t with
 |none=> .fail
 |some r=>match x with
  | .box b off=> .box b fun bx=>match bx with
    | .cells cs=>kr pv (nJ r.ty (cs.drop off))
    | .own q=>match r.ty with
      | .slice _=> .iN (Nat.beq off 0) (pv (.rv (.own q)))
      |_=> .fail
    | .nil=> .fail
  | .Qe q sz i off=> .row q fun row=> .opt (row.xs[i]?) fun x=>kr pv (nJ r.ty ((flat row.t x).drop off))
  | .qB cs=>kr pv (nJ r.ty cs)
  | .hel h n i off=> .heap h fun hr=> .opt (af hr.xs n) fun l=> .opt (l[i]?) fun x=>kr pv (nJ r.ty ((flat hr.t x).drop off))
  | .rv (.cv ⟨.ptr h,n⟩)=> .heap h fun hr=> .opt (af hr.xs n) fun l=> .opt (l[0]?) fun x=>kr pv (nJ r.ty (flat hr.t x))
  |_=> .fail
def N4 (rows:List gJ)(ty:TypeId)(x:AV):Q T cS:=match x with
 | .lit v=>match kh rows ty with
   |some r=>match r.ty with
    | .st t=>match v with
      | .agg vs=>match de t vs.toList with
        |some (cs,[])=>pv (.rv (.agg cs))
        |_=> .fail
      |_=> .fail
    |_=>pv (.lit v)
   |none=> .fail
 | .nil=> .fail
 |a=>pv a
def partsOf (av:Operand→AV)(sD:List (Nat×Nat)):List (Nat×Operand)→List CV→Option (List CV)
 | [],cs=>some cs
 | (i,x)::r,cs=>match sD[i]? with
   |some (off,size)=>match av x with
    | .rv (.cv c)=>bif Nat.beq size 1&&Nat.blt off cs.length then partsOf av sD r (I6 cs off [c]) else none
    | .rv (.agg vs)=>bif Nat.beq size vs.length&&Nat.ble (off+vs.length) cs.length then partsOf av sD r (I6 cs off vs) else none
    |_=>none
   |none=>none
def elems (av:Operand→AV)(t:Ty):List (Nat×Operand)→List t.den→Option (List t.den)
 | [],xs=>some xs
 | (i,x)::r,xs=>match typed [] t (av x) with
   |some v=>bif Nat.blt i xs.length then elems av t r (xs.set i v) else none
   |none=>none
def RQ (rows:List gJ)(t:TypeId)(x i:AV):Q T cS:=match kh rows t with
 |some r=>match i with
  | .rv (.cv ⟨.int _,n⟩)=>match r.ty,co x with
    | .slice u, .rv (.cv ⟨.slice u',xs⟩)=> .iN (Nat.beq u.size u'.size) (.opt (idx xs n) fun y=>pv (.qB (flat u' y)))
    | .slice u, .rv (.own q)=> .row q fun row=> .iN (Nat.beq u.size row.t.size) (.opt (idx row.xs n) fun _=>pv (.Qe q row.t.size n.toNat 0))
    | .slice u, .rv (.cv ⟨.ref h,m⟩)=> .heap h fun hr=> .iN (Nat.beq u.size hr.t.size) (.opt (af hr.xs m) fun l=> .opt (idx l n) fun _=>pv (.hel h m n.toNat 0))
    | .st _,a=>match n with
      | .ofNat m=> .iN r.arr <| match r.sD[m]? with
        |some (off,_)=>match a with
         | .box b o=>pv (.box b (o+off))
         | .Qe q sz j o=>pv (.Qe q sz j (o+off))
         | .qB cs=>pv (.qB (cs.drop off))
         | .hel h k j o=>pv (.hel h k j (o+off))
         |_=> .fail
        |none=> .fail
      | .negSucc _=> .fail
    |_,_=> .fail
  |_=> .fail
 |none=> .fail
def RR (rows:List gJ)(s:TypeId)(x:AV)(f:Nat):Q T cS:=match kh rows s with
 |some r=> .iN (!r.arr) <| match r.sD[f]? with
  |some (off,size)=>match x with
   | .box b o=>pv (.box b (o+off))
   | .Qe q sz i o=>pv (.Qe q sz i (o+off))
   | .qB cs=>pv (.qB (cs.drop off))
   | .hel h n i o=>pv (.hel h n i (o+off))
   | .rv (.cv ⟨.ptr h,n⟩)=> .iN (!(Nat.beq n 0)) (pv (.hel h n 0 off))
   |_=> .fail
  |none=> .fail
 |none=> .fail
def XP (rows:List gJ)(s d:TypeId)(x:AV):Q T cS:=match kh rows s,kh rows d with
 |some rs,some rd=>match rs.ty,rd.ty,x with
  | .int _, .int j, .rv (.cv ⟨.int _,a⟩)=>FL (.int j) (j.wrap a)
  | .str, .str, .rv (.cv ⟨.str,s⟩)=>FL .str s
  | .slice (.int .u8), .str, .rv (.cv ⟨.slice (.int .u8),xs⟩)=>FL .str (strOf xs)
  | .slice (.int .u8), .str, .rv (.own r)=> .row r fun row=>match row with
    | ⟨_, .int .u8,xs⟩=>FL .str (strOf xs)
    |_=> .fail
  | .str, .slice (.int .u8), .rv (.cv ⟨.str,s⟩)=> .iN (Nat.ble s.size 140737488355328) (FL (.slice (.int .u8)) (bytesOf s))
  |_,_,_=> .fail
 |_,_=> .fail
def ye (rows:List gJ)(av:Operand→AV)(t:TypeId)(x:AV)(lo hi mx:Option Operand):Q T cS:=match kh rows t with
 |some r=>match mx with
  |none=>match r.ty,co x with
   | .str, .rv (.cv ⟨.str,s⟩)=>match jx av 0 lo,jx av s.size hi with
     |some l,some h=> .iN (dN s.size l h) (FL .str (s.extract l.toNat h.toNat))
     |_,_=> .fail
   | .slice u, .rv (.cv ⟨.slice u',xs⟩)=>match jx av 0 lo,jx av (List.length xs) hi with
     |some l,some h=> .iN (Nat.beq u.size u'.size&&dN (List.length xs) l h) (FL (.slice u') (cut xs l h))
     |_,_=> .fail
   |_,_=> .fail
  |some mx=>match r.ty,co x with
   | .slice u, .rv (.cv ⟨.slice u',xs⟩)=>match hi with
     |some hx=>match jx av 0 lo,jx av 0 (some hx),jx av 0 (some mx) with
      |some l,some h,some m=> .iN (Nat.beq u.size u'.size&&dN (List.length xs) l h&&decide (h≤m)&&decide (m≤List.length xs)) (FL (.slice u') (cut xs l h))
      |_,_,_=> .fail
     |none=> .fail
   |_,_=> .fail
 |none=> .fail
def zO:AV→Bool
 | .rv (.own _)=>true
 |_=>false
def D4 (rows:List gJ)(av:Operand→AV)(t:TypeId)(parts:List (Nat×Operand)):Q T cS:=match kh rows t with
 |some r=>match r.ty with
  | .st u=>kr (fun cs=>pv (.rv (.agg cs))) (partsOf av r.sD parts (Y7 u))
  |_=> .fail
 |none=> .fail
def gK (bytes:Nat)(l c:Int):Bool:=decide (0≤l)&&decide (l≤c)&&decide ((bytes:Int)*c≤140737488355328)
def aP (bytes size n m:Nat):Bool:=Nat.blt 0 size&&Nat.ble ((n+m)*bytes) 140737488355328
def iE (T:List gJ)(t:TypeId):Option (Ty×TypeId×Nat):=
 match kh T t with
 |some r=>match r.ty with
  | .slice u=>match kh T r.elem with
    |some re=>bif Nat.blt 0 re.bytes then some (u,r.elem,re.bytes) else none
    |none=>none
  |_=>none
 |none=>none
def N5 (s:Option Site)(u:Ty):Ty:=match s,u with
 |some .pg, .slice v=> .pg v
 |_,u=>u
def K1 (s:Option Site):Option Nat:=match s with
 |some (.heap h)=>some h
 |_=>none
def ae2 (T:List gJ)(t:TypeId):Option Nat:=
 match kh T t with
 |some r=>match r.ty with
  | .ptr h=>some h
  |_=>none
 |none=>none
def aaQ (T:c9)(h:Nat)(hr:bK):Bool:=Nat.beq hr.e (T.ht h).e&&Nat.beq hr.k (T.ht h).k&&decide (hr.t=(T.ht h).t)
def newRow (d:Option Tmp)(row:Row):Q T cS:=match d with
 |some d=> .rU d (.ret (.rv (.own d), .mw [.row d row]))
 |none=> .fail
def Cn (d:Option Tmp)(x:BX):Q T cS:=match d with
 |some d=> .rV d (.ret (.box d 0, .mw [.box d x]))
 |none=> .fail
def Al (h:Nat)(hr:bK)(xs:List (Option (List hr.t.den)))(l:List hr.t.den):Q T cS:=
 .iN (hr.w&&Nat.beq hr.k 0) <| .ret (.rv (.cv ⟨.ref h,(List.length xs+1:Nat)⟩), .mw [.heap h ⟨hr.e,hr.t,hr.k,hr.w,xs++[some l]⟩])
def OS (h:Nat)(hr:bK)(x:hr.t.den):Q T cS:=
 .iN (hr.w&&Nat.beq hr.k 1) <| .ret (.rv (.cv ⟨.ptr h,(List.length hr.xs+1:Nat)⟩), .mw [.heap h ⟨hr.e,hr.t,hr.k,hr.w,hr.xs++[some [x]]⟩])
def ae3 (t:Ty)(y:t.den)(off:Nat)(vs:List CV):Option t.den:=va [] t (I6 (flat t y) off vs)
def RS (h n i off:Nat)(vs:List CV):Q T cS:= .heap h fun hr=> .opt (af hr.xs n) fun l=> .opt (l[i]?) fun y=> .opt (ae3 hr.t y off vs) fun y'=>
 .iN (hr.w&&Nat.ble (off+vs.length) hr.t.size) (.ret (.nil, .mw [.heap h ⟨hr.e,hr.t,hr.k,hr.w,b9 hr.xs n (l.set i y')⟩]))
def BX.one:BX→Bool
 | .cells cs=>Nat.beq cs.length 1
 |_=>true
def K2 (x:AV)(vs:List CV):Q T cS:=match x with
 | .box b off=> .box b fun bx=>match bx with
   | .cells cs=> .iN (Nat.ble (off+vs.length) cs.length) (.ret (.nil, .mw [.box b (.cells (I6 cs off vs))]))
   |_=> .iN (Nat.beq off 0&&Nat.beq vs.length 1) (.ret (.nil, .mw [.box b (.cells vs)]))
 | .Qe q sz i off=> .row q fun row=> .opt (row.xs[i]?) fun y=> .opt (ae3 row.t y off vs) fun y'=>
   .iN (Nat.ble (off+vs.length) row.t.size) (.ret (.nil, .mw [.K0 q ⟨row.e,row.t,row.xs.set i y'⟩]))
 | .hel h n i off=>RS h n i off vs
 | .rv (.cv ⟨.ptr h,n⟩)=>RS h n 0 0 vs
 |_=> .fail
def appended (t:Ty)(x:AV)(k:List t.den→Q T cS):Q T cS:=match co x with
 | .rv (.cv ⟨.ref h,n⟩)=> .heap h fun hr=> .opt (af hr.xs n) fun l=> .opt ((dJ (.slice t) [⟨.slice hr.t,l⟩]).map (·.1)) k
 | .rv (.cv c)=> .opt ((dJ (.slice t) [c]).map (·.1)) k
 | .rv (.own q)=> .row q fun row=> .opt ((dJ (.slice t) [⟨.slice row.t,row.xs⟩]).map (·.1)) k
 | .lit (.slice none 0 0)=>k []
 |_=> .fail
def aip:CV→CV→Bool
 | ⟨.int i,a⟩,⟨.int j,b⟩=>decide (i=j)&&(a:Int)==b
 | ⟨.bool,a⟩,⟨.bool,b⟩=>(a:Bool)==b
 | ⟨.fn,a⟩,⟨.fn,b⟩=>Nat.beq a b
 |_,_=>false
def Za:List CV→List CV→Bool
 | [],[]=>true
 |a::r,b::s=>aip a b&&Za r s
 |_,_=>false
def aln:AV→Option (FuncId×List J2)
 | .fn f bj=>some (f,bj)
 | .rv (.cv ⟨.fn,n⟩)=>match (n:Nat) with
   |f+1=>some (f,[])
   |0=>none
 |_=>none
def XQ:J2→AV
 | .box b=> .box b 0
 | .qB cs=> .qB cs
def aiq:oX→AV→Bool
 | .fn f _,a=>match aln a with
   |some (g,_)=>Nat.beq f g
   |none=>false
 | .c cs, .rv (.agg cs')=>Za cs cs'
 | .c _,_=>false
 |_,_=>true
def fits:List oX→List AV→Bool
 | [],[]=>true
 |t::ts,a::as=>aiq t a&&fits ts as
 |_,_=>false
def pick (T:c9)(avs:List AV):List Nat→Option Nat
 | []=>none
 |v::vs=>bif fits (T.sig v).args avs then some v else pick T avs vs
def U4 (T:c9)(s:Option Site)(f:FuncId)(avs:List AV):Option Nat:=match s with
 |some (.vid v)=>bif Nat.beq (T.real v) f then some v else none
 |_=>match pick T avs (T.ak5 f) with
  |some v=>bif Nat.beq (T.real v) f then some v else none
  |none=>none
def K3 (t:Ty)(k:t.den→Q T cS):J2→Q T cS
 | .box b=> .box b fun bx=>match bx with
   | .cells cs=> .opt (DK t cs) k
   | .own q=> .row q fun row=> .opt ((dJ t [⟨.slice row.t,row.xs⟩]).map (·.1)) k
   | .nil=> .fail
 | .qB cs=> .opt (DK t cs) k
def A5:(ts:List Ty)→List J2→(uv ts→Q T cS)→Q T cS
 | [],[],k=>k ()
 | [t],[c],k=>K3 t k c
 |t::u::ts,c::cs,k=>K3 t (fun x=>A5 (u::ts) cs fun y=>k (x,y)) c
 |_,_,_=> .fail
def RU:AV→Bool
 | .rv (.cv ⟨.ref _,_⟩)=>true
 | .rv (.agg cs)=>cs.any fun | ⟨.ref _,_⟩=>true |_=>false
 |_=>false
def adh:Ty→Bool
 | .ref _=>true
 |_=>false
def DZ:List Nat→List bK→(List bK→Q T cS)→Q T cS
 | [],acc,k=>k acc.reverse
 |h::hs,acc,k=> .heap h fun hr=>DZ hs (hr::acc) k
def agc (dM:Bool)(nh:Nat)(hout:List Nat)(p:oX)(a:AV)(k:p.den→Q T cS):Q T cS:=match p,k with
 | .v t,k=>match a with
   | .rv (.own q)=> .iN dM (.row q fun row=> .opt ((dJ t [⟨.slice row.t,row.xs⟩]).map (·.1)) k)
   |a=>bif RU a&& !(adh t)&&dM then
     DZ (List.range nh) [] fun hs=> .opt (typed (hs.zipIdx.map fun p=>bif hout.any (Nat.beq p.2) then ⟨p.1.e,p.1.t,p.1.k,p.1.w,[]⟩ else p.1) t a) k
    else .opt (typed [] t a) k
 | .fn f ts,k=>match aln a with
   |some (g,bj)=> .iN (Nat.beq f g&&(dM||bj.isEmpty)) (A5 ts bj k)
   |none=> .fail
 | .c cs,k=> .iN (aiq (.c cs) a) (k ())
 | .rp t,k=>match a with
   | .box b 0=> .iN dM (K3 t k (.box b))
   | .qB cs=>K3 t k (.qB cs)
   |_=> .fail
 | .bx _,_=> .fail
 | .N3,_=> .fail
def N6 (dM:Bool)(nh:Nat)(hout:List Nat):(ps:List oX)→List AV→(I5 ps→Q T cS)→Q T cS
 | [],[],k=>k ()
 | [p],[a],k=>agc dM nh hout p a k
 |p::q::ps,a::as,k=>agc dM nh hout p a fun x=>N6 dM nh hout (q::ps) as fun y=>k (x,y)
 |_,_,_=> .fail
def U5 (T:c9)(wr:List Nat):(hs:List Nat)→(GW T hs→Q T cS)→Q T cS
 | [],k=>k ()
 | [h],k=> .heap h fun hr=> .iN ((hr.w|| !(wr.any (Nat.beq h)))&&Nat.beq hr.e (T.ht h).e&&Nat.beq hr.k (T.ht h).k) (if e:hr.t=(T.ht h).t then k (S9 e hr.xs) else .fail)
 |h::i::r,k=> .heap h fun hr=> .iN ((hr.w|| !(wr.any (Nat.beq h)))&&Nat.beq hr.e (T.ht h).e&&Nat.beq hr.k (T.ht h).k) (if e:hr.t=(T.ht h).t then U5 T wr (i::r) fun y=>k (S9 e hr.xs,y) else .fail)
def aic (d:Nat):(ts:List ON)→uv (ts.map (·.1))→List RV
 | [],_=>[]
 | [(t,some e)],x=>[.own d]
 | [(.st t,none)],x=>[.agg (flat t x)]
 | [(t,none)],x=>[.cv ⟨t,x⟩]
 | (t,some e)::u::ts,x=> .own d::aic (d+1) (u::ts) x.2
 | (.st t,none)::u::ts,x=> .agg (flat t x.1)::aic (d+1) (u::ts) x.2
 | (t,none)::u::ts,x=> .cv ⟨t,x.1⟩::aic (d+1) (u::ts) x.2
def ownRow (t:Ty)(e:TypeId)(x:t.den):Option Row:=
 match t,x with
 | .slice t',xs=>some ⟨e,t',xs⟩
 |_,_=>none
def aaR:List RV→AV
 | [x]=> .rv x
 |l=> .tup l
def A6 (d:Nat):(ts:List ON)→uv (ts.map (·.1))→(List TU→Q T cS)→Q T cS
 | [],_,k=>k []
 | [(t,some e)],x,k=>match ownRow t e x with
   |some row=> .rU d (k [.row d row])
   |none=> .fail
 | [(t,none)],x,k=>k []
 | (t,some e)::u::ts,x,k=>match ownRow t e x.1 with
   |some row=> .rU d (A6 (d+1) (u::ts) x.2 fun us=>k (.row d row::us))
   |none=> .fail
 | (t,none)::u::ts,x,k=>A6 (d+1) (u::ts) x.2 k
def HA (d:Nat):(ts:List Ty)→uv ts→(List TU→List J2→Q T cS)→Q T cS
 | [],_,k=>k [] []
 | [t],x,k=> .rV d (k [.box d (.cells (flat t x))] [.box d])
 |t::u::ts,x,k=> .rV d (HA (d+1) (u::ts) x.2 fun us cs=>k (.box d (.cells (flat t x.1))::us) (.box d::cs))
def Qg (d:Option Tmp):Nat:=1000+16*d.getD 0
def Co (T:c9):(hs:List Nat)→GW T hs→List TU
 | [],_=>[]
 | [h],x=>[.heap h ⟨(T.ht h).e,(T.ht h).t,(T.ht h).k,true,x⟩]
 |h::i::r,x=> .heap h ⟨(T.ht h).e,(T.ht h).t,(T.ht h).k,true,x.1⟩::Co T (i::r) x.2
def air (T:c9)(d:Nat)(s:KX)(y:OO s)(us:List TU):Q T cS:=match s,y with
 | ⟨_,res,none,_,none⟩,y=>A6 d res y fun vs=> .ret (aaR (aic d res y), .mw (us++vs))
 | ⟨_,_,some (f,ts),_,none⟩,y=>HA d ts y fun vs cs=> .ret (.fn f cs, .mw (us++vs))
 |_,_=> .fail
def K4 (T:c9)(av:Operand→AV)(st:Option Site)(dst:Option Tmp)(f:FuncId)(bj:List J2)(args:List Operand):Q T cS:=
 let avs:=args.map av++bj.map XQ
 match U4 T st f avs with
 |some v=>
  let s:=T.sig v
  N6 (adW T s) T.ag.length s.hout s.args avs fun x=>
  U5 T s.hout s.hin fun h=> .opt (KY x s.hin (some h)) fun xh=> .call v xh fun yh=>
  air T (Qg dst) s (xZ _ yh) (Co T s.hout (GX _ yh))
 |none=> .fail
def sE:(t:Ty)→List AV→Option t.den
 | .unit,[]=>some ()
 | .pair a b,x::r=>match typed [] a x with
   |some v=>match sE b r with
    |some u=>some (v,u)
    |none=>none
   |none=>none
 |_,_=>none
def F0 (T:c9)(av:Operand→AV)(sites:List (Nat×Site))(o:Oper):Q T cS:=
 let st:=o.dst.bind (look sites)
 match o.op with
 | .move x=>N4 T.rows o.type (av x)
 | .assign x=>match av x,o.dst with
   | .rv (.own r),some d=> .all fun σ=> .ret (.rv (.own d), .set (bif Nat.beq r d then σ else (σ.freeze d).rename r d))
   | .lit (.slice none 0 0),some d=>match K1 st with
     |some h=>pv (.rv (.cv ⟨.ref h,(0:Nat)⟩))
     |none=>match iE T.rows o.type with
      |some (u,e,_)=> .all fun σ=> .ret (.rv (.own d), .set {(σ.freeze d) with rows:=put (σ.freeze d).rows d ⟨e,u,[]⟩})
      |none=>N4 T.rows o.type (.lit (.slice none 0 0))
   |a,_=>N4 T.rows o.type (co a)
 | .pick c a b=>match av c with
   | .rv (.cv ⟨.bool,t⟩)=> .ite t (pv (av a)) (pv (av b))
   |_=> .fail
 | .nilCheck x=>match av x with
   | .rv (.cv ⟨.ptr h,n⟩)=> .iN (!(Nat.beq n 0)) (pv (.rv (.cv ⟨.ptr h,n⟩)))
   | .box b off=>pv (.box b off)
   | .Qe r sz i off=>pv (.Qe r sz i off)
   | .qB cs=>pv (.qB cs)
   | .hel h n i off=>pv (.hel h n i off)
   |_=> .fail
 | .load t x=>XO T.rows t (av x)
 | .binOp op xt x y _=>match kh T.rows xt with
   |some r=>match r.ty with
    | .bool=>af9 op (av x) (av y)
    | .int _ | .str=>af8 op (av x) (av y)
    | .st t=> .iN (T.eqs.any (Nat.beq xt)) (aio t op (av x) (av y))
    |ty=>aga ty op (av x) (av y)
   |none=> .fail
 | .unOp op _ x=>match op,av x with
   | .not, .rv (.cv ⟨.bool,b⟩)=>FL .bool (!b)
   | .neg, .rv (.cv ⟨.int i,a⟩)=>FL (.int i) (i.wrap (0 - a))
   |_,_=> .fail
 | .convert s d x=>XP T.rows s d (av x)
 | .fieldAddr s x f=>RR T.rows s (av x) f
 | .indexAddr t x i=>RQ T.rows t (av x) (av i)
 | .index t x i=>match kh T.rows t with
   |some r=>match r.ty,av i,av x with
    | .str, .rv (.cv ⟨.int _,n⟩), .rv (.cv ⟨.str,s⟩)=> .opt (uw s n) fun b=>FL (.int .u8) b
    |_,_,_=> .fail
   |none=> .fail
 | .extract x i=>match av x with
   | .tup l=>kr (fun v=>pv (.rv v)) l[i]?
   |_=> .fail
 | .makeFunc (.func f) first captured=>match first.toList with
   | []=>kr (fun bj=>pv (.fn f bj)) (mP (fun x=>match av x with
     | .box b 0=>some (.box b)
     | .qB cs=>some (.qB cs)
     |_=>none) captured.toList)
   |_=> .fail
 | .slice t x lo hi mx=>match av x with
   | .rv (.own q)=>match lo,hi,mx with
     |none,some h,none=>match iE T.rows t,av h with
      |some (u,e,_), .rv (.cv ⟨.int _,h⟩)=> .row q fun row=> .iN (Nat.beq u.size row.t.size&&dN row.xs.length 0 h) (match o.dst with
       |some d=> .all fun σ=>match look (σ.bL q).rows d with
        |none=> .ret (.rv (.own d), .set {(σ.bL q) with rows:=put (σ.bL q).rows d ⟨row.e,row.t,row.xs.take h.toNat⟩})
        |some _=> .fail
       |none=> .fail)
      |_,_=> .fail
     |_,_,_=> .row q fun row=> .all fun σ=>(ye T.rows av t (.rv (.cv ⟨.slice row.t,row.xs⟩)) lo hi mx).map fun p=>(p.1, .set (σ.freeze q))
   | .rv (.cv ⟨.ref h,n⟩)=>match lo,hi,mx with
     |none,some y,none=>match iE T.rows t,av y with
      |some _, .rv (.cv ⟨.int _,y⟩)=> .heap h fun hr=> .opt (af hr.xs n) fun l=> .iN (dN l.length 0 y)
        (.ite (Nat.beq n 0) (pv (.rv (.cv ⟨.ref h,n⟩))) (Al h hr (ix hr.xs n) (l.take y.toNat)))
      |_,_=> .fail
     |_,_,_=> .fail
   |a=>ye T.rows av t a lo hi mx
 | .build t parts=>let xs:=parts.toList.map (·.2)
   bif xs.any (fun x=>zO (av x)) then .all fun σ=>(D4 T.rows (σ.ya xs).av t parts.toList).map fun p=>(p.1, .set (σ.ya xs))
   else D4 T.rows av t parts.toList
 | .buildSlice t len parts=>let xs:=parts.toList.map (·.2)
   match iE T.rows t with
   |some (u0,e,_)=>match K1 st with
    |some h=> .heap h fun hr=> .iN (Nat.beq e hr.e&&aaQ T h hr&&Nat.ble (len*hr.t.size) 16777216&&Nat.ble len 16777216) (.opt (elems av hr.t parts.toList (List.replicate len hr.t.zero)) fun ys=>Al h hr hr.xs ys)
    |none=>let u:=N5 st u0
     .iN (Nat.ble (len*u.size) 16777216&&Nat.ble len 16777216) (bif xs.any (fun x=>zO (av x)) then
      .all fun σ=> .opt (elems (σ.ya xs).av u parts.toList (List.replicate len u.zero)) fun ys=>match o.dst with
       |some d=>match look (σ.ya xs).rows d with
        |none=> .ret (.rv (.own d), .set {(σ.ya xs) with rows:=put (σ.ya xs).rows d ⟨e,u,ys⟩})
        |some _=> .fail
       |none=> .fail
      else .opt (elems av u parts.toList (List.replicate len u.zero)) fun ys=>newRow o.dst ⟨e,u,ys⟩)
   |none=> .fail
 | .makeSlice t l c=>match iE T.rows t,av l,av c with
   |some (u0,e,bytes), .rv (.cv ⟨.int _,l⟩), .rv (.cv ⟨.int _,c⟩)=> .iN (gK bytes l c) (match K1 st with
    |some h=> .heap h fun hr=> .iN (Nat.beq e hr.e&&aaQ T h hr) (Al h hr hr.xs (List.replicate l.toNat hr.t.zero))
    |none=>let u:=N5 st u0
     newRow o.dst ⟨e,u,List.replicate l.toNat u.zero⟩)
   |_,_,_=> .fail
 | .alloc t=>match kh T.rows t with
   |some r=>match ae2 T.rows o.type with
    |some h=> .heap h fun hr=> .iN (Nat.beq hr.e t&&aaQ T h hr) (OS h hr hr.t.zero)
    |none=>match r.ty,iE T.rows t,o.dst with
     | .slice _,some (u,e,_),some d=> .rV d (.rU d (.ret (.box d 0, .mw [.box d (.own d), .row d ⟨e,u,[]⟩])))
     |_,_,_=>Cn o.dst (.cells (Y7 r.ty))
   |none=> .fail
 | .box t v=>match kh T.rows t with
   |some r=>match av v with
    | .rv (.own q)=> .row q fun row=> .all fun σ=>match o.dst with
      |some d=>match look σ.boxes d with
       |none=> .ret (.box d 0, .set {(σ.freeze q) with boxes:=put (σ.freeze q).boxes d (.cells [⟨.slice row.t,row.xs⟩])})
       |some _=> .fail
      |none=> .fail
    |a=>kr (fun vs=> .iN (Nat.beq vs.length r.ty.size) (match ae2 T.rows o.type with
     |some h=> .heap h fun hr=> .iN (Nat.beq hr.e t) (.opt (va [] hr.t vs) fun x=>OS h hr x)
     |none=>Cn o.dst (.cells vs))) (cells r.ty a)
   |none=> .fail
 | .store t x v=>match kh T.rows t with
   |some r=>match av v,av x with
    | .rv (.own q), .box b 0=> .box b fun bx=> .iN (bx.one&&Nat.beq r.ty.size 1) <| .all fun σ=>
      bif Nat.beq q b then .ret (.nil, .set {σ with boxes:=put σ.boxes b (.own b)})
      else .ret (.nil, .set {((σ.freeze b).rename q b) with boxes:=put ((σ.freeze b).rename q b).boxes b (.own b)})
    | .rv (.own q),_=> .all fun σ=>(Q.on (σ.freeze q) (kr (fun vs=> .iN (Nat.beq vs.length r.ty.size) (K2 ((σ.freeze q).av x) vs)) (cells r.ty ((σ.freeze q).av v)))).map fun p=>(p.1,match p.2 with
      | .mw us=> .set ((σ.freeze q).app us)
      | .set σ'=> .set σ')
    | .lit (.slice none 0 0), .box b 0=>match iE T.rows t with
      |some (u,e,_)=> .box b fun bx=> .iN bx.one <| .all fun σ=> .ret (.nil, .set {(σ.freeze b) with rows:=put (σ.freeze b).rows b ⟨e,u,[]⟩,boxes:=put (σ.freeze b).boxes b (.own b)})
      |none=> .fail
    |a,x=>kr (fun vs=> .iN (Nat.beq vs.length r.ty.size) (K2 x vs)) (cells r.ty a)
   |none=> .fail
 | .call {callee:= .builtin .len,args,argTypes}=>match args.toList,argTypes.toList with
   | [x],[t]=>match kh T.rows t with
     |some r=>agb r.ty (av x)
     |none=> .fail
   |_,_=> .fail
 | .call {callee:= .builtin .max,args, .. }=>match args.toList with
   | [x,y]=>match av x,av y with
     | .rv (.cv ⟨.int i,a⟩), .rv (.cv ⟨.int _,b⟩)=>FL (.int i) (bif decide (b>a) then b else a)
     |_,_=> .fail
   |_=> .fail
 | .call {callee:= .builtin .min,args, .. }=>match args.toList with
   | [x,y]=>match av x,av y with
     | .rv (.cv ⟨.int i,a⟩), .rv (.cv ⟨.int _,b⟩)=>FL (.int i) (bif decide (b<a) then b else a)
     |_,_=> .fail
   |_=> .fail
 | .call {callee:= .builtin .append,args,argTypes}=>match args.toList,argTypes.toList with
   | [s,x],[t,tx]=> .iN (Nat.beq t tx||(iE T.rows tx).isSome) (match iE T.rows t with
     |some (u,e,bytes)=>match av s with
      | .rv (.own r)=> .row r fun row=> .iN (match av x with | .rv (.own q)=> !(Nat.beq q r) |_=>true) (appended row.t (av x) fun ys=>
        .iN (Nat.beq row.e e&&Nat.beq row.t.size u.size&&aP bytes u.size row.xs.length ys.length) (match o.dst with
         |some d=> .all fun σ=>match look (σ.bL r).rows d with
          |none=> .ret (.rv (.own d), .set {(σ.bL r) with rows:=put (σ.bL r).rows d ⟨e,row.t,row.xs++ys⟩})
          |some _=> .fail
         |none=> .fail))
      | .rv (.cv ⟨.ref h,n⟩)=> .heap h fun hr=> .opt (af hr.xs n) fun l=> .iN (Nat.beq e hr.e&&Nat.beq u.size hr.t.size) (appended hr.t (av x) fun ys=>
        .iN (aP bytes hr.t.size l.length ys.length) (.ite ys.isEmpty (pv (.rv (.cv ⟨.ref h,n⟩))) (Al h hr (ix hr.xs n) (l++ys))))
      | .lit (.slice none 0 0)=>match K1 st with
        |some h=> .heap h fun hr=> .iN (Nat.beq e hr.e&&Nat.beq u.size hr.t.size) (appended hr.t (av x) fun ys=>
          .iN (aP bytes hr.t.size 0 ys.length) (.ite ys.isEmpty (pv (.rv (.cv ⟨.ref h,(0:Nat)⟩))) (Al h hr hr.xs ys)))
        |none=>appended u (av x) fun ys=> .iN (aP bytes u.size 0 ys.length) (newRow o.dst ⟨e,u,ys⟩)
      |_=> .fail
     |none=> .fail)
   |_,_=> .fail
 | .call {callee:= .value f,args, .. }=>match av f with
   | .N3=> .all fun σ=>match σ.trace with
     | ⟨.slice t,xs⟩=> .iN (J3 t) (.opt (sE t (args.toList.map av)) fun x=> .ret (.rv (.cv ⟨.bool,true⟩), .set {σ with trace:=⟨.slice t,xs++[x]⟩}))
     |_=> .fail
   |a=>match aln a with
    |some (f,bj)=>bif args.toList.any (fun x=>zO (av x))&& !(adW T (T.sig ((U4 T st f (args.toList.map av++bj.map XQ)).getD 0))) then
      .all fun σ=>(Q.on (σ.ya args.toList) (K4 T (σ.ya args.toList).av st o.dst f bj args.toList)).map fun p=>(p.1,match p.2 with
       | .mw us=> .set ((σ.ya args.toList).app us)
       | .set σ'=> .set σ')
     else K4 T av st o.dst f bj args.toList
    |none=> .fail
 |_=> .fail
def ais (T:c9)(av:Operand→AV)(st:Option Site)(o:Oper)(x:Operand):Q T cS:=
 match av x,o.dst with
  | .rv (.own r),some d=> .all fun σ=> .ret (.rv (.own d), .set (bif Nat.beq r d then σ else (σ.freeze d).rename r d))
  | .lit (.slice none 0 0),some d=>match K1 st with
    |some h=>pv (.rv (.cv ⟨.ref h,(0:Nat)⟩))
    |none=>match iE T.rows o.type with
     |some (u,e,_)=> .all fun σ=> .ret (.rv (.own d), .set {(σ.freeze d) with rows:=put (σ.freeze d).rows d ⟨e,u,[]⟩})
     |none=>N4 T.rows o.type (.lit (.slice none 0 0))
  |a,_=>N4 T.rows o.type (co a)
def ann (T:c9)(av:Operand→AV)(st:Option Site)(o:Oper)(c:Operand)(a:Operand)(b:Operand):Q T cS:=
 match av c with
  | .rv (.cv ⟨.bool,t⟩)=> .ite t (pv (av a)) (pv (av b))
  |_=> .fail
def adi (T:c9)(av:Operand→AV)(st:Option Site)(o:Oper)(x:Operand):Q T cS:=
 match av x with
  | .rv (.cv ⟨.ptr h,n⟩)=> .iN (!(Nat.beq n 0)) (pv (.rv (.cv ⟨.ptr h,n⟩)))
  | .box b off=>pv (.box b off)
  | .Qe r sz i off=>pv (.Qe r sz i off)
  | .qB cs=>pv (.qB cs)
  | .hel h n i off=>pv (.hel h n i off)
  |_=> .fail
def ak7 (T:c9)(av:Operand→AV)(st:Option Site)(o:Oper)(op:BinOp)(xt:TypeId)(x:Operand)(y:Operand):Q T cS:=
 match kh T.rows xt with
  |some r=>match r.ty with
   | .bool=>af9 op (av x) (av y)
   | .int _ | .str=>af8 op (av x) (av y)
   | .st t=> .iN (T.eqs.any (Nat.beq xt)) (aio t op (av x) (av y))
   |ty=>aga ty op (av x) (av y)
  |none=> .fail
def ano (T:c9)(av:Operand→AV)(st:Option Site)(o:Oper)(op:UnOp)(x:Operand):Q T cS:=
 match op,av x with
  | .not, .rv (.cv ⟨.bool,b⟩)=>FL .bool (!b)
  | .neg, .rv (.cv ⟨.int i,a⟩)=>FL (.int i) (i.wrap (0 - a))
  |_,_=> .fail
def ak8 (T:c9)(av:Operand→AV)(st:Option Site)(o:Oper)(t:TypeId)(x:Operand)(i:Operand):Q T cS:=
 match kh T.rows t with
  |some r=>match r.ty,av i,av x with
   | .str, .rv (.cv ⟨.int _,n⟩), .rv (.cv ⟨.str,s⟩)=> .opt (uw s n) fun b=>FL (.int .u8) b
   |_,_,_=> .fail
  |none=> .fail
def agd (T:c9)(av:Operand→AV)(st:Option Site)(o:Oper)(x:Operand)(i:Nat):Q T cS:=
 match av x with
  | .tup l=>kr (fun v=>pv (.rv v)) l[i]?
  |_=> .fail
def adj (T:c9)(av:Operand→AV)(st:Option Site)(o:Oper)(f:FuncId)(first:Array Operand)(captured:Array Operand):Q T cS:=
 match first.toList with
  | []=>kr (fun bj=>pv (.fn f bj)) (mP (fun x=>match av x with
    | .box b 0=>some (.box b)
    | .qB cs=>some (.qB cs)
    |_=>none) captured.toList)
  |_=> .fail
def ak9 (T:c9)(av:Operand→AV)(st:Option Site)(o:Oper)(t:TypeId)(x:Operand)(lo:Option Operand)(hi:Option Operand)(mx:Option Operand):Q T cS:=
 match av x with
  | .rv (.own q)=>match lo,hi,mx with
    |none,some h,none=>match iE T.rows t,av h with
     |some (u,e,_), .rv (.cv ⟨.int _,h⟩)=> .row q fun row=> .iN (Nat.beq u.size row.t.size&&dN row.xs.length 0 h) (match o.dst with
      |some d=> .all fun σ=>match look (σ.bL q).rows d with
       |none=> .ret (.rv (.own d), .set {(σ.bL q) with rows:=put (σ.bL q).rows d ⟨row.e,row.t,row.xs.take h.toNat⟩})
       |some _=> .fail
      |none=> .fail)
     |_,_=> .fail
    |_,_,_=> .row q fun row=> .all fun σ=>(ye T.rows av t (.rv (.cv ⟨.slice row.t,row.xs⟩)) lo hi mx).map fun p=>(p.1, .set (σ.freeze q))
  | .rv (.cv ⟨.ref h,n⟩)=>match lo,hi,mx with
    |none,some y,none=>match iE T.rows t,av y with
     |some _, .rv (.cv ⟨.int _,y⟩)=> .heap h fun hr=> .opt (af hr.xs n) fun l=> .iN (dN l.length 0 y)
       (.ite (Nat.beq n 0) (pv (.rv (.cv ⟨.ref h,n⟩))) (Al h hr (ix hr.xs n) (l.take y.toNat)))
     |_,_=> .fail
    |_,_,_=> .fail
  |a=>ye T.rows av t a lo hi mx
def ala (T:c9)(av:Operand→AV)(st:Option Site)(o:Oper)(t:TypeId)(parts:Array (Nat×Operand)):Q T cS:=
 let xs:=parts.toList.map (·.2)
  bif xs.any (fun x=>zO (av x)) then .all fun σ=>(D4 T.rows (σ.ya xs).av t parts.toList).map fun p=>(p.1, .set (σ.ya xs))
  else D4 T.rows av t parts.toList
def Zb (T:c9)(av:Operand→AV)(st:Option Site)(o:Oper)(t:TypeId)(len:Nat)(parts:Array (Nat×Operand)):Q T cS:=
 let xs:=parts.toList.map (·.2)
  match iE T.rows t with
  |some (u0,e,_)=>match K1 st with
   |some h=> .heap h fun hr=> .iN (Nat.beq e hr.e&&aaQ T h hr&&Nat.ble (len*hr.t.size) 16777216&&Nat.ble len 16777216) (.opt (elems av hr.t parts.toList (List.replicate len hr.t.zero)) fun ys=>Al h hr hr.xs ys)
   |none=>let u:=N5 st u0
    .iN (Nat.ble (len*u.size) 16777216&&Nat.ble len 16777216) (bif xs.any (fun x=>zO (av x)) then
     .all fun σ=> .opt (elems (σ.ya xs).av u parts.toList (List.replicate len u.zero)) fun ys=>match o.dst with
      |some d=>match look (σ.ya xs).rows d with
       |none=> .ret (.rv (.own d), .set {(σ.ya xs) with rows:=put (σ.ya xs).rows d ⟨e,u,ys⟩})
       |some _=> .fail
      |none=> .fail
     else .opt (elems av u parts.toList (List.replicate len u.zero)) fun ys=>newRow o.dst ⟨e,u,ys⟩)
  |none=> .fail
def aaS (T:c9)(av:Operand→AV)(st:Option Site)(o:Oper)(t:TypeId)(l:Operand)(c:Operand):Q T cS:=
 match iE T.rows t,av l,av c with
  |some (u0,e,bytes), .rv (.cv ⟨.int _,l⟩), .rv (.cv ⟨.int _,c⟩)=> .iN (gK bytes l c) (match K1 st with
   |some h=> .heap h fun hr=> .iN (Nat.beq e hr.e&&aaQ T h hr) (Al h hr hr.xs (List.replicate l.toNat hr.t.zero))
   |none=>let u:=N5 st u0
    newRow o.dst ⟨e,u,List.replicate l.toNat u.zero⟩)
  |_,_,_=> .fail
def alb (T:c9)(av:Operand→AV)(st:Option Site)(o:Oper)(t:TypeId):Q T cS:=
 match kh T.rows t with
  |some r=>match ae2 T.rows o.type with
   |some h=> .heap h fun hr=> .iN (Nat.beq hr.e t&&aaQ T h hr) (OS h hr hr.t.zero)
   |none=>match r.ty,iE T.rows t,o.dst with
    | .slice _,some (u,e,_),some d=> .rV d (.rU d (.ret (.box d 0, .mw [.box d (.own d), .row d ⟨e,u,[]⟩])))
    |_,_,_=>Cn o.dst (.cells (Y7 r.ty))
  |none=> .fail
def apd (T:c9)(av:Operand→AV)(st:Option Site)(o:Oper)(t:TypeId)(v:Operand):Q T cS:=
 match kh T.rows t with
  |some r=>match av v with
   | .rv (.own q)=> .row q fun row=> .all fun σ=>match o.dst with
     |some d=>match look σ.boxes d with
      |none=> .ret (.box d 0, .set {(σ.freeze q) with boxes:=put (σ.freeze q).boxes d (.cells [⟨.slice row.t,row.xs⟩])})
      |some _=> .fail
     |none=> .fail
   |a=>kr (fun vs=> .iN (Nat.beq vs.length r.ty.size) (match ae2 T.rows o.type with
    |some h=> .heap h fun hr=> .iN (Nat.beq hr.e t) (.opt (va [] hr.t vs) fun x=>OS h hr x)
    |none=>Cn o.dst (.cells vs))) (cells r.ty a)
  |none=> .fail
def alc (T:c9)(av:Operand→AV)(st:Option Site)(o:Oper)(t:TypeId)(x:Operand)(v:Operand):Q T cS:=
 match kh T.rows t with
  |some r=>match av v,av x with
   | .rv (.own q), .box b 0=> .box b fun bx=> .iN (bx.one&&Nat.beq r.ty.size 1) <| .all fun σ=>
     bif Nat.beq q b then .ret (.nil, .set {σ with boxes:=put σ.boxes b (.own b)})
     else .ret (.nil, .set {((σ.freeze b).rename q b) with boxes:=put ((σ.freeze b).rename q b).boxes b (.own b)})
   | .rv (.own q),_=> .all fun σ=>(Q.on (σ.freeze q) (kr (fun vs=> .iN (Nat.beq vs.length r.ty.size) (K2 ((σ.freeze q).av x) vs)) (cells r.ty ((σ.freeze q).av v)))).map fun p=>(p.1,match p.2 with
     | .mw us=> .set ((σ.freeze q).app us)
     | .set σ'=> .set σ')
   | .lit (.slice none 0 0), .box b 0=>match iE T.rows t with
     |some (u,e,_)=> .box b fun bx=> .iN bx.one <| .all fun σ=> .ret (.nil, .set {(σ.freeze b) with rows:=put (σ.freeze b).rows b ⟨e,u,[]⟩,boxes:=put (σ.freeze b).boxes b (.own b)})
     |none=> .fail
   |a,x=>kr (fun vs=> .iN (Nat.beq vs.length r.ty.size) (K2 x vs)) (cells r.ty a)
  |none=> .fail
def age (T:c9)(av:Operand→AV)(st:Option Site)(o:Oper)(args:Array Operand)(argTypes:Array TypeId):Q T cS:=
 match args.toList,argTypes.toList with
  | [x],[t]=>match kh T.rows t with
    |some r=>agb r.ty (av x)
    |none=> .fail
  |_,_=> .fail
def agf (T:c9)(av:Operand→AV)(st:Option Site)(o:Oper)(args:Array Operand):Q T cS:=
 match args.toList with
  | [x,y]=>match av x,av y with
    | .rv (.cv ⟨.int i,a⟩), .rv (.cv ⟨.int _,b⟩)=>FL (.int i) (bif decide (b>a) then b else a)
    |_,_=> .fail
  |_=> .fail
def agh (T:c9)(av:Operand→AV)(st:Option Site)(o:Oper)(args:Array Operand):Q T cS:=
 match args.toList with
  | [x,y]=>match av x,av y with
    | .rv (.cv ⟨.int i,a⟩), .rv (.cv ⟨.int _,b⟩)=>FL (.int i) (bif decide (b<a) then b else a)
    |_,_=> .fail
  |_=> .fail
def Zc (T:c9)(av:Operand→AV)(st:Option Site)(o:Oper)(args:Array Operand)(argTypes:Array TypeId):Q T cS:=
 match args.toList,argTypes.toList with
  | [s,x],[t,tx]=> .iN (Nat.beq t tx||(iE T.rows tx).isSome) (match iE T.rows t with
    |some (u,e,bytes)=>match av s with
     | .rv (.own r)=> .row r fun row=> .iN (match av x with | .rv (.own q)=> !(Nat.beq q r) |_=>true) (appended row.t (av x) fun ys=>
       .iN (Nat.beq row.e e&&Nat.beq row.t.size u.size&&aP bytes u.size row.xs.length ys.length) (match o.dst with
        |some d=> .all fun σ=>match look (σ.bL r).rows d with
         |none=> .ret (.rv (.own d), .set {(σ.bL r) with rows:=put (σ.bL r).rows d ⟨e,row.t,row.xs++ys⟩})
         |some _=> .fail
        |none=> .fail))
     | .rv (.cv ⟨.ref h,n⟩)=> .heap h fun hr=> .opt (af hr.xs n) fun l=> .iN (Nat.beq e hr.e&&Nat.beq u.size hr.t.size) (appended hr.t (av x) fun ys=>
       .iN (aP bytes hr.t.size l.length ys.length) (.ite ys.isEmpty (pv (.rv (.cv ⟨.ref h,n⟩))) (Al h hr (ix hr.xs n) (l++ys))))
     | .lit (.slice none 0 0)=>match K1 st with
       |some h=> .heap h fun hr=> .iN (Nat.beq e hr.e&&Nat.beq u.size hr.t.size) (appended hr.t (av x) fun ys=>
         .iN (aP bytes hr.t.size 0 ys.length) (.ite ys.isEmpty (pv (.rv (.cv ⟨.ref h,(0:Nat)⟩))) (Al h hr hr.xs ys)))
       |none=>appended u (av x) fun ys=> .iN (aP bytes u.size 0 ys.length) (newRow o.dst ⟨e,u,ys⟩)
     |_=> .fail
    |none=> .fail)
  |_,_=> .fail
def aaT (T:c9)(av:Operand→AV)(st:Option Site)(o:Oper)(f:Operand)(args:Array Operand):Q T cS:=
 match av f with
  | .N3=> .all fun σ=>match σ.trace with
    | ⟨.slice t,xs⟩=> .iN (J3 t) (.opt (sE t (args.toList.map av)) fun x=> .ret (.rv (.cv ⟨.bool,true⟩), .set {σ with trace:=⟨.slice t,xs++[x]⟩}))
    |_=> .fail
  |a=>match aln a with
   |some (f,bj)=>bif args.toList.any (fun x=>zO (av x))&& !(adW T (T.sig ((U4 T st f (args.toList.map av++bj.map XQ)).getD 0))) then
     .all fun σ=>(Q.on (σ.ya args.toList) (K4 T (σ.ya args.toList).av st o.dst f bj args.toList)).map fun p=>(p.1,match p.2 with
      | .mw us=> .set ((σ.ya args.toList).app us)
      | .set σ'=> .set σ')
    else K4 T av st o.dst f bj args.toList
   |none=> .fail
def anp (T:c9)(av:Operand→AV)(st:Option Site)(o:Oper)(c:Call):Q T cS:=match c with
 | {callee:= .builtin .len,args,argTypes}=>age T av st o args argTypes
 | {callee:= .builtin .max,args, .. }=>agf T av st o args
 | {callee:= .builtin .min,args, .. }=>agh T av st o args
 | {callee:= .builtin .append,args,argTypes}=>Zc T av st o args argTypes
 | {callee:= .value f,args, .. }=>aaT T av st o f args
 |_=> .fail
def opF (T:c9)(av:Operand→AV)(sites:List (Nat×Site))(o:Oper):Q T cS:=
 let st:=o.dst.bind (look sites)
 match o.op with
 | .move x=>N4 T.rows o.type (av x)
 | .assign x=>ais T av st o x
 | .pick c a b=>ann T av st o c a b
 | .nilCheck x=>adi T av st o x
 | .load t x=>XO T.rows t (av x)
 | .binOp op xt x y _=>ak7 T av st o op xt x y
 | .unOp op _ x=>ano T av st o op x
 | .convert s d x=>XP T.rows s d (av x)
 | .fieldAddr s x f=>RR T.rows s (av x) f
 | .indexAddr t x i=>RQ T.rows t (av x) (av i)
 | .index t x i=>ak8 T av st o t x i
 | .extract x i=>agd T av st o x i
 | .makeFunc (.func f) first captured=>adj T av st o f first captured
 | .slice t x lo hi mx=>ak9 T av st o t x lo hi mx
 | .build t parts=>ala T av st o t parts
 | .buildSlice t len parts=>Zb T av st o t len parts
 | .makeSlice t l c=>aaS T av st o t l c
 | .alloc t=>alb T av st o t
 | .box t v=>apd T av st o t v
 | .store t x v=>alc T av st o t x v
 | .call c=>anp T av st o c
 |_=> .fail
theorem anq (T:c9)(av:Operand→AV)(sites:List (Nat×Site))(o:Oper):opF T av sites o=F0 T av sites o:=by
 unfold opF F0
 generalize o.dst.bind (look sites)=st
 cases o.op with
 |call c=>
  obtain⟨callee,args,ats⟩:=c
  cases callee with
  |builtin b=>cases b<;>rfl
  |value f=>rfl
  |invoke r m=>rfl
 |makeFunc f a b=>cases f<;>rfl
 |_=>rfl
def np.wr (k:List Nat):np→np
 | .M r w=> .M r (k++w)
 | .X=> .X
noncomputable def ae4 {α:Type}(l:List (Nat×α))(j:Nat):Option α:=List.rec (motive:=fun _=>Option α) none (fun p _ ih=>bif Nat.beq p.1 j then some p.2 else ih) l
theorem U6 {α:Type}:∀(l:List (Nat×α)) (j:Nat),ae4 l j=look l j
 | [],j=>rfl
 | (k,v)::r,j=>by
   have ih:=U6 r j
   unfold ae4 at ih ⊢
   simp only[look]
   rw[ih]
noncomputable def ait {α:Type}(l:List (Nat×α))(j:Nat)(v:α):List (Nat×α):=List.rec (motive:=fun _=>List (Nat×α)) [(j,v)] (fun p r ih=>bif Nat.blt p.1 j then (j,v)::p::r else bif Nat.beq p.1 j then (j,v)::r else p::ih) l
theorem aaU {α:Type}:∀(l:List (Nat×α)) (j:Nat) (v:α),ait l j v=OQ l j v
 | [],j,v=>rfl
 | (k,u)::r,j,v=>by
   have ih:=aaU r j v
   unfold ait at ih ⊢
   simp only[OQ]
   rw[ih]
noncomputable def fT.avF (s:fT)(x:Operand):AV:=match s with
 | ⟨_,l,sv⟩=>match x with
   | .tmp t=>match ae4 l t with
     |some x=>x
     |none=> .nil
   | .const v=>ofConst v
   | .func f=> .fn f []
   | .global g=>match ae4 sv (gk g) with
     |some x=>x
     |none=> .nil
theorem anr (s:fT)(x:Operand):s.avF x=s.av x:=by
 obtain⟨n,l,sv⟩:=s
 cases x with
 |tmp t=>simp only[fT.avF,fT.av,nth,U6]
 |const v=>rfl
 |func f=>rfl
 |global g=>simp only[fT.avF,fT.av,U6]
noncomputable def Q.W9 {α:Type}(Φ:cd T)(q:Q T α):AS→np→(np→α→Option R)→Option R:=
 Q.rec (motive:=fun _=>AS→np→(np→α→Option R)→Option R)
   (fun a _ c k=>k c a)
   (fun _ _ _=>none)
   (fun o _ ih σ c k=>o.bind fun y=>ih y σ c k)
   (fun b _ ih σ c k=>bif b then ih σ c k else none)
   (fun b _ _ Nb Kz σ c k=>bif b then Nb σ c k else Kz σ c k)
   (fun r _ ih σ c k=>match look σ.rows r with
    |some x=>ih x σ (c.rd (4*r)) k
    |none=>none)
   (fun r _ ih σ c k=>match look σ.rows r with
    |some x=>ih (List.length x.xs) σ (c.rd (4*r+2)) k
    |none=>none)
   (fun b _ ih σ c k=>match look σ.boxes b with
    |some x=>ih x σ (c.rd (2*b+1)) k
    |none=>none)
   (fun h _ ih σ c k=>match σ.ag[h]? with
    |some x=>ih x σ (c.rd (hk h)) k
    |none=>none)
   (fun r _ ih σ c k=>match look σ.rows r with
    |none=>ih σ (c.rd (4*r)) k
    |some _=>none)
   (fun b _ ih σ c k=>match look σ.boxes b with
    |none=>ih σ (c.rd (2*b+1)) k
    |some _=>none)
   (fun v x _ ih σ c k=>(Φ v x).bind fun y=>ih y σ c k)
   (fun _ ih σ _ k=>ih σ σ .X k)
   (fun σ' _ ih _ _ k=>ih σ' .X k) q
theorem ald {α:Type}(Φ:cd T)(q:Q T α):∀(σ:AS) (c:np) (k:np→α→Option R),q.W9 Φ σ c k=q.run Φ σ c k:=by
 induction q with
 |ret a=>intro σ c k;rfl
 |fail=>intro σ c k;rfl
 |opt o q ih=>intro σ c k;show o.bind (fun y=>(q y).W9 Φ σ c k)=o.bind fun y=>(q y).run Φ σ c k;congr 1;funext y;exact ih y σ c k
 |iN b q ih=>intro σ c k;cases b<;>first |rfl |exact ih σ c k
 |ite b x y Nb Kz=>intro σ c k;cases b<;>first |exact Nb σ c k |exact Kz σ c k
 |row r q ih=>
  intro σ c k
  show (match look σ.rows r with |some x=>(q x).W9 Φ σ (c.rd (4*r)) k |none=>none)=_
  simp only[Q.run]
  cases look σ.rows r with
  |none=>rfl
  |some x=>exact ih x σ _ k
 |len r q ih=>
  intro σ c k
  show (match look σ.rows r with |some x=>(q (List.length x.xs)).W9 Φ σ (c.rd (4*r+2)) k |none=>none)=_
  simp only[Q.run]
  cases look σ.rows r with
  |none=>rfl
  |some x=>exact ih _ σ _ k
 |box b q ih=>
  intro σ c k
  show (match look σ.boxes b with |some x=>(q x).W9 Φ σ (c.rd (2*b+1)) k |none=>none)=_
  simp only[Q.run]
  cases look σ.boxes b with
  |none=>rfl
  |some x=>exact ih x σ _ k
 |heap h q ih=>
  intro σ c k
  show (match σ.ag[h]? with |some x=>(q x).W9 Φ σ (c.rd (hk h)) k |none=>none)=_
  simp only[Q.run]
  cases σ.ag[h]? with
  |none=>rfl
  |some x=>exact ih x σ _ k
 |rU r q ih=>
  intro σ c k
  show (match look σ.rows r with |none=>q.W9 Φ σ (c.rd (4*r)) k |some _=>none)=_
  simp only[Q.run]
  cases look σ.rows r with
  |none=>exact ih σ _ k
  |some x=>rfl
 |rV b q ih=>
  intro σ c k
  show (match look σ.boxes b with |none=>q.W9 Φ σ (c.rd (2*b+1)) k |some _=>none)=_
  simp only[Q.run]
  cases look σ.boxes b with
  |none=>exact ih σ _ k
  |some x=>rfl
 |call v x q ih=>intro σ c k;show (Φ v x).bind (fun y=>(q y).W9 Φ σ c k)=(Φ v x).bind fun y=>(q y).run Φ σ c k;congr 1;funext y;exact ih y σ c k
 |all q ih=>intro σ c k;exact ih σ σ _ k
 |on σ' q ih=>intro σ c k;exact ih σ' _ k
noncomputable def aiu (s:fT)(i:Nat)(v:AV):fT:=match s with
 | ⟨n,l,sv⟩=>bif Nat.blt i n then ⟨n,ait l i v,sv⟩ else ⟨n,l,sv⟩
theorem aiv (s:fT)(i:Nat)(v:AV):aiu s i v=FK s i v:=by
 obtain⟨n,l,sv⟩:=s
 unfold aiu FK
 simp only[aaU]
noncomputable def AS.U7 (σ:AS)(d:Option Tmp)(v:AV):AS:=match d with
 |some d=>match σ with
  | ⟨t,rows,boxes,ag,trace,cU,sites⟩=>⟨aiu t d v,rows,boxes,ag,trace,cU,sites⟩
 |none=>σ
theorem U8 (σ:AS)(d:Option Tmp)(v:AV):σ.U7 d v=σ.jO d v:=by
 cases d with
 |none=>rfl
 |some d=>
  obtain⟨t,rows,boxes,ag,trace,cU,sites⟩:=σ
  simp only[AS.U7,AS.jO,aiv]
def AS.ans (σ:AS)(u:TU):AS:=match σ with
 | ⟨t,rows,boxes,ag,trace,cU,sites⟩=>match u with
   | .row q r=>⟨t,put rows q r,boxes,ag,trace,cU,sites⟩
   | .K0 q r=>⟨t,put rows q r,boxes,ag,trace,cU,sites⟩
   | .box b x=>⟨t,rows,put boxes b x,ag,trace,cU,sites⟩
   | .heap h r=>⟨t,rows,boxes,ag.set h r,trace,cU,sites⟩
def AS.ale (σ:AS):List TU→AS
 | []=>σ
 |u::us=>(σ.ans u).ale us
theorem ae5:∀(us:List TU) (σ:AS),σ.ale us=σ.app us
 | [],σ=>rfl
 |u::us,σ=>by
  have:σ.ans u=σ.one u:=by
   obtain⟨t,rows,boxes,ag,trace,cU,sites⟩:=σ
   cases u<;>rfl
  show (σ.ans u).ale us=(σ.one u).app us
  rw[this,ae5 us]
noncomputable def Nc (T:c9)(Φ:cd T)(σ:AS)(o:Oper)(k:np→AS→Option R):Option R:=
 (opF T σ.tmps.avF σ.sites o).W9 Φ σ (.M [] []) fun c r=>match r.2 with
  | .mw us=>k (c.wr (aaP us)) ((σ.ale us).U7 o.dst r.1)
  | .set σ'=>k .X (σ'.U7 o.dst r.1)
theorem MJ (T:c9)(Φ:cd T)(σ:AS)(o:Oper)(k:np→AS→Option R):Nc T Φ σ o k=(F0 T σ.av σ.sites o).run Φ σ (.M [] []) fun c r=>match r.2 with
  | .mw us=>k (c.wr (aaP us)) ((σ.app us).jO o.dst r.1)
  | .set σ'=>k .X (σ'.jO o.dst r.1):=by
 unfold Nc
 have e:σ.tmps.avF=σ.av:=funext fun x=>anr σ.tmps x
 rw[ald,anq,e]
 simp only[ae5,U8]
def AS.OT (σ:AS)(t:Nat)(b:Bool):AS:=match σ with
 | ⟨⟨n,l,sv⟩,rows,boxes,ag,trace,cU,sites⟩=>⟨⟨n,ak6 l t (.rv (.cv ⟨.bool,b⟩)),sv⟩,rows,boxes,ag,trace,cU,sites⟩
noncomputable def K5 (T:c9)(Φ:cd T)(ops:Array Oper)(σ:AS)(o:Oper)(k:np→AS→Option R):Option R:=
 match o.guard with
 |none=>Nc T Φ σ o k
 |some (j,want)=>match (ops[j]?).bind (·.dst) with
  |some t=>match nth σ.tmps t with
   | .rv (.cv ⟨.bool,b⟩)=>
     bif b then (bif want then Nc T Φ (σ.OT t true) o k else k (.M [] []) ((σ.OT t true).U7 o.dst (.lit undef)))
     else (bif want then k (.M [] []) ((σ.OT t false).U7 o.dst (.lit undef)) else Nc T Φ (σ.OT t false) o k)
   | .lit (.tuple _)=>k (.M [] []) (σ.U7 o.dst (.lit undef))
   |_=>none
  |none=>none
noncomputable def XR (T:c9)(Φ:cd T)(ops:Array Oper):List Oper→AS→List np→(List np→AS→Option R)→Option R
 | [],σ,cs,k=>k cs σ
 |o::r,σ,cs,k=>K5 T Φ ops σ o fun c σ'=>XR T Φ ops r σ' (c::cs) k
def AS.kJ (σ:AS):List Nat→AS
 | []=>σ
 |d::ds=>(σ.eQ d).kJ ds
def AS.aaV (σ:AS)(d:Nat):AS:=match look σ.rows d with
 |none=>σ
 |some _=>σ.bL d
def AS.aaW (σ:AS)(d:Nat):AS:=match look σ.boxes d with
 |none=>σ
 |some _=>σ.eQ d
def AS.RW (σ:AS):List Nat→AS
 | []=>σ
 |d::ds=>match σ.rows with
  | []=>σ
  |_=>(σ.aaV d).RW ds
def AS.RX (σ:AS):List Nat→AS
 | []=>σ
 |d::ds=>match σ.boxes with
  | []=>σ
  |_=>(σ.aaW d).RX ds
def Qh:List Oper→List Nat
 | []=>[]
 |o::r=>match o.op with
  | .alloc _ | .box .. | .buildSlice .. | .makeSlice .. | .slice .. | .call {callee:= .builtin .append, .. }=>o.dst.getD 0::Qh r
  | .call {callee:= .builtin _, .. }=>Qh r
  | .call _=>Qg o.dst::(Qg o.dst+1)::(Qg o.dst+2)::(Qg o.dst+3)::Qh r
  |_=>Qh r
def Qi:List Oper→List Nat
 | []=>[]
 |o::r=>match o.op with
  | .alloc _ | .box .. =>o.dst.getD 0::Qi r
  | .call {callee:= .builtin _, .. }=>Qi r
  | .call _=>Qg o.dst::(Qg o.dst+1)::(Qg o.dst+2)::(Qg o.dst+3)::Qi r
  |_=>Qi r
def AS.alf (σ:AS)(l:List Oper):AS:=(σ.RW (Qh l)).RX (Qi l)
def meets (a b:List Nat):Bool:=a.any fun x=>b.any fun y=>Nat.beq x y
def I7:np→np→Bool
 | .M r w, .M r' w'=> !(meets w r'||meets w w'||meets r w')
 |_,_=>false
def N7 (acc:List Nat)(o:Oper):Nat:=
 o.after.toList.foldr (fun e s=>bif Region.binds .any e then (s|||2^e.on)||| (acc[e.on]?).getD 0 else s) 0
def Nf:List Oper→List Nat→List Nat
 | [],acc=>acc
 |o::r,acc=>Nf r (acc++[N7 acc o])
def Zd (ops:Array Oper)(i:Nat)(a:Oper×np)(m:Nat)(b:Oper×np):Bool:=
 m.testBit i||(a.1.apart ops b.1&&I7 a.2 b.2)
def U9 (ops:Array Oper)(i:Nat)(a:Oper×np):List (Oper×np)→List Nat→Bool
 | [],_=>true
 |b::r,m::ms=>Zd ops i a m b&&U9 ops i a r ms
 |_::_,[]=>false
def K6 (ops:Array Oper):Nat→List (Oper×np)→List Nat→Bool
 |_,[],_=>true
 |i,a::r,_::ms=>U9 ops i a r ms&&K6 ops (i+1) r ms
 |_,_::_,[]=>false
def K7:Nat→List Oper→Bool
 |_,[]=>true
 |i,o::r=>o.after.toList.all (fun e=> !(Region.binds .any e)||Nat.blt e.on i)&&K7 (i+1) r
noncomputable def yf (T:c9)(Φ:cd T)(ops:Array Oper)(draw:Bool)(σ:AS)(k:AS→Option R):Option R:=
 XR T Φ ops ops.toList (σ.alf ops.toList) [] fun cs σ'=>
  bif draw then (bif K7 0 ops.toList&&K6 ops 0 (ops.toList.zip cs.reverse) (Nf ops.toList []) then k σ' else none) else k σ'
inductive Ex where
 |normal |exit (id:Nat) |ret
def loops:Code→Nat
 | .seq a b=>loops a+loops b
 | .cond _ a b=>loops a+loops b
 | .block _ c=>loops c
 | .loop c=>loops c+1
 | .rangeFunc _ _ a b=>loops a+loops b+1
 |_=>0
def mR (h:List (Nat×Bool))(body:AS→(Ex→AS→Option R)→Option R)(k:Ex→AS→Option R):Nat→AS→Option R
 |0,_=>none
 |n+1,σ=>body σ fun e σ'=>match e with
  | .normal=>mR h body k n (σ'.forget h)
  | .exit i=>k (.exit i) σ'
  | .ret=>k .ret σ'
def aiw:(t:Ty)→t.den→AV
 | .st t,x=> .rv (.agg (flat t x))
 |t,x=> .rv (.cv ⟨t,x⟩)
def J5 (s:fT):List Tmp→(ts:List Ty)→(kI ts).den→Option fT
 | [],[],_=>some s
 |p::ps,t::ts,x=>J5 (FK s p (aiw t x.1)) ps ts x.2
 |_,_,_=>none
def Am (σ:AS):Bool:=(σ.tmps.l.all fun p=>Nat.blt p.1 10000)&&σ.tmps.s.all fun p=>Nat.ble 1000000000 p.1
def RNG:Nat:=1000000007
def jy (ps:List Tmp)(T7 body:AS→(Ex→AS→Option R)→Option R)(σ:AS)(k:Ex→AS→Option R):Option R:=
 match σ.cU with
 | []=>none
 |r::rs=>match r with
  | ⟨ts,xs⟩=>match xs with
    | []=>k (.exit RNG) σ
    |x::xs=>match J5 σ.tmps ps ts x with
     |some s=>T7 {σ with tmps:=s,cU:=⟨ts,xs⟩::rs} fun e σ1=>match e with
      | .normal=>body σ1 fun e σ2=>match e with
        | .normal=>k .normal σ2.back
        |_=>none
      |_=>none
     |none=>none
def gf (k:Ex→AS→Option R):Ex→AS→Option R
 | .exit _,σ=>k .normal {σ.D3 with cU:=σ.cU.tail}
 |_,_=>none
def aL (boxes:List (Nat×BX)):(ps:List oX)→List J2→Option (I5 ps)
 | [],[]=>some ()
 | [.bx t],[.box b]=>match look boxes b with
   |some (.cells cs)=>DK t cs
   |_=>none
 | .bx t::q::ps, .box b::cs=>match look boxes b with
   |some (.cells l)=>match DK t l with
    |some x=>match aL boxes (q::ps) cs with
     |some y=>some (x,y)
     |none=>none
    |none=>none
   |_=>none
 |_,_=>none
def bM:List J2→List Nat
 | []=>[]
 | .box b::r=>b::bM r
 | .qB _::r=>bM r
def zQ:List Nat→Bool
 | []=>true
 |x::r=> !(r.any (Nat.beq x))&&zQ r
def I8 (boxes:List (Nat×BX)):(ps:List oX)→List J2→Option (I5 ps)
 | [.N3],[]=>some ()
 | .N3::q::ps,cs=>match aL boxes (q::ps) cs with
   |some y=>some ((),y)
   |none=>none
 |_,_=>none
def yg (T:c9)(Φ:cd T)(σ:AS)(f:AV)(k:Rng→List Nat→Option R):Option R:=match f with
 | .fn g bj=>match T.ak5 g with
   |v::_=>match I8 σ.boxes (T.sig v).args bj with
    |some x=>match KY x (T.sig v).hin (OP T σ.ag (T.sig v).hin) with
     |some xh=>(Φ v xh).bind fun yh=>bif zQ (bM bj)&&(T.sig v).ag.isEmpty&&Nat.beq (T.real v) g then match T.sig v,xZ _ yh with
      | ⟨_,_,_,_,some ts⟩,y=>k ⟨ts,y⟩ (bM bj)
      |_,_=>none
      else none
     |none=>none
    |none=>none
   | []=>none
 |_=>none
noncomputable def aU (T:c9)(Φ:cd T)(n:Nat):Code→List (List (Nat×Bool))→AS→(Ex→AS→Option R)→Option R
 | .skip,_,σ,k=>k .normal σ
 | .region _ ops draw,_,σ,k=>yf T Φ ops draw σ (k .normal)
 | .seq a b,hs,σ,k=>aU T Φ n a hs σ fun e σ'=>match e with
   | .normal=>aU T Φ n b (hs.drop (loops a)) σ' k
   | .exit i=>k (.exit i) σ'
   | .ret=>k .ret σ'
 | .cond c a b,hs,σ,k=>match c with
   | .tmp t=>match nth σ.tmps t with
     | .rv (.cv ⟨.bool,x⟩)=>bif x then aU T Φ n a hs (σ.OT t true) k else aU T Φ n b (hs.drop (loops a)) (σ.OT t false) k
     |_=>none
   | .const (.bool x)=>bif x then aU T Φ n a hs σ k else aU T Φ n b (hs.drop (loops a)) σ k
   |_=>none
 | .block id c,hs,σ,k=>aU T Φ n c hs σ fun e σ'=>match e with
   | .normal=>k .normal σ'
   | .exit i=>bif Nat.beq i id then k .normal σ' else k (.exit i) σ'
   | .ret=>k .ret σ'
 | .loop c,hs,σ,k=>match hs with
   |h::hs'=>mR h (fun σ k'=>aU T Φ n c hs' σ k') k n (σ.forget h)
   | []=>none
 | .rangeFunc f ps a b,hs,σ,k=>match hs,σ.cU,σ.trace with
   |h::hs',[],⟨.unit,_⟩=>yg T Φ σ (σ.av f) fun r bs=>
     bif Am ((σ.kJ bs).forget h) then
      mR h (jy ps.toList (fun σ k'=>aU T Φ n a hs' σ k') (fun σ k'=>aU T Φ n b (hs'.drop (loops a)) σ k')) (gf k) n
       {(((σ.kJ bs).forget h)) with cU:=[r]}.save
     else none
   |_,_,_=>none
 | .exit i,_,σ,k=>k (.exit i) σ
 | .ret,_,σ,k=>k .ret σ
 |_,_,_,_=>none
end
def Va:(ps:List oX)→I5 ps→Nat→List AV
 | [],_,_=>[]
 | [p],x,i=>[one p x i]
 |p::q::ps,x,i=>one p x.1 i::Va (q::ps) x.2 (i+1)
where
 adk:(ts:List Ty)→uv ts→List J2
  | [],_=>[]
  | [t],x=>[.qB (flat t x)]
  |t::u::ts,x=> .qB (flat t x.1)::adk (u::ts) x.2
 one:(p:oX)→p.den→Nat→AV
  | .v t,x,_=>aiw t x
  | .fn f ts,x,_=> .fn f (adk ts x)
  | .c cs,_,_=> .rv (.agg cs)
  | .rp t,x,_=> .qB (flat t x)
  | .bx _,_,i=> .box i 0
  | .N3,_,_=> .N3
def dO:(ps:List oX)→I5 ps→Nat→List (Nat×BX)
 | [],_,_=>[]
 | [p],x,i=>one p x i
 |p::q::ps,x,i=>one p x.1 i++dO (q::ps) x.2 (i+1)
where
 one:(p:oX)→p.den→Nat→List (Nat×BX)
  | .bx t,x,i=>[(i, .cells (flat t x))]
  |_,_,_=>[]
def I9 (T:List gJ)(σ:AS):ResultVar→Option AV
 | .tmp t=>some (nth σ.tmps t)
 | .cell a t=>match nth σ.tmps a,kh T t with
   | .box b off,some r=>match look σ.boxes b with
     |some (.cells cs)=>nJ r.ty (cs.drop off)
     |some (.own q)=>match r.ty with
      | .slice _=>bif Nat.beq off 0 then some (.rv (.own q)) else none
      |_=>none
     |_=>none
   |_,_=>none
def Ze (ag:List bK)(hin:List Nat):List bK:=ag.zipIdx.map fun p=>bif hin.any (Nat.beq p.2) then ⟨p.1.e,p.1.t,p.1.k,p.1.w,[]⟩ else p.1
def K8 (σ:AS)(hin:List Nat)(p:ON)(a:AV):Option p.1.den:=
 match p.2,a with
 |none, .rv (.own r)=>match look σ.rows r with
  |some row=>(dJ p.1 [⟨.slice row.t,row.xs⟩]).map (·.1)
  |none=>none
 |none,a=>bif RU a then typed (Ze σ.ag hin) p.1 a else typed [] p.1 a
 |some e, .rv (.own r)=>match look σ.rows r with
  |some row=>bif Nat.beq row.e e then (dJ p.1 [⟨.slice row.t,row.xs⟩]).map (·.1) else none
  |none=>none
 |some _,_=>none
def ux (T:List gJ)(σ:AS)(hin:List Nat):List ResultVar→(ts:List ON)→Option (uv (ts.map (·.1)))
 | [],[]=>some ()
 | [v],[p]=>(I9 T σ v).bind (K8 σ hin p)
 |v::vs,p::q::ps=>match (I9 T σ v).bind (K8 σ hin p),ux T σ hin vs (q::ps) with
  |some x,some y=>some (x,y)
  |_,_=>none
 |_,_=>none
def vL (T:List gJ)(σ:AS):List ResultVar→List Nat
 | []=>[]
 |v::vs=>match I9 T σ v with
  |some (.rv (.own r))=>r::vL T σ vs
  |_=>vL T σ vs
def Vb (l:List ON):Bool:=l.any fun p=>p.2.isSome
def my (boxes:List (Nat×BX)):(ts:List Ty)→List J2→Option (uv ts)
 | [],[]=>some ()
 | [t],[.box b]=>match look boxes b with
   |some (.cells cs)=>DK t cs
   |_=>none
 |t::u::ts, .box b::cs=>match look boxes b with
  |some (.cells l)=>match DK t l with
   |some x=>match my boxes (u::ts) cs with
    |some y=>some (x,y)
    |none=>none
   |none=>none
  |_=>none
 |_,_=>none
def Xa (T:List gJ)(vars:List ResultVar)(s:KX)(σ:AS):Option (OO s):=match s with
 | ⟨_,_,_,_,some ts⟩=>match vars with
   | []=>(dJ (.slice (kI ts)) [σ.trace]).map (·.1)
   |_=>none
 | ⟨_,_,some (f,ts),_,none⟩=>match vars with
   | [v]=>match I9 T σ v with
     |some (.fn g bj)=>bif Nat.beq g f&&zQ (bM bj) then my σ.boxes ts bj else none
     |_=>none
   |_=>none
 | ⟨_,res,none,hs,none⟩=>bif zQ (vL T σ vars)|| !(Vb res) then ux T σ (hs.map (·.1)) vars res else none
def F1 (s:KX):CV:=match s.gen with
 |some ts=>⟨.slice (kI ts),([]:List (kI ts).den)⟩
 |none=>⟨.unit,()⟩
def Qj (T:c9)(fn:Func)(v:Nat)(x:D2 T v):AS:=
 ⟨fT.of (Va (T.sig v).args (xZ _ x) 0) (fn.ntmps - (T.sig v).args.length) T.amB,[],dO (T.sig v).args (xZ _ x) 0,sx T (T.sig v).hout (T.sig v).hin (GX _ x) (eM T),F1 (T.sig v),[],T.sites v⟩
def Ng (T:c9)(fn:Func)(v:Nat):Ex→AS→Option (Ak T v):=fun e σ=>match e with
 | .exit _=>none
 |_=>match Xa T.rows fn.results.toList (T.sig v) σ with
  |some y=>KY y (T.sig v).hout (OP T σ.ag (T.sig v).hout)
  |none=>none
noncomputable def K9 (T:c9)(fn:Func)(c:Code)(Φ:cd T)(n:Nat)(v:Nat)(x:D2 T v):Option (Ak T v):=
 aU T Φ n c (T.hint v) (Qj T fn v x) (Ng T fn v)
abbrev OU (T:c9):=(v:Nat)→Option (D2 T v→Option (Ak T v))
noncomputable def KA (T:c9)(B:OU T)(fns:Nat→Option Func):Nat→cd T
 |0,_,_=>none
 |n+1,v,x=>match B v with
  |some g=>g x
  |none=>match fns v with
   |some fn=>match fn.body with
    |some c=>K9 T fn c (KA T B fns n) n v x
    |none=>none
   |none=>none
end Go.Abs
namespace Go.Abs
open Go.RowKit
section
variable {α:Type}
theorem beq_iff (a b:Nat):Nat.beq a b=true↔a=b:=⟨fun h=>Nat.eq_of_beq_eq_true h,fun h=>by subst h;exact Nat.beq_refl a⟩
theorem uy {a b:Nat}:Nat.beq a b=false↔a≠b:=by
 constructor
 ·intro h e;rw[(beq_iff a b).2 e] at h;cases h
 ·intro h;cases hb:Nat.beq a b
  ·rfl
  ·exact absurd ((beq_iff a b).1 hb) h
theorem beq_refl (a:Nat):Nat.beq a a=true:=(beq_iff a a).2 rfl
theorem nq {a b:Nat}(h:a≠b):Nat.beq a b=false:=uy.2 h
theorem aQ (l:List (Nat×α))(j:Nat)(v:α)(i:Nat):look (put l j v) i=if j=i then some v else look l i:=by
 induction l with
 |nil=>by_cases h:j=i<;>simp[put,look,h,beq_refl,nq]
 |cons p r ih=>
  obtain⟨k,u⟩:=p
  simp only[put]
  cases hlt:Nat.blt j k with
  |true=>
   simp only[cond_true,look]
   by_cases h:j=i<;>simp[h,beq_refl,nq]
  |false=>
   simp only[cond_false]
   cases hb:Nat.beq k j with
   |true=>
    have:=(beq_iff _ _).1 hb;subst this
    simp only[cond_true,look]
    by_cases h:k=i<;>simp[h,beq_refl,nq]
   |false=>
    have hne:=uy.1 hb
    simp only[cond_false,look,ih]
    by_cases h:k=i
    ·subst h;simp[beq_refl];intro e;exact absurd e.symm hne
    ·simp[nq h]
theorem D5 (l:List (Nat×α))(j i:Nat):look (del l j) i=if j=i then none else look l i:=by
 induction l with
 |nil=>simp[del,look]
 |cons p r ih=>
  obtain⟨k,u⟩:=p
  simp only[del]
  cases hb:Nat.beq k j with
  |true=>
   have:=(beq_iff _ _).1 hb;subst this
   simp only[cond_true,ih,look]
   by_cases h:k=i<;>simp[h,nq]
  |false=>
   have hne:=uy.1 hb
   simp only[cond_false,look,ih]
   by_cases h:k=i
   ·subst h;simp[beq_refl];intro e;exact absurd e.symm hne
   ·simp[nq h]
theorem Bu (l:List (Nat×α))(p:Nat→Bool)(i:Nat):look (l.filter fun x=>p x.1) i=if p i then look l i else none:=by
 induction l with
 |nil=>simp[look]
 |cons q r ih=>
  obtain⟨k,u⟩:=q
  simp only[List.filter_cons]
  by_cases hk:k=i
  ·subst hk
   cases hp:p k<;>simp[look,hp,beq_refl,ih]
  ·cases hp:p k<;>simp[look,hp,nq hk,ih]
theorem put_comm (l:List (Nat×α)){i j:Nat}(u v:α)(h:i≠j):put (put l i u) j v=put (put l j v) i u:=by
 have Ta:∀{a b:Nat},a<b→Nat.blt a b=true:=fun h=>by simp[Nat.blt,Nat.ble_eq];omega
 have Tc:∀{a b:Nat},¬a<b→Nat.blt a b=false:=fun h=>by
  cases hb:Nat.blt _ _
  ·rfl
  ·simp[Nat.blt,Nat.ble_eq] at hb;omega
 induction l with
 |nil=>
  rcases Nat.lt_or_gt_of_ne h with h1 |h1
  ·simp[put,Ta h1,Tc (show ¬j<i by omega),nq h]
  ·simp[put,Ta h1,Tc (show ¬i<j by omega),nq (Ne.symm h)]
 |cons p r ih=>
  obtain⟨k,x⟩:=p
  simp only[put]
  by_cases h1:i<k<;>by_cases h2:j<k<;>by_cases h3:k=i<;>by_cases h4:k=j<;>
   by_cases h5:i<j<;>
   first
   |omega
   | (have h6:¬j<i:=by omega
      simp[put, *,Ta,Tc,nq,beq_refl,Ne.symm h];try omega)
   | (have h6:j<i:=by omega
      simp[put, *,Ta,Tc,nq,beq_refl,Ne.symm h];try omega)
end
theorem XT {α:Type}(l:List (Nat×α))(j:Nat)(v:α)(i:Nat):look (OQ l j v) i=if j=i then some v else look l i:=by
 induction l with
 |nil=>by_cases h:j=i<;>simp[OQ,look,h,beq_refl,nq]
 |cons p r ih=>
  obtain⟨k,u⟩:=p
  simp only[OQ]
  cases hlt:Nat.blt k j with
  |true=>
   simp only[cond_true,look]
   by_cases h:j=i<;>simp[h,beq_refl,nq]
  |false=>
   simp only[cond_false]
   cases hb:Nat.beq k j with
   |true=>
    have:=(beq_iff _ _).1 hb;subst this
    simp only[cond_true,look]
    by_cases h:k=i<;>simp[h,beq_refl,nq]
   |false=>
    have hne:=uy.1 hb
    simp only[cond_false,look,ih]
    by_cases h:k=i
    ·subst h;simp[beq_refl];intro e;exact absurd e.symm hne
    ·simp[nq h]
theorem MK (f:AV→AV)(l:List (Nat×AV))(i:Nat):look (W8 f l) i=(look l i).map f:=by
 induction l with
 |nil=>rfl
 |cons p r ih=>
  obtain⟨k,u⟩:=p
  simp only[W8,List.map_cons,look] at ih ⊢
  cases Nat.beq k i<;>simp[ih]
theorem Bv {α:Type}{l:List (Nat×α)}{i:Nat}{x:α}(h:look l i=some x):(i,x)∈l:=by
 induction l with
 |nil=>cases h
 |cons p r ih=>
  obtain⟨k,u⟩:=p
  simp only[look] at h
  cases hb:Nat.beq k i with
  |true=>
   have:=(beq_iff _ _).1 hb;subst this
   rw[hb] at h
   have e:u=x:=by simpa using h
   subst e;exact List.mem_cons_self
  |false=>rw[hb] at h;exact List.mem_cons_of_mem _ (ih h)
theorem iU (f:BX→BX)(l:List (Nat×BX))(i:Nat):look (KZ f l) i=(look l i).map f:=by
 induction l with
 |nil=>rfl
 |cons p r ih=>
  obtain⟨k,u⟩:=p
  simp only[KZ,List.map_cons,look] at ih ⊢
  cases Nat.beq k i<;>simp[ih]
inductive Nm where
 |row (r:Nat) |box (b:Nat) |hp (h n:Nat)
inductive Obj where
 |row (r:Row) |box (x:BX) |hp (k:Nat) (r:Row)
def dm:Value→Option Nat
 | .slice (some a) _ _=>some a.block
 | .pointer (some a)=>some a.block
 | .map (some r)=>some r
 |_=>none
def J6 (e:TypeId)(t:Ty)(k:Nat)(o:Option (Option (List t.den))):Option Obj:=match o with
 |some (some l)=>some (.hp k ⟨e,t,l⟩)
 |_=>none
def oY (ag:List bK)(h:Nat):Nat→Option Obj
 |0=>none
 |m+1=>match ag[h]? with
  |some hr=>J6 hr.e hr.t hr.k hr.xs[m]?
  |none=>none
def AS.obj (σ:AS):Nm→Option Obj
 | .row r=>(look σ.rows r).map .row
 | .box b=>(look σ.boxes b).map .box
 | .hp h n=>oY σ.ag h n
def hlen (ag:List bK)(h:Nat):Nat:=match ag[h]? with
 |some hr=>hr.xs.length
 |none=>0
def Own (σ:AS)(ν:Nm→Value)(m:Nm)(k:Nat):Prop:=(σ.obj m).isSome=true∧dm (ν m)=some k
def Hid (σ:AS)(ν:Nm→Value)(k:Nat):Prop:=∃m,Own σ ν m k
structure Env where
 V0:View
 w0:World
 X:Nat→Prop
 J:CV→(Nat→Prop)→World→Prop
 XS:Nat→Value
 Y:Value
 ro:Nat→Option bK
 h0:List bK
 n0:Nat→Nat→Value
 M:Nat→Prop
 base:World
 CB:Nat→Prop
 Om:Nat→Prop
 acc:CV→Prop
 XH:Nat→Nat→Prop
def Env.XU (E:Env):Nm→Nat→Prop
 | .row _,_=>False
 | .box _,_=>True
 | .hp i _,k=>E.XH i k
def Env.zJ (E:Env)(m:Nm):Prop:=∃i n hr,m= .hp i n∧E.ro i=some hr
theorem RY {E:Env}{r:Nat}:¬E.zJ (.row r):=fun⟨_,_,_,e,_⟩=>by cases e
theorem OV {E:Env}{r:Nat}:¬E.zJ (.box r):=fun⟨_,_,_,e,_⟩=>by cases e
def view (E:Env)(σ:AS)(ν:Nm→Value)(O:Nat→Prop)(w:World):View:=fun key v=>match key with
 | .cell a=>(a.block<E.w0.heap.size∧E.V0 (.cell a) v)∨(E.w0.heap.size≤a.block∧¬Hid σ ν a.block∧¬O a.block∧w.cell? a=some v)
 | .ref h n=>1≤n∧n≤hlen σ.ag h∧v=ν (.hp h n)
def tZ (V:View)(σ:AS)(ν:Nm→Value):RV→Value→Prop
 | .cv c,v=>cw V c v
 | .agg cs,v=>∃vs:List Value,v= .agg vs.toArray∧aS (cw V) cs vs
 | .own r,v=>v=ν (.row r)∧(look σ.rows r).isSome=true
def D6 (σ:AS)(ν:Nm→Value)(b off:Nat)(v:Value):Prop:=(look σ.boxes b).isSome=true∧∃g,ν (.box b)= .pointer (some ⟨g,0,none⟩)∧v= .pointer (some ⟨g,off,none⟩)
def sF (V:View)(cs:List CV)(v:Value):Prop:=∃(ad:Addr) (vs:List Value),v= .pointer (some ad)∧aS (cw V) cs vs∧∀(j:Nat) u,vs[j]? =some u→V (ad.add j) u
def uz (V:View)(σ:AS)(ν:Nm→Value):J2→Value→Prop
 | .box b,v=>D6 σ ν b 0 v
 | .qB cs,v=>sF V cs v
def au (V:View)(σ:AS)(ν:Nm→Value)(Y:Value):AV→Value→Prop
 | .rv x,v=>tZ V σ ν x v
 | .lit u,v=>v=u
 | .box b off,v=>D6 σ ν b off v
 | .Qe r sz i off,v=>∃row g,look σ.rows r=some row∧dm (ν (.row r))=some g∧sz=row.t.size∧v= .pointer (some ⟨g,i*sz+off,none⟩)
 | .qB cs,v=>sF V cs v
 | .hel h n i off,v=>∃hr g,σ.ag[h]? =some hr∧1≤n∧n≤hr.xs.length∧dm (ν (.hp h n))=some g∧v= .pointer (some ⟨g,i*hr.t.size+off,none⟩)
 | .fn f bj,v=>∃vs:List Value,v= .func (.func f) #[] vs.toArray∧aS (uz V σ ν) bj vs
 | .N3,v=>v=Y
 | .tup l,v=>∃vs:List Value,v= .tuple vs.toArray∧aS (tZ V σ ν) l vs
 | .nil,_=>True
def j7 (V:View)(w:World)(v:Value)(row:Row):Prop:=
 ∃bQ:List (List Value),w.ownsRow 0 row.e row.t.size v row.xs.length bQ.flatten∧aS (Rel V row.t) row.xs bQ
def D7 (V:View)(σ:AS)(ν:Nm→Value)(w:World)(v:Value)(x:BX):Prop:=
 ∃g,v= .pointer (some ⟨g,0,none⟩)∧match x with
  | .cells cs=>∃(cur:Array Value) (e:TypeId),w.heap[g]? =some (.cells cur e (0,0))∧aS (cw V) cs cur.toList
  | .own r=>∃e:TypeId,w.heap[g]? =some (.cells #[ν (.row r)] e (0,0))∧(look σ.rows r).isSome=true
  | .nil=>∃(u:Value) (e:TypeId),w.heap[g]? =some (.cells #[u] e (0,0))
def CS (V:View)(w:World)(k:Nat)(v:Value)(row:Row):Prop:=match k with
 |0=>ail v∧j7 V w v row
 |1=>∃(g:Nat) (cur:Array Value) (ys:List Value) (x:row.t.den),v= .pointer (some ⟨g,0,none⟩)∧w.heap[g]? =some (.cells cur row.e (0,0))∧cur.toList=ys∧row.xs=[x]∧Rel V row.t x ys
 |_=>False
def Ja (V:View)(σ:AS)(ν:Nm→Value)(w:World)(v:Value):Obj→Prop
 | .row row=>j7 V w v row
 | .box x=>D7 V σ ν w v x
 | .hp k row=>CS V w k v row
def KB (R:AV→Value→Prop)(s:fT)(ys:List Value)(X:Nat→Value):Prop:=
 s.n=ys.length∧(∀i x,look s.l i=some x→R x (ys.getD i undef))∧∀i x,look s.s i=some x→R x (X i)
structure Grow (C:Nat→Prop) (w w':World):Prop where
 os:w'.os=w.os
 tape:w'.tape=w.tape
 output:w'.output=w.output
 size:w.heap.size≤w'.heap.size
 block:∀k,k<w.heap.size→¬C k→w'.heap[k]? =w.heap[k]?
theorem Grow.refl (C:Nat→Prop)(w:World):Grow C w w:=⟨rfl,rfl,rfl,Nat.le_refl _,fun _ _ _=>rfl⟩
theorem Grow.D8 {C:Nat→Prop}{w w':World}(h:Below w.heap.size w w'):Grow C w w':=⟨h.os,h.tape,h.output,h.size,fun k hk _=>h.block k hk⟩
theorem Grow.mono {C C':Nat→Prop}{w w':World}(h:Grow C w w')(hC:∀k,k<w.heap.size→C k→C' k):Grow C' w w':=⟨h.os,h.tape,h.output,h.size,fun k hk hn=>h.block k hk fun hc=>hn (hC k hk hc)⟩
theorem Grow.trans {C D:Nat→Prop}{a b c:World}(h:Grow C a b)(k:Grow D b c)(hD:∀i,i<a.heap.size→D i→C i):Grow C a c:=
 ⟨k.os.trans h.os,k.tape.trans h.tape,k.output.trans h.output,Nat.le_trans h.size k.size,fun i hi hn=>
   (k.block i (Nat.lt_of_lt_of_le hi h.size) fun hd=>hn (hD i hi hd)).trans (h.block i hi hn)⟩
theorem Grow.below {w w':World}(h:Grow (fun _=>False) w w'):Below w.heap.size w w':=⟨h.os,h.tape,h.output,h.size,fun k hk=>h.block k hk id⟩
def agi (k:Nat)(v:Value):Prop:=(k=0∧∃g n c,v= .slice (some ⟨g,0,none⟩) n c)∨(k=1∧∃g,v= .pointer (some ⟨g,0,none⟩))
structure CT (hr hr':bK):Prop where
 e:hr'.e=hr.e
 t:hr'.t=hr.t
 k:hr'.k=hr.k
 w:hr'.w=hr.w
theorem CT.refl (hr:bK):CT hr hr:=⟨rfl,rfl,rfl,rfl⟩
theorem CT.trans {a b c:bK}(h:CT a b)(g:CT b c):CT a c:=⟨g.e.trans h.e,g.t.trans h.t,g.k.trans h.k,g.w.trans h.w⟩
structure HK (h0:List bK) (n0:Nat→Nat→Value) (hs:List bK) (ν:Nm→Value):Prop where
 num:hs.length=h0.length
 row:∀(h:Nat) (hr:bK),h0[h]? =some hr→∃hr':bK,hs[h]? =some hr'∧CT hr hr'∧hr.xs.length≤hr'.xs.length
 nm:∀h n,1≤n→n≤hlen h0 h→ν (.hp h n)=n0 h n
structure St (E:Env) (σ:AS) (a:Act) (w:World) (ν:Nm→Value) (O:Nat→Prop):Prop where
 keep:Grow E.X E.w0 w
 marks:∀d∈a.defers,∃r,d=⟨.collected r, #[]⟩∧E.w0.heap.size≤r∧w.heap[r]? =some (.deferred (some []))∧¬O r
 slots:KB (au (view E σ ν O w) σ ν E.Y) σ.tmps a.tmps.toList E.XS
 DL:∀m o,σ.obj m=some o→Ja (view E σ ν O w) σ ν w (ν m) o
 inj:∀m m' k,Own σ ν m k→Own σ ν m' k→m=m'
 Bw:∀m k,Own σ ν m k→(E.w0.heap.size≤k∨E.X k∨E.zJ m)∧k<w.heap.size∧¬O k
 new:∀m k,Own σ ν m k→E.w0.heap.size≤k∨E.XU m k
 out:E.J σ.trace O w∧∀k,O k→k<w.heap.size∧(k<E.w0.heap.size→E.X k)
 nn:∀(h:Nat) (hr:bK) (n:Nat),σ.ag[h]? =some hr→1≤n→n≤hr.xs.length→agi hr.k (ν (.hp h n))
 ro:∀h hr,E.ro h=some hr→σ.ag[h]? =some hr∧hr.w=false
 kept:HK E.h0 E.n0 σ.ag ν
 waits:∀r,E.M r→w.heap[r]? =some (.deferred (some []))∧¬O r
 yi:Grow E.CB E.base w
 zS:∀m k,Own σ ν m k→E.zJ m∨E.CB k∨E.base.heap.size≤k
 Qk:∀k,E.Om k→O k
 nd:a.defers.Nodup
structure aR (E:Env):Prop where
 cell:∀ad v,E.V0 (.cell ad) v→E.w0.cell? ad=some v∧¬E.X ad.block
 stay:∀tr O w w' C,E.J tr O w→Grow C w w'→(∀k,C k→¬O k∧(k<E.w0.heap.size→E.X k))→E.J tr O w'
section
variable {E:Env}{σ σ':AS}{a:Act}{w w':World}{ν ν':Nm→Value}{O:Nat→Prop}
abbrev St.V (E:Env)(σ:AS)(w:World)(ν:Nm→Value)(O:Nat→Prop):View:=view E σ ν O w
theorem An (hE:aR E)(hb:Grow E.X E.w0 w){a:Addr}{v:Value}(h:view E σ ν O w a v):w.cell? a=some v:=by
 rcases h with ⟨hlt,h⟩ | ⟨_,_,_,h⟩
 ·obtain⟨h1,h2⟩:=hE.cell _ _ h
  rw[World.cell?_of_block (hb.block a.block hlt h2)];exact h1
 ·exact h
structure HSub (σ:AS) (ν:Nm→Value) (σ':AS) (ν':Nm→Value):Prop where
 num:σ'.ag.length=σ.ag.length
 row:∀(h:Nat) (hr:bK),σ.ag[h]? =some hr→∃hr':bK,σ'.ag[h]? =some hr'∧CT hr hr'∧hr.xs.length≤hr'.xs.length
 nm:∀h n,1≤n→n≤hlen σ.ag h→ν' (.hp h n)=ν (.hp h n)
theorem HSub.of_eq (e:σ'.ag=σ.ag)(hν:∀i n,ν' (.hp i n)=ν (.hp i n)):HSub σ ν σ' ν':=⟨by rw[e],fun i hr h=>⟨hr,by rw[e];exact h,CT.refl _,Nat.le_refl _⟩,fun i n _ _=>hν i n⟩
theorem HSub.refl (σ:AS)(ν:Nm→Value):HSub σ ν σ ν:=HSub.of_eq rfl fun _ _=>rfl
theorem HSub.len (h:HSub σ ν σ' ν')(i:Nat):hlen σ.ag i≤hlen σ'.ag i:=by
 unfold hlen
 cases hi:σ.ag[i]? with
 |none=>exact Nat.zero_le _
 |some hr=>
  obtain⟨hr',h1,_,h2⟩:=h.row i hr hi
  simp only[h1];exact h2
theorem HK.trans {h0:List bK}{n0:Nat→Nat→Value}(h:HK h0 n0 σ.ag ν)(hs:HSub σ ν σ' ν'):HK h0 n0 σ'.ag ν':=by
 have hle:∀i n,1≤n→n≤hlen h0 i→n≤hlen σ.ag i:=fun i n h1 h2=>by
  unfold hlen at h2
  cases hi:h0[i]? with
  |none=>rw[hi] at h2;dsimp only at h2;omega
  |some hr=>
   rw[hi] at h2
   obtain⟨hr',e1,_,e2⟩:=h.row i hr hi
   unfold hlen
   rw[e1]
   exact Nat.le_trans h2 e2
 refine⟨hs.num.trans h.num,fun i hr e=> ?_,fun i n h1 h2=>(hs.nm i n h1 (hle i n h1 h2)).trans (h.nm i n h1 h2)⟩
 obtain⟨RZ,e1,e2,e3⟩:=h.row i hr e
 obtain⟨J7,e4,e5,e6⟩:=hs.row i RZ e1
 exact⟨J7,e4,e2.trans e5,Nat.le_trans e3 e6⟩
theorem HB {O':Nat→Prop}{C:Nat→Prop}(hg:Grow C w w')(hs:HSub σ ν σ' ν')
  (hk:∀k,E.w0.heap.size≤k→k<w.heap.size→¬Hid σ ν k→¬O k→¬Hid σ' ν' k∧¬O' k∧¬C k) {key:Key} {v:Value}
  (h:view E σ ν O w key v):view E σ' ν' O' w' key v:=by
 cases key with
 |cell a=>
  rcases h with h | ⟨h1,h2,h3,h4⟩
  ·exact .inl h
  ·have hlt:=World.block_lt_of_cell? w a h4
   obtain⟨h5,h6,h7⟩:=hk _ h1 hlt h2 h3
   exact .inr ⟨h1,h5,h6,by rw[World.cell?_of_block (hg.block _ hlt h7)];exact h4⟩
 |ref i n=>
  obtain⟨h1,h2,h3⟩:=h
  exact⟨h1,Nat.le_trans h2 (hs.len i),by rw[hs.nm i n h1 h2];exact h3⟩
structure Sub (σ:AS) (ν:Nm→Value) (σ':AS) (ν':Nm→Value):Prop extends HSub σ ν σ' ν' where
 rows:∀r row,look σ.rows r=some row→ν' (.row r)=ν (.row r)∧∃row',look σ'.rows r=some row'∧row'.t.size=row.t.size
 boxes:∀b,(look σ.boxes b).isSome=true→ν' (.box b)=ν (.box b)∧(look σ'.boxes b).isSome=true
theorem Sub.refl (σ:AS)(ν:Nm→Value):Sub σ ν σ ν:=⟨HSub.refl σ ν,fun r row h=>⟨rfl,row,h,rfl⟩,fun b h=>⟨rfl,h⟩⟩
theorem Sub.K0 (h:Sub σ ν σ' ν'){r:Nat}(hr:(look σ.rows r).isSome=true):ν' (.row r)=ν (.row r)∧(look σ'.rows r).isSome=true:=by
 obtain⟨row,hrow⟩:=Option.isSome_iff_exists.1 hr
 obtain⟨h1,row',h2,_⟩:=h.rows r row hrow
 exact⟨h1,by simp[h2]⟩
theorem tZ.mono {V V':View}(hV:∀a v,V a v→V' a v)(hs:Sub σ ν σ' ν'):∀(x:RV) (v:Value),tZ V σ ν x v→tZ V' σ' ν' x v
 | .cv c,v,h=>cw.mono hV c v h
 | .agg cs,v,⟨vs,e,h⟩=>⟨vs,e,h.mono (cw.mono hV)⟩
 | .own r,v,⟨e,h⟩=>⟨by rw[(hs.K0 h).1];exact e,(hs.K0 h).2⟩
theorem D6.mono (hs:Sub σ ν σ' ν'){b off:Nat}{v:Value}(h:D6 σ ν b off v):D6 σ' ν' b off v:=by
 obtain⟨h1,g,h2,h3⟩:=h
 obtain⟨h4,h5⟩:=hs.boxes b h1
 exact⟨h5,g,by rw[h4];exact h2,h3⟩
theorem sF.mono {V V':View}(hV:∀a v,V a v→V' a v){cs:List CV}{v:Value}(h:sF V cs v):sF V' cs v:=by
 obtain⟨ad,vs,h1,h2,h3⟩:=h;exact⟨ad,vs,h1,h2.mono (cw.mono hV),fun j u hj=>hV _ _ (h3 j u hj)⟩
theorem uz.mono {V V':View}(hV:∀a v,V a v→V' a v)(hs:Sub σ ν σ' ν'):∀(x:J2) (v:Value),uz V σ ν x v→uz V' σ' ν' x v
 | .box b,v,h=>D6.mono hs h
 | .qB cs,v,h=>sF.mono hV h
theorem au.mono {V V':View}{Y:Value}(hV:∀a v,V a v→V' a v)(hs:Sub σ ν σ' ν'):∀(x:AV) (v:Value),au V σ ν Y x v→au V' σ' ν' Y x v:=by
 intro x v h
 cases x with
 |rv x=>exact tZ.mono hV hs x v h
 |lit u=>exact h
 |box b off=>exact D6.mono hs h
 |Qe r sz i off=>
  obtain⟨row,g,h1,h2,h3,h4⟩:=h
  obtain⟨h5,row',h6,h7⟩:=hs.rows r row h1
  exact⟨row',g,h6,by rw[h5];exact h2,by rw[h7];exact h3,h4⟩
 |qB cs=>exact sF.mono hV h
 |hel i n j off=>
  obtain⟨hr,g,h1,h2,h3,h4,h5⟩:=h
  obtain⟨hr',h6,h7,h8⟩:=hs.row i hr h1
  exact⟨hr',g,h6,h2,Nat.le_trans h3 h8,by rw[hs.nm i n h2 (by unfold hlen;simp only[h1];exact h3)];exact h4,by rw[h7.t];exact h5⟩
 |fn f bj=>obtain⟨vs,h1,h2⟩:=h;exact⟨vs,h1,h2.mono (uz.mono hV hs)⟩
 |N3=>exact h
 |tup l=>obtain⟨vs,h1,h2⟩:=h;exact⟨vs,h1,h2.mono (tZ.mono hV hs)⟩
 |nil=>trivial
theorem Xb {w w':World}{e:TypeId}{size n:Nat}{v:Value}{xs:List Value}(hk:∀k,dm v=some k→w'.heap[k]? =w.heap[k]?)(h:w.ownsRow 0 e size v n xs):w'.ownsRow 0 e size v n xs:=by
 obtain⟨h1,h2⟩:=h
 refine⟨h1, ?_⟩
 rcases h2 with h2 | ⟨g,cap,cur,rfl,hb,hg,rest⟩
 ·exact .inl h2
 ·exact .inr ⟨g,cap,cur,rfl,hb,by rw[hk g rfl];exact hg,rest⟩
theorem j7.mono {V V':View}{v:Value}{row:Row}(hV:∀a v,V a v→V' a v)(hk:∀k,dm v=some k→w'.heap[k]? =w.heap[k]?)
  (h:j7 V w v row):j7 V' w' v row:=by
 obtain⟨bQ,h1,h3⟩:=h
 exact⟨bQ,Xb hk h1,h3.mono (Rel.mono hV _)⟩
theorem CS.mono {V V':View}{k:Nat}{v:Value}{row:Row}(hV:∀a v,V a v→V' a v)(hk:∀k,dm v=some k→w'.heap[k]? =w.heap[k]?)
  (h:CS V w k v row):CS V' w' k v row:=by
 match k,h with
 |0,⟨h1,h2⟩=>exact⟨h1,h2.mono hV hk⟩
 |1,⟨g,cur,ys,x,h1,h2,h3,h4,h5⟩=>exact⟨g,cur,ys,x,h1,by rw[hk g (by rw[h1];rfl)];exact h2,h3,h4,Rel.mono hV _ _ _ h5⟩
theorem D7.mono {V V':View}{v:Value}{x:BX}(hV:∀a v,V a v→V' a v)(hk:∀k,dm v=some k→w'.heap[k]? =w.heap[k]?)
  (hr:∀r,x= .own r→(look σ.rows r).isSome=true→ν' (.row r)=ν (.row r)∧(look σ'.rows r).isSome=true) (h:D7 V σ ν w v x):D7 V' σ' ν' w' v x:=by
 obtain⟨g,h1,h2⟩:=h
 have hg:=hk g (by rw[h1];rfl)
 refine⟨g,h1, ?_⟩
 cases x with
 |cells cs=>obtain⟨cur,e,h3,h4⟩:=h2;exact⟨cur,e,by rw[hg];exact h3,h4.mono (cw.mono hV)⟩
 |own r=>
  obtain⟨e,h3,h4⟩:=h2
  obtain⟨h5,h6⟩:=hr r rfl h4
  exact⟨e,by rw[hg,h5];exact h3,h6⟩
 |nil=>obtain⟨u,e,h3⟩:=h2;exact⟨u,e,by rw[hg];exact h3⟩
theorem Ja.mono {V V':View}{v:Value}{o:Obj}(hV:∀a v,V a v→V' a v)(hk:∀k,dm v=some k→w'.heap[k]? =w.heap[k]?)
  (hr:∀r,o= .box (.own r)→(look σ.rows r).isSome=true→ν' (.row r)=ν (.row r)∧(look σ'.rows r).isSome=true) (h:Ja V σ ν w v o):Ja V' σ' ν' w' v o:=by
 cases o with
 |row row=>exact j7.mono hV hk h
 |box x=>exact D7.mono hV hk (fun r e=>hr r (by rw[e])) h
 |hp k row=>exact CS.mono hV hk h
theorem KB.mono {R S:AV→Value→Prop}{s:fT}{ys:List Value}{X:Nat→Value}(h:KB R s ys X)(hf:∀x v,R x v→S x v):KB S s ys X:=
 ⟨h.1,fun i x hx=>hf _ _ (h.2.1 i x hx),fun i x hx=>hf _ _ (h.2.2 i x hx)⟩
theorem Ql {R:AV→Value→Prop}(hn:∀v,R .nil v){s:fT}{ys:List Value}{X:Nat→Value}(h:KB R s ys X)(i:Nat):R (nth s i) (ys.getD i undef):=by
 unfold nth
 cases hl:look s.l i with
 |none=>exact hn _
 |some x=>exact h.2.1 i x hl
theorem vM (a b:Nat):Nat.blt a b=true↔a<b:=by simp[Nat.blt,Nat.ble_eq];omega
theorem aaX {R:AV→Value→Prop}{s:fT}{ys:List Value}{X:Nat→Value}{i:Nat}{x:AV}{y:Value}(h:KB R s ys X)(hx:R x y):KB R (FK s i x) (ys.set i y) X:=by
 unfold FK
 cases hb:Nat.blt i s.n with
 |true=>
  have hi:i<ys.length:=by rw[←h.1];exact(vM _ _).1 hb
  refine⟨by rw[List.length_set];exact h.1,fun j z hz=> ?_,h.2.2⟩
  have hz':look (OQ s.l i x) j=some z:=hz
  rw[XT] at hz'
  by_cases e:i=j
  ·subst e
   rw[if_pos rfl] at hz'
   obtain rfl:x=z:=by simpa using hz'
   simpa [List.getD,List.getElem?_set,hi] using hx
  ·rw[if_neg e] at hz'
   have:=h.2.1 j z hz'
   simpa [List.getD,List.getElem?_set,e] using this
 |false=>
  have hi:¬i<ys.length:=fun hi=>by rw[←h.1, ←vM,hb] at hi;cases hi
  simp only[cond_false]
  rw[List.set_eq_of_length_le (by omega)];exact h
theorem ML {R S:AV→Value→Prop}{f:AV→AV}(hf:∀x v,R x v→S (f x) v){s:fT}{ys:List Value}{X:Nat→Value}(h:KB R s ys X):KB S (s.map f) ys X:=by
 refine⟨h.1,fun i x hx=> ?_,fun i x hx=> ?_⟩
 ·have hx':look (W8 f s.l) i=some x:=hx
  rw[MK] at hx'
  obtain⟨z,hz,rfl⟩:=Option.map_eq_some_iff.1 hx'
  exact hf _ _ (h.2.1 i z hz)
 ·have hx':look (W8 f s.s) i=some x:=hx
  rw[MK] at hx'
  obtain⟨z,hz,rfl⟩:=Option.map_eq_some_iff.1 hx'
  exact hf _ _ (h.2.2 i z hz)
theorem aix {R:AV→Value→Prop}{σ:AS}{a:Act}{X:Nat→Value}{d:Option Tmp}{x:AV}{v:Value}(h:KB R σ.tmps a.tmps.toList X)(hx:R x v):
  KB R (σ.jO d x).tmps (a.put d v).tmps.toList X:=by
 cases d with
 |none=>exact h
 |some d=>simpa [AS.jO,Act.put] using aaX h hx
theorem aaY {a:Act}{d:Option Tmp}{v:Value}:(a.put d v).defers=a.defers:=by cases d<;>rfl
def Nh (σ σ':AS):Prop:=σ'.rows=σ.rows∧σ'.boxes=σ.boxes∧σ'.ag=σ.ag∧σ'.trace=σ.trace
theorem Nh.obj (h:Nh σ σ'):σ'.obj=σ.obj:=by
 obtain⟨h1,h2,h3,_⟩:=h
 funext m;cases m<;>simp[AS.obj,h1,h2,h3]
theorem Nh.view (h:Nh σ σ'):view E σ' ν O w=view E σ ν O w:=by
 have:=h.obj
 unfold Abs.view Hid Own;rw[this,h.2.2.1]
theorem Nh.sub (h:Nh σ σ'):Sub σ ν σ' ν:=by
 obtain⟨h1,h2,h3,_⟩:=h
 exact⟨HSub.of_eq h3 (fun _ _=>rfl),fun r row h=>⟨rfl,row,by rw[h1];exact h,rfl⟩,fun b h=>⟨rfl,by rw[h2];exact h⟩⟩
theorem Nh.av (h:Nh σ σ'){V:View}{Y:Value}{x:AV}{v:Value}(hr:au V σ ν Y x v):au V σ' ν Y x v:=au.mono (fun _ _ h=>h) h.sub x v hr
theorem Nh.symm (h:Nh σ σ'):Nh σ' σ:=⟨h.1.symm,h.2.1.symm,h.2.2.1.symm,h.2.2.2.symm⟩
theorem Nh.jO {d:Option Tmp}{x:AV}:Nh σ (σ.jO d x):=by cases d<;>exact⟨rfl,rfl,rfl,rfl⟩
theorem St.adl (h:St E σ a w ν O)(hs:Nh σ σ'){a':Act}(hd:a'.defers=a.defers)(Xc:KB (au (view E σ ν O w) σ ν E.Y) σ'.tmps a'.tmps.toList E.XS):St E σ' a' w ν O:=by
 have hv:view E σ' ν O w=view E σ ν O w:=hs.view
 refine⟨h.keep,by rw[hd];exact h.marks, ?_, ?_, ?_, ?_, ?_, ?_, ?_, ?_, ?_,h.waits,h.yi, ?_,h.Qk,by rw[hd];exact h.nd⟩
 ·rw[hv];exact Xc.mono fun x v hr=>hs.av hr
 ·intro m o ho
  rw[hs.obj] at ho
  rw[hv]
  exact(h.DL m o ho).mono (fun _ _ h=>h) (fun _ _=>rfl) (fun r _ hr=>⟨rfl,by rw[hs.1];exact hr⟩)
 ·unfold Own;rw[hs.obj];exact h.inj
 ·unfold Own;rw[hs.obj];exact h.Bw
 ·unfold Own;rw[hs.obj];exact h.new
 ·rw[hs.2.2.2];exact h.out
 ·rw[hs.2.2.1];exact h.nn
 ·rw[hs.2.2.1];exact h.ro
 ·rw[hs.2.2.1];exact h.kept
 ·unfold Own;rw[hs.obj];exact h.zS
theorem St.slot (h:St E σ a w ν O){d:Option Tmp}{x:AV}{v:Value}(hx:au (view E σ ν O w) σ ν E.Y x v):St E (σ.jO d x) (a.put d v) w ν O:=
 h.adl Nh.jO aaY (aix h.slots hx)
theorem aaZ {V:View}{Y:Value}(v:Value):au V σ ν Y (ofConst v) v:=by
 cases v<;>first |exact rfl | (show Rel V _ _ _;rfl)
def OW (E:Env):Prop:=∀g,E.XS (gk g)= .pointer (some ⟨g,0,none⟩)
theorem St.av (hG:OW E)(h:St E σ a w ν O)(x:Operand):au (view E σ ν O w) σ ν E.Y (σ.av x) (a.eval x):=by
 cases x with
 |tmp t=>
  have:=Ql (fun v=>by trivial) h.slots t
  simpa [AS.av,fT.av,Act.eval] using this
 |const v=>exact aaZ v
 |global g=>
  simp only[AS.av,fT.av]
  cases hl:look σ.tmps.s (gk g) with
  |none=>trivial
  |some x=>have:=h.slots.2.2 _ x hl;rw[hG g] at this;exact this
 |func f=>exact⟨[],rfl,trivial⟩
theorem St.step (hE:aR E)(h:St E σ a w ν O){C:Nat→Prop}{a':Act}(hg:Grow C w w')(hC:∀k,C k→∃m,Own σ ν m k∧¬E.zJ m)(hs:HSub σ ν σ' ν')
  (hown:∀m k,Own σ' ν' m k→(∃m',Own σ ν m' k∧(E.zJ m'→E.zJ m))∨w.heap.size≤k) (hlt:∀m k,Own σ' ν' m k→k<w'.heap.size) (aso:∀m m' k,Own σ' ν' m k→Own σ' ν' m' k→m=m')
  (HC:∀m k,Own σ' ν' m k→E.w0.heap.size≤k∨E.XU m k) (htr:σ'.trace=σ.trace) (hd:a'.defers=a.defers)
  (hnn:∀(h:Nat) (hr:bK) (n:Nat),σ'.ag[h]? =some hr→1≤n→n≤hr.xs.length→agi hr.k (ν' (.hp h n)))
  (hro:∀h hr,E.ro h=some hr→σ'.ag[h]? =some hr)
  (XV:(∀key v,view E σ ν O w key v→view E σ' ν' O w' key v)→∀m o,σ'.obj m=some o→Ja (view E σ' ν' O w') σ' ν' w' (ν' m) o)
  (Xc:(∀key v,view E σ ν O w key v→view E σ' ν' O w' key v)→KB (au (view E σ' ν' O w') σ' ν' E.Y) σ'.tmps a'.tmps.toList E.XS):St E σ' a' w' ν' O:=by
 have hmono:∀key v,view E σ ν O w key v→view E σ' ν' O w' key v:=fun key v hv=>HB hg hs (fun k h1 h2 h3 h4=>⟨fun⟨m,hm⟩=>by
  rcases hown m k hm with ⟨m',h5,_⟩ |h5
  ·exact h3 ⟨m',h5⟩
  ·omega,h4,fun hc=>h3 ((hC k hc).imp fun _ h=>h.1)⟩) hv
 have hcell:∀r ds,w.heap[r]? =some (.deferred ds)→¬C r:=fun r ds h3 hc=>by
  obtain⟨m,hm,_⟩:=hC r hc
  obtain⟨o,ho⟩:=Option.isSome_iff_exists.1 hm.1
  have cV:=h.DL m o ho
  have hblk:=hm.2
  -- an owned block holds cells
  have:∃cur e,w.heap[r]? =some (.cells cur e (0,0)):=by
   cases o with
   |row row=>
    obtain⟨bQ,⟨_,h5⟩,_⟩:=cV
    rcases h5 with ⟨h5,_⟩ | ⟨g,cap,cur,h5,_,h6,_⟩
    ·rw[h5] at hblk;cases hblk
    ·rw[h5] at hblk;simp only[dm,Option.some.injEq] at hblk;subst hblk;exact⟨_,_,h6⟩
   |box x=>
    obtain⟨g,h5,h6⟩:=cV
    rw[h5] at hblk;simp only[dm,Option.some.injEq] at hblk;subst hblk
    cases x with
    |cells cs=>obtain⟨cur,e,h7,_⟩:=h6;exact⟨_,_,h7⟩
    |own q=>obtain⟨e,h7,_⟩:=h6;exact⟨_,_,h7⟩
    |nil=>obtain⟨u,e,h7⟩:=h6;exact⟨_,_,h7⟩
   |hp k row=>
    match k,cV with
    |0,⟨_,bQ,⟨_,h5⟩,_⟩=>
     rcases h5 with ⟨h5,_⟩ | ⟨g,cap,cur,h5,_,h6,_⟩
     ·rw[h5] at hblk;cases hblk
     ·rw[h5] at hblk;simp only[dm,Option.some.injEq] at hblk;subst hblk;exact⟨_,_,h6⟩
    |1,⟨g,cur,ys,x,h5,h6,_⟩=>rw[h5] at hblk;simp only[dm,Option.some.injEq] at hblk;subst hblk;exact⟨_,_,h6⟩
  obtain⟨cur,e,h5⟩:=this
  rw[h5] at h3;cases h3
 refine⟨h.keep.trans hg (fun k hk hc=> ?_), ?_,Xc hmono,XV hmono,aso, ?_,HC, ?_,hnn,fun i hr e=>⟨hro i hr e,(h.ro i hr e).2⟩,h.kept.trans hs,fun r hr=> ?_,h.yi.trans hg (fun k hk hc=> ?_),fun m k hm=> ?_,h.Qk,by rw[hd];exact h.nd⟩
 ·obtain⟨m,hm,hm2⟩:=hC k hc
  rcases (h.Bw m k hm).1 with h1 |h1 |h1
  ·omega
  ·exact h1
  ·exact absurd h1 hm2
 ·rw[hd]
  intro d hdm
  obtain⟨r,h1,h2,h3,h4⟩:=h.marks d hdm
  exact⟨r,h1,h2,by rw[hg.block r (Array.getElem?_eq_some_iff.1 h3).1 (hcell r _ h3)];exact h3,h4⟩
 ·intro m k hm
  refine⟨?_,hlt m k hm, ?_⟩
  ·rcases hown m k hm with ⟨m',h1,h2⟩ |h1
   ·exact(h.Bw m' k h1).1.imp id (Or.imp id h2)
   ·exact .inl (Nat.le_trans h.keep.size h1)
  ·intro ho
   rcases hown m k hm with ⟨m',h1,_⟩ |h1
   ·exact(h.Bw m' k h1).2.2 ho
   ·exact absurd (h.out.2 k ho).1 (by omega)
 ·rw[htr]
  refine⟨hE.stay _ _ _ _ C h.out.1 hg (fun k hc=> ?_),fun k hk=>⟨Nat.lt_of_lt_of_le (h.out.2 k hk).1 hg.size,(h.out.2 k hk).2⟩⟩
  obtain⟨m,hm,hm2⟩:=hC k hc
  refine⟨(h.Bw m k hm).2.2,fun hk=> ?_⟩
  rcases (h.Bw m k hm).1 with h1 |h1 |h1
  ·omega
  ·exact h1
  ·exact absurd h1 hm2
 ·obtain⟨h1,h2⟩:=h.waits r hr
  exact⟨by rw[hg.block r (Array.getElem?_eq_some_iff.1 h1).1 (hcell r _ h1)];exact h1,h2⟩
 ·obtain⟨m,hm,hm2⟩:=hC k hc
  rcases h.zS m k hm with h1 |h1 |h1
  ·exact absurd h1 hm2
  ·exact h1
  ·omega
 ·rcases hown m k hm with ⟨m',h1,h2⟩ |h1
  ·exact(h.zS m' k h1).imp h2 id
  ·exact .inr (.inr (Nat.le_trans h.yi.size h1))
theorem St.grow (hE:aR E)(h:St E σ a w ν O)(hb:Below w.heap.size w w'):St E σ a w' ν O:=by
 refine h.step hE (C:=fun _=>False) (Grow.D8 hb) (fun k hk=>hk.elim) (HSub.refl σ ν) (fun m k hm=> .inl ⟨m,hm,id⟩) (fun m k hm=>Nat.lt_of_lt_of_le (h.Bw m k hm).2.1 hb.size) h.inj h.new rfl rfl h.nn (fun i hr e=>(h.ro i hr e).1) (fun hV m o ho=> ?_) (fun hV=>h.slots.mono (au.mono hV (Sub.refl σ ν)))
 exact(h.DL m o ho).mono hV (fun k hk=>hb.block k (h.Bw m k ⟨by rw[ho];rfl,hk⟩).2.1) (fun r _ hr=>⟨rfl,hr⟩)
end
end Go.Abs
namespace Go.Abs
open Go.RowKit
def ant (P:Program)(T:List gJ)(r:gJ):Ty→Prop
 | .int k=>P.underlying r.id=some (.int k)
 | .bool=>P.underlying r.id=some .bool
 | .str=>P.underlying r.id=some .string
 | .slice u=>P.underlying r.id=some (.slice r.elem)∧∃re,kh T r.elem=some re∧re.ty=u
 | .st u=>(r.arr=false∧∃fs:Array Field,P.underlying r.id=some (.struct fs)∧fs.toList.mapM (fun f=>(P.info? f.type).map fun i=>(f.offset,i.size))=some r.sD∧∀(f off size:Nat),r.sD[f]? =some (off,size)→
   ∃(fd:Field) (j:TypeInfo),fs[f]? =some fd∧fd.offset=off∧P.info? fd.type=some j∧j.size=size∧size≠0∧off+size≤u.size)∨
   (r.arr=true∧∃(n e:Nat) (j:TypeInfo),P.underlying r.id=some (.array n e)∧P.info? e=some j∧r.sD=(List.range n).map (fun i=>(i*j.size,j.size))∧j.size≠0∧u.size=n*j.size)
 | .ptr _=>∃e,P.underlying r.id=some (.pointer e)
 | .mp _=>∃k e,P.underlying r.id=some (.map k e)
 | .fn=>∃a b c,P.underlying r.id=some (.func a b c)
 |_=>False
structure TOk (P:Program) (T:List gJ) (r:gJ):Prop where
 info:∃i z,P.info? r.id=some i∧i.size=r.ty.size∧i.bytes=r.bytes∧i.zero=some z∧(∀V,Rel V r.ty r.ty.zero z.cells.toList)∧(z=wrap r.ty z.cells.toList)∧(∀u,r.ty= .slice u→z= .slice none 0 0)
 desc:ant P T r r.ty
 sD:(∀u,r.ty≠ .st u)→r.sD=[]
def jA (P:Program)(T:List gJ):Prop:=∀t r,kh T t=some r→r.id=t∧TOk P T r
section
variable {P:Program}{T:List gJ}{V:View}{r:gJ}
theorem aiy {i:IntKind}{n:Int}{v:Value}(h:cw V ⟨.int i,n⟩ v):v= .int i n:=by
 have: [v]=[Value.int i n]:=h
 simpa using this
theorem XW {b:Bool}{v:Value}(h:cw V ⟨.bool,b⟩ v):v= .bool b:=by
 have: [v]=[Value.bool b]:=h
 simpa using this
theorem aiz {s:ByteArray}{v:Value}(h:cw V ⟨.str,s⟩ v):v= .string s:=by
 have: [v]=[Value.string s]:=h
 simpa using this
theorem sG {t:Ty}{xs:List t.den}{v:Value}(h:cw V ⟨.slice t,xs⟩ v):∃(A:Option Addr) (c:Nat) (bQ:List (List Value)),v= .slice A xs.length c∧
  xs.length≤c∧aS (Rel V t) xs bQ∧(A=none→c=0)∧∀j u,bQ.flatten[j]? =some u→∃ad,A=some ad∧V (ad.add j) u:=by
 obtain⟨A,c,bQ,h1,h2⟩:=h
 simp only[List.cons.injEq,and_true] at h1
 exact⟨A,c,bQ,h1,h2⟩
theorem ae7 {i:IntKind}{n:Int}:cw V ⟨.int i,n⟩ (.int i n):=by show [Value.int i n]=[Value.int i n];rfl
theorem aa1 {b:Bool}:cw V ⟨.bool,b⟩ (.bool b):=by show [Value.bool b]=[Value.bool b];rfl
theorem ae8 {s:ByteArray}:cw V ⟨.str,s⟩ (.string s):=by show [Value.string s]=[Value.string s];rfl
theorem gO {t:Ty}:∀{xs:List t.den} {bQ:List (List Value)},aS (Rel V t) xs bQ→bQ.flatten.length=xs.length*t.size
 | [],[],_=>by simp
 |x::xs,y::ys,h=>by
  simp[Rel.length h.1,gO h.2,Nat.add_mul];omega
 | [],_::_,h=>h.elim
 |_::_,[],h=>h.elim
theorem D9 {t:Ty}:∀{xs:List t.den} {bQ:List (List Value)},aS (Rel V t) xs bQ→∀(i:Nat) x,xs[i]? =some x→
  ∃ys,bQ[i]? =some ys∧Rel V t x ys∧∀j u,ys[j]? =some u→bQ.flatten[i*t.size+j]? =some u
 | [],[],_,i,x,hx=>by simp at hx
 |a::xs,b::bQ,h,0,x,hx=>by
  simp at hx;subst hx
  refine⟨b,by simp,h.1,fun j u hj=> ?_⟩
  have hlt:j<b.length:=(List.getElem?_eq_some_iff.1 hj).1
  simp[List.getElem?_append_left hlt,hj]
 |a::xs,b::bQ,h,i+1,x,hx=>by
  obtain⟨ys,h1,h2,h3⟩:=D9 h.2 i x (by simpa using hx)
  refine⟨ys,by simpa using h1,h2,fun j u hj=> ?_⟩
  have hb:=Rel.length h.1
  have:=h3 j u hj
  rw[List.flatten_cons,List.getElem?_append_right (by rw[hb,Nat.succ_mul];omega)]
  rw[←this];congr 1;rw[hb,Nat.succ_mul];omega
 | [],_::_,h,_,_,_=>h.elim
 |_::_,[],h,_,_,_=>h.elim
theorem add_add (a:Addr)(m n:Nat):(a.add m).add n=a.add (m+n):=by
 unfold Addr.add
 by_cases h1:m=0<;>by_cases h2:n=0<;>simp[h1,h2,Nat.add_assoc]
theorem Vd {α:Type}{xs:List α}{n:Int}{x:α}(h:idx xs n=some x):0≤n∧n<xs.length∧xs[n.toNat]? =some x:=by
 cases n with
 |ofNat m=>
  simp only[idx] at h
  have:=(List.getElem?_eq_some_iff.1 h).1
  exact⟨by simp,by simp;exact this,by simpa using h⟩
 |negSucc m=>simp[idx] at h
theorem La {vs:List Value}{n j:Nat}{u:Value}(h:(vs.take n)[j]? =some u):vs[j]? =some u:=by
 rw[List.getElem?_take] at h
 split at h
 ·exact h
 ·cases h
theorem Lb {vs:List Value}{n j:Nat}{u:Value}(h:(vs.drop n)[j]? =some u):vs[n+j]? =some u:=by
 rwa [List.getElem?_drop] at h
theorem MM (hr:TOk P T r)(w:World):(isAgg r.id).run P w= .ok (match r.ty with | .st _=>true |_=>false) w:=by
 have h:=hr.desc
 cases ht:r.ty with
 |int k=>rw[ht] at h;simp[isAgg,run_underlying (show P.underlying r.id=some (.int k) from h)]
 |bool=>rw[ht] at h;simp[isAgg,run_underlying (show P.underlying r.id=some .bool from h)]
 |str=>rw[ht] at h;simp[isAgg,run_underlying (show P.underlying r.id=some .string from h)]
 |slice u=>rw[ht] at h;simp[isAgg,run_underlying h.1]
 |st u=>rw[ht] at h;rcases h with ⟨_,fs,h1,_,_⟩ | ⟨_,n,e,j,h1,_⟩<;>simp[isAgg,run_underlying h1]
 |ptr _=>rw[ht] at h;obtain⟨e,h1⟩:=h;simp[isAgg,run_underlying h1]
 |mp _=>rw[ht] at h;obtain⟨e,e',h1⟩:=h;simp[isAgg,run_underlying h1]
 |fn=>rw[ht] at h;obtain⟨e,e',e'',h1⟩:=h;simp[isAgg,run_underlying h1]
 |ref _=>rw[ht] at h;exact h.elim
 |pg _=>rw[ht] at h;exact h.elim
 |unit=>rw[ht] at h;exact h.elim
 |pair a b=>rw[ht] at h;exact h.elim
theorem Ea (hr:TOk P T r)(w:World):(sizeOf r.id).run P w= .ok r.ty.size w:=by
 obtain⟨i,z,h1,h2,_⟩:=hr.info
 simp[sizeOf,typeInfo,h1,h2]
theorem aa2 (hr:TOk P T r){w:World}{ad:Addr}{vs:List Value}{cs:List CV}{x:AV}{σ:AS}{ν:Nm→Value}{Y:Value}
  (hc:∀j u,vs[j]? =some u→w.cell? (ad.add j)=some u) (hcs:aS (cw V) cs vs) (hx:nJ r.ty cs=some x):
  ∃v,(loadVar r.id ad).run P w= .ok v w∧au V σ ν Y x v:=by
 have one:(match r.ty with | .st _=>true |_=>false)=false→(∀c l,cs=c::l→x= .rv (.cv c))→cs≠ []→∃v,(loadVar r.id ad).run P w= .ok v w∧au V σ ν Y x v:=by
  intro h1 h2 h3
  cases cs with
  |nil=>exact absurd rfl h3
  |cons c l=>
   cases vs with
   |nil=>exact hcs.elim
   |cons v vs=>
    refine⟨v, ?_, ?_⟩
    ·have:=hc 0 v (by simp)
     have h0:ad.add 0=ad:=rfl
     rw[h0] at this
     simp[loadVar,MM hr,h1,this]
    ·rw[h2 c l rfl];exact hcs.1
 cases ht:r.ty with
 |st t=>
  rw[ht] at hx
  simp only[nJ] at hx
  cases hle:Nat.ble t.size cs.length with
  |false=>simp[hle] at hx
  |true=>
   simp only[hle,cond_true,Option.some.injEq] at hx
   have hlen:=hcs.length
   have hle':t.size≤vs.length:=by rw[←hlen];exact Nat.le_of_ble_eq_true hle
   refine⟨.agg (vs.take t.size).toArray, ?_, ?_⟩
   ·have hl:=run_loadCells_list (P:=P) w ad (vs.take t.size) (fun j v hj=>hc j v (La hj))
    rw[List.length_take,Nat.min_eq_left hle'] at hl
    have hs:Ty.size (.st t)=t.size:=rfl
    simp[loadVar,MM hr,ht,Ea hr,hl,hs]
   ·subst hx;exact⟨_,rfl,hcs.take _⟩
 |int k=>rw[ht] at hx;exact one (by simp[ht]) (fun c l e=>by subst e;simpa [nJ] using hx.symm) (fun e=>by subst e;simp[nJ] at hx)
 |bool=>rw[ht] at hx;exact one (by simp[ht]) (fun c l e=>by subst e;simpa [nJ] using hx.symm) (fun e=>by subst e;simp[nJ] at hx)
 |str=>rw[ht] at hx;exact one (by simp[ht]) (fun c l e=>by subst e;simpa [nJ] using hx.symm) (fun e=>by subst e;simp[nJ] at hx)
 |slice u=>rw[ht] at hx;exact one (by simp[ht]) (fun c l e=>by subst e;simpa [nJ] using hx.symm) (fun e=>by subst e;simp[nJ] at hx)
 |ptr _=>rw[ht] at hx;exact one (by simp[ht]) (fun c l e=>by subst e;simpa [nJ] using hx.symm) (fun e=>by subst e;simp[nJ] at hx)
 |mp _=>rw[ht] at hx;exact one (by simp[ht]) (fun c l e=>by subst e;simpa [nJ] using hx.symm) (fun e=>by subst e;simp[nJ] at hx)
 |fn=>rw[ht] at hx;exact one (by simp[ht]) (fun c l e=>by subst e;simpa [nJ] using hx.symm) (fun e=>by subst e;simp[nJ] at hx)
 |ref _=>rw[ht] at hx;exact one (by simp[ht]) (fun c l e=>by subst e;simpa [nJ] using hx.symm) (fun e=>by subst e;simp[nJ] at hx)
 |pg _=>rw[ht] at hx;exact one (by simp[ht]) (fun c l e=>by subst e;simpa [nJ] using hx.symm) (fun e=>by subst e;simp[nJ] at hx)
 |unit=>exact absurd hr.desc (by rw[ht];exact id)
 |pair a b=>exact absurd hr.desc (by rw[ht];exact id)
theorem jB:∀{t:Ty} {l:List Value} {cs:List CV} {r:List Value},de t l=some (cs,r)→∃l1,l=l1++r∧aS (cw V) cs l1
 | .unit,l,cs,r,h=>by simp only[de,Option.some.injEq,Prod.mk.injEq] at h;obtain⟨rfl,rfl⟩:=h;exact⟨[],rfl,trivial⟩
 | .pair a b,l,cs,r,h=>by
   simp only[de] at h
   split at h
   ·rename_i x l' h1
    split at h
    ·rename_i y l'' h2
     simp only[Option.some.injEq,Prod.mk.injEq] at h
     obtain⟨rfl,rfl⟩:=h
     obtain⟨m1,e1,r1⟩:=jB h1
     obtain⟨m2,e2,r2⟩:=jB h2
     exact⟨m1++m2,by rw[e1,e2,List.append_assoc],r1.append r2⟩
    ·cases h
   ·cases h
 | .st t,l,cs,r,h=>jB (t:=t) h
 | .int k, .int k' n::l,cs,r,h=>by
   simp only[de] at h
   split at h
   ·rename_i e
    subst e
    simp only[Option.some.injEq,Prod.mk.injEq] at h
    obtain⟨rfl,rfl⟩:=h
    exact⟨[_],rfl,ae7,trivial⟩
   ·cases h
 | .bool, .bool b::l,cs,r,h=>by
   simp only[de,Option.some.injEq,Prod.mk.injEq] at h
   obtain⟨rfl,rfl⟩:=h
   exact⟨[_],rfl,aa1,trivial⟩
 | .str, .string s::l,cs,r,h=>by
   simp only[de,Option.some.injEq,Prod.mk.injEq] at h
   obtain⟨rfl,rfl⟩:=h
   exact⟨[_],rfl,ae8,trivial⟩
 | .slice t, .slice none 0 0::l,cs,r,h=>by
   simp only[de,Option.some.injEq,Prod.mk.injEq] at h
   obtain⟨rfl,rfl⟩:=h
   exact⟨[_],rfl,⟨none,0,[],rfl,Nat.le_refl _,trivial,fun _=>rfl,fun j u hj=>by simp at hj⟩,trivial⟩
 | .ref t, .slice none 0 0::l,cs,r,h=>by
   simp only[de,Option.some.injEq,Prod.mk.injEq] at h
   obtain⟨rfl,rfl⟩:=h
   exact⟨[_],rfl,(show [_]=[_] from rfl),trivial⟩
 | .ptr t, .pointer none::l,cs,r,h=>by
   simp only[de,Option.some.injEq,Prod.mk.injEq] at h
   obtain⟨rfl,rfl⟩:=h
   exact⟨[_],rfl,(show [_]=[_] from rfl),trivial⟩
 | .mp t, .map none::l,cs,r,h=>by
   simp only[de,Option.some.injEq,Prod.mk.injEq] at h
   obtain⟨rfl,rfl⟩:=h
   exact⟨[_],rfl,(show [_]=[_] from rfl),trivial⟩
 | .pg t, .slice none 0 0::l,cs,r,h=>by
   simp only[de,Option.some.injEq,Prod.mk.injEq] at h
   obtain⟨rfl,rfl⟩:=h
   exact⟨[_],rfl,(show [_]=[_] from rfl),trivial⟩
 | .fn, .nilFunc::l,cs,r,h=>by
   simp only[de,Option.some.injEq,Prod.mk.injEq] at h
   obtain⟨rfl,rfl⟩:=h
   exact⟨[_],rfl,(show [_]=[_] from rfl),trivial⟩
end
end Go.Abs
namespace Go.Abs
open Go.RowKit Go.Lib
section
variable {T:c9}{α:Type}{Φ:cd T}{σ:AS}
def Q.val (Φ:cd T)(σ:AS):Q T α→Option α
 | .ret a=>some a
 | .fail=>none
 | .opt o q=>o.bind fun y=>(q y).val Φ σ
 | .iN b q=>bif b then q.val Φ σ else none
 | .ite b x y=>bif b then x.val Φ σ else y.val Φ σ
 | .row r q=>match look σ.rows r with
   |some x=>(q x).val Φ σ
   |none=>none
 | .len r q=>match look σ.rows r with
   |some x=>(q (List.length x.xs)).val Φ σ
   |none=>none
 | .box b q=>match look σ.boxes b with
   |some x=>(q x).val Φ σ
   |none=>none
 | .heap h q=>match σ.ag[h]? with
   |some x=>(q x).val Φ σ
   |none=>none
 | .rU r q=>match look σ.rows r with
   |none=>q.val Φ σ
   |some _=>none
 | .rV b q=>match look σ.boxes b with
   |none=>q.val Φ σ
   |some _=>none
 | .call v x q=>(Φ v x).bind fun y=>(q y).val Φ σ
 | .all q=>(q σ).val Φ σ
 | .on σ' q=>q.val Φ σ'
theorem iF {a r:α}:(Q.ret (T:=T) a).val Φ σ=some r↔a=r:=by simp[Q.val]
theorem By {r:α}:(Q.fail (T:=T)).val Φ σ=some r↔False:=by simp[Q.val]
theorem cG {β:Type}{o:Option β}{k:β→Q T α}{r:α}:(Q.opt o k).val Φ σ=some r↔∃y,o=some y∧(k y).val Φ σ=some r:=by
 simp[Q.val,Option.bind_eq_some_iff]
theorem aM {b:Bool}{q:Q T α}{r:α}:(Q.iN b q).val Φ σ=some r↔b=true∧q.val Φ σ=some r:=by cases b<;>simp[Q.val]
theorem Qm {b:Bool}{x y:Q T α}{r:α}:(Q.ite b x y).val Φ σ=some r↔(b=true∧x.val Φ σ=some r)∨(b=false∧y.val Φ σ=some r):=by cases b<;>simp[Q.val]
theorem rW {q:Nat}{k:Row→Q T α}{r:α}:(Q.row q k).val Φ σ=some r↔∃x,look σ.rows q=some x∧(k x).val Φ σ=some r:=by
 simp only[Q.val];cases look σ.rows q<;>simp
theorem UM {q:Nat}{k:Nat→Q T α}{r:α}:(Q.len q k).val Φ σ=some r↔∃x,look σ.rows q=some x∧(k x.xs.length).val Φ σ=some r:=by
 simp only[Q.val];cases look σ.rows q<;>simp
theorem F2 {q:Nat}{k:BX→Q T α}{r:α}:(Q.box q k).val Φ σ=some r↔∃x,look σ.boxes q=some x∧(k x).val Φ σ=some r:=by
 simp only[Q.val];cases look σ.boxes q<;>simp
theorem gg {q:Nat}{k:bK→Q T α}{r:α}:(Q.heap q k).val Φ σ=some r↔∃x,σ.ag[q]? =some x∧(k x).val Φ σ=some r:=by
 simp only[Q.val];cases σ.ag[q]? <;>simp
theorem Ao {q:Nat}{k:Q T α}{r:α}:(Q.rU q k).val Φ σ=some r↔look σ.rows q=none∧k.val Φ σ=some r:=by
 simp only[Q.val];cases look σ.rows q<;>simp
theorem Ap {q:Nat}{k:Q T α}{r:α}:(Q.rV q k).val Φ σ=some r↔look σ.boxes q=none∧k.val Φ σ=some r:=by
 simp only[Q.val];cases look σ.boxes q<;>simp
theorem Qn {v:Nat}{x:D2 T v}{k:Ak T v→Q T α}{r:α}:(Q.call v x k).val Φ σ=some r↔∃y,Φ v x=some y∧(k y).val Φ σ=some r:=by
 simp[Q.val,Option.bind_eq_some_iff]
theorem Vf {σ':AS}{q:Q T α}{r:α}:(Q.on σ' q).val Φ σ=some r↔q.val Φ σ'=some r:=by simp[Q.val]
theorem nN {k:AS→Q T α}{r:α}:(Q.all k).val Φ σ=some r↔(k σ).val Φ σ=some r:=by simp[Q.val]
theorem iB {z:AV}{r:cS}:(pv (T:=T) z).val Φ σ=some r↔(z,Eff.mw [])=r:=by simp[pv,Q.val]
theorem df {t:Ty}{x:t.den}{r:cS}:(FL (T:=T) t x).val Φ σ=some r↔(AV.rv (.cv ⟨t,x⟩),Eff.mw [])=r:=by simp[FL,iB]
theorem ph {β:Type}{f:β→Q T cS}{o:Option β}{r:cS}:(kr f o).val Φ σ=some r↔∃y,o=some y∧(f y).val Φ σ=some r:=by
 cases o<;>simp[kr,Q.val]
theorem UN {β:Type}{f:α→β}:∀{q:Q T α} {r:β},(q.map f).val Φ σ=some r↔∃y,q.val Φ σ=some y∧f y=r:=by
 intro q
 induction q generalizing σ with
 |ret a=>intro r;simp[Q.map,Q.val]
 |fail=>intro r;simp[Q.map,Q.val]
 |opt o k ih=>intro r;simp only[Q.map,cG,ih];constructor
              ·rintro ⟨y,h1,z,h2,h3⟩;exact⟨z,⟨y,h1,h2⟩,h3⟩
              ·rintro ⟨z,⟨y,h1,h2⟩,h3⟩;exact⟨y,h1,z,h2,h3⟩
 |iN b k ih=>intro r;simp only[Q.map,aM,ih];constructor
             ·rintro ⟨h1,z,h2,h3⟩;exact⟨z,⟨h1,h2⟩,h3⟩
             ·rintro ⟨z,⟨h1,h2⟩,h3⟩;exact⟨h1,z,h2,h3⟩
 |ite b x y Nb Kz=>intro r;cases b<;>simp only[Q.map,Q.val,cond_true,cond_false]
                   ·exact Kz
                   ·exact Nb
 |row q k ih=>intro r;simp only[Q.map,rW,ih];constructor
              ·rintro ⟨y,h1,z,h2,h3⟩;exact⟨z,⟨y,h1,h2⟩,h3⟩
              ·rintro ⟨z,⟨y,h1,h2⟩,h3⟩;exact⟨y,h1,z,h2,h3⟩
 |len q k ih=>intro r;simp only[Q.map,UM,ih];constructor
              ·rintro ⟨y,h1,z,h2,h3⟩;exact⟨z,⟨y,h1,h2⟩,h3⟩
              ·rintro ⟨z,⟨y,h1,h2⟩,h3⟩;exact⟨y,h1,z,h2,h3⟩
 |box q k ih=>intro r;simp only[Q.map,F2,ih];constructor
              ·rintro ⟨y,h1,z,h2,h3⟩;exact⟨z,⟨y,h1,h2⟩,h3⟩
              ·rintro ⟨z,⟨y,h1,h2⟩,h3⟩;exact⟨y,h1,z,h2,h3⟩
 |heap q k ih=>intro r;simp only[Q.map,gg,ih];constructor
               ·rintro ⟨y,h1,z,h2,h3⟩;exact⟨z,⟨y,h1,h2⟩,h3⟩
               ·rintro ⟨z,⟨y,h1,h2⟩,h3⟩;exact⟨y,h1,z,h2,h3⟩
 |rU b k ih=>intro r;simp only[Q.map,Ao,ih];constructor
             ·rintro ⟨h1,z,h2,h3⟩;exact⟨z,⟨h1,h2⟩,h3⟩
             ·rintro ⟨z,⟨h1,h2⟩,h3⟩;exact⟨h1,z,h2,h3⟩
 |rV b k ih=>intro r;simp only[Q.map,Ap,ih];constructor
             ·rintro ⟨h1,z,h2,h3⟩;exact⟨z,⟨h1,h2⟩,h3⟩
             ·rintro ⟨z,⟨h1,h2⟩,h3⟩;exact⟨h1,z,h2,h3⟩
 |call v x k ih=>intro r;simp only[Q.map,Qn,ih];constructor
                 ·rintro ⟨y,h1,z,h2,h3⟩;exact⟨z,⟨y,h1,h2⟩,h3⟩
                 ·rintro ⟨z,⟨y,h1,h2⟩,h3⟩;exact⟨y,h1,z,h2,h3⟩
 |all k ih=>intro r;simp only[Q.map,nN,ih]
 |on σ' k ih=>intro r;simp only[Q.map,Vf,ih]
theorem ae9 {R:Type}{k:np→α→Option R}{y:R}:∀(q:Q T α) (c:np),q.run Φ σ c k=some y→∃c' r,q.val Φ σ=some r∧k c' r=some y:=by
 intro q
 induction q generalizing σ with
 |ret a=>intro c h;exact⟨c,a,rfl,h⟩
 |fail=>intro c h;cases h
 |opt o q ih=>
  intro c h
  simp only[Q.run,Option.bind_eq_some_iff] at h
  obtain⟨z,h1,h2⟩:=h
  obtain⟨c',r,h3,h4⟩:=ih z c h2
  exact⟨c',r,cG.2 ⟨z,h1,h3⟩,h4⟩
 |iN b q ih=>
  intro c h
  cases b
  ·cases h
  ·exact ih c h
 |ite b x z Nb ihz=>
  intro c h
  cases b
  ·exact ihz c h
  ·exact Nb c h
 |row q k ih=>intro c h;simp only[Q.run] at h;split at h
              ·rename_i x hx;obtain⟨c',r,h3,h4⟩:=ih x _ h;exact⟨c',r,rW.2 ⟨x,hx,h3⟩,h4⟩
              ·cases h
 |len q k ih=>intro c h;simp only[Q.run] at h;split at h
              ·rename_i x hx;obtain⟨c',r,h3,h4⟩:=ih _ _ h;exact⟨c',r,UM.2 ⟨x,hx,h3⟩,h4⟩
              ·cases h
 |box q k ih=>intro c h;simp only[Q.run] at h;split at h
              ·rename_i x hx;obtain⟨c',r,h3,h4⟩:=ih x _ h;exact⟨c',r,F2.2 ⟨x,hx,h3⟩,h4⟩
              ·cases h
 |heap q k ih=>intro c h;simp only[Q.run] at h;split at h
               ·rename_i x hx;obtain⟨c',r,h3,h4⟩:=ih x _ h;exact⟨c',r,gg.2 ⟨x,hx,h3⟩,h4⟩
               ·cases h
 |rU q k ih=>intro c h;simp only[Q.run] at h;split at h
             ·rename_i hx;obtain⟨c',r,h3,h4⟩:=ih _ h;exact⟨c',r,Ao.2 ⟨hx,h3⟩,h4⟩
             ·cases h
 |rV q k ih=>intro c h;simp only[Q.run] at h;split at h
             ·rename_i hx;obtain⟨c',r,h3,h4⟩:=ih _ h;exact⟨c',r,Ap.2 ⟨hx,h3⟩,h4⟩
             ·cases h
 |call v x q ih=>
  intro c h
  simp only[Q.run,Option.bind_eq_some_iff] at h
  obtain⟨z,h1,h2⟩:=h
  obtain⟨c',r,h3,h4⟩:=ih z c h2
  exact⟨c',r,Qn.2 ⟨z,h1,h3⟩,h4⟩
 |all q ih=>intro c h;obtain⟨c',r,h3,h4⟩:=ih σ _ h;exact⟨c',r,nN.2 h3,h4⟩
 |on σ' q ih=>intro c h;obtain⟨c',r,h3,h4⟩:=ih _ h;exact⟨c',r,Vf.2 h3,h4⟩
end
section
variable {P:Program}{Tb:c9}{T:List gJ}{E:Env}{σ:AS}{a:Act}{w w':World}{ν:Nm→Value}{O:Nat→Prop}{Φ:cd Tb}
theorem J8 (g j:Nat):(⟨g,0,none⟩:Addr).add j=⟨g,j,none⟩:=by unfold Addr.add;split<;>simp_all
theorem XX (g i j:Nat):(⟨g,i,none⟩:Addr).add j=⟨g,i+j,none⟩:=by unfold Addr.add;split<;>simp_all
theorem Aq {V:View}{Y u:Value}{x:AV}{i:IntKind}{n:Int}(h:au V σ ν Y x u)(he:x= .rv (.cv ⟨.int i,n⟩)):u= .int i n:=by subst he;exact aiy (V:=V) h
theorem Qo {V:View}{Y u:Value}{x:AV}{b:Bool}(h:au V σ ν Y x u)(he:x= .rv (.cv ⟨.bool,b⟩)):u= .bool b:=by subst he;exact XW (V:=V) h
theorem OX {V:View}{Y u:Value}{x:AV}{s:ByteArray}(h:au V σ ν Y x u)(he:x= .rv (.cv ⟨.str,s⟩)):u= .string s:=by subst he;exact aiz (V:=V) h
theorem Ar {V:View}{Y:Value}{i:IntKind}{n:Int}:au V σ ν Y (.rv (.cv ⟨.int i,n⟩)) (.int i n):=ae7 (V:=V)
theorem As {V:View}{Y:Value}{b:Bool}:au V σ ν Y (.rv (.cv ⟨.bool,b⟩)) (.bool b):=aa1 (V:=V)
theorem HD {V:View}{Y:Value}{s:ByteArray}:au V σ ν Y (.rv (.cv ⟨.str,s⟩)) (.string s):=ae8 (V:=V)
theorem Qp {V:View}{h n:Nat}{v:Value}(hr:cw V ⟨.ref h,n⟩ v):(n=0∧v= .slice none 0 0)∨(1≤n∧ail v∧V (.ref h n) v):=by
 cases n with
 |zero=>have: [v]=_:=hr;simp at this;exact .inl ⟨rfl,this⟩
 |succ m=>obtain⟨u,e,h1,h2⟩:=hr;simp at e;subst e;exact .inr ⟨by omega,h1,h2⟩
theorem Vg {V:View}{h n:Nat}{v:Value}(hr:cw V ⟨.ptr h,n⟩ v):(n=0∧v= .pointer none)∨(1≤n∧anl v∧V (.ref h n) v):=by
 cases n with
 |zero=>have: [v]=_:=hr;simp at this;exact .inl ⟨rfl,this⟩
 |succ m=>obtain⟨u,e,h1,h2⟩:=hr;simp at e;subst e;exact .inr ⟨by omega,h1,h2⟩
theorem alg {V:View}{h n:Nat}{v:Value}(hr:cw V ⟨.mp h,n⟩ v):(n=0∧v= .map none)∨(1≤n∧apb v∧V (.ref h n) v):=by
 cases n with
 |zero=>have: [v]=_:=hr;simp at this;exact .inl ⟨rfl,this⟩
 |succ m=>obtain⟨u,e,h1,h2⟩:=hr;simp at e;subst e;exact .inr ⟨by omega,h1,h2⟩
theorem alh {V:View}{h n:Nat}{v:Value}(h0:1≤n)(h1:ail v)(h2:V (.ref h n) v):cw V ⟨.ref h,n⟩ v:=by
 cases n with
 |zero=>omega
 |succ m=>exact⟨v,rfl,h1,h2⟩
theorem ali {V:View}{h n:Nat}{v:Value}(h0:1≤n)(h1:anl v)(h2:V (.ref h n) v):cw V ⟨.ptr h,n⟩ v:=by
 cases n with
 |zero=>omega
 |succ m=>exact⟨v,rfl,h1,h2⟩
theorem Vh {V:View}{t:Ty}{o:Option (List t.den)}{v:Value}(hr:cw V ⟨.pg t,o⟩ v):cw V ⟨.slice t,lst o⟩ v:=by
 cases o with
 |none=>
  have: [v]=_:=hr
  simp at this;subst this
  exact⟨none,0,[],rfl,Nat.le_refl _,trivial,fun _=>rfl,fun j u hj=>by simp at hj⟩
 |some xs=>
  obtain⟨ad,c,bQ,h1,h2,h3,h4⟩:=hr
  exact⟨some ad,c,bQ,h1,h2,h3,(fun e=>by cases e),fun j u hj=>⟨ad,rfl,h4 j u hj⟩⟩
theorem Vi {V:View}{Y:Value}{x:AV}{u:Value}(h:au V σ ν Y x u):au V σ ν Y (co x) u:=by
 unfold co
 split
 ·exact Vh h
 ·exact h
theorem F3 {V:View}{v:Value}{row:Row}(h:j7 V w v row):∃(A:Option Addr) (c:Nat),v= .slice A row.xs.length c∧row.xs.length≤c∧(A=none→c=0)∧∀ad,A=some ad→ad.off=0∧ad.spot=none:=by
 obtain⟨bQ,⟨h1,h2⟩,h3⟩:=h
 rcases h2 with ⟨h2,h4⟩ | ⟨g,cap,cur,h2,_,_,h4,_⟩
 ·exact⟨none,0,by rw[h2,h4],by rw[h4];exact Nat.le_refl _,fun _=>rfl,fun _ e=>by cases e⟩
 ·exact⟨some ⟨g,0,none⟩,cap,h2,h4,(fun e=>by cases e),fun ad e=>by cases e;exact⟨rfl,rfl⟩⟩
theorem Xd {e:TypeId}{size n:Nat}{v:Value}{xs:List Value}(h:w.ownsRow 0 e size v n xs){g:Nat}(hg:dm v=some g){j:Nat}{u:Value}(hj:xs[j]? =some u):w.cell? ⟨g,j,none⟩=some u:=by
 obtain⟨h1,h2⟩:=h
 rcases h2 with ⟨rfl,_⟩ | ⟨g',cap,cur,rfl,_,h3,h4,h5,h6,h7⟩
 ·cases hg
 ·simp only[dm,Option.some.injEq] at hg
  subst hg
  rw[cell_of_row w _ _ cur e (0,0) h3]
  rw[←h7] at hj
  simpa using La hj
theorem R1 {V:View}{v:Value}{row:Row}(h:j7 V w v row):
  ∃bQ:List (List Value),aS (Rel V row.t) row.xs bQ∧∀g,dm v=some g→∀(j:Nat) u,bQ.flatten[j]? =some u→w.cell? ⟨g,j,none⟩=some u:=by
 obtain⟨bQ,h1,h3⟩:=h
 exact⟨bQ,h3,fun g hg j u hj=>Xd h1 hg hj⟩
theorem aa3 {V:View}{k:Nat}{v:Value}{row:Row}(h:CS V w k v row):
  ∃bQ:List (List Value),aS (Rel V row.t) row.xs bQ∧∀g,dm v=some g→∀(j:Nat) u,bQ.flatten[j]? =some u→w.cell? ⟨g,j,none⟩=some u:=by
 match k,h with
 |0,⟨_,h⟩=>exact R1 h
 |1,⟨g,cur,ys,x,h1,h2,h3,h4,h5⟩=>
  refine⟨[ys],by rw[h4];exact⟨h5,trivial⟩,fun g' hg j u hj=> ?_⟩
  rw[h1] at hg
  simp only[dm,Option.some.injEq] at hg
  subst hg
  rw[cell_of_row w _ _ cur _ (0,0) h2]
  subst h3
  simpa using hj
theorem St.row (h:St E σ a w ν O){r:Nat}{row:Row}(hr:look σ.rows r=some row):j7 (view E σ ν O w) w (ν (.row r)) row:=h.DL (.row r) (.row row) (by simp[AS.obj,hr])
theorem St.box (h:St E σ a w ν O){b:Nat}{x:BX}(hb:look σ.boxes b=some x):D7 (view E σ ν O w) σ ν w (ν (.box b)) x:=h.DL (.box b) (.box x) (by simp[AS.obj,hb])
theorem adm {ag:List bK}{h n:Nat}{hr:bK}{l:List hr.t.den}(hh:ag[h]? =some hr)(hn:1≤n)(hl:af hr.xs n=some l):oY ag h n=some (.hp hr.k ⟨hr.e,hr.t,l⟩):=by
 cases n with
 |zero=>omega
 |succ m=>
  simp only[af] at hl
  simp only[oY,hh]
  split at hl
  ·rename_i o ho;rw[ho,hl];rfl
  ·cases hl
theorem Qq {α:Type}{xs:List (Option (List α))}{n:Nat}{l:List α}(hl:af xs n=some l):n≤xs.length:=by
 cases n with
 |zero=>omega
 |succ m=>
  simp only[af] at hl
  split at hl
  ·rename_i o ho;exact(List.getElem?_eq_some_iff.1 ho).1
  ·cases hl
theorem St.hp (hst:St E σ a w ν O){h n:Nat}{hr:bK}{l:List hr.t.den}(hh:σ.ag[h]? =some hr)(hn:1≤n)(hl:af hr.xs n=some l):CS (view E σ ν O w) w hr.k (ν (.hp h n)) ⟨hr.e,hr.t,l⟩:=
 hst.DL (.hp h n) (.hp hr.k ⟨hr.e,hr.t,l⟩) (adm hh hn hl)
def PV (P:Program)(o:Oper)(E:Env)(σ:AS)(a:Act)(w:World)(ν:Nm→Value)(O:Nat→Prop)(r:cS):Prop:=
 r.2= .mw []∧∃v w',(execOp a.eval o).run P w= .ok (.value v) w'∧Below w.heap.size w w'∧au (view E σ ν O w') σ ν E.Y r.1 v
theorem PV.same {o:Oper}{z:AV}{r:cS}{v:Value}(hr:(z,Eff.mw [])=r)(h1:(execOp a.eval o).run P w= .ok (.value v) w)
  (h2:au (view E σ ν O w) σ ν E.Y z v):PV P o E σ a w ν O r:=by subst hr;exact⟨rfl,v,w,h1,Below.refl _ _,h2⟩
theorem aiA (hE:aR E)(hT:jA P T)(h:St E σ a w ν O){t:TypeId}{x:AV}{u:Value}(hx:au (view E σ ν O w) σ ν E.Y x u){r:cS}
  (he:(XO (T:=Tb) T t x).val Φ σ=some r):r.2= .mw []∧∃v,(Instr.loadAt t u).run P w= .ok v w∧au (view E σ ν O w) σ ν E.Y r.1 v:=by
 unfold XO at he
 split at he
 ·cases he
 ·rename_i tr hr
  obtain⟨rfl,hr'⟩:=hT t tr hr
  have fin:∀{cs:List CV} {vs:List Value} {ad:Addr},u= .pointer (some ad)→(∀(j:Nat) u,vs[j]? =some u→w.cell? (ad.add j)=some u)→aS (cw (view E σ ν O w)) cs vs→
    (kr pv (nJ tr.ty cs)).val Φ σ=some r→r.2= .mw []∧∃v,(Instr.loadAt tr.id u).run P w= .ok v w∧au (view E σ ν O w) σ ν E.Y r.1 v:=by
   intro cs vs ad hu hc hcs he
   rw[ph] at he
   obtain⟨z,hz,he⟩:=he
   rw[iB] at he
   subst he
   obtain⟨v',h1,h2⟩:=aa2 (P:=P) hr' hc hcs hz (σ:=σ) (ν:=ν) (Y:=E.Y)
   exact⟨rfl,v',by simp only[Instr.loadAt,hu,Instr.sureAddr,Sem.run_bind,Sem.run_pure,Result.andThen_ok,h1],h2⟩
  have Xa:∀{t:Ty} {xs:List t.den} {bQ:List (List Value)} {g i off:Nat} {z:t.den},aS (Rel (view E σ ν O w) t) xs bQ→(∀(j:Nat) u,bQ.flatten[j]? =some u→w.cell? ⟨g,j,none⟩=some u)→
    u= .pointer (some ⟨g,i*t.size+off,none⟩)→xs[i]? =some z→(kr pv (nJ tr.ty ((flat t z).drop off))).val Φ σ=some r→
    r.2= .mw []∧∃v,(Instr.loadAt tr.id u).run P w= .ok v w∧au (view E σ ν O w) σ ν E.Y r.1 v:=by
   intro t xs bQ g i off z h1 h2 hu hz he
   obtain⟨ys,h3,h4,h5⟩:=D9 h1 i z hz
   refine fin hu (fun j u hj=> ?_) ((jv h4).drop off) he
   rw[XX,Nat.add_assoc]
   exact h2 _ u (h5 _ u (Lb hj))
  split at he
  ·rename_i b off
   rw[F2] at he
   obtain⟨bx,hbx,he⟩:=he
   obtain⟨_,g,hg,hu⟩:=hx
   obtain⟨g',e1,cV⟩:=h.box hbx
   rw[hg] at e1
   simp only[Value.pointer.injEq,Option.some.injEq,Addr.mk.injEq,and_true] at e1
   subst e1
   cases bx with
   |cells cs=>
    obtain⟨cur,e,hgc,hcs⟩:=cV
    refine fin hu (vs:=cur.toList.drop off) (fun j u hj=> ?_) (hcs.drop off) he
    rw[XX,cell_of_row w _ _ cur e (0,0) hgc]
    simpa using Lb hj
   |own q=>
    obtain⟨e,hgc,hq⟩:=cV
    simp only at he
    split at he
    ·rename_i ut rX
     rw[aM,iB] at he
     obtain⟨h0,rfl⟩:=he
     have:=(beq_iff _ _).1 h0
     subst this
     refine⟨rfl,ν (.row q), ?_,rfl,hq⟩
     have hc:w.cell? ⟨g,0,none⟩=some (ν (.row q)):=by rw[cell_of_row w _ _ _ e (0,0) hgc];rfl
     have ha:=MM hr' w
     rw[rX] at ha
     simp[Instr.loadAt,hu,Instr.sureAddr,loadVar,ha,hc]
    ·cases he
   |nil=>cases he
  ·rename_i q sz i off
   rw[rW] at he
   obtain⟨row,hrow,he⟩:=he
   rw[cG] at he
   obtain⟨z,hz,he⟩:=he
   obtain⟨row',g,amC,hg,rfl,hu⟩:=hx
   rw[hrow] at amC
   obtain rfl:row=row':=by simpa using amC
   obtain⟨bQ,h1,h2⟩:=R1 (h.row hrow)
   exact Xa h1 (fun j u hj=>h2 g hg j u hj) hu hz he
  ·rename_i cs
   obtain⟨ad,vs,hu,h1,h2⟩:=hx
   exact fin hu (fun j u hj=>An hE h.keep (h2 j u hj)) h1 he
  ·rename_i i n j off
   simp only[gg,cG] at he
   obtain⟨hr,hh,l,hl,z,hz,he⟩:=he
   obtain⟨hr',g,hh',hn,_,hg,hu⟩:=hx
   rw[hh] at hh'
   obtain rfl:hr=hr':=by simpa using hh'
   obtain⟨bQ,h1,h2⟩:=aa3 (h.hp hh hn hl)
   exact Xa h1 (fun j u hj=>h2 g hg j u hj) hu hz he
  ·rename_i i n
   simp only[gg,cG] at he
   obtain⟨hr,hh,l,hl,z,hz,he⟩:=he
   rcases Vg hx with ⟨rfl,_⟩ | ⟨hn,⟨ad,rfl⟩,_,_,hu⟩
   ·simp[af] at hl;subst hl;simp at hz
   ·have cV:=h.hp hh hn hl
    obtain⟨bQ,h1,h2⟩:=aa3 cV
    rw[←hu] at h2
    have had:ad=⟨ad.block,0,none⟩:=by
     rw[←hu] at cV
     generalize hr.k=k at cV
     match k,cV with
     |0,⟨⟨_,_,_,e⟩,_⟩=>cases e
     |1,⟨g,_,_,_,e,_⟩=>simp at e;rw[e]
    exact Xa (i:=0) (off:=0) h1 (fun j u hj=>h2 _ rfl j u hj) (by rw[Nat.zero_mul, ←had]) hz (by simpa using he)
  ·cases he
theorem R2 {Y:Value}{V:View}{ty:TypeId}{x:AV}{u:Value}(hx:au V σ ν Y x u){r:cS}
  (he:(N4 (T:=Tb) T ty x).val Φ σ=some r):r.2= .mw []∧au V σ ν Y r.1 u:=by
 unfold N4 at he
 split at he
 ·rename_i v
  split at he
  ·split at he
   ·split at he
    ·rename_i vs
     split at he
     ·rename_i cs hl
      rw[iB] at he
      subst he
      obtain⟨l1,e1,h1⟩:=jB (V:=V) hl
      refine⟨rfl,vs.toList, ?_, ?_⟩
      ·have:u= .agg vs:=hx
       simpa using this
      ·rw[e1,List.append_nil];exact h1
     ·cases he
    ·cases he
   ·rw[iB] at he;subst he;exact⟨rfl,hx⟩
  ·cases he
 ·cases he
 ·rw[iB] at he;subst he;exact⟨rfl,hx⟩
end
end Go.Abs
namespace Go.Abs
open Go.RowKit Go.Lib
def aiB (P:Program)(T:c9):Prop:=∀t,T.eqs.any (Nat.beq t)=true→∀r u,kh T.rows t=some r→r.ty= .st u→
 ∀(V:View) (x y:u.den) (vs us:List Value) (w:World) (op:BinOp) (ox oy:Operand),Rel V u x vs→Rel V u y us→
  (eqGuard op t ox oy (.agg vs.toArray) (.agg us.toArray)).run P w= .ok () w∧(Op.equal t (.agg vs.toArray) (.agg us.toArray)).run P w= .ok (zP u x y) w
section
variable {P:Program}{Tb:c9}{T:List gJ}{E:Env}{σ:AS}{a:Act}{w w':World}{ν:Nm→Value}{O:Nat→Prop}{Φ:cd Tb}{V:View}{Y:Value}
theorem adn {op:BinOp}{x y:Int}{b:Bool}(h:ade op x y=some b):(Op.intCmp op x y).run P w= .ok (.bool b) w:=by
 cases op<;>simp[ade] at h<;>subst h<;>simp[Op.intCmp]
theorem ado {op:BinOp}{x y:ByteArray}{b:Bool}(h:Y8 op x y=some b):(Op.stringOp op x y).run P w= .ok (.bool b) w:=by
 cases op<;>simp only[Y8,Option.some.injEq,reduceCtorEq] at h<;>subst h<;>simp[Op.stringOp]
theorem alk {op:BinOp}{b:Bool}{r:cS}(he:(eqV (T:=Tb) op b).val Φ σ=some r):(op= .eql∧(AV.rv (.cv ⟨.bool,b⟩),Eff.mw [])=r)∨(op= .neq∧(AV.rv (.cv ⟨.bool, !b⟩),Eff.mw [])=r):=by
 unfold eqV at he
 split at he
 ·rw[df] at he;exact .inl ⟨rfl,he⟩
 ·rw[df] at he;exact .inr ⟨rfl,he⟩
 ·cases he
theorem Vj {op:BinOp}{t:TypeId}{u v:Value}{b:Bool}{r:cS}(ox oy:Operand)(hg:∀op,(eqGuard op t ox oy u v).run P w= .ok () w)(hb:(Op.equal t u v).run P w= .ok b w)
  (h1:binOp .eql t u v=(do pure (.bool (←Op.equal t u v)))) (h2:binOp .neq t u v=(do pure (.bool (!(←Op.equal t u v)))))
  (he:(eqV (T:=Tb) op b).val Φ σ=some r):r.2= .mw []∧∃z,(do eqGuard op t ox oy u v;binOp op t u v:Sem Value).run P w= .ok z w∧au V σ ν Y r.1 z:=by
 rcases alk he with ⟨rfl,rfl⟩ | ⟨rfl,rfl⟩
 ·refine⟨rfl, .bool b, ?_,As⟩
  simp[Sem.run_bind,hg,h1,hb]
 ·refine⟨rfl, .bool (!b), ?_,As⟩
  simp[Sem.run_bind,hg,h2,hb]
theorem aa4 {op:BinOp}{t:TypeId}{x y:AV}{u v:Value}(ox oy:Operand)(hx:au V σ ν Y x u)(hy:au V σ ν Y y v){r:cS}(he:(af8 (T:=Tb) op x y).val Φ σ=some r):
  r.2= .mw []∧∃z,(do eqGuard op t ox oy u v;binOp op t u v:Sem Value).run P w= .ok z w∧au V σ ν Y r.1 z:=by
 unfold af8 at he
 split at he
 ·rename_i i n j m
  have ex:=Aq hx rfl
  have ey:=Aq hy rfl
  subst ex ey
  have hg:eqGuard op t ox oy (.int i n) (.int j m)=pure ():=eqGuard_at_int ..
  have fin:∀{k:IntKind} {q:Int},(AV.rv (.cv ⟨.int k,q⟩),Eff.mw [])=r→(binOp op t (.int i n) (.int j m)).run P w= .ok (.int k q) w→
    r.2= .mw []∧∃z,(do eqGuard op t ox oy (.int i n) (.int j m);binOp op t (.int i n) (.int j m):Sem Value).run P w= .ok z w∧au V σ ν Y r.1 z:=fun e hrun=>by
   subst e
   refine⟨rfl,_, ?_,Ar⟩
   rw[hg]
   simpa using hrun
  split at he
  ·rw[aM,df] at he
   obtain⟨hc,he⟩:=he
   have hc':¬m<0:=by simpa using hc
   exact fin he (by simp[binOp,Op.shift,hc',shl])
  ·rw[aM,df] at he
   obtain⟨hc,he⟩:=he
   have hc':¬m<0:=by simpa using hc
   exact fin he (by simp[binOp,Op.shift,hc',shr])
  ·rename_i hn1 hn2
   split at he
   ·rename_i e;subst e
    split at he
    ·rw[df] at he;exact fin he (by simp[binOp,Op.intArith])
    ·rw[df] at he;exact fin he (by simp[binOp,Op.intArith])
    ·rw[df] at he;exact fin he (by simp[binOp,Op.intArith])
    ·rw[aM,df] at he
     obtain⟨hc,he⟩:=he
     have hc':¬m=0:=by simpa using hc
     exact fin he (by simp[binOp,Op.intDiv,hc'])
    ·rw[aM,df] at he
     obtain⟨hc,he⟩:=he
     have hc':¬m=0:=by simpa using hc
     exact fin he (by simp[binOp,Op.intDiv,hc'])
    ·rw[df] at he;exact fin he (by simp[binOp,Op.intBits,bits])
    ·rw[df] at he;exact fin he (by simp[binOp,Op.intBits,bits])
    ·rw[df] at he;exact fin he (by simp[binOp,Op.intBits,bits])
    ·rw[df] at he;exact fin he (by simp[binOp,Op.intBits,bits])
    ·rw[ph] at he
     obtain⟨b,hb,he⟩:=he
     rw[df] at he
     subst he
     refine⟨rfl, .bool b, ?_,As⟩
     rw[hg]
     have:=adn (P:=P) (w:=w) hb
     cases op<;>first | (exfalso;simp_all;done) |simpa [binOp] using this
   ·cases he
 ·rename_i n m
  have ex:=OX hx rfl
  have ey:=OX hy rfl
  subst ex ey
  have hg:eqGuard op t ox oy (.string n) (.string m)=pure ():=eqGuard_at_string ..
  split at he
  ·rw[aM,df] at he
   obtain⟨hb,rfl⟩:=he
   have hle:=Nat.le_of_ble_eq_true hb
   refine⟨rfl, .string (n++m), ?_,HD⟩
   rw[hg]
   have hn:¬(((n.size+m.size:Nat):Int)>IntKind.i64.max):=by rw[IntKind.max_i64];omega
   simp only[binOp,Op.stringOp,Sem.run_bind,Sem.run_pure,Result.andThen_ok,if_neg hn]
  ·rw[ph] at he
   obtain⟨b,hb,he⟩:=he
   rw[df] at he
   subst he
   refine⟨rfl, .bool b, ?_,As⟩
   rw[hg]
   have:=ado (P:=P) (w:=w) hb
   cases op<;>first | (simp[Y8] at hb;done) |simpa [binOp] using this
 ·cases he
theorem aiC {op:BinOp}{t:TypeId}{x y:AV}{u v:Value}(ox oy:Operand)(ht:P.underlying t=some .bool)(hx:au V σ ν Y x u)(hy:au V σ ν Y y v){r:cS}(he:(af9 (T:=Tb) op x y).val Φ σ=some r):
  r.2= .mw []∧∃z,(do eqGuard op t ox oy u v;binOp op t u v:Sem Value).run P w= .ok z w∧au V σ ν Y r.1 z:=by
 unfold af9 at he
 split at he
 ·rename_i n m
  have ex:=Qo hx rfl
  have ey:=Qo hy rfl
  subst ex ey
  exact Vj ox oy (fun op=>by rw[eqGuard_at_bool];rfl) (run_equalIn_bool w 9999 t n m ht) (by rfl) (by rfl) he
 ·cases he
theorem Qr (d:Nat){t:TypeId}{e:TypeId}(ht:P.underlying t=some (.slice e))(A:Option Addr)(n c:Nat):(Op.equalIn (d+1) t (.slice A n c) (.slice none 0 0)).run P w= .ok A.isNone w:=by
 cases A<;>simp[Op.equalIn,run_underlying ht]
theorem T8 (d:Nat){t:TypeId}{e:TypeId}(ht:P.underlying t=some (.pointer e))(A:Option Addr):(Op.equalIn (d+1) t (.pointer A) (.pointer none)).run P w= .ok A.isNone w:=by
 cases A<;>simp[Op.equalIn,run_underlying ht]
theorem T9 (d:Nat){t k e:TypeId}(ht:P.underlying t=some (.map k e))(A:Option Nat):(Op.equalIn (d+1) t (.map A) (.map none)).run P w= .ok A.isNone w:=by
 cases A<;>simp[Op.equalIn,run_underlying ht]
theorem Ua {t:TypeId}{e:TypeId}(ht:P.underlying t=some (.slice e))(A:Option Addr)(n c:Nat):(Op.equal t (.slice A n c) (.slice none 0 0)).run P w= .ok A.isNone w:=by
 exact Qr 9999 ht A n c
theorem Xe {t:TypeId}{e:TypeId}(ht:P.underlying t=some (.pointer e))(A:Option Addr):(Op.equal t (.pointer A) (.pointer none)).run P w= .ok A.isNone w:=by
 exact T8 9999 ht A
theorem Xf {t k e:TypeId}(ht:P.underlying t=some (.map k e))(A:Option Nat):(Op.equal t (.map A) (.map none)).run P w= .ok A.isNone w:=by
 exact T9 9999 ht A
theorem Vk (n:Nat):Nat.beq n 0=decide (n=0):=by cases n<;>rfl
theorem aiD (hT:jA P T){tr:gJ}(htr:TOk P T tr){op:BinOp}{x y:AV}{u v:Value}(ox oy:Operand)(hx:au V σ ν Y x u)(hy:au V σ ν Y y v){r:cS}(he:(aga (T:=Tb) tr.ty op x y).val Φ σ=some r):
  r.2= .mw []∧∃z,(do eqGuard op tr.id ox oy u v;binOp op tr.id u v:Sem Value).run P w= .ok z w∧au V σ ν Y r.1 z:=by
 unfold aga at he
 have hd:=htr.desc
 have sl:∀{A:Option Addr} {n c:Nat} {b:Bool},(∃e,P.underlying tr.id=some (.slice e))→u= .slice A n c→A.isNone=b→v= .slice none 0 0→(eqV (T:=Tb) op b).val Φ σ=some r→
   r.2= .mw []∧∃z,(do eqGuard op tr.id ox oy u v;binOp op tr.id u v:Sem Value).run P w= .ok z w∧au V σ ν Y r.1 z:=by
  intro A n c b ⟨e,ht⟩ hu hb hv he
  subst hu hv
  exact Vj ox oy (fun op=>by rw[eqGuard_at_slice];rfl) (by rw[Ua ht,hb]) (by rfl) (by rfl) he
 have pt:∀{A:Option Addr} {b:Bool},(∃e,P.underlying tr.id=some (.pointer e))→u= .pointer A→A.isNone=b→v= .pointer none→(eqV (T:=Tb) op b).val Φ σ=some r→
   r.2= .mw []∧∃z,(do eqGuard op tr.id ox oy u v;binOp op tr.id u v:Sem Value).run P w= .ok z w∧au V σ ν Y r.1 z:=by
  intro A b ⟨e,ht⟩ hu hb hv he
  subst hu hv
  exact Vj ox oy (fun op=>by rw[eqGuard_at_pointer];rfl) (by rw[Xe ht,hb]) (by rfl) (by rfl) he
 have mp:∀{A:Option Nat} {b:Bool},(∃k e,P.underlying tr.id=some (.map k e))→u= .map A→A.isNone=b→v= .map none→(eqV (T:=Tb) op b).val Φ σ=some r→
   r.2= .mw []∧∃z,(do eqGuard op tr.id ox oy u v;binOp op tr.id u v:Sem Value).run P w= .ok z w∧au V σ ν Y r.1 z:=by
  intro A b ⟨k,e,ht⟩ hu hb hv he
  subst hu hv
  exact Vj ox oy (fun op=>by rw[eqGuard_at_map];rfl) (by rw[Xf ht,hb]) (by rfl) (by rfl) he
 split at he
 ·rename_i ut h n rX
  rw[rX] at hd
  have hs:∃e,P.underlying tr.id=some (.slice e):=⟨_,hd.1⟩
  rcases Qp hx with ⟨rfl,hu⟩ | ⟨hn,⟨ad,m,c,hu⟩,_⟩
  ·exact sl hs hu rfl hy he
  ·refine sl hs hu ?_ hy he
   rw[Vk,decide_eq_false (by omega)];rfl
 ·rename_i ut h n rX
  rw[rX] at hd
  rcases Vg hx with ⟨rfl,hu⟩ | ⟨hn,⟨ad,hu⟩,_⟩
  ·exact pt hd hu rfl hy he
  ·refine pt hd hu ?_ hy he
   rw[Vk,decide_eq_false (by omega)];rfl
 ·rename_i ut h n rX
  rw[rX] at hd
  rcases alg hx with ⟨rfl,hu⟩ | ⟨hn,⟨ad,hu⟩,_⟩
  ·exact mp hd hu rfl hy he
  ·refine mp hd hu ?_ hy he
   rw[Vk,decide_eq_false (by omega)];rfl
 ·rename_i ut t' o rX
  rw[rX] at hd
  have hs:∃e,P.underlying tr.id=some (.slice e):=⟨_,hd.1⟩
  cases o with
  |none=>
   have: [u]=_:=hx
   simp at this
   exact sl hs this rfl hy he
  |some xs=>
   obtain⟨ad,c,bQ,h1,_⟩:=hx
   simp at h1
   exact sl hs h1 rfl hy he
 ·cases he
theorem anv {op:UnOp}{x:AV}{u:Value}(hx:au V σ ν Y x u){r:cS}
  (he:(match op,x with
  | .not, .rv (.cv ⟨.bool,b⟩)=>FL (T:=Tb) .bool (!b)
  | .neg, .rv (.cv ⟨.int i,a⟩)=>FL (.int i) (i.wrap (0 - a))
  |_,_=> .fail).val Φ σ=some r):r.2= .mw []∧∃z,(Op.unary op u).run P w= .ok z w∧au V σ ν Y r.1 z:=by
 split at he
 ·have ex:=Qo hx rfl
  rw[df] at he;subst he ex
  exact⟨rfl,_,by simp[Op.unary],As⟩
 ·have ex:=Aq hx rfl
  rw[df] at he;subst he ex
  exact⟨rfl,_,by simp[Op.unary,Op.intArith],Ar⟩
 ·cases he
theorem aiE (hT:jA P T){tr:gJ}(htr:TOk P T tr){x:AV}{u:Value}(h:St E σ a w ν O)(hx:au (view E σ ν O w) σ ν E.Y x u){r:cS}(ty:TypeId)
  (he:(agb (T:=Tb) tr.ty x).val Φ σ=some r):
  r.2= .mw []∧∃z,(Builtin.len_ #[tr.id] ty #[u]).run P w= .ok z w∧au (view E σ ν O w) σ ν E.Y r.1 z:=by
 have hc:=Vi hx
 have hd:=htr.desc
 unfold agb at he
 have sl:∀{ut:Ty} {A:Option Addr} {n c m:Nat},tr.ty= .slice ut→u= .slice A n c→n=m→(AV.rv (.cv ⟨.int .i64,(m:Int)⟩),Eff.mw [])=r→r.2= .mw []∧∃z,(Builtin.len_ #[tr.id] ty #[u]).run P w= .ok z w∧au (view E σ ν O w) σ ν E.Y r.1 z:=by
  intro ut A n c m rX hu hm he
  rw[rX] at hd
  subst hu hm he
  exact⟨rfl, .int .i64 n,by simp[Builtin.len_,run_underlying hd.1,goInt],Ar⟩
 split at he
 ·rename_i ut t' xs rX hb
  rw[hb] at hc
  rw[df] at he
  obtain⟨A,cc,bQ,ex,_⟩:=sG hc
  exact sl rX ex rfl he
 ·rename_i s rX hb
  rw[hb] at hc
  rw[rX] at hd
  rw[df] at he
  have ex:=OX hc rfl
  subst ex he
  exact⟨rfl, .int .i64 s.size,by simp[Builtin.len_,run_underlying (show P.underlying tr.id=some .string from hd),goInt],Ar⟩
 ·rename_i ut q rX hb
  rw[hb] at hc
  rw[UM] at he
  obtain⟨row,hrow,he⟩:=he
  rw[df] at he
  obtain⟨A,cc,er,_⟩:=F3 (h.row hrow)
  exact sl rX (by rw[hc.1,er]) rfl he
 ·rename_i ut rX hb
  rw[hb] at hc
  rw[df] at he
  exact sl rX (show u= .slice none 0 0 from hc) rfl he
 ·rename_i ut i n rX hb
  rw[hb] at hc
  simp only[gg,cG] at he
  obtain⟨hr,hh,l,hl,he⟩:=he
  rw[df] at he
  rcases Qp hc with ⟨rfl,hu⟩ | ⟨hn,Xc,_,_,hu⟩
  ·simp only[af,Option.some.injEq] at hl
   subst hl
   exact sl rX hu rfl he
  ·have cV:=h.hp hh hn hl
   rw[←hu] at cV
   generalize hr.k=k at cV
   match k,cV with
   |0,⟨_,hrow⟩=>
    obtain⟨A,cc,er,_⟩:=F3 hrow
    exact sl rX er rfl he
   |1,⟨g,_,_,_,e,_⟩=>obtain⟨_,_,_,e'⟩:=Xc;rw[e] at e';cases e'
 ·cases he
end
end Go.Abs
namespace Go.Abs
open Go.RowKit Go.Lib
section
variable {P:Program}{Tb:c9}{T:List gJ}{E:Env}{σ:AS}{a:Act}{w w':World}{ν:Nm→Value}{O:Nat→Prop}{Φ:cd Tb}{V:View}{Y:Value}
theorem MN {ag:List bK}{h:Nat}{hr:bK}(e:ag[h]? =some hr):hlen ag h=hr.xs.length:=by unfold hlen;rw[e]
theorem Lc {ag:List bK}{h n:Nat}(h1:1≤n)(h2:n≤hlen ag h):∃hr,ag[h]? =some hr∧n≤hr.xs.length:=by
 unfold hlen at h2
 cases hh:ag[h]? with
 |none=>rw[hh] at h2;simp at h2;omega
 |some hr=>rw[hh] at h2;exact⟨hr,rfl,h2⟩
theorem Zf (h:St E σ a w ν O){i n:Nat}{u:Value}(hx:cw (view E σ ν O w) ⟨.ptr i,n⟩ u)(hn:n≠0):∃hr g,σ.ag[i]? =some hr∧1≤n∧n≤hr.xs.length∧dm (ν (.hp i n))=some g∧u= .pointer (some ⟨g,0,none⟩):=by
 rcases Vg hx with ⟨rfl,_⟩ | ⟨h1,⟨ad,hu⟩,h2,h3,h4⟩
 ·exact absurd rfl hn
 ·obtain⟨hr,h5,h6⟩:=Lc h2 h3
  rcases h.nn i hr n h5 h1 h6 with ⟨_,g,m,c,e⟩ | ⟨_,g,e⟩
  ·rw[←h4,hu] at e;cases e
  ·exact⟨hr,g,h5,h1,h6,by rw[e];rfl,by rw[h4,e]⟩
theorem Zg (h:St E σ a w ν O){x:AV}{u:Value}(hx:au (view E σ ν O w) σ ν E.Y x u){r:cS}
  (he:(match x with
  | .rv (.cv ⟨.ptr h,n⟩)=>Q.iN (T:=Tb) (!(Nat.beq n 0)) (pv (.rv (.cv ⟨.ptr h,n⟩)))
  | .box b off=>pv (.box b off)
  | .Qe r sz i off=>pv (.Qe r sz i off)
  | .qB cs=>pv (.qB cs)
  | .hel h n i off=>pv (T:=Tb) (.hel h n i off)
  |_=> .fail).val Φ σ=some r):r.2= .mw []∧(∃ad,u= .pointer (some ad))∧au (view E σ ν O w) σ ν E.Y r.1 u:=by
 split at he
 ·rename_i i n
  rw[aM,iB] at he
  obtain⟨hn,rfl⟩:=he
  have hn':n≠0:=fun e=>by rw[e] at hn;cases hn
  obtain⟨hr,g,_,_,_,_,e⟩:=Zf h hx hn'
  exact⟨rfl,⟨_,e⟩,hx⟩
 ·rw[iB] at he;subst he;obtain⟨_,g,_,e⟩:=hx;exact⟨rfl,⟨_,e⟩,⟨by assumption,g,by assumption,e⟩⟩
 ·rw[iB] at he;subst he;obtain⟨row,g,e1,e2,e3,e4⟩:=hx;exact⟨rfl,⟨_,e4⟩,⟨row,g,e1,e2,e3,e4⟩⟩
 ·rw[iB] at he;subst he;obtain⟨ad,vs,e1,e2⟩:=hx;exact⟨rfl,⟨_,e1⟩,⟨ad,vs,e1,e2⟩⟩
 ·rw[iB] at he;subst he;obtain⟨hr,g,e1,e2,e3,e4,e5⟩:=hx;exact⟨rfl,⟨_,e5⟩,⟨hr,g,e1,e2,e3,e4,e5⟩⟩
 ·cases he
theorem afa (h:St E σ a w ν O){x:AV}{u:Value}(hx:au (view E σ ν O w) σ ν E.Y x u){off:Nat}{r:cS}
  (he:(match x with
   | .box b o=>pv (.box b (o+off))
   | .Qe q sz i o=>pv (.Qe q sz i (o+off))
   | .qB cs=>pv (.qB (cs.drop off))
   | .hel h n i o=>pv (.hel h n i (o+off))
   | .rv (.cv ⟨.ptr h,n⟩)=> .iN (!(Nat.beq n 0)) (pv (T:=Tb) (.hel h n 0 off))
   |_=> .fail).val Φ σ=some r):r.2= .mw []∧∃ad,u= .pointer (some ad)∧au (view E σ ν O w) σ ν E.Y r.1 (.pointer (some (ad.add off))):=by
 split at he
 ·rw[iB] at he;subst he
  obtain⟨h1,g,h2,h3⟩:=hx
  exact⟨rfl,_,h3,h1,g,h2,by rw[XX]⟩
 ·rw[iB] at he;subst he
  obtain⟨row,g,e1,e2,e3,e4⟩:=hx
  exact⟨rfl,_,e4,row,g,e1,e2,e3,by rw[XX,Nat.add_assoc]⟩
 ·rw[iB] at he;subst he
  obtain⟨ad,vs,e1,e2,e3⟩:=hx
  exact⟨rfl,_,e1,_,vs.drop off,rfl,e2.drop off,fun j u hj=>by rw[add_add];exact e3 _ u (Lb hj)⟩
 ·rw[iB] at he;subst he
  obtain⟨hr,g,e1,e2,e3,e4,e5⟩:=hx
  exact⟨rfl,_,e5,hr,g,e1,e2,e3,e4,by rw[XX,Nat.add_assoc]⟩
 ·rename_i i n
  rw[aM,iB] at he
  obtain⟨hn,rfl⟩:=he
  have hn':n≠0:=fun e=>by rw[e] at hn;cases hn
  obtain⟨hr,g,h1,h2,h3,h4,h5⟩:=Zf h hx hn'
  exact⟨rfl,_,h5,hr,g,h1,h2,h3,h4,by rw[J8,Nat.zero_mul,Nat.zero_add]⟩
 ·cases he
theorem adp (hT:jA P T)(h:St E σ a w ν O){s:TypeId}{x:AV}{u:Value}{f:Nat}(hx:au (view E σ ν O w) σ ν E.Y x u){r:cS}(he:(RR (T:=Tb) T s x f).val Φ σ=some r):
  r.2= .mw []∧∃v,(Instr.fieldAt s u f).run P w= .ok v w∧au (view E σ ν O w) σ ν E.Y r.1 v:=by
 unfold RR at he
 split at he
 ·rename_i tr hr
  obtain⟨rfl,hr'⟩:=hT s tr hr
  rw[aM] at he
  obtain⟨aiF,he⟩:=he
  split at he
  ·rename_i off size hf
   have hd:=hr'.desc
   have asp:∃(fs:Array Field) (fd:Field) (j:TypeInfo),P.underlying tr.id=some (.struct fs)∧fs[f]? =some fd∧fd.offset=off∧P.info? fd.type=some j∧j.size≠0:=by
    cases rX:tr.ty with
    |st u=>
     rw[rX] at hd
     rcases hd with ⟨_,fs,h1,_,h2⟩ | ⟨ha,n,e,j,h1,_⟩
     ·obtain⟨fd,j,h3,h4,h5,h6,h7,_⟩:=h2 f off size hf
      exact⟨fs,fd,j,h1,h3,h4,h5,by rw[h6];exact h7⟩
     ·rw[ha] at aiF;cases aiF
    |_=>rw[hr'.sD (by rw[rX];simp)] at hf;simp at hf
   obtain⟨fs,fd,j,h1,h2,h3,h4,h5⟩:=asp
   obtain⟨e1,ad,hu,cV⟩:=afa h hx he
   refine⟨e1,_, ?_,cV⟩
   subst hu
   simp[Instr.fieldAt,run_underlying h1,h2,Instr.sureAddr,fieldPlace,sizeOf,typeInfo,h4,h5,h3]
  ·cases he
 ·cases he
theorem UO (hT:jA P T){r:gJ}(hr:TOk P T r){u:Ty}(rX:r.ty= .slice u):
  P.underlying r.id=some (.slice r.elem)∧∃re,TOk P T re∧re.id=r.elem∧re.ty=u:=by
 have hd:=hr.desc
 rw[rX] at hd
 obtain⟨h1,re,h2,h3⟩:=hd
 obtain⟨h4,h5⟩:=hT _ re h2
 exact⟨h1,re,h5,h4,h3⟩
theorem adq (hT:jA P T)(h:St E σ a w ν O){t:TypeId}{x i:AV}{u v:Value}(hx:au (view E σ ν O w) σ ν E.Y x u)(hi:au (view E σ ν O w) σ ν E.Y i v)
  {r:cS} (he:(RQ (T:=Tb) T t x i).val Φ σ=some r):
  r.2= .mw []∧∃z,(Instr.indexAt t u v).run P w= .ok z w∧au (view E σ ν O w) σ ν E.Y r.1 z:=by
 unfold RQ at he
 split at he
 ·rename_i tr hr
  obtain⟨rfl,hr'⟩:=hT t tr hr
  split at he
  ·rename_i k n
   have ei:=Aq hi rfl
   have hc:=Vi hx
   have run:∀{ut:Ty} {ad:Addr} {m cc:Nat},tr.ty= .slice ut→u= .slice (some ad) m cc→0≤n→n<m→
     (Instr.indexAt tr.id u v).run P w= .ok (.pointer (some (ad.add (n.toNat*ut.size)))) w:=fun {ut ad m cc} rX hu h0 h1=>by
    obtain⟨hd,re,Ub,W2,Vl⟩:=UO hT hr' rX
    have hsz:(sizeOf tr.elem).run P w= .ok ut.size w:=by rw[←W2, ←Vl];exact Ea Ub w
    simp[Instr.indexAt,ei,asIntOf,run_underlying hd,hu,h0,h1,hsz]
   split at he
   ·rename_i ut u' xs rX hb
    rw[hb] at hc
    simp only[aM,cG,iB] at he
    obtain⟨hsu,y,hy,rfl⟩:=he
    have Xh:=(beq_iff _ _).1 hsu
    obtain⟨h0,h1,h2⟩:=Vd hy
    obtain⟨A,cc,bQ,ex,hlen,hall,hnone,hcells⟩:=sG hc
    cases A with
    |none=>have:=hnone rfl;omega
    |some ad=>
     obtain⟨ys,h3,h4,h5⟩:=D9 hall n.toNat y h2
     refine⟨rfl,_,run rX ex h0 h1,_,ys,rfl,jv h4,fun j v hj=> ?_⟩
     obtain⟨XY,e,hv⟩:=hcells _ v (h5 j v hj)
     obtain rfl:ad=XY:=by simpa using e
     rw[add_add,Xh]
     exact hv
   ·rename_i ut q rX hb
    rw[hb] at hc
    simp only[rW,aM,cG,iB] at he
    obtain⟨row,hrow,hsu,y,hy,rfl⟩:=he
    have Xh:=(beq_iff _ _).1 hsu
    obtain⟨h0,h1,h2⟩:=Vd hy
    obtain⟨A,cc,er,_,_,hA⟩:=F3 (h.row hrow)
    cases A with
    |none=>
     obtain⟨bQ,⟨h3,h4⟩,_⟩:=h.row hrow
     rcases h4 with ⟨_,h6⟩ | ⟨g,cap,cur,h4,_⟩
     ·omega
     ·rw[er] at h4;cases h4
    |some ad=>
     obtain⟨hA1,hA2⟩:=hA ad rfl
     refine⟨rfl,_,run rX (by rw[hc.1,er]) h0 h1,row,ad.block,hrow,by rw[er];rfl,rfl, ?_⟩
     obtain⟨b,o,sp⟩:=ad
     simp only at hA1 hA2
     subst hA1 hA2
     rw[J8,Xh];rfl
   ·rename_i ut j m rX hb
    rw[hb] at hc
    simp only[gg,aM,cG,iB] at he
    obtain⟨hr,hh,hsu,l,hl,y,hy,rfl⟩:=he
    have Xh:=(beq_iff _ _).1 hsu
    obtain⟨h0,h1,h2⟩:=Vd hy
    rcases Qp hc with ⟨rfl,_⟩ | ⟨hm,Xc,_,hle,hu⟩
    ·simp[af] at hl;subst hl;simp at h2
    ·have hle':m≤hr.xs.length:=by rw[MN hh] at hle;exact hle
     rcases h.nn j hr m hh hm hle' with ⟨hk,g,m',c',e⟩ | ⟨_,g,e⟩
     ·have cV:=h.hp hh hm hl
      rw[hk] at cV
      obtain⟨_,hrow⟩:=cV
      obtain⟨A,cc,er,_⟩:=F3 hrow
      rw[e] at er
      simp only[Value.slice.injEq] at er
      obtain⟨rfl,rfl,rfl⟩:=er
      exact⟨rfl,_,run rX (by rw[hu,e]) h0 h1,hr,g,hh,hm,hle',by rw[e];rfl,by rw[J8,Xh];rfl⟩
     ·obtain⟨_,_,_,e'⟩:=Xc;rw[hu,e] at e';cases e'
   ·rename_i ut rX
    split at he
    ·rename_i m
     rw[aM] at he
     obtain⟨aiF,he⟩:=he
     split at he
     ·rename_i off size hf
      have hd:=hr'.desc
      rw[rX] at hd
      rcases hd with ⟨ha,fs,h1,_⟩ | ⟨_,len,e,j,h1,h2,h3,h4,h5⟩
      ·rw[ha] at aiF;cases aiF
      ·have hm:m<len∧off=m*j.size:=by
        rw[h3,List.getElem?_map] at hf
        simp only[Option.map_eq_some_iff,Prod.mk.injEq] at hf
        obtain⟨k',hk,h6,h7⟩:=hf
        obtain⟨h8,h9⟩:=List.getElem?_eq_some_iff.1 hk
        simp at h8 h9
        exact⟨h8,by rw[←h6,h9]⟩
       have he':(match co x with
        | .box b o=>pv (.box b (o+off))
        | .Qe q sz i o=>pv (.Qe q sz i (o+off))
        | .qB cs=>pv (.qB (cs.drop off))
        | .hel h n i o=>pv (.hel h n i (o+off))
        | .rv (.cv ⟨.ptr h,n⟩)=> .iN (!(Nat.beq n 0)) (pv (T:=Tb) (.hel h n 0 off))
        |_=> .fail).val Φ σ=some r:=by
        revert he
        cases co x with
        |rv z=>intro he;cases he
        |_=>exact id
       obtain⟨e1,ad,hu,cV⟩:=afa h hc he'
       refine⟨e1,_, ?_,cV⟩
       subst hu
       have h0:(0:Int)≤Int.ofNat m:=by simp
       have h6:(Int.ofNat m:Int)<len:=by simp;exact hm.1
       simp only[Int.ofNat_eq_natCast] at ei h6 h0
       simp[Instr.indexAt,ei,asIntOf,run_underlying h1,Instr.sureAddr,hm.1,sizeOf,typeInfo,h2,hm.2]
     ·cases he
    ·cases he
   ·cases he
  ·cases he
 ·cases he
end
end Go.Abs
namespace Go.Abs
open Go.RowKit Go.Lib
section
variable {P:Program}{Tb:c9}{T:List gJ}{E:Env}{σ:AS}{a:Act}{w w':World}{ν:Nm→Value}{O:Nat→Prop}{Φ:cd Tb}{V:View}{Y:Value}{σ':AS}
theorem Ld {V:View}{k:IntKind}:∀{xs:List Int} {bQ:List (List Value)},aS (Rel V (.int k)) xs bQ→bQ.flatten=xs.map (Value.int k)
 | [],[],_=>rfl
 |x::xs,y::ys,h=>by
  have h1:y=[Value.int k x]:=h.1
  have h2:=Ld h.2
  simp[h1,h2]
 | [],_::_,h=>h.elim
 |_::_,[],h=>h.elim
theorem aa5 (xs:List Int):∀(s:ByteArray),(xs.foldl (fun r n=>r.push (UInt8.ofNat n.toNat)) s).data=s.data++(xs.map fun n=>UInt8.ofNat n.toNat).toArray:=by
 induction xs with
 |nil=>intro s;simp
 |cons x xs ih=>
  intro s
  simp only[List.foldl_cons,ih,List.map_cons]
  show (s.data.push _)++_=_
  apply Array.ext'
  simp
theorem aiG (xs:List Int):xs.foldl (fun r n=>r.push (UInt8.ofNat n.toNat)) ByteArray.empty=strOf xs:=by
 have h:=aa5 xs ByteArray.empty
 have h2:(ByteArray.empty).data= #[]:=rfl
 rw[h2,Array.empty_append] at h
 cases hh:xs.foldl (fun r n=>r.push (UInt8.ofNat n.toNat)) ByteArray.empty with
 |mk d=>rw[hh] at h;simp only at h;subst h;rfl
theorem Qs {xs:List Int}{A:Option Addr}{c:Nat}(hA:A=none→xs=[])(hc:∀ad,A=some ad→∀j u,(xs.map (Value.int .u8))[j]? =some u→w.cell? (ad.add j)=some u):
  (Conv.bytesToString (.slice A xs.length c)).run P w= .ok (.string (strOf xs)) w:=by
 cases A with
 |none=>rw[hA rfl];rfl
 |some ad=>
  have hl:=run_loadCells_list (P:=P) w ad (xs.map (Value.int .u8)) (hc ad rfl)
  rw[List.length_map] at hl
  rw[run_bytesToString w ad xs.length c xs hl,aiG]
theorem agj (hE:aR E)(hT:jA P T)(h:St E σ a w ν O){s d:TypeId}{x:AV}{u:Value}(hx:au (view E σ ν O w) σ ν E.Y x u){r:cS}(he:(XP (T:=Tb) T s d x).val Φ σ=some r):
  r.2= .mw []∧∃v w',(convert s d u).run P w= .ok v w'∧Below w.heap.size w w'∧au (view E σ ν O w') σ ν E.Y r.1 v:=by
 unfold XP at he
 split at he
 ·rename_i rs rd hrs hrd
  obtain⟨rfl,hs'⟩:=hT s rs hrs
  obtain⟨rfl,hd'⟩:=hT d rd hrd
  have hs:=hs'.desc
  have hd:=hd'.desc
  have same:∀{z:AV} {v:Value},(z,Eff.mw [])=r→(convert rs.id rd.id u).run P w= .ok v w→au (view E σ ν O w) σ ν E.Y z v→
    r.2= .mw []∧∃v w',(convert rs.id rd.id u).run P w= .ok v w'∧Below w.heap.size w w'∧au (view E σ ν O w') σ ν E.Y r.1 v:=fun e h1 h2=>by subst e;exact⟨rfl,_,w,h1,Below.refl _ _,h2⟩
  split at he
  ·rename_i k j i n Zh Zi
   have ex:=Aq hx rfl
   rw[Zh] at hs;rw[Zi] at hd
   rw[df] at he
   refine same he ?_ Ar
   simp[convert,run_underlying (show P.underlying rs.id=some (.int _) from hs),run_underlying (show P.underlying rd.id=some (.int _) from hd),ex,Conv.intToInt]
  ·rename_i n Zh Zi
   have ex:=OX hx rfl
   rw[Zh] at hs;rw[Zi] at hd
   rw[df] at he
   refine same (v:= .string n) he ?_ HD
   simp[convert,run_underlying (show P.underlying rs.id=some .string from hs),run_underlying (show P.underlying rd.id=some .string from hd),ex]
  ·rename_i xs Zh Zi
   rw[Zh] at hs;rw[Zi] at hd
   obtain⟨hs1,re,Ub,Vl⟩:=hs
   obtain⟨W2,aiH⟩:=hT _ re Ub
   have aa6:=aiH.desc
   rw[Vl] at aa6
   have hue:P.underlying rs.elem=some (.int .u8):=by rw[←W2];exact aa6
   rw[df] at he
   obtain⟨A,cc,bQ,ex,hlen,hall,hnone,hcells⟩:=sG hx
   refine same (v:= .string (strOf xs)) he ?_ HD
   have hb:=Qs (P:=P) (w:=w) (xs:=xs) (A:=A) (c:=cc) (fun e=>by
     have:=hnone e
     cases xs with
     |nil=>rfl
     |cons y ys=>simp at hlen;omega) (fun ad e j u hj=>by
     rw[←Ld hall] at hj
     obtain⟨XY,e',hv⟩:=hcells j u hj
     rw[e] at e'
     obtain rfl:ad=XY:=by simpa using e'
     exact An hE h.keep hv)
   rw[ex]
   cases A with
   |none=>simp[convert,run_underlying hs1,run_underlying (show P.underlying rd.id=some .string from hd),run_underlying hue,hb]
   |some ad=>simp[convert,run_underlying hs1,run_underlying (show P.underlying rd.id=some .string from hd),run_underlying hue,hb]
  ·rename_i q Zh Zi
   rw[Zh] at hs;rw[Zi] at hd
   obtain⟨hs1,re,Ub,Vl⟩:=hs
   obtain⟨W2,aiH⟩:=hT _ re Ub
   have aa6:=aiH.desc
   rw[Vl] at aa6
   have hue:P.underlying rs.elem=some (.int .u8):=by rw[←W2];exact aa6
   rw[rW] at he
   obtain⟨row,hrow,he⟩:=he
   split at he
   ·rename_i e xs
    rw[df] at he
    have hR:=h.row hrow
    obtain⟨A,cc,er,hlen,hnone,hA⟩:=F3 hR
    obtain⟨bQ,h1,h2⟩:=R1 hR
    refine same (v:= .string (strOf xs)) he ?_ HD
    have hb:=Qs (P:=P) (w:=w) (xs:=xs) (A:=A) (c:=cc) (fun e=>by
      have:=hnone e
      cases xs with
      |nil=>rfl
      |cons y ys=>simp at hlen;omega) (fun ad e j u hj=>by
      rw[←Ld h1] at hj
      obtain⟨e1,e2⟩:=hA ad e
      have:=h2 ad.block (by rw[er,e];rfl) j u hj
      obtain⟨b,o,sp⟩:=ad
      simp only at e1 e2 this
      subst e1 e2
      rw[J8];exact this)
    rw[hx.1,er]
    cases A with
    |none=>simp[convert,run_underlying hs1,run_underlying (show P.underlying rd.id=some .string from hd),run_underlying hue,hb]
    |some ad=>simp[convert,run_underlying hs1,run_underlying (show P.underlying rd.id=some .string from hd),run_underlying hue,hb]
   ·cases he
  ·rename_i n Zh Zi
   have ex:=OX hx rfl
   rw[Zh] at hs;rw[Zi] at hd
   obtain⟨hd1,re,Ub,Vl⟩:=hd
   obtain⟨W2,aiH⟩:=hT _ re Ub
   have aa6:=aiH.desc
   rw[Vl] at aa6
   have hue:P.underlying rd.elem=some (.int .u8):=by rw[←W2];exact aa6
   rw[aM,df] at he
   obtain⟨hle,rfl⟩:=he
   refine⟨rfl,_,bytesWorld w rd.elem n,by rw[ex];exact run_convert_string_bytes w rs.id rd.id rd.elem n (show P.underlying rs.id=some .string from hs) hd1 hue, ?_, ?_⟩
   ·refine⟨rfl,rfl,rfl,by rw[bytesWorld_size];omega,fun k hk=>bytesWorld_at_old w rd.elem n k hk⟩
   ·refine⟨some ⟨w.heap.size,0,none⟩,grownCap w n.size 0 rd.elem,(bytesOf n).map fun n=>[Value.int .u8 n], ?_, ?_, ?_,fun e=>(by cases e), ?_⟩
    ·have:List.length (bytesOf n)=n.size:=by simp[bytesOf]
     rw[this]
    ·have:List.length (bytesOf n)=n.size:=by simp[bytesOf]
     rw[this]
     exact grownCap_ge w n.size 0 rd.elem
    ·have:∀l:List Int,aS (Rel (view E σ ν O (bytesWorld w rd.elem n)) (.int .u8)) l (l.map fun n=>[Value.int .u8 n]):=by
      intro l
      induction l with
      |nil=>trivial
      |cons y ys ih=>exact⟨rfl,ih⟩
     exact this _
    ·intro j v hj
     have Td:∀l:List Int,(l.map fun n=>[Value.int .u8 n]).flatten=l.map (Value.int .u8):=by
      intro l
      induction l with
      |nil=>rfl
      |cons y ys ih=>simp[ih]
     rw[Td] at hj
     refine⟨_,rfl, .inr ⟨?_, ?_, ?_, ?_⟩⟩
     ·rw[J8];exact h.keep.size
     ·rw[J8]
      rintro ⟨m,hm⟩
      have:=(h.Bw m _ hm).2.1
      simp at this
     ·rw[J8]
      intro ho
      have:=(h.out.2 _ ho).1
      simp at this
     ·rw[J8]
      simp only[bytesOf,List.getElem?_map,List.map_map] at hj
      cases hb:n.data.toList[j]? with
      |none=>simp[hb] at hj
      |some y=>
       have hlt:j<n.size:=by
        have:=(List.getElem?_eq_some_iff.1 hb).1
        simpa using this
       rw[bytesWorld_cell w rd.elem n j hlt]
       simp[hb] at hj
       simp[List.getD,hb, ←hj]
  ·cases he
 ·cases he
theorem Qt {V:View}{t:Ty}:∀{xs:List t.den} {bQ:List (List Value)} (n:Nat),aS (Rel V t) xs bQ→(bQ.drop n).flatten=bQ.flatten.drop (n*t.size)
 |xs,bQ,0,h=>by simp
 | [],[],n+1,h=>by simp
 |x::xs,y::bQ,n+1,h=>by
  have:=Rel.length h.1
  rw[List.drop_succ_cons,Qt n h.2,List.flatten_cons,List.drop_append,Nat.succ_mul,this]
  have e:List.drop (n*t.size+t.size) y=[]:=by apply List.drop_eq_nil_of_le;omega
  rw[e,List.nil_append]
  congr 1;omega
 | [],_::_,_,h=>h.elim
 |_::_,[],_,h=>h.elim
theorem Jb {V:View}{t:Ty}:∀{xs:List t.den} {bQ:List (List Value)} (n:Nat),aS (Rel V t) xs bQ→(bQ.take n).flatten=bQ.flatten.take (n*t.size)
 |xs,bQ,0,h=>by simp
 | [],[],n+1,h=>by simp
 |x::xs,y::bQ,n+1,h=>by
  have:=Rel.length h.1
  rw[List.take_succ_cons,List.flatten_cons,Jb n h.2,List.flatten_cons,List.take_append,Nat.succ_mul,this]
  have e:List.take (n*t.size+t.size) y=y:=by apply List.take_of_length_le;omega
  rw[e]
  congr 2;omega
 | [],_::_,_,h=>h.elim
 |_::_,[],_,h=>h.elim
theorem Au {n:Nat}{l h:Int}:dN n l h=true↔0≤l∧l≤h∧h≤n:=by simp[dN,and_assoc]
theorem Vm {α:Type}{xs:List α}{l h:Int}(hc:dN xs.length l h=true):(cut xs l h).length=h.toNat - l.toNat:=by
 obtain⟨h1,h2,h3⟩:=Au.1 hc
 simp[cut];omega
theorem Bz {av:Operand→AV}(sy:∀x,au V σ ν Y (av x) (a.eval x)){d:Int}{x:Option Operand}{n:Int}(he:jx av d x=some n):
  (x=none∧n=d)∨∃y k,x=some y∧a.eval y= .int k n:=by
 cases x with
 |none=>simp[jx] at he;exact .inl ⟨rfl,he.symm⟩
 |some y=>
  simp only[jx] at he
  split at he
  ·rename_i k m hy
   simp only[Option.some.injEq] at he
   subst he
   have:=sy y
   rw[hy] at this
   exact .inr ⟨y,_,rfl,Aq this rfl⟩
  ·cases he
theorem w8 {x:Value}{k:IntKind}{n:Int}{y:Nat}{code:BoundsCode}(hx:x= .int k n)(h0:0≤n)(h1:n≤y):
  (Instr.sliceBound x y code).run P w= .ok n.toNat w:=by
 subst hx
 simp[Instr.sliceBound,asIntOf,h0,h1]
theorem Te {av:Operand→AV}(sy:∀x,au V σ ν Y (av x) (a.eval x)){s:Bool}{len cap:Nat}{lo hi:Option Operand}{l r:Int}(hl:jx av 0 lo=some l)(hh:jx av len hi=some r)
  (h0:0≤l) (h1:l≤r) (h2:r≤cap):
  (Instr.sliceBounds s len cap (lo.map a.eval) (hi.map a.eval) none).run P w= .ok (l.toNat,r.toNat,cap) w:=by
 rcases Bz sy hl with ⟨rfl,rfl⟩ | ⟨y,k,rfl,ey⟩<;>rcases Bz sy hh with ⟨rfl,rfl⟩ | ⟨z,k',rfl,ez⟩
 ·simp[Instr.sliceBounds]
 ·have hz:=fun c=>w8 (P:=P) (w:=w) (code:=c) ez (by omega) h2
  simp[Instr.sliceBounds,hz]
 ·have hy:=fun c=>w8 (P:=P) (w:=w) (code:=c) (y:=len) ey h0 (by omega)
  simp[Instr.sliceBounds,hy]
 ·have hz:=fun c=>w8 (P:=P) (w:=w) (code:=c) ez (by omega) h2
  have hy:=fun c=>w8 (P:=P) (w:=w) (code:=c) (y:=r.toNat) ey h0 (by omega)
  simp[Instr.sliceBounds,hz,hy]
theorem afb {V:View}{t:Ty}{xs:List t.den}{A:Option Addr}{c:Nat}{bQ:List (List Value)}(hlen:xs.length≤c)(hall:aS (Rel V t) xs bQ)(hnone:A=none→c=0)
  (hcells:∀j u,bQ.flatten[j]? =some u→∃ad,A=some ad∧V (ad.add j) u) {l r:Int} (hc:dN xs.length l r=true) {m:Nat} (hm:r.toNat≤m) (hmc:m≤c):
  cw V ⟨.slice t,cut xs l r⟩ (.slice (if m=l.toNat then A else A.map (·.add (l.toNat*t.size))) (r.toNat - l.toNat) (m - l.toNat)):=by
 obtain⟨h1,h2,h3⟩:=Au.1 hc
 refine⟨_,_,(bQ.take r.toNat).drop l.toNat,by rw[Vm hc],by rw[Vm hc];omega,(hall.take _).drop _, ?_, ?_⟩
 ·intro e
  split at e
  ·have:=hnone e;omega
  ·have:A=none:=by simpa using e
   have:=hnone this;omega
 ·intro j u hj
  rw[Qt l.toNat (hall.take _),Jb r.toNat hall] at hj
  have h4:=La (Lb hj)
  obtain⟨ad,e,hv⟩:=hcells _ u h4
  subst e
  by_cases hml:m=l.toNat
  ·have hlt:=(List.getElem?_eq_some_iff.1 hj).1
   have:r.toNat=l.toNat:=by omega
   simp[this] at hlt
  ·exact⟨ad.add (l.toNat*t.size),by simp[hml],by rw[add_add];exact hv⟩
theorem Vo (hT:jA P T){av:Operand→AV}(sy:∀x,au V σ ν Y (av x) (a.eval x)){t:TypeId}{x:AV}{u:Value}(hx:au V σ ν Y x u){lo hi mx:Option Operand}{r:cS}
  (he:(ye (T:=Tb) T av t x lo hi mx).val Φ σ'=some r):
  r.2= .mw []∧∃v,(Instr.sliceAt t u (lo.map a.eval) (hi.map a.eval) (mx.map a.eval)).run P w= .ok v w∧au V σ ν Y r.1 v:=by
 unfold ye at he
 have hc:=Vi hx
 split at he
 ·rename_i tr hr
  obtain⟨rfl,hr'⟩:=hT t tr hr
  have hd:=hr'.desc
  split at he
  ·split at he
   ·rename_i s rX hb
    rw[hb] at hc
    rw[rX] at hd
    have hd':P.underlying tr.id=some .string:=hd
    have ex:=OX hc rfl
    split at he
    ·rename_i l r' hl hh
     rw[aM,df] at he
     obtain⟨hc,rfl⟩:=he
     obtain⟨h1,h2,h3⟩:=Au.1 hc
     have hb:=Te (P:=P) (w:=w) (s:=false) sy hl hh h1 h2 h3
     refine⟨rfl, .string (s.extract l.toNat r'.toNat), ?_,HD⟩
     simp[Instr.sliceAt,Instr.slice,run_underlying hd',ex,hb]
    ·cases he
   ·rename_i ut u' xs rX hb
    rw[hb] at hc
    obtain⟨hu,re,Ub,W2,Vl⟩:=UO hT hr' rX
    have hsz:(sizeOf tr.elem).run P w= .ok ut.size w:=by rw[←W2, ←Vl];exact Ea Ub w
    obtain⟨A,cc,bQ,ex,hlen,hall,hnone,hcells⟩:=sG hc
    split at he
    ·rename_i l r' hl hh
     rw[aM,df] at he
     obtain⟨hc,rfl⟩:=he
     rw[Bool.and_eq_true] at hc
     obtain⟨hsu,hc⟩:=hc
     have Xh:=(beq_iff _ _).1 hsu
     obtain⟨h1,h2,h3⟩:=Au.1 hc
     have hb:=Te (P:=P) (w:=w) (s:=true) sy hl hh h1 h2 (show r'≤(cc:Int) by omega)
     refine⟨rfl,_, ?_,afb (m:=cc) hlen hall hnone hcells hc (by omega) (Nat.le_refl _)⟩
     simp[Instr.sliceAt,Instr.slice,run_underlying hu,ex,hb,hsz,Xh]
    ·cases he
   ·cases he
  ·rename_i mx
   split at he
   ·rename_i ut u' xs rX hb
    rw[hb] at hc
    obtain⟨hu,re,Ub,W2,Vl⟩:=UO hT hr' rX
    have hsz:(sizeOf tr.elem).run P w= .ok ut.size w:=by rw[←W2, ←Vl];exact Ea Ub w
    obtain⟨A,cc,bQ,ex,hlen,hall,hnone,hcells⟩:=sG hc
    split at he
    ·rename_i hx'
     split at he
     ·rename_i l r' m hl hh hm
      rw[aM,df] at he
      obtain⟨hc,rfl⟩:=he
      simp only[Bool.and_eq_true,decide_eq_true_eq] at hc
      obtain⟨⟨⟨hsu,hc⟩,hrm⟩,hml⟩:=hc
      have Xh:=(beq_iff _ _).1 hsu
      obtain⟨h1,h2,h3⟩:=Au.1 hc
      obtain⟨_,k1,e1,ez⟩:=(Bz sy hh).resolve_left (by simp)
      obtain⟨_,k2,e2,em⟩:=(Bz sy hm).resolve_left (by simp)
      cases e1;cases e2
      have hbm:=fun c=>w8 (P:=P) (w:=w) (code:=c) (y:=cc) em (by omega) (by omega)
      have hbz:=fun c=>w8 (P:=P) (w:=w) (code:=c) (y:=m.toNat) ez (by omega) (by omega)
      refine⟨rfl,_, ?_,afb (m:=m.toNat) hlen hall hnone hcells hc (by omega) (by omega)⟩
      rcases Bz sy hl with ⟨rfl,rfl⟩ | ⟨y,k,rfl,ey⟩
      ·simp[Instr.sliceAt,Instr.slice,Instr.sliceBounds,run_underlying hu,ex,hbm,hbz,hsz,Xh]
      ·have hby:=fun c=>w8 (P:=P) (w:=w) (code:=c) (y:=r'.toNat) ey h1 (by omega)
       simp[Instr.sliceAt,Instr.slice,Instr.sliceBounds,run_underlying hu,ex,hbm,hbz,hby,hsz,Xh]
     ·cases he
    ·cases he
   ·cases he
 ·cases he
theorem Lf:∀(vs:List Value) (k off:Nat) (cells:Array Value),off+k+vs.length≤cells.size→
  ((vs.zipIdx k).foldl (fun cs (p:Value×Nat)=>cs.setIfInBounds (off+p.2) p.1) cells).toList=cells.toList.take (off+k)++vs++cells.toList.drop (off+k+vs.length)
 | [],k,off,cells,h=>by simp
 |v::vs,k,off,cells,h=>by
  simp only[List.length_cons] at h
  rw[List.zipIdx_cons,List.foldl_cons,Lf vs (k+1) off _ (by simp;omega)]
  have:=list_seg_step cells.toList (off+k) v vs (by simp;omega)
  simp only[Array.toList_setIfInBounds]
  have e1:off+(k+1)=off+k+1:=by omega
  rw[e1,this]
  congr 2
theorem aa7 {V:View}{sD:List (Nat×Nat)}{av:Operand→AV}(sy:∀x,au V σ ν Y (av x) (a.eval x)):∀(parts:List (Nat×Operand)) (cs cs':List CV) (cells:Array Value),partsOf av sD parts cs=some cs'→aS (cw V) cs cells.toList→
  ∃cells',Instr.fill (sD.toArray[·]?) cells (parts.map fun(i,x)=>(i,a.eval x))=some cells'∧aS (cw V) cs' cells'.toList
 | [],cs,cs',cells,h,hr=>by simp only[partsOf,Option.some.injEq] at h;subst h;exact⟨cells,rfl,hr⟩
 | (i,x)::parts,cs,cs',cells,h,hr=>by
   simp only[partsOf] at h
   have hlen:=hr.length
   have go:∀(vs:List CV) (off size:Nat) (ws:List Value),sD[i]? =some (off,size)→(a.eval x).cells=ws.toArray→aS (cw V) vs ws→size=vs.length→off+vs.length≤cs.length→
     partsOf av sD parts (I6 cs off vs)=some cs'→∃cells',Instr.fill (sD.toArray[·]?) cells (((i,x)::parts).map fun(i,x)=>(i,a.eval x))=some cells'∧aS (cw V) cs' cells'.toList:=by
    intro vs off size ws hf hc hvs hs hle hp
    have hl2:=hvs.length
    have hfo:=Lf ws 0 off cells (by simp at hlen;omega)
    obtain⟨cells',h1,h2⟩:=aa7 sy parts (I6 cs off vs) cs' (ws.toArray.zipIdx.foldl (fun cs (p:Value×Nat)=>cs.setIfInBounds (off+p.2) p.1) cells) hp (by
     have e:(ws.toArray.zipIdx.foldl (fun cs (p:Value×Nat)=>cs.setIfInBounds (off+p.2) p.1) cells).toList=cells.toList.take off++ws++cells.toList.drop (off+ws.length):=by
      rw[←Array.foldl_toList]
      simpa using hfo
     rw[e,I6,hl2]
     exact((hr.take off).append hvs).append (hr.drop _))
    refine⟨cells', ?_,h2⟩
    have hc2:(a.eval x).cells.size=size:=by rw[hc];simp;omega
    have hb:¬off+size>cells.size:=by simp at hlen;omega
    simp only[List.map_cons,Instr.fill]
    rw[show sD.toArray[i]? =some (off,size) by simpa using hf]
    simp only[hc2,ne_eq,not_true_eq_false,false_or]
    rw[if_neg (by simpa [hc2] using hb)]
    rw[hc]
    exact h1
   split at h
   ·rename_i off size hf
    have hx:=sy x
    split at h
    ·rename_i c hc
     rw[hc] at hx
     cases hb:(Nat.beq size 1&&Nat.blt off cs.length) with
     |false=>simp[hb] at h
     |true=>
      simp only[hb,cond_true] at h
      rw[Bool.and_eq_true] at hb
      have h1:=(beq_iff _ _).1 hb.1
      have h2:off+1≤cs.length:=Nat.le_of_ble_eq_true hb.2
      exact go [c] off size [a.eval x] hf (I4 hx) ⟨hx,trivial⟩ h1 h2 h
    ·rename_i vs hc
     rw[hc] at hx
     obtain⟨ws,e,hx⟩:=hx
     cases hb:(Nat.beq size vs.length&&Nat.ble (off+vs.length) cs.length) with
     |false=>simp[hb] at h
     |true=>
      simp only[hb,cond_true] at h
      rw[Bool.and_eq_true] at hb
      have h1:=(beq_iff _ _).1 hb.1
      have h2:=Nat.le_of_ble_eq_true hb.2
      exact go vs off size ws hf (by rw[e];rfl) hx h1 h2 h
    ·cases h
   ·cases h
theorem Vp {f g:Nat→Option (Nat×Nat)}:∀(l:List (Nat×Value)) (cells cells':Array Value),(∀i p,g i=some p→f i=some p)→Instr.fill g cells l=some cells'→Instr.fill f cells l=some cells'
 | [],_,_,_,h=>h
 | (i,v)::l,cells,cells',hfg,h=>by
   simp only[Instr.fill] at h ⊢
   split at h
   ·cases h
   ·rename_i off size hg
    rw[hfg i _ hg]
    simp only
    split at h
    ·cases h
    ·rename_i hn
     rw[if_neg hn]
     exact Vp l _ _ hfg h
theorem Vq (hT:jA P T){av:Operand→AV}(sy:∀x,au V σ ν Y (av x) (a.eval x)){t:TypeId}{parts:Array (Nat×Operand)}{r:cS}
  (he:(D4 (T:=Tb) T av t parts.toList).val Φ σ'=some r):
  r.2= .mw []∧∃v,(Instr.build t (parts.map fun(i,x)=>(i,a.eval x))).run P w= .ok v w∧au V σ ν Y r.1 v:=by
 unfold D4 at he
 split at he
 ·rename_i tr hr
  obtain⟨rfl,hr'⟩:=hT t tr hr
  split at he
  ·rename_i u rX
   simp only[ph,iB] at he
   obtain⟨cs,hcs,rfl⟩:=he
   have hd:=hr'.desc
   rw[rX] at hd
   obtain⟨i,zz,hi,hsz,_,hz,cV,_⟩:=hr'.info
   have hz2:=jv (cV V)
   rw[rX] at hz2
   obtain⟨cells',h1,h2⟩:=aa7 (V:=V) sy parts.toList _ cs zz.cells hcs hz2
   rcases hd with ⟨_,fs,hu,hm,_⟩ | ⟨_,n,e,j,hu,hj,hf,h0,_⟩
   ·have hb:P.built tr.id (parts.map fun(i,x)=>(i,a.eval x)).toList=some cells':=by
     simp only[Program.built,hi,hu,hz,hm,Array.toList_map]
     exact h1
    exact⟨rfl, .agg cells',run_build w tr.id _ _ hb,cells'.toList,by simp,h2⟩
   ·refine⟨rfl, .agg cells', ?_,cells'.toList,by simp,h2⟩
    have h3:Instr.fill (fun i=>some (i*j.size,j.size)) zz.cells (parts.toList.map fun(i,x)=>(i,a.eval x))=some cells':=by
     refine Vp _ _ _ (fun i p hp=> ?_) h1
     rw[hf] at hp
     simp only[List.getElem?_toArray,List.getElem?_map,Option.map_eq_some_iff] at hp
     obtain⟨k,hk,rfl⟩:=hp
     obtain⟨_,h9⟩:=List.getElem?_eq_some_iff.1 hk
     simp at h9
     rw[h9]
    simp[Instr.build,zeroValue,typeInfo,hi,hz,run_underlying hu,sizeOf,hj,h3]
  ·cases he
 ·cases he
theorem agl (hT:jA P T){t:TypeId}{x i:AV}{u v:Value}(hx:au V σ ν Y x u)(hi:au V σ ν Y i v){r:cS}
  (he:(match kh T t with
  |some r=>match r.ty,i,x with
   | .str, .rv (.cv ⟨.int _,n⟩), .rv (.cv ⟨.str,s⟩)=>Q.opt (T:=Tb) (uw s n) fun b=>FL (.int .u8) b
   |_,_,_=> .fail
  |none=> .fail).val Φ σ'=some r):r.2= .mw []∧∃z,(Instr.index t u v).run P w= .ok z w∧au V σ ν Y r.1 z:=by
 split at he
 ·rename_i tr hr
  obtain⟨rfl,hr'⟩:=hT t tr hr
  split at he
  ·rename_i k n s rX
   have ei:=Aq hi rfl
   have ex:=OX hx rfl
   have hd:=hr'.desc
   rw[rX] at hd
   rw[cG] at he
   obtain⟨b,hb,he⟩:=he
   rw[df] at he
   subst he
   cases n with
   |negSucc m=>simp[uw] at hb
   |ofNat m=>
    simp only[uw,Option.map_eq_some_iff] at hb
    obtain⟨u,hu,rfl⟩:=hb
    refine⟨rfl, .int .u8 u.toNat, ?_,Ar⟩
    have h0:(0:Int)≤Int.ofNat m:=by simp
    simp[Instr.index,ei,ex,asIntOf,run_underlying (show P.underlying tr.id=some .string from hd),hu]
  ·cases he
 ·cases he
end
end Go.Abs
namespace Go.Abs
open Go.RowKit Go.Lib
section
variable {P:Program}{E:Env}{σ σ':AS}{a:Act}{w w':World}{ν ν':Nm→Value}{O:Nat→Prop}{V V':View}{Y:Value}
theorem Vs {R S:RV→Value→Prop}{f:RV→RV}(hf:∀x v,R x v→S (f x) v):∀{xs:List RV} {ys:List Value},aS R xs ys→aS S (xs.map f) ys
 | [],[],_=>trivial
 |_::_,_::_,h=>⟨hf _ _ h.1,Vs hf h.2⟩
 | [],_::_,h=>h.elim
 |_::_,[],h=>h.elim
theorem Eb {α β:Type}{R S:α→β→Prop}:∀{xs:List α} {ys:List β},(∀x∈xs,∀y,R x y→S x y)→aS R xs ys→aS S xs ys
 | [],[],_,_=>trivial
 |x::xs,y::ys,hf,h=>⟨hf x (by simp) y h.1,Eb (fun z hz=>hf z (by simp[hz])) h.2⟩
 | [],_::_,_,h=>h.elim
 |_::_,[],_,h=>h.elim
theorem bC {α:Type}{o:Option α}{x:α}(h:o=some x):o.isSome=true:=by simp[h]
theorem au.keep (hV:∀a v,V a v→V' a v)(hh:HSub σ ν σ' ν')(x:AV)(v:Value)
  (hr:∀r,x.fU r=true→∀row,look σ.rows r=some row→ν' (.row r)=ν (.row r)∧∃row',look σ'.rows r=some row'∧row'.t.size=row.t.size)
  (hb:∀b,x.mQ b=true→(look σ.boxes b).isSome=true→ν' (.box b)=ν (.box b)∧(look σ'.boxes b).isSome=true) (h:au V σ ν Y x v):au V' σ' ν' Y x v:=by
 have rv:∀(y:RV) u,(∀r,y.zO r=true→∀row,look σ.rows r=some row→ν' (.row r)=ν (.row r)∧∃row',look σ'.rows r=some row'∧row'.t.size=row.t.size)→tZ V σ ν y u→tZ V' σ' ν' y u:=fun y u hy h=>by
  cases y with
  |cv c=>exact cw.mono hV c u h
  |agg cs=>obtain⟨vs,e,h⟩:=h;exact⟨vs,e,h.mono (cw.mono hV)⟩
  |own r=>
   obtain⟨row,hrow⟩:=Option.isSome_iff_exists.1 h.2
   obtain⟨h1,row',h2,_⟩:=hy r (beq_refl r) row hrow
   exact⟨by rw[h1];exact h.1,by rw[h2];rfl⟩
 have ba:∀b off u,((look σ.boxes b).isSome=true→ν' (.box b)=ν (.box b)∧(look σ'.boxes b).isSome=true)→D6 σ ν b off u→D6 σ' ν' b off u:=fun b off u hb h=>by
  obtain⟨h1,g,h2,h3⟩:=h
  obtain⟨h4,h5⟩:=hb h1
  exact⟨h5,g,by rw[h4];exact h2,h3⟩
 cases x with
 |rv x=>exact rv x v hr h
 |lit u=>exact h
 |box b off=>exact ba b off v (hb b (beq_refl b)) h
 |Qe r sz i off=>
  obtain⟨row,g,h1,h2,h3,h4⟩:=h
  obtain⟨h5,row',h6,h7⟩:=hr r (beq_refl r) row h1
  exact⟨row',g,h6,by rw[h5];exact h2,by rw[h7];exact h3,h4⟩
 |qB cs=>exact sF.mono hV h
 |hel i n j off=>
  obtain⟨hr,g,h1,h2,h3,h4,h5⟩:=h
  obtain⟨hr',h6,h7,h8⟩:=hh.row i hr h1
  exact⟨hr',g,h6,h2,Nat.le_trans h3 h8,by rw[hh.nm i n h2 (by rw[MN h1];exact h3)];exact h4,by rw[h7.t];exact h5⟩
 |fn f bj=>
  obtain⟨vs,h1,h2⟩:=h
  refine⟨vs,h1,Eb (fun c hc u hu=> ?_) h2⟩
  cases c with
  |box b=>exact ba b 0 u (hb b (List.any_eq_true.2 ⟨_,hc,beq_refl b⟩)) hu
  |qB cs=>exact sF.mono hV hu
 |N3=>exact h
 |tup l=>
  obtain⟨vs,h1,h2⟩:=h
  exact⟨vs,h1,Eb (fun y hy u hu=>rv y u (fun r hyr=>hr r (List.any_eq_true.2 ⟨y,hy,hyr⟩)) hu) h2⟩
 |nil=>trivial
theorem Qu {ag:List bK}{h n:Nat}{o:Obj}(ho:oY ag h n=some o):∃k row,o= .hp k row:=by
 cases n with
 |zero=>cases ho
 |succ m=>
  simp only[oY] at ho
  split at ho
  ·unfold J6 at ho
   split at ho
   ·simp only[Option.some.injEq] at ho;exact⟨_,_,ho.symm⟩
   ·cases ho
  ·cases ho
theorem St.less (hE:aR E)(h:St E σ a w ν O){a':Act}(hrow:∀r row,look σ'.rows r=some row→look σ.rows r=some row)(anz:∀b,(look σ'.boxes b).isSome=true→(look σ.boxes b).isSome=true)
  (hh:σ'.ag=σ.ag) (htr:σ'.trace=σ.trace) (hd:a'.defers=a.defers)
  (aph:(∀key v,view E σ ν O w key v→view E σ' ν O w key v)→∀b x,look σ'.boxes b=some x→D7 (view E σ' ν O w) σ' ν w (ν (.box b)) x)
  (Xc:(∀key v,view E σ ν O w key v→view E σ' ν O w key v)→KB (au (view E σ' ν O w) σ' ν E.Y) σ'.tmps a'.tmps.toList E.XS):St E σ' a' w ν O:=by
 have hown:∀m k,Own σ' ν m k→Own σ ν m k:=fun m k hm=>by
  refine⟨?_,hm.2⟩
  have h1:=hm.1
  cases m with
  |row r=>
   simp only[AS.obj,Option.isSome_map] at h1 ⊢
   obtain⟨row,e⟩:=Option.isSome_iff_exists.1 h1
   exact bC (hrow r row e)
  |box b=>simp only[AS.obj,Option.isSome_map] at h1 ⊢;exact anz b h1
  |hp i n=>simp only[AS.obj,hh] at h1 ⊢;exact h1
 refine h.step hE (C:=fun _=>False) (Grow.refl _ _) (fun k hk=>hk.elim) (HSub.of_eq hh (fun _ _=>rfl)) (fun m k hm=> .inl ⟨m,hown m k hm,id⟩) (fun m k hm=>(h.Bw m k (hown m k hm)).2.1) (fun m m' k h1 h2=>h.inj m m' k (hown _ _ h1) (hown _ _ h2)) (fun m k hk=>h.new m k (hown _ _ hk)) htr hd (by rw[hh];exact h.nn) (fun i hr e=>by rw[hh];exact(h.ro i hr e).1) (fun hV m o ho=> ?_) Xc
 cases m with
 |row r=>
  simp only[AS.obj,Option.map_eq_some_iff] at ho
  obtain⟨row,e,rfl⟩:=ho
  exact j7.mono hV (fun _ _=>rfl) (h.row (hrow r row e))
 |box b=>
  simp only[AS.obj,Option.map_eq_some_iff] at ho
  obtain⟨x,e,rfl⟩:=ho
  exact aph hV b x e
 |hp i n=>
  have ho':σ.obj (.hp i n)=some o:=by simp only[AS.obj,hh] at ho ⊢;exact ho
  obtain⟨k,row,rfl⟩:=Qu ho'
  exact CS.mono hV (fun _ _=>rfl) (h.DL _ _ ho')
theorem vb {α:Type}{l:List (Nat×α)}{j k:Nat}{x:α}(h:look (del l j) k=some x):look l k=some x:=by
 rw[D5] at h;split at h
 ·cases h
 ·exact h
theorem St.freeze (hE:aR E)(h:St E σ a w ν O)(r:Nat):St E (σ.freeze r) a w ν O:=by
 unfold AS.freeze
 cases hrow:look σ.rows r with
 |none=>exact h
 |some row=>
  show St E ({σ with tmps:=σ.tmps.map (AV.vX r ⟨.slice row.t,row.xs⟩),rows:=del σ.rows r,boxes:=KZ (BX.vX r ⟨.slice row.t,row.xs⟩) σ.boxes}:AS) a w ν O
  generalize Zj:({σ with tmps:=σ.tmps.map (AV.vX r ⟨.slice row.t,row.xs⟩),rows:=del σ.rows r,boxes:=KZ (BX.vX r ⟨.slice row.t,row.xs⟩) σ.boxes}:AS)=σ'
  have e1:σ'.rows=del σ.rows r:=by rw[←Zj]
  have e2:σ'.boxes=KZ (BX.vX r ⟨.slice row.t,row.xs⟩) σ.boxes:=by rw[←Zj]
  have e3:σ'.ag=σ.ag:=by rw[←Zj]
  have hne:∀k,k≠r→look σ'.rows k=look σ.rows k:=fun k hk=>by rw[e1,D5,if_neg (Ne.symm hk)]
  have UP:(∀key v,view E σ ν O w key v→view E σ' ν O w key v)→cw (view E σ' ν O w) ⟨.slice row.t,row.xs⟩ (ν (.row r)):=fun hV=>by
   obtain⟨bQ,⟨e4,e5⟩,hall⟩:=h.row hrow
   rcases e5 with ⟨e5,e6⟩ | ⟨g,cap,cur,e5,_,hg,hn,hm,hcs,N8⟩
   ·have hx:row.xs=[]:=List.eq_nil_of_length_eq_zero e6
    rw[e5,hx]
    exact⟨none,0,[],rfl,Nat.le_refl _,trivial,fun _=>rfl,fun j u hj=>by simp at hj⟩
   ·have hb:=h.Bw (.row r) g ⟨by simp[AS.obj,hrow],by rw[e5];rfl⟩
    rw[e5]
    refine⟨some ⟨g,0,none⟩,cap,bQ,rfl,hn,hall.mono (Rel.mono hV _),(fun e=>by cases e),fun j u hj=>⟨_,rfl, ?_⟩⟩
    have hcell:w.cell? ⟨g,j,none⟩=some u:=by
     rw[cell_of_row w g j cur row.e (0,0) hg]
     rw[←N8] at hj
     simpa using La hj
    rw[J8]
    have hB:=(h.new (.row r) g ⟨by simp[AS.obj,hrow],by rw[e5];rfl⟩).resolve_right id
    ·refine .inr ⟨hB, ?_,hb.2.2,hcell⟩
     rintro ⟨m,hm1,hm2⟩
     have:m= .row r:=h.inj m (.row r) g ⟨by
      cases m with
      |row k=>simp only[AS.obj,Option.isSome_map] at hm1 ⊢;obtain⟨_,e⟩:=Option.isSome_iff_exists.1 hm1;rw[e1] at e;exact bC (vb e)
      |box b=>simp only[AS.obj,Option.isSome_map,e2,iU] at hm1 ⊢;exact hm1
      |hp i n=>simp only[AS.obj,e3] at hm1 ⊢;exact hm1,hm2⟩ ⟨by simp[AS.obj,hrow],by rw[e5];rfl⟩
     subst this
     simp[AS.obj,e1,D5] at hm1
  refine h.less hE (a':=a) (fun k row' h1=>vb (by rw[←e1];exact h1)) (fun b h1=>by rw[e2,iU,Option.isSome_map] at h1;exact h1) e3 (by rw[←Zj]) rfl (fun hV b x hx=> ?_) (fun hV=> ?_)
  ·rw[e2,iU,Option.map_eq_some_iff] at hx
   obtain⟨x0,hx0,rfl⟩:=hx
   have hbr:=h.box hx0
   obtain⟨g,hg1,hg2⟩:=hbr
   refine⟨g,hg1, ?_⟩
   cases x0 with
   |cells cs=>obtain⟨cur,e,h3,h4⟩:=hg2;exact⟨cur,e,h3,h4.mono (cw.mono hV)⟩
   |own k=>
    obtain⟨e,h3,h4⟩:=hg2
    simp only[BX.vX]
    cases hk:Nat.beq k r with
    |true=>have:=(beq_iff _ _).1 hk;subst this;exact⟨_,e,h3,UP hV,trivial⟩
    |false=>exact⟨e,h3,by rw[hne k (uy.1 hk)];exact h4⟩
   |nil=>exact hg2
  ·have Xc:σ'.tmps=σ.tmps.map (AV.vX r ⟨.slice row.t,row.xs⟩):=by rw[←Zj]
   rw[Xc]
   refine ML (fun x v hx=> ?_) h.slots
   have hrv:∀x v,tZ (view E σ ν O w) σ ν x v→tZ (view E σ' ν O w) σ' ν (x.vX r ⟨.slice row.t,row.xs⟩) v:=by
    intro x v hx
    cases x with
    |cv c=>exact cw.mono hV c v hx
    |agg cs=>obtain⟨vs,h1,h2⟩:=hx;exact⟨vs,h1,h2.mono (cw.mono hV)⟩
    |own k=>
     obtain⟨h1,h2⟩:=hx
     simp only[RV.vX]
     cases hk:Nat.beq k r with
     |true=>have:=(beq_iff _ _).1 hk;subst this;rw[h1];exact UP hV
     |false=>exact⟨h1,by rw[hne k (uy.1 hk)];exact h2⟩
   have hbk:∀b,(look σ'.boxes b).isSome=(look σ.boxes b).isSome:=fun b=>by rw[e2,iU,Option.isSome_map]
   cases x with
   |rv x=>exact hrv x v hx
   |Qe k sz i off=>
    simp only[AV.vX]
    cases hk:Nat.beq k r with
    |true=>trivial
    |false=>
     obtain⟨row',g,h1,h2⟩:=hx
     exact⟨row',g,by rw[hne k (uy.1 hk)];exact h1,h2⟩
   |tup l=>obtain⟨vs,h1,h2⟩:=hx;exact⟨vs,h1,Vs hrv h2⟩
   |lit u=>exact hx
   |box b off=>exact au.keep hV (HSub.of_eq e3 (fun _ _=>rfl)) (.box b off) v (fun r hr=>by cases hr) (fun b _ hs=>⟨rfl,by rw[hbk b];exact hs⟩) hx
   |qB cs=>exact sF.mono hV hx
   |hel i n j off=>exact au.keep hV (HSub.of_eq e3 (fun _ _=>rfl)) (.hel i n j off) v (fun r hr=>by cases hr) (fun b _ hs=>⟨rfl,by rw[hbk b];exact hs⟩) hx
   |fn f bj=>exact au.keep hV (HSub.of_eq e3 (fun _ _=>rfl)) (.fn f bj) v (fun r hr=>by cases hr) (fun b _ hs=>⟨rfl,by rw[hbk b];exact hs⟩) hx
   |N3=>exact hx
   |nil=>trivial
theorem St.frz (hE:aR E)(h:St E σ a w ν O)(x:Operand):St E (σ.frz x) a w ν O:=by
 unfold AS.frz
 split
 ·exact h.freeze hE _
 ·exact h
theorem St.ya (hE:aR E)(h:St E σ a w ν O):∀xs,St E (σ.ya xs) a w ν O:=by
 intro xs
 induction xs generalizing σ with
 |nil=>exact h
 |cons x xs ih=>exact ih (h.frz hE x)
theorem Jc (r k:Nat):look (σ.bL r).rows k=if r=k then none else look σ.rows k:=D5 _ _ _
theorem pj (r k:Nat):look (σ.eQ r).boxes k=if r=k then none else look σ.boxes k:=D5 _ _ _
theorem aa8 {w w':World}{r:Nat}{x:BX}{v:Value}(hV:∀a v,V a v→V' a v)(hr:∀k,k≠r→(look σ.rows k).isSome=true→ν' (.row k)=ν (.row k)∧look σ'.rows k=look σ.rows k)
  (hk:∀k,dm v=some k→w'.heap[k]? =w.heap[k]?) (h:D7 V σ ν w v x):D7 V' σ' ν' w' v (x.bL r):=by
 obtain⟨g,h1,h2⟩:=h
 have hg:=hk g (by rw[h1];rfl)
 refine⟨g,h1, ?_⟩
 unfold BX.bL
 cases x with
 |cells cs=>obtain⟨cur,e,h3,h4⟩:=h2;exact⟨cur,e,by rw[hg];exact h3,h4.mono (cw.mono hV)⟩
 |own k=>
  obtain⟨e,h3,h4⟩:=h2
  simp only[BX.fU]
  cases hb:Nat.beq r k with
  |true=>exact⟨_,e,by rw[hg];exact h3⟩
  |false=>
   have hne:=Ne.symm (uy.1 hb)
   obtain⟨i1,i2⟩:=hr k hne h4
   exact⟨e,by rw[hg,i1];exact h3,by rw[i2];exact h4⟩
 |nil=>obtain⟨u,e,h3⟩:=h2;exact⟨u,e,by rw[hg];exact h3⟩
theorem afc {r:Nat}(hV:∀a v,V a v→V' a v)(hh:HSub σ ν σ' ν')(hr:∀k,k≠r→(look σ.rows k).isSome=true→ν' (.row k)=ν (.row k)∧look σ'.rows k=look σ.rows k)
  (hb:∀b,(look σ.boxes b).isSome=true→ν' (.box b)=ν (.box b)∧(look σ'.boxes b).isSome=true) (x:AV) (v:Value)
  (h:au V σ ν Y x v):au V' σ' ν' Y (x.bL r) v:=by
 unfold AV.bL
 cases hk:x.fU r with
 |true=>trivial
 |false=>exact h.keep hV hh x v (fun k hkk row hrow=>by
   obtain⟨i1,i2⟩:=hr k (fun e=>by rw[e,hk] at hkk;cases hkk) (bC hrow)
   exact⟨i1,row,by rw[i2];exact hrow,rfl⟩) (fun b _=>hb b)
theorem St.bL (hE:aR E)(h:St E σ a w ν O)(r:Nat):St E (σ.bL r) a w ν O:=by
 have hne:∀k,k≠r→look (σ.bL r).rows k=look σ.rows k:=fun k hk=>by rw[Jc,if_neg (Ne.symm hk)]
 have hbs:∀b,(look (σ.bL r).boxes b).isSome=(look σ.boxes b).isSome:=fun b=>by show (look (KZ _ _) b).isSome=_;rw[iU,Option.isSome_map]
 refine h.less hE (σ':=σ.bL r) (a':=a) (fun k row h1=>vb h1) (fun b h1=>by rw[←hbs];exact h1) rfl rfl rfl (fun hV b x hx=> ?_) (fun hV=>ML (afc (σ:=σ) (σ':=σ.bL r) hV (HSub.of_eq rfl (fun _ _=>rfl)) (fun k hk _=>⟨rfl,hne k hk⟩) (fun b hs=>⟨rfl,by rw[hbs];exact hs⟩)) h.slots)
 have hx':look (KZ (BX.bL r) σ.boxes) b=some x:=hx
 rw[iU,Option.map_eq_some_iff] at hx'
 obtain⟨x0,hx0,rfl⟩:=hx'
 exact aa8 hV (fun k hk _=>⟨rfl,hne k hk⟩) (fun _ _=>rfl) (h.box hx0)
theorem St.eQ (hE:aR E)(h:St E σ a w ν O)(d:Nat):St E (σ.eQ d) a w ν O:=by
 have hne:∀k,k≠d→look (σ.eQ d).boxes k=look σ.boxes k:=fun k hk=>by rw[pj,if_neg (Ne.symm hk)]
 refine h.less hE (σ':=σ.eQ d) (a':=a) (fun k row h1=>h1) (fun b h1=> ?_) rfl rfl rfl (fun hV b x hx=> ?_) (fun hV=>ML (fun x v hx=> ?_) h.slots)
 ·obtain⟨x,e⟩:=Option.isSome_iff_exists.1 h1;exact bC (vb e)
 ·exact(h.box (vb hx)).mono hV (fun _ _=>rfl) (fun r _ hr=>⟨rfl,hr⟩)
 ·unfold AV.eQ
  cases hk:x.mQ d with
  |true=>trivial
  |false=>exact au.keep (σ:=σ) (σ':=σ.eQ d) hV (HSub.of_eq rfl (fun _ _=>rfl)) x v (fun _ _ row hrow=>⟨rfl,row,hrow,rfl⟩) (fun b hb hs=>⟨rfl,by rw[hne b (fun e=>by rw[e,hk] at hb;cases hb)];exact hs⟩) hx
theorem St.kJ (hE:aR E)(h:St E σ a w ν O):∀ds,St E (σ.kJ ds) a w ν O:=by
 intro ds
 induction ds generalizing σ with
 |nil=>exact h
 |cons d ds ih=>exact ih (h.eQ hE d)
theorem St.share (hE:aR E)(h:St E σ a w ν O):∀(hs:List (Nat×Bool)),St E (σ.share hs) a w ν O:=by
 intro hs
 induction hs generalizing σ with
 |nil=>exact h
 |cons p hs ih=>
  obtain⟨j,b⟩:=p
  cases b
  ·exact ih h
  ·exact ih (h.frz hE _)
theorem St.forget (hE:aR E)(h:St E σ a w ν O)(hs:List (Nat×Bool)):St E (σ.forget hs) a w ν O:=by
 have h1:=h.share hE hs
 unfold AS.forget
 generalize σ.share hs=σ1 at h1
 dsimp only
 generalize hl:ain σ1.tmps.l hs=l
 generalize hbs:(σ1.boxes.filter fun p=>l.any (fun q=>q.2.mQ p.1)||σ1.tmps.s.any fun q=>q.2.mQ p.1)=bs
 generalize hrs:(σ1.rows.filter fun p=>(l.any fun q=>q.2.fU p.1)||(σ1.tmps.s.any fun q=>q.2.fU p.1)||bs.any fun q=>q.2.fU p.1)=rs
 have hbl:∀b,look bs b=if (l.any (fun q=>q.2.mQ b)||σ1.tmps.s.any fun q=>q.2.mQ b) then look σ1.boxes b else none:=fun b=>by
  rw[←hbs];exact Bu σ1.boxes (fun k=>l.any (fun q=>q.2.mQ k)||σ1.tmps.s.any fun q=>q.2.mQ k) b
 have hrl:∀r,look rs r=if ((l.any fun q=>q.2.fU r)||(σ1.tmps.s.any fun q=>q.2.fU r)||bs.any fun q=>q.2.fU r) then look σ1.rows r else none:=fun r=>by
  rw[←hrs];exact Bu σ1.rows (fun k=>(l.any fun q=>q.2.fU k)||(σ1.tmps.s.any fun q=>q.2.fU k)||bs.any fun q=>q.2.fU k) r
 refine h1.less hE (a':=a) (fun r row e=> ?_) (fun b e=> ?_) rfl rfl rfl (fun hV b x hx=> ?_) (fun hV=>⟨h1.slots.1,fun i x hx=> ?_,fun i x hx=> ?_⟩)
 ·have e':look rs r=some row:=e
  rw[hrl] at e';split at e'
  ·exact e'
  ·cases e'
 ·have e':(look bs b).isSome=true:=e
  rw[hbl] at e';split at e'
  ·exact e'
  ·cases e'
 ·have hx':look bs b=some x:=hx
  have hm:=Bv hx'
  rw[hbl] at hx';split at hx'
  ·refine(h1.box hx').mono hV (fun _ _=>rfl) (fun r e hr=>⟨rfl, ?_⟩)
   show (look rs r).isSome=true
   have hk:(bs.any fun q=>q.2.fU r)=true:=List.any_eq_true.2 ⟨(b,x),hm,by rw[e];exact beq_refl r⟩
   rw[hrl,if_pos (by rw[hk,Bool.or_true])]
   exact hr
  ·cases hx'
 ·have hx':look l i=some x:=hx
  have hm:=Bv hx'
  have hv:look σ1.tmps.l i=some x:=by
   rw[←hl] at hx'
   unfold ain at hx'
   rw[Bu σ1.tmps.l (fun k=>hs.any fun p=>Nat.beq p.1 k) i] at hx'
   split at hx'
   ·exact hx'
   ·cases hx'
  refine au.keep (σ:=σ1) hV (HSub.of_eq (by rfl) (fun _ _=>rfl)) x _ (fun r hk row hrow=>⟨rfl,row, ?_,rfl⟩) (fun b hk hs=>⟨rfl, ?_⟩) (h1.slots.2.1 i x hv)
  ·show look rs r=_
   rw[hrl,if_pos (by rw[show (l.any fun q=>q.2.fU r)=true from List.any_eq_true.2 ⟨(i,x),hm,hk⟩];rfl)];exact hrow
  ·show (look bs b).isSome=_
   rw[hbl,if_pos (by rw[show (l.any fun q=>q.2.mQ b)=true from List.any_eq_true.2 ⟨(i,x),hm,hk⟩];rfl)];exact hs
 ·have hx':look σ1.tmps.s i=some x:=hx
  have hm:=Bv hx'
  refine au.keep (σ:=σ1) hV (HSub.of_eq (by rfl) (fun _ _=>rfl)) x _ (fun r hk row hrow=>⟨rfl,row, ?_,rfl⟩) (fun b hk hs=>⟨rfl, ?_⟩) (h1.slots.2.2 i x hx')
  ·show look rs r=_
   rw[hrl,if_pos (by rw[show (σ1.tmps.s.any fun q=>q.2.fU r)=true from List.any_eq_true.2 ⟨(i,x),hm,hk⟩];simp)];exact hrow
  ·show (look bs b).isSome=_
   rw[hbl,if_pos (by rw[show (σ1.tmps.s.any fun q=>q.2.mQ b)=true from List.any_eq_true.2 ⟨(i,x),hm,hk⟩];simp)];exact hs
def vY (ν:Nm→Value)(d:Nat)(v:Value):Nm→Value
 | .row k=>if k=d then v else ν (.row k)
 |m=>ν m
def R3 (ν:Nm→Value)(d:Nat)(v:Value):Nm→Value
 | .box k=>if k=d then v else ν (.box k)
 |m=>ν m
def R4 (ν:Nm→Value)(h n:Nat)(v:Value):Nm→Value
 | .hp i k=>if i=h∧k=n then v else ν (.hp i k)
 |m=>ν m
theorem Zk {r:Nat}{k:Nat}(h:Own σ ν (.row r) k):(look σ.rows r).isSome=true:=by have:=h.1;simpa [AS.obj] using this
theorem Zl {r:Nat}{row:Row}{k:Nat}(h:look σ.rows r=some row)(hb:dm (ν (.row r))=some k):Own σ ν (.row r) k:=⟨by simp[AS.obj,h],hb⟩
def yj (r d:Nat):Nm→Nm
 | .row k=>if k=d then .row r else .row k
 |m=>m
theorem aiI {r d:Nat}{m:Nm}(h:E.zJ (yj r d m)):E.zJ m:=by
 cases m with
 |row k=>simp only[yj] at h;split at h<;>exact absurd h RY
 |_=>exact h
theorem St.rename (hE:aR E)(h:St E σ a w ν O){r d:Nat}(hd:look σ.rows d=none):∃ν',St E (σ.rename r d) a w ν' O∧(∀m,(∀k,m≠ .row k)→ν' m=ν m)∧((look σ.rows r).isSome=true→ν' (.row d)=ν (.row r)∧(look (σ.rename r d).rows d).isSome=true):=by
 unfold AS.rename
 cases hrow:look σ.rows r with
 |none=>exact⟨ν,h,fun _ _=>rfl,by simp⟩
 |some row=>
  have hrd:r≠d:=fun e=>by rw[e,hd] at hrow;cases hrow
  generalize Zj:({σ with tmps:=σ.tmps.map (AV.ren r d),rows:=put (del σ.rows r) d row,boxes:=KZ (BX.ren r d) σ.boxes}:AS)=σ'
  have e1:σ'.rows=put (del σ.rows r) d row:=by rw[←Zj]
  have e2:σ'.boxes=KZ (BX.ren r d) σ.boxes:=by rw[←Zj]
  have e3:σ'.ag=σ.ag:=by rw[←Zj]
  have Tf:∀k,look σ'.rows k=if d=k then some row else if r=k then none else look σ.rows k:=fun k=>by rw[e1,aQ,D5]
  have hd1:look σ'.rows d=some row:=by rw[Tf,if_pos rfl]
  have hν:∀m,(vY ν d (ν (.row r))) m=ν (yj r d m):=fun m=>by
   cases m with
   |row k=>simp only[vY,yj];split<;>rfl
   |_=>rfl
  have oY:∀m,(σ'.obj m).isSome=true→(σ.obj (yj r d m)).isSome=true∧yj r d m≠ .row d∧m≠ .row r:=fun m hm=>by
   cases m with
   |row k=>
    simp only[AS.obj,Option.isSome_map,Tf] at hm
    simp only[yj]
    by_cases hk:d=k
    ·subst hk
     rw[if_pos rfl]
     exact⟨by simp[AS.obj,hrow],fun e=>hrd (by injection e),fun e=>hrd (by injection e with e;exact e.symm)⟩
    ·rw[if_neg hk] at hm
     rw[if_neg (Ne.symm hk)]
     split at hm
     ·cases hm
     ·rename_i hk2
      exact⟨by simpa [AS.obj] using hm,fun e=>hk (by injection e with e;exact e.symm),fun e=>hk2 (by injection e with e;exact e.symm)⟩
   |box b=>simp only[AS.obj,Option.isSome_map,e2,iU] at hm;exact⟨by simpa [AS.obj,yj] using hm,fun e=>(by cases e),fun e=>(by cases e)⟩
   |hp i n=>simp only[AS.obj,e3] at hm;exact⟨by simpa [AS.obj,yj] using hm,fun e=>(by cases e),fun e=>(by cases e)⟩
  have hown:∀m k,Own σ' (vY ν d (ν (.row r))) m k→Own σ ν (yj r d m) k:=fun m k hm=>⟨(oY m hm.1).1,by rw[←hν];exact hm.2⟩
  have api:∀m m',(σ'.obj m).isSome=true→(σ'.obj m').isSome=true→yj r d m=yj r d m'→m=m':=fun m m' h1 h2 he=>by
   have a1:=(oY m h1).2.2
   have a2:=(oY m' h2).2.2
   cases m with
   |row k=>
    cases m' with
    |row k'=>
     simp only[yj] at he
     by_cases q1:k=d<;>by_cases q2:k'=d
     ·rw[q1,q2]
     ·rw[if_pos q1,if_neg q2] at he;injection he with he;exact absurd (by rw[he]) a2
     ·rw[if_neg q1,if_pos q2] at he;injection he with he;exact absurd (by rw[he]) a1
     ·rw[if_neg q1,if_neg q2] at he;exact he
    |box b=>simp only[yj] at he;split at he<;>cases he
    |hp i n=>simp only[yj] at he;split at he<;>cases he
   |box b=>cases m' with
    |row k'=>simp only[yj] at he;split at he<;>cases he
    |_=>exact he
   |hp i n=>cases m' with
    |row k'=>simp only[yj] at he;split at he<;>cases he
    |_=>exact he
  have J7:∀k,k≠r→(look σ.rows k).isSome=true→vY ν d (ν (.row r)) (.row k)=ν (.row k)∧look σ'.rows k=look σ.rows k:=fun k hk hs=>by
   have hkd:k≠d:=fun e=>by rw[e,hd] at hs;cases hs
   exact⟨by simp only[vY,if_neg hkd],by rw[Tf,if_neg (Ne.symm hkd),if_neg (Ne.symm hk)]⟩
  have hdν:vY ν d (ν (.row r)) (.row d)=ν (.row r):=by simp only[vY,if_pos]
  refine⟨vY ν d (ν (.row r)), ?_,fun m hm=> ?_,fun _=>⟨hdν, ?_⟩⟩
  ·show St E ({σ with tmps:=σ.tmps.map (AV.ren r d),rows:=put (del σ.rows r) d row,boxes:=KZ (BX.ren r d) σ.boxes}:AS) a w _ O
   rw[Zj]
   refine h.step hE (C:=fun _=>False) (Grow.refl _ _) (fun k hk=>hk.elim) (HSub.of_eq e3 (fun _ _=>rfl)) (fun m k hm=> .inl ⟨_,hown m k hm,fun e=>aiI e⟩) (fun m k hm=>(h.Bw _ k (hown m k hm)).2.1)
    (fun m m' k h1 h2=>api m m' h1.1 h2.1 (h.inj _ _ k (hown _ _ h1) (hown _ _ h2))) (fun m' k hk=> ?_) (by rw[←Zj]) rfl (by rw[e3];exact h.nn) (fun i hr e=>by rw[e3];exact(h.ro i hr e).1) (fun hV m o ho=> ?_) (fun hV=> ?_)
   ·have h9:=h.new _ k (hown _ _ hk)
    refine h9.imp id (fun h10=> ?_)
    cases m' with
    |row q=>simp only[yj] at h10;split at h10<;>exact h10
    |box q=>trivial
    |hp i n=>simp only[yj] at h10;exact h10
   ·cases m with
    |row k=>
     simp only[AS.obj,Option.map_eq_some_iff] at ho
     obtain⟨row',e,rfl⟩:=ho
     rw[Tf] at e
     split at e
     ·rename_i hk
      subst hk
      obtain rfl:row=row':=by simpa using e
      rw[hdν]
      exact j7.mono hV (fun _ _=>rfl) (h.row hrow)
     ·rename_i hk
      split at e
      ·cases e
      ·rename_i hk2
       rw[(J7 k (Ne.symm hk2) (bC e)).1]
       exact j7.mono hV (fun _ _=>rfl) (h.row e)
    |box b=>
     simp only[AS.obj,Option.map_eq_some_iff] at ho
     obtain⟨x,e,rfl⟩:=ho
     rw[e2,iU,Option.map_eq_some_iff] at e
     obtain⟨x0,hx0,rfl⟩:=e
     obtain⟨g,hg1,hg2⟩:=h.box hx0
     refine⟨g,hg1, ?_⟩
     cases x0 with
     |cells cs=>obtain⟨cur,e,h3,h4⟩:=hg2;exact⟨cur,e,h3,h4.mono (cw.mono hV)⟩
     |own k=>
      obtain⟨e,h3,h4⟩:=hg2
      simp only[BX.ren]
      cases hk:Nat.beq k r with
      |true=>have:=(beq_iff _ _).1 hk;subst this;exact⟨e,by rw[cond_true,hdν];exact h3,by rw[cond_true,hd1];rfl⟩
      |false=>
       obtain⟨i1,i2⟩:=J7 k (uy.1 hk) h4
       exact⟨e,by rw[cond_false,i1];exact h3,by rw[cond_false,i2];exact h4⟩
     |nil=>exact hg2
    |hp i n=>
     have ho':σ.obj (.hp i n)=some o:=by simp only[AS.obj,e3] at ho ⊢;exact ho
     obtain⟨k,row,rfl⟩:=Qu ho'
     exact CS.mono hV (fun _ _=>rfl) (h.DL _ _ ho')
   ·have Xc:σ'.tmps=σ.tmps.map (AV.ren r d):=by rw[←Zj]
    rw[Xc]
    refine ML (fun x v hx=> ?_) h.slots
    have hrv:∀x v,tZ (view E σ ν O w) σ ν x v→tZ (view E σ' (vY ν d (ν (.row r))) O w) σ' (vY ν d (ν (.row r))) (x.ren r d) v:=by
     intro x v hx
     cases x with
     |cv c=>exact cw.mono hV c v hx
     |agg cs=>obtain⟨vs,h1,h2⟩:=hx;exact⟨vs,h1,h2.mono (cw.mono hV)⟩
     |own k=>
      obtain⟨h1,h2⟩:=hx
      simp only[RV.ren]
      cases hk:Nat.beq k r with
      |true=>have:=(beq_iff _ _).1 hk;subst this;exact⟨by rw[cond_true,hdν];exact h1,by rw[cond_true,hd1];rfl⟩
      |false=>
       obtain⟨i1,i2⟩:=J7 k (uy.1 hk) h2
       exact⟨by rw[cond_false,i1];exact h1,by rw[cond_false,i2];exact h2⟩
    have hba:∀b off v,D6 σ ν b off v→D6 σ' (vY ν d (ν (.row r))) b off v:=fun b off v hb=>⟨by rw[e2,iU,Option.isSome_map];exact hb.1,hb.2⟩
    cases x with
    |rv x=>exact hrv x v hx
    |Qe k sz i off=>
     obtain⟨row',g,h1,h2,h3⟩:=hx
     simp only[AV.ren]
     cases hk:Nat.beq k r with
     |true=>
      have:=(beq_iff _ _).1 hk;subst this
      rw[hrow] at h1
      obtain rfl:row=row':=by simpa using h1
      exact⟨row,g,by rw[cond_true];exact hd1,by rw[cond_true,hdν];exact h2,h3⟩
     |false=>
      obtain⟨i1,i2⟩:=J7 k (uy.1 hk) (bC h1)
      exact⟨row',g,by rw[cond_false,i2];exact h1,by rw[cond_false,i1];exact h2,h3⟩
    |tup l=>obtain⟨vs,h1,h2⟩:=hx;exact⟨vs,h1,Vs hrv h2⟩
    |lit u=>exact hx
    |box b off=>exact hba b off v hx
    |qB cs=>exact sF.mono hV hx
    |hel i n j off=>obtain⟨hr',g,h1,h2⟩:=hx;exact⟨hr',g,by rw[e3];exact h1,h2⟩
    |fn f bj=>
     obtain⟨vs,h1,h2⟩:=hx
     refine⟨vs,h1,h2.mono (fun c u hc=> ?_)⟩
     cases c with
     |box b=>exact hba b 0 u hc
     |qB cs=>exact sF.mono hV hc
    |N3=>exact hx
    |nil=>trivial
  ·cases m with
   |row k=>exact absurd rfl (hm k)
   |_=>rfl
  ·show (look (put (del σ.rows r) d row) d).isSome=true
   rw[aQ,if_pos rfl];rfl
end
end Go.Abs
namespace Go.Abs
open Go.RowKit Go.Lib
section
variable {P:Program}{E:Env}{σ σ':AS}{a:Act}{w w':World}{ν ν':Nm→Value}{O:Nat→Prop}{V V':View}{Y:Value}
theorem nZ {d:Nat}{v:Value}:vY ν d v (.row d)=v:=by simp only[vY,if_pos]
theorem UQ {d k:Nat}{v:Value}(h:k≠d):vY ν d v (.row k)=ν (.row k):=by simp only[vY,if_neg h]
theorem St.old (h:St E σ a w ν O){C:Nat→Prop}(hg:Grow C w w'){m:Nm}{o:Obj}(ho:σ.obj m=some o)(hc:∀k,dm (ν m)=some k→¬C k)(hV:∀key v,view E σ ν O w key v→V key v)
  (hr:∀r,o= .box (.own r)→(look σ.rows r).isSome=true→ν' (.row r)=ν (.row r)∧(look σ'.rows r).isSome=true):Ja V σ' ν' w' (ν m) o:=
 (h.DL m o ho).mono hV (fun k hk=>hg.block k (h.Bw m k ⟨bC ho,hk⟩).2.1 (hc k hk)) hr
theorem St.afd (hE:aR E)(h:St E σ a w ν O){r d:Nat}{row':Row}{v':Value}(hd:look (σ.bL r).rows d=none)(hg:Grow (fun k=>Own σ ν (.row r) k) w w')
  (HC:∀k,dm v'=some k→Own σ ν (.row r) k∨(w.heap.size≤k∧k<w'.heap.size))
  (cV:(∀key v,view E σ ν O w key v→view E {(σ.bL r) with rows:=put (σ.bL r).rows d row'} (vY ν d v') O w' key v)→
   j7 (view E {(σ.bL r) with rows:=put (σ.bL r).rows d row'} (vY ν d v') O w') w' v' row'):
  St E {(σ.bL r) with rows:=put (σ.bL r).rows d row'} a w' (vY ν d v') O:=by
 generalize Zj:({(σ.bL r) with rows:=put (σ.bL r).rows d row'}:AS)=σ' at cV
 have e1:σ'.rows=put (σ.bL r).rows d row':=by rw[←Zj]
 have e2:σ'.boxes=KZ (BX.bL r) σ.boxes:=by rw[←Zj];rfl
 have e3:σ'.ag=σ.ag:=by rw[←Zj];rfl
 have Tf:∀k,look σ'.rows k=if d=k then some row' else if r=k then none else look σ.rows k:=fun k=>by rw[e1,aQ,Jc]
 have hdr:∀k,(look σ.rows k).isSome=true→k≠r→k≠d:=fun k hk hkr e=>by
  subst e
  rw[Jc,if_neg (Ne.symm hkr)] at hd
  rw[hd] at hk;cases hk
 have hold:∀k,k≠r→(look σ.rows k).isSome=true→vY ν d v' (.row k)=ν (.row k)∧look σ'.rows k=look σ.rows k:=fun k hkr hk=>
  ⟨UQ (hdr k hk hkr),by rw[Tf,if_neg (Ne.symm (hdr k hk hkr)),if_neg (Ne.symm hkr)]⟩
 -- what is owned
 have hown:∀m k,Own σ' (vY ν d v') m k→(m= .row d∧(Own σ ν (.row r) k∨(w.heap.size≤k∧k<w'.heap.size)))∨(m≠ .row d∧m≠ .row r∧Own σ ν m k):=by
  intro m k hm
  obtain⟨h1,h2⟩:=hm
  cases m with
  |row q=>
   simp only[AS.obj,Option.isSome_map,Tf] at h1
   by_cases hq:d=q
   ·subst hq;rw[nZ] at h2;exact .inl ⟨rfl,HC k h2⟩
   ·rw[if_neg hq] at h1
    split at h1
    ·cases h1
    ·rename_i hqr
     rw[UQ (Ne.symm hq)] at h2
     exact .inr ⟨fun e=>hq (by injection e with e;exact e.symm),fun e=>hqr (by injection e with e;exact e.symm),by simpa [AS.obj] using h1,h2⟩
  |box b=>simp only[AS.obj,Option.isSome_map,e2,iU] at h1;exact .inr ⟨fun e=>(by cases e),fun e=>(by cases e),by simpa [AS.obj] using h1,h2⟩
  |hp i n=>simp only[AS.obj,e3] at h1;exact .inr ⟨fun e=>(by cases e),fun e=>(by cases e),by simpa [AS.obj] using h1,h2⟩
 refine h.step hE hg (fun k hk=>⟨_,hk,RY⟩) (HSub.of_eq e3 (fun _ _=>rfl)) (fun m k hm=> ?_) (fun m k hm=> ?_) (fun m m' k h1 h2=> ?_) (fun q k hk=> ?_) (by rw[←Zj];rfl) rfl (by rw[e3];exact h.nn) (fun i hr e=>by rw[e3];exact(h.ro i hr e).1) (fun hV m o ho=> ?_) (fun hV=> ?_)
 ·rcases hown m k hm with ⟨_,h1 |h1⟩ | ⟨_,_,h1⟩
  ·exact .inl ⟨_,h1,fun e=>absurd e RY⟩
  ·exact .inr h1.1
  ·exact .inl ⟨_,h1,id⟩
 ·rcases hown m k hm with ⟨_,h1 |h1⟩ | ⟨_,_,h1⟩
  ·exact Nat.lt_of_lt_of_le (h.Bw _ k h1).2.1 hg.size
  ·exact h1.2
  ·exact Nat.lt_of_lt_of_le (h.Bw _ k h1).2.1 hg.size
 ·rcases hown m k h1 with ⟨e,h3⟩ | ⟨n1,n2,h3⟩<;>rcases hown m' k h2 with ⟨e',h4⟩ | ⟨n1',n2',h4⟩
  ·rw[e,e']
  ·rcases h3 with h3 |h3
   ·exact absurd (h.inj _ _ k h4 h3) n2'
   ·exact absurd (h.Bw _ k h4).2.1 (by omega)
  ·rcases h4 with h4 |h4
   ·exact absurd (h.inj _ _ k h3 h4) n2
   ·exact absurd (h.Bw _ k h3).2.1 (by omega)
  ·exact h.inj _ _ k h3 h4
 ·rcases hown _ k hk with ⟨e,h1 |h1⟩ | ⟨_,_,h1⟩
  ·exact .inl ((h.new _ k h1).resolve_right id)
  ·exact .inl (Nat.le_trans h.keep.size h1.1)
  ·exact h.new _ k h1
 ·have UP:∀m',m'≠ .row r→(σ.obj m').isSome=true→∀k,dm (ν m')=some k→¬Own σ ν (.row r) k:=fun m' hne hs k hk ho=>hne (h.inj _ _ k ⟨hs,hk⟩ ho)
  cases m with
  |row q=>
   simp only[AS.obj,Option.map_eq_some_iff] at ho
   obtain⟨apk,e,rfl⟩:=ho
   rw[Tf] at e
   split at e
   ·rename_i hq
    subst hq
    obtain rfl:row'=apk:=by simpa using e
    rw[nZ]
    exact cV (by rw[Zj] at*;exact hV)
   ·split at e
    ·cases e
    ·rename_i hqr
     rw[(hold q (Ne.symm hqr) (bC e)).1]
     have ho:σ.obj (.row q)=some (.row apk):=by simp[AS.obj,e]
     exact h.old hg ho (UP _ (fun e=>hqr (by injection e with e;exact e.symm)) (bC ho)) hV (fun r' e=>by cases e)
  |box b=>
   simp only[AS.obj,Option.map_eq_some_iff] at ho
   obtain⟨x,e,rfl⟩:=ho
   rw[e2,iU,Option.map_eq_some_iff] at e
   obtain⟨x0,hx0,rfl⟩:=e
   have ho:σ.obj (.box b)=some (.box x0):=by simp[AS.obj,hx0]
   exact aa8 (σ:=σ) (ν:=ν) (V:=view E σ ν O w) (w:=w) hV hold (fun k hk=>hg.block k (h.Bw _ k ⟨bC ho,hk⟩).2.1 (UP _ (fun e=>by cases e) (bC ho) k hk)) (h.box hx0)
  |hp i n=>
   have ho':σ.obj (.hp i n)=some o:=by simp only[AS.obj,e3] at ho ⊢;exact ho
   obtain⟨k,row,rfl⟩:=Qu ho'
   exact h.old (ν':=vY ν d v') hg ho' (UP _ (fun e=>by cases e) (bC ho')) hV (fun r' e=>by cases e)
 ·have:σ'.tmps=σ.tmps.map (AV.bL r):=by rw[←Zj];rfl
  rw[this]
  exact ML (afc (ν:=ν) (ν':=vY ν d v') hV (HSub.of_eq e3 (fun _ _=>rfl)) hold (fun b hs=>⟨rfl,by rw[e2,iU,Option.isSome_map];exact hs⟩)) h.slots
theorem St.aiJ (hE:aR E)(h:St E σ a w ν O){m0 m1:Nm}{o0:Obj}{C:Nat→Prop}(hnr:¬E.zJ m0∧¬E.zJ m1)(hg:Grow C w w')(hC:∀k,C k→Own σ ν m1 k)
  (hs:HSub σ ν σ' ν') (oY:∀m,m≠m0→m≠m1→σ'.obj m=σ.obj m∧((σ.obj m).isSome=true→ν' m=ν m)) (hm1:m1=m0∨σ'.obj m1=none) (aiK:σ'.obj m0=none∨σ'.obj m0=some o0)
  (HC:∀k,(σ'.obj m0).isSome=true→dm (ν' m0)=some k→Own σ ν m0 k∨Own σ ν m1 k∨(w.heap.size≤k∧k<w'.heap.size)) (hold:∀k,E.XU m1 k→E.XU m0 k)
  (ads:∀r row,look σ.rows r=some row→ν' (.row r)=ν (.row r)∧∃row',look σ'.rows r=some row'∧row'.t.size=row.t.size)
  (aiL:∀b,(look σ.boxes b).isSome=true→ν' (.box b)=ν (.box b)∧(look σ'.boxes b).isSome=true)
  (htr:σ'.trace=σ.trace) (htm:σ'.tmps=σ.tmps) (hnn:∀(i:Nat) (hr:bK) (n:Nat),σ'.ag[i]? =some hr→1≤n→n≤hr.xs.length→agi hr.k (ν' (.hp i n)))
  (hro:∀i hr,E.ro i=some hr→σ'.ag[i]? =some hr)
  (cV:(∀key v,view E σ ν O w key v→view E σ' ν' O w' key v)→σ'.obj m0=some o0→Ja (view E σ' ν' O w') σ' ν' w' (ν' m0) o0):St E σ' a w' ν' O:=by
 have hown:∀m k,Own σ' ν' m k→(m=m0∧(Own σ ν m0 k∨Own σ ν m1 k∨(w.heap.size≤k∧k<w'.heap.size)))∨(m≠m0∧m≠m1∧Own σ ν m k):=fun m k hm=>by
  by_cases e:m=m0
  ·subst e;exact .inl ⟨rfl,HC k hm.1 hm.2⟩
  ·by_cases e1:m=m1
   ·subst e1
    rcases hm1 with h1 |h1
    ·exact absurd h1 e
    ·have:=hm.1;rw[h1] at this;cases this
   ·obtain⟨h1,h2⟩:=oY m e e1
    have h3:(σ.obj m).isSome=true:=by rw[←h1];exact hm.1
    exact .inr ⟨e,e1,h3,by rw[←h2 h3];exact hm.2⟩
 have hsub:Sub σ ν σ' ν':={hs with rows:=ads,boxes:=aiL}
 refine h.step hE hg (fun k hk=>⟨_,hC k hk,hnr.2⟩) hs (fun m k hm=> ?_) (fun m k hm=> ?_) (fun m m' k h1 h2=> ?_) (fun q k hk=> ?_) htr rfl hnn hro (fun hV m o ho=> ?_) (fun hV=>by rw[htm];exact h.slots.mono (au.mono hV hsub))
 ·rcases hown m k hm with ⟨_,h1 |h1 |h1⟩ | ⟨_,_,h1⟩
  ·exact .inl ⟨_,h1,fun e=>absurd e hnr.1⟩
  ·exact .inl ⟨_,h1,fun e=>absurd e hnr.2⟩
  ·exact .inr h1.1
  ·exact .inl ⟨_,h1,id⟩
 ·rcases hown m k hm with ⟨_,h1 |h1 |h1⟩ | ⟨_,_,h1⟩
  ·exact Nat.lt_of_lt_of_le (h.Bw _ k h1).2.1 hg.size
  ·exact Nat.lt_of_lt_of_le (h.Bw _ k h1).2.1 hg.size
  ·exact h1.2
  ·exact Nat.lt_of_lt_of_le (h.Bw _ k h1).2.1 hg.size
 ·have amF:∀m,m≠m0→m≠m1→Own σ ν m k→¬(Own σ ν m0 k∨Own σ ν m1 k∨(w.heap.size≤k∧k<w'.heap.size)):=fun m n0 n1 h3 h4=>by
   rcases h4 with h4 |h4 |h4
   ·exact n0 (h.inj _ _ k h3 h4)
   ·exact n1 (h.inj _ _ k h3 h4)
   ·exact absurd (h.Bw _ k h3).2.1 (by omega)
  rcases hown m k h1 with ⟨e,h3⟩ | ⟨n0,n1,h3⟩<;>rcases hown m' k h2 with ⟨e',h4⟩ | ⟨n0',n1',h4⟩
  ·rw[e,e']
  ·exact absurd h3 (amF m' n0' n1' h4)
  ·exact absurd h4 (amF m n0 n1 h3)
  ·exact h.inj _ _ k h3 h4
 ·rcases hown _ k hk with ⟨e',h1 |h1 |h1⟩ | ⟨_,_,h1⟩
  ·rw[e'];exact h.new _ k h1
  ·rw[e'];exact(h.new _ k h1).imp id (hold k)
  ·exact .inl (Nat.le_trans h.keep.size h1.1)
  ·exact h.new _ k h1
 ·by_cases e:m=m0
  ·subst e
   rcases aiK with h0 |h0
   ·rw[h0] at ho;cases ho
   ·have ho':=ho
    rw[h0] at ho
    obtain rfl:o0=o:=by simpa using ho
    exact cV hV ho'
  ·by_cases e1:m=m1
   ·subst e1
    rcases hm1 with h1 |h1
    ·exact absurd h1 e
    ·rw[h1] at ho;cases ho
   ·obtain⟨h1,h2⟩:=oY m e e1
    rw[h1] at ho
    rw[h2 (bC ho)]
    exact h.old hg ho (fun k hk hc=>e1 (h.inj _ _ k ⟨bC ho,hk⟩ (hC k hc))) hV (fun r _ hr=>hsub.K0 hr)
theorem St.fresh (hE:aR E)(h:St E σ a w ν O){m0:Nm}{o0:Obj}{C:Nat→Prop}(hnr:¬E.zJ m0)(hg:Grow C w w')(hC:∀k,C k→Own σ ν m0 k)
  (hs:HSub σ ν σ' ν') (oY:∀m,m≠m0→σ'.obj m=σ.obj m∧((σ.obj m).isSome=true→ν' m=ν m)) (aiK:σ'.obj m0=some o0)
  (HC:∀k,dm (ν' m0)=some k→Own σ ν m0 k∨(w.heap.size≤k∧k<w'.heap.size)) (hrow:∀r,m0= .row r→∀k,dm (ν' m0)=some k→E.w0.heap.size≤k)
  (ads:∀r row,look σ.rows r=some row→ν' (.row r)=ν (.row r)∧∃row',look σ'.rows r=some row'∧row'.t.size=row.t.size)
  (aiL:∀b,(look σ.boxes b).isSome=true→ν' (.box b)=ν (.box b)∧(look σ'.boxes b).isSome=true)
  (htr:σ'.trace=σ.trace) (htm:σ'.tmps=σ.tmps) (hnn:∀(i:Nat) (hr:bK) (n:Nat),σ'.ag[i]? =some hr→1≤n→n≤hr.xs.length→agi hr.k (ν' (.hp i n)))
  (hro:∀i hr,E.ro i=some hr→σ'.ag[i]? =some hr)
  (cV:(∀key v,view E σ ν O w key v→view E σ' ν' O w' key v)→Ja (view E σ' ν' O w') σ' ν' w' (ν' m0) o0):St E σ' a w' ν' O:=
 h.aiJ hE ⟨hnr,hnr⟩ hg hC hs (fun m hm _=>oY m hm) (.inl rfl) (.inr aiK) (fun k _ hk=>(HC k hk).imp id .inr) (fun _ h=>h) ads aiL htr htm hnn hro (fun hV _=>cV hV)
theorem XZ {m:Nm}{d:Nat}(h:m≠ .row d)(σ:AS)(rows:List (Nat×Row))(hr:∀k,k≠d→look rows k=look σ.rows k):({σ with rows:=rows}:AS).obj m=σ.obj m:=by
 cases m with
 |row k=>simp only[AS.obj];rw[hr k (fun e=>h (by rw[e]))]
 |_=>rfl
theorem X0 {m:Nm}{d:Nat}(h:m≠ .box d)(σ:AS)(boxes:List (Nat×BX))(hr:∀k,k≠d→look boxes k=look σ.boxes k):({σ with boxes:=boxes}:AS).obj m=σ.obj m:=by
 cases m with
 |box k=>simp only[AS.obj];rw[hr k (fun e=>h (by rw[e]))]
 |_=>rfl
theorem St.newRow (hE:aR E)(h:St E σ a w ν O){d:Nat}{row':Row}{v':Value}(hd:look σ.rows d=none)(hg:Below w.heap.size w w')
  (HC:∀k,dm v'=some k→w.heap.size≤k∧k<w'.heap.size)
  (cV:(∀key v,view E σ ν O w key v→view E {σ with rows:=put σ.rows d row'} (vY ν d v') O w' key v)→j7 (view E {σ with rows:=put σ.rows d row'} (vY ν d v') O w') w' v' row'):
  St E {σ with rows:=put σ.rows d row'} a w' (vY ν d v') O:=by
 have hne:∀k,(look σ.rows k).isSome=true→k≠d:=fun k hk e=>by rw[e,hd] at hk;cases hk
 have hn0:∀k,¬Own σ ν (.row d) k:=fun k hk=>by have:=Zk hk;rw[hd] at this;cases this
 refine h.fresh hE (m0:= .row d) (o0:= .row row') (C:=fun _=>False) RY (Grow.D8 hg) (fun k hk=>hk.elim) (HSub.of_eq rfl (fun _ _=>rfl)) (fun m hm=>⟨XZ hm σ _ (fun k hk=>by rw[aQ,if_neg (Ne.symm hk)]),fun hs=> ?_⟩) (by simp[AS.obj,aQ]) (fun k hk=> .inr (HC k (by rw[nZ] at hk;exact hk))) (fun r e k hk=>Nat.le_trans h.keep.size (HC k (by rw[nZ] at hk;exact hk)).1)
  (fun r row hr=>⟨UQ (hne r (bC hr)),row,by show look (put _ _ _) _=_;rw[aQ,if_neg (Ne.symm (hne r (bC hr)))];exact hr,rfl⟩) (fun b hb=>⟨rfl,hb⟩) rfl rfl h.nn (fun i hr e=>(h.ro i hr e).1) (fun hV=>by rw[nZ];exact cV hV)
 cases m with
 |row k=>exact UQ (fun e=>hm (by rw[e]))
 |_=>rfl
theorem St.setRow (hE:aR E)(h:St E σ a w ν O){q:Nat}{row row':Row}(hq:look σ.rows q=some row)(hsz:row'.t.size=row.t.size)(hg:Grow (fun k=>dm (ν (.row q))=some k) w w')
  (cV:(∀key v,view E σ ν O w key v→view E {σ with rows:=put σ.rows q row'} ν O w' key v)→j7 (view E {σ with rows:=put σ.rows q row'} ν O w') w' (ν (.row q)) row'):
  St E {σ with rows:=put σ.rows q row'} a w' ν O:=by
 have ho:(σ.obj (.row q)).isSome=true:=by simp[AS.obj,hq]
 refine h.fresh hE (m0:= .row q) (o0:= .row row') RY hg (fun k hk=>⟨ho,hk⟩) (HSub.of_eq rfl (fun _ _=>rfl)) (fun m hm=>⟨XZ hm σ _ (fun k hk=>by rw[aQ,if_neg (Ne.symm hk)]),fun _=>rfl⟩) (by simp[AS.obj,aQ]) (fun k hk=> .inl ⟨ho,hk⟩) (fun r e k hk=>(h.new (.row q) k ⟨ho,hk⟩).resolve_right id)
  (fun r cy hr=>⟨rfl, ?_⟩) (fun b hb=>⟨rfl,hb⟩) rfl rfl h.nn (fun i hr e=>(h.ro i hr e).1) cV
 show ∃asr,look (put σ.rows q row') r=some asr∧_
 rw[aQ]
 by_cases e:q=r
 ·subst e
  rw[hq] at hr
  obtain rfl:row=cy:=by simpa using hr
  exact⟨row',by rw[if_pos rfl],hsz⟩
 ·exact⟨cy,by rw[if_neg e];exact hr,rfl⟩
theorem St.Cn (hE:aR E)(h:St E σ a w ν O){d:Nat}{x:BX}{o:Go.Obj}(hd:look σ.boxes d=none)
  (cV:(∀key v,view E σ ν O w key v→view E {σ with boxes:=put σ.boxes d x} (R3 ν d (.pointer (some ⟨w.heap.size,0,none⟩))) O (w.alloc o) key v)→
   D7 (view E {σ with boxes:=put σ.boxes d x} (R3 ν d (.pointer (some ⟨w.heap.size,0,none⟩))) O (w.alloc o)) {σ with boxes:=put σ.boxes d x} (R3 ν d (.pointer (some ⟨w.heap.size,0,none⟩))) (w.alloc o) (.pointer (some ⟨w.heap.size,0,none⟩)) x):
  St E {σ with boxes:=put σ.boxes d x} a (w.alloc o) (R3 ν d (.pointer (some ⟨w.heap.size,0,none⟩))) O:=by
 have hne:∀k,(look σ.boxes k).isSome=true→k≠d:=fun k hk e=>by rw[e,hd] at hk;cases hk
 have hb:Below w.heap.size w (w.alloc o):=⟨rfl,rfl,rfl,by simp,fun k hk=>heap_alloc_old w _ k hk⟩
 have hv:R3 ν d (.pointer (some ⟨w.heap.size,0,none⟩)) (.box d)= .pointer (some ⟨w.heap.size,0,none⟩):=by simp only[R3,if_pos]
 refine h.fresh hE (m0:= .box d) (o0:= .box x) (C:=fun _=>False) OV (Grow.D8 hb) (fun k hk=>hk.elim) (HSub.of_eq rfl (fun _ _=>rfl)) (fun m hm=>⟨X0 hm σ _ (fun k hk=>by rw[aQ,if_neg (Ne.symm hk)]),fun hs=> ?_⟩) (by simp[AS.obj,aQ]) (fun k hk=> .inr ?_) (fun r e=>by cases e)
  (fun r row hr=>⟨rfl,row,hr,rfl⟩) (fun b hb=>⟨by simp only[R3,if_neg (hne b hb)],by show (look (put _ _ _) _).isSome=_;rw[aQ,if_neg (Ne.symm (hne b hb))];exact hb⟩) rfl rfl h.nn (fun i hr e=>(h.ro i hr e).1) (fun hV=>by rw[hv];exact cV hV)
 ·cases m with
  |box k=>exact if_neg (fun e=>hm (by rw[e]))
  |_=>rfl
 ·rw[hv] at hk
  simp only[dm,Option.some.injEq] at hk
  subst hk
  exact⟨Nat.le_refl _,by simp⟩
theorem St.adt (hE:aR E)(h:St E σ a w ν O){b:Nat}{x:BX}(hq:(look σ.boxes b).isSome=true)(hg:Grow (fun k=>dm (ν (.box b))=some k) w w')
  (cV:(∀key v,view E σ ν O w key v→view E {σ with boxes:=put σ.boxes b x} ν O w' key v)→D7 (view E {σ with boxes:=put σ.boxes b x} ν O w') {σ with boxes:=put σ.boxes b x} ν w' (ν (.box b)) x):
  St E {σ with boxes:=put σ.boxes b x} a w' ν O:=by
 have ho:(σ.obj (.box b)).isSome=true:=by simpa [AS.obj] using hq
 refine h.fresh hE (m0:= .box b) (o0:= .box x) OV hg (fun k hk=>⟨ho,hk⟩) (HSub.of_eq rfl (fun _ _=>rfl)) (fun m hm=>⟨X0 hm σ _ (fun k hk=>by rw[aQ,if_neg (Ne.symm hk)]),fun _=>rfl⟩) (by simp[AS.obj,aQ]) (fun k hk=> .inl ⟨ho,hk⟩) (fun r e=>by cases e)
  (fun r row hr=>⟨rfl,row,hr,rfl⟩) (fun k hk=>⟨rfl, ?_⟩) rfl rfl h.nn (fun i hr e=>(h.ro i hr e).1) cV
 show (look (put σ.boxes b x) k).isSome=true
 rw[aQ];split
 ·rfl
 ·exact hk
theorem St.amG (hE:aR E)(h:St E σ a w ν O){i n0 n1:Nat}{hr:bK}{xs':List (Option (List hr.t.den))}{v0:Value}{C:Nat→Prop}
  (hh:σ.ag[i]? =some hr) (hw:hr.w=true) (hn:1≤n0) (hlen:(n0=xs'.length∧xs'.length=hr.xs.length+1)∨(xs'.length=hr.xs.length∧v0=ν (.hp i n0)))
  (Vt:∀m:Nat,m+1≠n0→m+1≠n1→∀l,xs'[m]? =some (some l)↔hr.xs[m]? =some (some l)) (h1:n1=n0∨n1=0∨∀l,xs'[n1 - 1]? ≠some (some l))
  (hC:∀k,C k→Own σ ν (.hp i n1) k) (hg:Grow C w w') (hblk:∀k,dm v0=some k→Own σ ν (.hp i n0) k∨Own σ ν (.hp i n1) k∨(w.heap.size≤k∧k<w'.heap.size)) (hv0:agi hr.k v0)
  (cV:(∀key v,view E σ ν O w key v→view E {σ with ag:=σ.ag.set i ⟨hr.e,hr.t,hr.k,hr.w,xs'⟩} (R4 ν i n0 v0) O w' key v)→∀l,xs'[n0 - 1]? =some (some l)→
   CS (view E {σ with ag:=σ.ag.set i ⟨hr.e,hr.t,hr.k,hr.w,xs'⟩} (R4 ν i n0 v0) O w') w' hr.k v0 ⟨hr.e,hr.t,l⟩):
  St E {σ with ag:=σ.ag.set i ⟨hr.e,hr.t,hr.k,hr.w,xs'⟩} a w' (R4 ν i n0 v0) O:=by
 have hlt:i<σ.ag.length:=(List.getElem?_eq_some_iff.1 hh).1
 have b9:∀j,(σ.ag.set i ⟨hr.e,hr.t,hr.k,hr.w,xs'⟩)[j]? =if i=j then some ⟨hr.e,hr.t,hr.k,hr.w,xs'⟩ else σ.ag[j]? :=fun j=>by
  rw[List.getElem?_set];split
  ·rename_i e;subst e;simp[hlt]
  ·rfl
 have hle:hr.xs.length≤xs'.length:=by rcases hlen with h2 |h2<;>omega
 have hu0:R4 ν i n0 v0 (.hp i n0)=v0:=by simp only[R4,and_self,if_pos]
 have agn:∀j n,¬(j=i∧n=n0)→R4 ν i n0 v0 (.hp j n)=ν (.hp j n):=fun j n hj=>by simp only[R4,if_neg hj]
 have hold:∀n,1≤n→n≤hr.xs.length→R4 ν i n0 v0 (.hp i n)=ν (.hp i n):=fun n h2 h3=>by
  by_cases e:n=n0
  ·subst e
   rcases hlen with h4 |h4
   ·omega
   ·rw[hu0];exact h4.2
  ·exact agn i n (fun h4=>e h4.2)
 have XV:∀n,oY (σ.ag.set i ⟨hr.e,hr.t,hr.k,hr.w,xs'⟩) i (n+1)=J6 hr.e hr.t hr.k xs'[n]? :=fun n=>by simp only[oY,b9,if_pos]
 have anC:∀n,oY σ.ag i (n+1)=J6 hr.e hr.t hr.k hr.xs[n]? :=fun n=>by simp only[oY,hh]
 have hsub:HSub σ ν {σ with ag:=σ.ag.set i ⟨hr.e,hr.t,hr.k,hr.w,xs'⟩} (R4 ν i n0 v0):=by
  refine⟨by simp,fun j J7 e=> ?_,fun j n h2 h3=> ?_⟩
  ·show ∃hr',(σ.ag.set i ⟨hr.e,hr.t,hr.k,hr.w,xs'⟩)[j]? =some hr'∧_
   rw[b9]
   by_cases ej:i=j
   ·subst ej
    rw[hh] at e
    obtain rfl:hr=J7:=by simpa using e
    exact⟨_,if_pos rfl,⟨rfl,rfl,rfl,rfl⟩,hle⟩
   ·exact⟨J7,by rw[if_neg ej];exact e,CT.refl _,Nat.le_refl _⟩
  ·by_cases ej:j=i
   ·subst ej
    rw[MN hh] at h3
    exact hold n h2 h3
   ·exact agn j n (fun h4=>ej h4.1)
 have ago:∀n,¬E.zJ (.hp i n):=fun n ⟨j,_,hr',e,e2⟩=>by
  injection e with e3 e4
  subst e3
  obtain⟨h5,h6⟩:=h.ro i hr' e2
  rw[hh] at h5
  obtain rfl:hr=hr':=by simpa using h5
  rw[hw] at h6;cases h6
 refine h.aiJ hE (m0:= .hp i n0) (m1:= .hp i n1) (o0:=(J6 hr.e hr.t hr.k xs'[n0 - 1]?).getD (.box .nil)) ⟨ago _,ago _⟩ hg hC hsub (fun m hm0 hm1=> ?_) ?_ ?_ (fun k _ hk=>hblk k (by rw[hu0] at hk;exact hk)) (fun _ h=>h)
  (fun r row hr'=>⟨rfl,row,hr',rfl⟩) (fun b hb=>⟨rfl,hb⟩) rfl rfl (fun j J7 n e h2 h3=> ?_) (fun j J7 e=> ?_) (fun hV hs=> ?_)
 ·cases m with
  |hp j n=>
   by_cases ej:j=i
   ·subst ej
    have apl:n≠n0:=fun e=>hm0 (by rw[e])
    have ass:n≠n1:=fun e=>hm1 (by rw[e])
    refine⟨?_,fun _=>agn j n (fun h4=>apl h4.2)⟩
    cases n with
    |zero=>rfl
    |succ n=>
     simp only[AS.obj]
     rw[XV,anC]
     have hiff:=Vt n apl ass
     cases hx:xs'[n]? with
     |none=>cases hy:hr.xs[n]? with
      |none=>rfl
      |some o=>cases o with
       |none=>rfl
       |some l=>have:=(hiff l).2 hy;rw[hx] at this;cases this
     |some o=>cases o with
      |none=>cases hy:hr.xs[n]? with
       |none=>rfl
       |some o=>cases o with
        |none=>rfl
        |some l=>have:=(hiff l).2 hy;rw[hx] at this;cases this
      |some l=>have:=(hiff l).1 hx;rw[this]
   ·refine⟨?_,fun _=>agn j n (fun h4=>ej h4.1)⟩
    simp only[AS.obj]
    cases n with
    |zero=>rfl
    |succ n=>simp only[oY,b9,if_neg (Ne.symm ej)]
  |_=>exact⟨rfl,fun _=>rfl⟩
 ·rcases h1 with h1 |h1 |h1
  ·exact .inl (by rw[h1])
  ·subst h1;exact .inr rfl
  ·by_cases hz:n1=0
   ·subst hz;exact .inr rfl
   ·right
    simp only[AS.obj]
    obtain⟨q,rfl⟩:∃q,n1=q+1:=⟨n1 - 1,by omega⟩
    rw[XV]
    simp only[Nat.add_sub_cancel] at h1
    cases hx:xs'[q]? with
    |none=>rfl
    |some o=>cases o with
     |none=>rfl
     |some l=>exact absurd hx (h1 l)
 ·obtain⟨q,rfl⟩:∃q,n0=q+1:=⟨n0 - 1,by omega⟩
  simp only[AS.obj]
  rw[XV]
  simp only[Nat.add_sub_cancel]
  cases hx:xs'[q]? with
  |none=>exact .inl rfl
  |some o=>cases o with
   |none=>exact .inl rfl
   |some l=>exact .inr rfl
 ·have e':(σ.ag.set i ⟨hr.e,hr.t,hr.k,hr.w,xs'⟩)[j]? =some J7:=e
  rw[b9] at e'
  by_cases ej:i=j
  ·subst ej
   rw[if_pos rfl] at e'
   obtain rfl:=(Option.some.inj e').symm
   by_cases en:n=n0
   ·subst en;rw[hu0];exact hv0
   ·rw[agn i n (fun h4=>en h4.2)]
    have h3':n≤xs'.length:=h3
    exact h.nn i hr n hh h2 (by rcases hlen with h4 |h4<;>omega)
  ·rw[if_neg ej] at e'
   rw[agn j n (fun h4=>ej h4.1.symm)]
   exact h.nn j J7 n e' h2 h3
 ·show (σ.ag.set i ⟨hr.e,hr.t,hr.k,hr.w,xs'⟩)[j]? =some J7
  rw[b9]
  obtain⟨h2,h3⟩:=h.ro j J7 e
  by_cases ej:i=j
  ·subst ej
   rw[hh] at h2
   obtain rfl:hr=J7:=by simpa using h2
   rw[hw] at h3;cases h3
  ·rw[if_neg ej];exact h2
 ·rw[hu0]
  obtain⟨q,rfl⟩:∃q,n0=q+1:=⟨n0 - 1,by omega⟩
  have hs':=hs
  simp only[AS.obj] at hs'
  rw[XV] at hs'
  simp only[Nat.add_sub_cancel] at hs' ⊢
  cases hx:xs'[q]? with
  |none=>rw[hx] at hs';cases hs'
  |some o=>cases o with
   |none=>rw[hx] at hs';cases hs'
   |some l=>exact cV hV l (by simpa using hx)
end
end Go.Abs
namespace Go.Abs
open Go.RowKit Go.Lib
def yk (V:View):(t:Ty)→t.den→Value→Prop
 | .st t,x,v=>∃cs:List Value,v= .agg cs.toArray∧Rel V t x cs
 |t,x,v=>cw V ⟨t,x⟩ v
theorem yk.mono {V V':View}(h:∀a v,V a v→V' a v){t:Ty}{x:t.den}{v:Value}(hr:yk V t x v):yk V' t x v:=by
 cases t with
 |st t=>obtain⟨cs,h1,h2⟩:=hr;exact⟨cs,h1,Rel.mono h _ _ _ h2⟩
 |_=>exact cw.mono h _ _ hr
theorem yk.cells {V:View}{t:Ty}{x:t.den}{v:Value}(hr:yk V t x v):Rel V t x v.cells.toList:=by
 cases t with
 |st t=>obtain⟨cs,h1,h2⟩:=hr;subst h1;exact h2
 |_=>rw[I4 hr];exact hr
section
variable {P:Program}{Tb:c9}{T:List gJ}{E:Env}{σ σ':AS}{a:Act}{w w':World}{ν ν':Nm→Value}{O:Nat→Prop}{Φ:cd Tb}{V:View}{Y:Value}
theorem F4 {t:Ty}{c:CV}{x:t.den}(h:(dJ t [c]).map (·.1)=some x):c=⟨t,x⟩:=by
 cases hu:dJ t [c] with
 |none=>simp[hu] at h
 |some p=>
  obtain⟨y,r⟩:=p
  simp[hu] at h
  subst h
  have:=cz hu
  simp at this
  exact this.1
theorem X1 {V V':View}{i:Nat}{t:Ty}{v:Value}(h:cw V ⟨.ref i,(0:Nat)⟩ v):Rel V' (.slice t) ([]:List t.den) [v]:=by
 have e: [v]=[.slice none 0 0]:=h
 rw[e]
 exact⟨none,0,[],rfl,Nat.le_refl _,trivial,fun _=>rfl,fun j u hj=>by simp at hj⟩
theorem MO:∀{t:Ty} {l:List CV} {x:t.den} {r:List CV} {vs:List Value},snap [] t l=some (x,r)→aS (cw V) l vs→∃v1 v2,vs=v1++v2∧Rel V t x v1∧aS (cw V) r v2
 | .unit,l,x,r,vs,h,hr=>by simp only[snap,Option.some.injEq,Prod.mk.injEq] at h;obtain⟨_,rfl⟩:=h;exact⟨[],vs,rfl,rfl,hr⟩
 | .pair a b,l,x,r,vs,h,hr=>by
   simp only[snap] at h
   split at h
   ·rename_i y l' h1
    split at h
    ·rename_i z l'' h2
     simp only[Option.some.injEq,Prod.mk.injEq] at h
     obtain⟨rfl,rfl⟩:=h
     obtain⟨v1,v2,rfl,r1,r2⟩:=MO h1 hr
     obtain⟨v3,v4,rfl,r3,r4⟩:=MO h2 r2
     exact⟨v1++v3,v4,by rw[List.append_assoc],⟨v1,v3,rfl,r1,r3⟩,r4⟩
    ·cases h
   ·cases h
 | .st t,l,x,r,vs,h,hr=>MO (t:=t) h hr
 | .slice t,l,x,r,vs,h,hr=>by
   have leaf:∀{l:List CV} {vs:List Value},dJ (.slice t) l=some (x,r)→aS (cw V) l vs→∃v1 v2,vs=v1++v2∧Rel V (.slice t) x v1∧aS (cw V) r v2:=fun {l vs} h hr=>by
    rw[cz h] at hr
    cases vs with
    |nil=>exact hr.elim
    |cons v vs=>exact⟨[v],vs,rfl,hr.1,hr.2⟩
   simp only[snap] at h
   unfold OR at h
   split at h
   ·rename_i i n l'
    cases vs with
    |nil=>exact hr.elim
    |cons v vs=>
     cases hb:Nat.beq n 0 with
     |false=>rw[hb] at h;simp at h
     |true=>
      rw[hb,cond_true] at h
      simp only[Option.some.injEq,Prod.mk.injEq] at h
      obtain⟨rfl,rfl⟩:=h
      have:=(beq_iff _ _).1 hb
      subst this
      exact⟨[v],vs,rfl,X1 hr.1,hr.2⟩
   ·rename_i t' o l'
    cases vs with
    |nil=>exact hr.elim
    |cons v vs=>
     simp only[Option.map_eq_some_iff,Prod.mk.injEq] at h
     obtain⟨⟨y,r'⟩,h1,h2,h3⟩:=h
     simp only at h2 h3
     subst h2 h3
     have he:=cz h1
     simp only[List.cons.injEq] at he
     have h4:cw V ⟨.slice t',lst o⟩ v:=Vh hr.1
     rw[he.1] at h4
     exact⟨[v],vs,rfl,h4,hr.2⟩
   ·exact leaf h hr
 | .pg t,l,x,r,vs,h,hr=>by
   have leaf:∀{l:List CV} {vs:List Value},dJ (.pg t) l=some (x,r)→aS (cw V) l vs→∃v1 v2,vs=v1++v2∧Rel V (.pg t) x v1∧aS (cw V) r v2:=fun {l vs} h hr=>by
    rw[cz h] at hr
    cases vs with
    |nil=>exact hr.elim
    |cons v vs=>exact⟨[v],vs,rfl,hr.1,hr.2⟩
   simp only[snap] at h
   unfold Y6 at h
   split at h
   ·rename_i t' xs l'
    cases vs with
    |nil=>exact hr.elim
    |cons v vs=>
     cases xs with
     |nil=>cases h
     |cons x0 xs=>
      simp only[Option.map_eq_some_iff,Prod.mk.injEq] at h
      obtain⟨⟨y,r'⟩,h1,h2,h3⟩:=h
      simp only at h2 h3
      subst h2 h3
      have he:=cz h1
      simp only[List.cons.injEq] at he
      obtain⟨A,c,bQ,e1,e2,e3,e4,e5⟩:=sG hr.1
      have h4:cw V ⟨.pg t',(some (x0::xs):Option (List t'.den))⟩ v:=by
       cases A with
       |none=>have:=e4 rfl;simp at e2;omega
       |some ad=>
        refine⟨ad,c,bQ,by rw[e1],e2,e3,fun j u hj=> ?_⟩
        obtain⟨XY,h5,h6⟩:=e5 j u hj
        obtain rfl:ad=XY:=by simpa using h5
        exact h6
      rw[he.1] at h4
      exact⟨[v],vs,rfl,h4,hr.2⟩
   ·exact leaf h hr
 | .int k,l,x,r,vs,h,hr=>by
   simp only[snap] at h;rw[cz h] at hr
   cases vs with
   |nil=>exact hr.elim
   |cons v vs=>exact⟨[v],vs,rfl,hr.1,hr.2⟩
 | .bool,l,x,r,vs,h,hr=>by
   simp only[snap] at h;rw[cz h] at hr
   cases vs with
   |nil=>exact hr.elim
   |cons v vs=>exact⟨[v],vs,rfl,hr.1,hr.2⟩
 | .str,l,x,r,vs,h,hr=>by
   simp only[snap] at h;rw[cz h] at hr
   cases vs with
   |nil=>exact hr.elim
   |cons v vs=>exact⟨[v],vs,rfl,hr.1,hr.2⟩
 | .ref k,l,x,r,vs,h,hr=>by
   simp only[snap] at h;rw[cz h] at hr
   cases vs with
   |nil=>exact hr.elim
   |cons v vs=>exact⟨[v],vs,rfl,hr.1,hr.2⟩
 | .ptr k,l,x,r,vs,h,hr=>by
   simp only[snap] at h;rw[cz h] at hr
   cases vs with
   |nil=>exact hr.elim
   |cons v vs=>exact⟨[v],vs,rfl,hr.1,hr.2⟩
 | .mp k,l,x,r,vs,h,hr=>by
   simp only[snap] at h;rw[cz h] at hr
   cases vs with
   |nil=>exact hr.elim
   |cons v vs=>exact⟨[v],vs,rfl,hr.1,hr.2⟩
 | .fn,l,x,r,vs,h,hr=>by
   simp only[snap] at h;rw[cz h] at hr
   cases vs with
   |nil=>exact hr.elim
   |cons v vs=>exact⟨[v],vs,rfl,hr.1,hr.2⟩
theorem Jd {t:Ty}{l:List CV}{x:t.den}{vs:List Value}(h:va [] t l=some x)(hr:aS (cw V) l vs):Rel V t x vs:=by
 unfold va at h
 split at h
 ·rename_i y h1
  simp only[Option.some.injEq] at h
  subst h
  obtain⟨v1,v2,rfl,h2,h3⟩:=MO h1 hr
  cases v2 with
  |nil=>simpa using h2
  |cons _ _=>exact h3.elim
 ·cases h
theorem Je {t:Ty}{av:AV}{x:t.den}{v:Value}(h:typed [] t av=some x)(hr:au V σ ν Y av v):yk V t x v:=by
 have amH:∀{t:Ty} {x:t.den},(∀u,t≠ .st u)→Rel V t x [v]→yk V t x v:=fun {t x} hn h1=>by
  cases t with
  |st u=>exact absurd rfl (hn u)
  |_=>exact h1
 unfold typed at h
 split at h
 ·rename_i cs
  obtain⟨vs,h1,h2⟩:=hr
  have:=Jd h h2
  exact⟨vs,h1,this⟩
 ·rename_i t vs
  split at h
  ·rename_i cs hl
   obtain⟨l1,h1,h2⟩:=jB (V:=V) hl
   refine⟨vs.toList, ?_,jw ?_⟩
   ·have:v= .agg vs:=hr
    simpa using this
   ·rw[←sC h,h1,List.append_nil];exact h2
  ·cases h
 ·cases h
 ·rename_i c hn
  exact amH (fun u e=>by subst e;exact hn u rfl) (Jd h (vs:=[v]) ⟨hr,trivial⟩)
 ·rename_i v' hn1 hn2
  split at h
  ·rename_i c hl
   obtain⟨l1,h1,h2⟩:=jB (V:=V) hl
   have h3:v=v':=hr
   rw[List.append_nil] at h1
   subst h1
   subst h3
   have:=F4 h
   subst this
   exact amH (fun u e=>by subst e;exact hn2 u rfl) h2.1
  ·cases h
 ·cases h
theorem R5 {t:Ty}{av:AV}{cs:List CV}{v:Value}(h:cells t av=some cs)(hr:au V σ ν Y av v):aS (cw V) cs v.cells.toList:=by
 unfold cells at h
 split at h
 ·simp only[Option.some.injEq] at h
  subst h
  rw[I4 hr]
  exact⟨hr,trivial⟩
 ·simp only[Option.some.injEq] at h
  subst h
  obtain⟨vs,h1,h2⟩:=hr
  subst h1
  exact h2
 ·split at h
  ·rename_i v' cs' hl
   simp only[Option.some.injEq] at h
   subst h
   obtain⟨l1,h1,h2⟩:=jB (V:=V) hl
   have h3:v=_:=hr
   rw[h3,h1,List.append_nil]
   exact h2
  ·cases h
 ·cases h
theorem F5 (r k:Nat):look (σ.freeze r).rows k=if r=k then none else look σ.rows k:=by
 unfold AS.freeze
 cases hr:look σ.rows r with
 |none=>by_cases h:r=k
        ·subst h;simp[hr]
        ·simp[h]
 |some row=>exact D5 _ _ _
def FW (r:Option Nat):Fence:={Fence.wide with round:=r}
def mz (P:Program)(o:Oper)(a:Act)(w:World)(K:Act→World→Prop):Prop:=
 ∀(r:Option Nat) (next:Act→World→Prop) (Q:Exit→Act→World→Prop),(∀a' w',K a' w'→next a' w')→o.wpIn (FW r) 0 P a w next Q
theorem cN {o:Oper}{K:Act→World→Prop}{v:Value}(hd:∀c,o.op≠ .defer c)(h:(execOp a.eval o).run P w= .ok (.value v) w')(hK:K (a.put o.dst v) w'):mz P o a w K:=fun r next Q hn=>by
 refine⟨fun _ _=>trivial, ?_⟩
 rw[Oper.semAt_eq _ _ _ hd,h];exact hn _ _ hK
theorem X2 {o:Oper}{K:Act→World→Prop}(hd:∀c,o.op≠ .defer c)(h:(execOp a.eval o).run P w= .ok .skip w')(hK:K (a.put o.dst undef) w'):mz P o a w K:=fun r next Q hn=>by
 refine⟨fun _ _=>trivial, ?_⟩
 rw[Oper.semAt_eq _ _ _ hd,h];exact hn _ _ hK
def To (E:Env)(σ':AS)(a':Act)(w':World):Prop:=∃ν' O',St E σ' a' w' ν' O'
def bt (σ:AS)(d:Option Tmp)(r:cS):AS:=match r.2 with
 | .mw us=>(σ.app us).jO d r.1
 | .set σ'=>σ'.jO d r.1
theorem X3 {o:Oper}(hE:aR E)(hd:∀c,o.op≠ .defer c)(h:St E σ a w ν O){r:cS}(hr:r.2= .mw []){v:Value}(h1:(execOp a.eval o).run P w= .ok (.value v) w')(hb:Below w.heap.size w w')
  (h2:au (view E σ ν O w') σ ν E.Y r.1 v):mz P o a w (To E (bt σ o.dst r)):=by
 refine cN hd h1 ⟨ν,O, ?_⟩
 unfold bt
 rw[hr]
 exact(h.grow hE hb).slot h2
theorem cO {o:Oper}(hE:aR E)(hd:∀c,o.op≠ .defer c)(h:St E σ a w ν O){r:cS}(hr:r.2= .mw []){v:Value}(h1:(execOp a.eval o).run P w= .ok (.value v) w)
  (h2:au (view E σ ν O w) σ ν E.Y r.1 v):mz P o a w (To E (bt σ o.dst r)):=X3 hE hd h hr h1 (Below.refl _ _) h2
theorem Vu {V:View}{r:gJ}(hr:TOk P T r):∃i z,P.info? r.id=some i∧i.size=r.ty.size∧i.bytes=r.bytes∧i.zero=some z∧Rel V r.ty r.ty.zero z.cells.toList:=by
 obtain⟨i,z,h1,h2,h3,h4,h5,_⟩:=hr.info
 exact⟨i,z,h1,h2,h3,h4,h5 V⟩
theorem yl {P:Program}{T:List gJ}{t:TypeId}{u:Ty}{e:TypeId}{bytes:Nat}(hT:jA P T)(h:iE T t=some (u,e,bytes)):
  ∃re,P.underlying t=some (.slice e)∧TOk P T re∧re.id=e∧re.ty=u∧re.bytes=bytes∧0<bytes:=by
 unfold iE at h
 split at h
 ·rename_i r hr
  obtain⟨rfl,hr'⟩:=hT t r hr
  split at h
  ·rename_i u' rX
   split at h
   ·rename_i re Ub
    cases hb:Nat.blt 0 re.bytes with
    |false=>simp[hb] at h
    |true=>
     simp only[hb,cond_true,Option.some.injEq,Prod.mk.injEq] at h
     obtain⟨rfl,rfl,rfl⟩:=h
     obtain⟨h1,re',h2,h3,h4⟩:=UO hT hr' rX
     have hd:=hr'.desc
     rw[rX] at hd
     obtain⟨_,re2,h5,h6⟩:=hd
     rw[Ub] at h5
     obtain rfl:re=re2:=by simpa using h5
     obtain⟨h7,h8⟩:=hT _ re Ub
     exact⟨re,h1,h8,h7,h6,rfl,Nat.le_of_ble_eq_true hb⟩
   ·cases h
  ·cases h
 ·cases h
theorem OY (s:Option Site)(u:Ty):(N5 s u).size=u.size:=by unfold N5;split<;>rfl
theorem aa9 {r:gJ}(hr:TOk P T r)(s:Option Site):∃i z,P.info? r.id=some i∧i.size=r.ty.size∧i.bytes=r.bytes∧i.zero=some z∧∀V,Rel V (N5 s r.ty) (N5 s r.ty).zero z.cells.toList:=by
 obtain⟨i,z,h1,h2,h3,h4,h5,_,h6⟩:=hr.info
 refine⟨i,z,h1,h2,h3,h4,fun V=> ?_⟩
 cases rX:r.ty with
 |slice v=>
  have hz:=h6 v rX
  have h7:=h5 V
  rw[rX] at h7
  cases s with
  |none=>exact h7
  |some s=>cases s with
   |pg=>subst hz;show (Value.slice none 0 0).cells.toList=_;rfl
   |_=>exact h7
 |_=>
  have h7:=h5 V
  rw[rX] at h7
  cases s with
  |none=>exact h7
  |some s=>cases s<;>exact h7
end
end Go.Abs
namespace Go.Abs
open Go.RowKit Go.Lib
section
variable {P:Program}{T:c9}{E:Env}{σ σ':AS}{a:Act}{w w':World}{ν ν':Nm→Value}{O:Nat→Prop}{Φ:cd T}{V:View}{Y:Value}
theorem oa (hE:aR E)(hG:OW E)(hT:jA P T.rows)(hQ:aiB P T)(h:St E σ a w ν O){o:Oper}{r:cS}
  (hop:(∃x,o.op= .move x)∨(∃c x y,o.op= .pick c x y)∨(∃x,o.op= .nilCheck x)∨(∃t x,o.op= .load t x)∨(∃b t x y u,o.op= .binOp b t x y u)∨(∃b t x,o.op= .unOp b t x)∨(∃s d x,o.op= .convert s d x)∨
   (∃s x f,o.op= .fieldAddr s x f)∨(∃t x i,o.op= .indexAddr t x i)∨(∃t x i,o.op= .index t x i)∨(∃x i,o.op= .extract x i))
  (he:(F0 T σ.av σ.sites o).val Φ σ=some r):mz P o a w (To E (bt σ o.dst r)):=by
 have sy:=h.av hG
 unfold F0 at he
 rcases hop with ⟨x,ho⟩ | ⟨c,x,y,ho⟩ | ⟨x,ho⟩ | ⟨t,x,ho⟩ | ⟨b,t,x,y,u,ho⟩ | ⟨b,t,x,ho⟩ | ⟨s,d,x,ho⟩ | ⟨s,x,f,ho⟩ | ⟨t,x,i,ho⟩ | ⟨t,x,i,ho⟩ | ⟨x,i,ho⟩<;>simp only[ho] at he
 ·obtain⟨h1,h2⟩:=R2 (sy x) he
  exact cO hE (by rw[ho];intro c e;cases e) h h1 (v:=a.eval x) (by simp[execOp,ho]) h2
 ·split at he
  ·rename_i t hc
   have UP:=sy c
   rw[hc] at UP
   have ec:=Qo UP rfl
   rw[Qm,iB,iB] at he
   rcases he with ⟨rfl,rfl⟩ | ⟨rfl,rfl⟩
   ·exact cO hE (by rw[ho];intro c e;cases e) h rfl (v:=a.eval x) (by simp[execOp,ho,ec,asBool]) (sy x)
   ·exact cO hE (by rw[ho];intro c e;cases e) h rfl (v:=a.eval y) (by simp[execOp,ho,ec,asBool]) (sy y)
  ·cases he
 ·obtain⟨h1,⟨ad,h2⟩,h3⟩:=Zg h (sy x) he
  exact cO hE (by rw[ho];intro c e;cases e) h h1 (v:=a.eval x) (by simp[execOp,ho,h2]) h3
 ·obtain⟨h1,v,h2,h3⟩:=aiA (P:=P) hE hT h (sy x) he
  exact cO hE (by rw[ho];intro c e;cases e) h h1 (v:=v) (by simp[execOp,ho,h2]) h3
 ·have done:∀v,(do eqGuard b t x y (a.eval x) (a.eval y);binOp b t (a.eval x) (a.eval y):Sem Value).run P w= .ok v w→(execOp a.eval o).run P w= .ok (.value v) w:=fun v hv=>by
   simp only[execOp,ho,Sem.run_bind,Sem.run_pure] at hv ⊢
   rw[hv];rfl
  have fin:(r.2= .mw []∧∃z,(do eqGuard b t x y (a.eval x) (a.eval y);binOp b t (a.eval x) (a.eval y):Sem Value).run P w= .ok z w∧au (view E σ ν O w) σ ν E.Y r.1 z)→mz P o a w (To E (bt σ o.dst r)):=
   fun⟨h1,z,h2,h3⟩=>cO hE (by rw[ho];intro c e;cases e) h h1 (done z h2) h3
  split at he
  ·rename_i tr hr
   obtain⟨rfl,htr⟩:=hT t tr hr
   have hd:=htr.desc
   split at he
   ·rename_i rX
    rw[rX] at hd
    exact fin (aiC x y hd (sy x) (sy y) he)
   ·exact fin (aa4 x y (sy x) (sy y) he)
   ·exact fin (aa4 x y (sy x) (sy y) he)
   ·rename_i ut rX
    rw[aM] at he
    obtain⟨hq,he⟩:=he
    unfold aio at he
    split at he
    ·rename_i p q hp hq'
     rw[aM] at he
     obtain⟨_,he⟩:=he
     obtain⟨vs,ev,rv⟩:=Je (t:= .st ut) hp (sy x)
     obtain⟨us,eu,ru⟩:=Je (t:= .st ut) hq' (sy y)
     have hg:=fun op=>(hQ tr.id hq tr ut hr rX (view E σ ν O w) p q vs us w op x y rv ru).1
     have hb:=(hQ tr.id hq tr ut hr rX (view E σ ν O w) p q vs us w .eql x y rv ru).2
     refine fin ?_
     rw[ev,eu]
     exact Vj x y hg hb (by rfl) (by rfl) he
    ·cases he
   ·exact fin (aiD hT htr x y (sy x) (sy y) he)
  ·cases he
 ·obtain⟨h1,v,h2,h3⟩:=anv (P:=P) (w:=w) (sy x) he
  exact cO hE (by rw[ho];intro c e;cases e) h h1 (v:=v) (by simp[execOp,ho,h2]) h3
 ·obtain⟨h1,v,w',h2,hb,h3⟩:=agj (P:=P) hE hT h (sy x) he
  exact X3 hE (by rw[ho];intro c e;cases e) h h1 (v:=v) (by simp[execOp,ho,h2]) hb h3
 ·obtain⟨h1,v,h2,h3⟩:=adp (P:=P) hT h (sy x) he
  exact cO hE (by rw[ho];intro c e;cases e) h h1 (v:=v) (by simp[execOp,ho,h2]) h3
 ·obtain⟨h1,v,h2,h3⟩:=adq (P:=P) hT h (sy x) (sy i) he
  exact cO hE (by rw[ho];intro c e;cases e) h h1 (v:=v) (by simp[execOp,ho,h2]) h3
 ·obtain⟨h1,v,h2,h3⟩:=agl (P:=P) (w:=w) hT (sy x) (sy i) he
  exact cO hE (by rw[ho];intro c e;cases e) h h1 (v:=v) (by simp[execOp,ho,h2]) h3
 ·split at he
  ·rename_i l hx
   have ex:=sy x
   rw[hx] at ex
   obtain⟨vs,ex,hvs⟩:=ex
   rw[ph] at he
   obtain⟨y,hy,he⟩:=he
   rw[iB] at he
   subst he
   obtain⟨u,hu,hr⟩:=hvs.get i y hy
   exact cO hE (by rw[ho];intro c e;cases e) h rfl (v:=u) (by simp[execOp,ho,ex,Instr.extract,hu]) hr
  ·cases he
theorem anD (hE:aR E)(hG:OW E)(hT:jA P T.rows)(h:St E σ a w ν O){o:Oper}{r:cS}{args:Array Operand}{ats:Array TypeId}(ho:o.op= .call {callee:= .builtin .len,args:=args,argTypes:=ats})
  (he:(F0 T σ.av σ.sites o).val Φ σ=some r):mz P o a w (To E (bt σ o.dst r)):=by
 unfold F0 at he
 simp only[ho] at he
 split at he
 ·rename_i x t hx ht
  have hx':args= #[x]:=by cases args;simp at hx;subst hx;rfl
  have ht':ats= #[t]:=by cases ats;simp at ht;subst ht;rfl
  subst hx' ht'
  split at he
  ·rename_i tr hr
   obtain⟨rfl,htr⟩:=hT t tr hr
   obtain⟨h1,v,h2,h3⟩:=aiE (P:=P) hT htr h (h.av hG x) o.type he
   exact cO hE (by rw[ho];intro c e;cases e) h h1 (v:=v) (by simp[execOp,ho,resolve,invoke,builtin,h2]) h3
  ·cases he
 ·cases he
theorem X4 (hE:aR E)(hG:OW E)(h:St E σ a w ν O){o:Oper}{r:cS}{b:Builtin}{args:Array Operand}{ats:Array TypeId}(hb:b= .max∨b= .min)(ho:o.op= .call {callee:= .builtin b,args:=args,argTypes:=ats})
  (he:(F0 T σ.av σ.sites o).val Φ σ=some r):mz P o a w (To E (bt σ o.dst r)):=by
 unfold F0 at he
 have sy:=h.av hG
 rcases hb with rfl |rfl<;>simp only[ho] at he
 all_goals
  split at he
  ·rename_i x y hx
   have hx':args= #[x,y]:=by cases args;simp at hx;subst hx;rfl
   subst hx'
   split at he
   ·rename_i i n j m e1 e2
    have hx:=sy x;rw[e1] at hx
    have hy:=sy y;rw[e2] at hy
    have ex:=Aq hx rfl
    have ey:=Aq hy rfl
    rw[df] at he
    subst he
    refine cO hE (by rw[ho];intro c e;cases e) h rfl (v:= .int i _) ?_ Ar
    simp[execOp,ho,resolve,invoke,builtin,Builtin.max_,Builtin.max2,Builtin.min_,Builtin.min2,ex,ey]
   ·cases he
  ·cases he
end
end Go.Abs
namespace Go.Abs
open Go.RowKit Go.Lib
section
variable {P:Program}{T:c9}{E:Env}{σ σ':AS}{a:Act}{w w':World}{ν ν':Nm→Value}{O:Nat→Prop}{Φ:cd T}{V:View}{Y:Value}
theorem Jf {w:World}{B:Nat}{e:TypeId}{n:Nat}:w.ownsRow B e n (.slice none 0 0) 0 []:=World.ownsRow_nil w B e n
theorem Qv (r b:Nat):(look (σ.freeze r).boxes b).isSome=(look σ.boxes b).isSome:=by
 unfold AS.freeze
 cases look σ.rows r with
 |none=>rfl
 |some row=>show (look (KZ _ _) b).isSome=_;rw[iU,Option.isSome_map]
theorem St.renamed (hE:aR E)(h:St E σ a w ν O){r d:Nat}(hr:(look σ.rows r).isSome=true)(hne:r≠d):
  ∃ν',St E ((σ.freeze d).rename r d) a w ν' O∧(∀m,(∀k,m≠ .row k)→ν' m=ν m)∧ν' (.row d)=ν (.row r)∧(look ((σ.freeze d).rename r d).rows d).isSome=true:=by
 have h1:=h.freeze hE d
 obtain⟨ν',h2,h3,h4⟩:=h1.rename hE (r:=r) (d:=d) (by rw[F5,if_pos rfl])
 obtain⟨h5,h6⟩:=h4 (by rw[F5,if_neg (Ne.symm hne)];exact hr)
 exact⟨ν',h2,h3,h5,h6⟩
theorem St.aiN (hE:aR E)(h:St E σ a w ν O)(d:Nat)(u:Ty)(e:TypeId):
  St E {(σ.freeze d) with rows:=put (σ.freeze d).rows d ⟨e,u,[]⟩} a w (vY ν d (.slice none 0 0)) O:=
 (h.freeze hE d).newRow hE (by rw[F5,if_pos rfl]) (Below.refl _ _) (fun k hk=>by cases hk) (fun _=>⟨[],Jf,trivial⟩)
theorem agp (hE:aR E)(hG:OW E)(hT:jA P T.rows)(h:St E σ a w ν O){o:Oper}{r:cS}{x:Operand}(ho:o.op= .assign x)
  (he:(F0 T σ.av σ.sites o).val Φ σ=some r):mz P o a w (To E (bt σ o.dst r)):=by
 have hrun:(execOp a.eval o).run P w= .ok (.value (a.eval x)) w:=by simp[execOp,ho]
 have hd:∀c,o.op≠ .defer c:=by rw[ho];intro c e;cases e
 have hx:=h.av hG x
 unfold F0 at he
 simp only[ho] at he
 split at he
 ·rename_i q d hq R6
  rw[hq] at hx
  rw[nN,iF] at he
  subst he
  refine cN hd hrun ?_
  simp only[bt,R6]
  cases hb:Nat.beq q d with
  |true=>
   have:=(beq_iff _ _).1 hb;subst this
   exact⟨ν,O,h.slot hx⟩
  |false=>
   obtain⟨ν',h2,_,h3,h4⟩:=h.renamed hE hx.2 (uy.1 hb)
   exact⟨ν',O,h2.slot ⟨by rw[h3];exact hx.1,h4⟩⟩
 ·rename_i d hl R6
  rw[hl] at hx
  split at he
  ·rename_i h0 hh0
   rw[iB] at he
   subst he
   refine cO hE hd h rfl hrun ?_
   have hx':a.eval x= .slice none 0 0:=hx
   rw[hx']
   exact(rfl: [Value.slice none 0 0]=[.slice none 0 0])
  split at he
  ·rename_i u e b hel
   rw[nN,iF] at he
   subst he
   refine cN hd hrun ?_
   simp only[bt,R6]
   refine⟨_,O,(h.aiN hE d u e).slot ⟨?_, ?_⟩⟩
   ·rw[nZ];exact hx
   ·show (look (put _ _ _) _).isSome=true;rw[aQ,if_pos rfl];rfl
  ·obtain⟨h1,h2⟩:=R2 hx he
   exact cO hE hd h h1 hrun h2
 ·obtain⟨h1,h2⟩:=R2 (Vi hx) he
  exact cO hE hd h h1 hrun h2
theorem Ec {n:Nat}:∀{bQ:List (List Value)} (i:Nat) (ys vs:List Value) (off:Nat),(∀l∈bQ,l.length=n)→bQ[i]? =some ys→off+vs.length≤n→
  (bQ.set i (ys.take off++vs++ys.drop (off+vs.length))).flatten=bQ.flatten.take (i*n+off)++vs++bQ.flatten.drop (i*n+off+vs.length)
 | [],i,ys,vs,off,_,h,_=>by simp at h
 |l::bQ,0,ys,vs,off,hl,h,hle=>by
  simp at h;subst h
  have h1:=hl l (by simp)
  have e1:off - l.length=0:=by omega
  have e2:off+vs.length - l.length=0:=by omega
  simp[List.take_append,List.drop_append,e1,e2]
 |l::bQ,i+1,ys,vs,off,hl,h,hle=>by
  have h1:=hl l (by simp)
  have ih:=Ec (bQ:=bQ) i ys vs off (fun l hl'=>hl l (by simp[hl'])) (by simpa using h) hle
  have e1:(i+1)*n+off - l.length=i*n+off:=by rw[Nat.succ_mul];omega
  have e2:(i+1)*n+off+vs.length - l.length=i*n+off+vs.length:=by rw[Nat.succ_mul];omega
  have e3:List.take ((i+1)*n+off) l=l:=List.take_of_length_le (by rw[Nat.succ_mul];omega)
  have e4:List.drop ((i+1)*n+off+vs.length) l=[]:=List.drop_eq_nil_of_le (by rw[Nat.succ_mul];omega)
  simp only[List.append_assoc] at ih
  simp[List.take_append,List.drop_append,e1,e2,e3,e4,ih]
theorem Jg {V:View}{t:Ty}:∀{xs:List t.den} {bQ:List (List Value)},aS (Rel V t) xs bQ→∀l∈bQ,l.length=t.size
 | [],[],_,l,h=>by simp at h
 |x::xs,y::bQ,h,l,hl=>by
  rcases List.mem_cons.1 hl with rfl |hl
  ·exact Rel.length h.1
  ·exact Jg h.2 l hl
 | [],_::_,h,_,_=>h.elim
 |_::_,[],h,_,_=>h.elim
theorem X5 {t:Ty}{y y':t.den}{off:Nat}{vs:List CV}{ys us:List Value}(h:ae3 t y off vs=some y')(hy:Rel V t y ys)(hv:aS (cw V) vs us):
  Rel V t y' (ys.take off++us++ys.drop (off+us.length)):=by
 have hl:=hv.length
 refine Jd h ?_
 rw[I6,hl]
 exact(((jv hy).take off).append hv).append ((jv hy).drop _)
theorem agq {vs:List CV}{us:List Value}(h:aS (cw V) vs us):∀u∈us,u.oneCell'=true:=fun u hu=>by
 obtain⟨j,hj⟩:=List.getElem?_of_mem hu
 obtain⟨c,_,hc⟩:=h.get' j u hj
 exact U3 hc
theorem HE (hT:jA P T.rows){tr:gJ}(hr:TOk P T.rows tr){u v:Value}{vs:List CV}(hv:aS (cw V) vs v.cells.toList)(hl:vs.length=tr.ty.size){g off:Nat}{cur:Array Value}{e:TypeId}
  (hu:u= .pointer (some ⟨g,off,none⟩)) (hg:w.heap[g]? =some (.cells cur e (0,0))) (hle:off+vs.length≤cur.size):
  (Instr.storeAt tr.id u v).run P w= .ok () (w.setRow g (cur.toList.take off++v.cells.toList++cur.toList.drop (off+vs.length)).toArray):=by
 have hlen:v.cells.toList.length=vs.length:=hv.length.symm
 have afe:v.cells.size=vs.length:=by simpa using hlen
 have hst:=run_storeCells_at P g off e v.cells.toList 0 cur w hg (by rw[hlen];simpa using hle) (agq hv)
 rw[hlen] at hst
 simp only[Nat.add_zero] at hst
 simp[Instr.storeAt,hu,Instr.sureAddr,storeVar,Ea hr,afe,hl,hst]
theorem aff {t:Ty}{xs:List t.den}{i:Nat}{z z':t.den}{n cap:Nat}{e:TypeId}{off:Nat}{vs:List CV}{us:List Value}{g:Nat}{cur:Array Value}{V':View}{bQ:List (List Value)}
  (hV:∀a v,V a v→V' a v) (hl:bQ.flatten.length=xs.length*t.size) (hcap:xs.length≤cap) (ast:cap≤maxLen) (hcs:cur.size=cap*t.size) (N8:cur.toList.take (xs.length*t.size)=bQ.flatten) (hg:w.heap[g]? =some (.cells cur e (0,0)))
  (hall:aS (Rel V t) xs bQ) (hz:xs[i]? =some z) (hf:ae3 t z off vs=some z') (hv:aS (cw V) vs us) (hle:off+vs.length≤t.size):
  off+i*t.size+vs.length≤cur.size∧∃Vv,(w.setRow g (cur.toList.take (i*t.size+off)++us++cur.toList.drop (i*t.size+off+vs.length)).toArray).ownsRow 0 e t.size (.slice (some ⟨g,0,none⟩) (xs.set i z').length cap) (xs.set i z').length Vv.flatten∧aS (Rel V' t) (xs.set i z') Vv:=by
 have hlen:=hv.length
 obtain⟨ys,hy1,hy2,hy3⟩:=D9 hall i z hz
 have hilt:i<xs.length:=(List.getElem?_eq_some_iff.1 hz).1
 have hmul:i*t.size+t.size≤xs.length*t.size:=by
  rw[←Nat.succ_mul];exact Nat.mul_le_mul_right _ hilt
 have avk:xs.length*t.size≤cur.size:=by rw[hcs];exact Nat.mul_le_mul_right _ hcap
 have HC:=setRow_heap w g cur (cur.toList.take (i*t.size+off)++us++cur.toList.drop (i*t.size+off+vs.length)).toArray e (0,0) hg
 have hsp:=Ec (bQ:=bQ) i ys us off (Jg hall) hy1 (by rw[←hlen];exact hle)
 have apn:=X5 hf hy2 hv
 refine⟨by omega,bQ.set i (ys.take off++us++ys.drop (off+us.length)),⟨?_, .inr ⟨g,cap,_,by simp,Nat.zero_le _,HC,by simpa using hcap,ast, ?_, ?_⟩⟩,(hall.mono (Rel.mono hV _)).set (Rel.mono hV _ _ _ apn)⟩
 ·rw[hsp];simp[hl, ←hlen];omega
 ·simp[←hlen];omega
 ·rw[hsp, ←N8]
  simp only[List.length_set]
  have e5:i*t.size+off≤xs.length*t.size:=by omega
  rw[List.take_append,List.take_append,List.take_take,List.take_take]
  rw[Nat.min_eq_right e5,Nat.min_eq_left e5]
  rw[List.drop_take]
  congr 1
  ·congr 1
   rw[List.take_of_length_le]
   simp[←hlen];omega
  ·rw[←hlen]
   congr 1
   simp[←hlen];omega
end
end Go.Abs
namespace Go.Abs
open Go.RowKit Go.Lib
section
variable {P:Program}{T:c9}{E:Env}{σ σ':AS}{a:Act}{w w':World}{ν ν':Nm→Value}{O:Nat→Prop}{Φ:cd T}{V:View}{Y:Value}
theorem tA {C:Nat→Prop}{w:World}{g:Nat}{cs:Array Value}(hg:C g):Grow C w (w.setRow g cs):=
 ⟨rfl,rfl,rfl,by simp,fun k _ hk=>setRow_other w g k _ (fun e=>hk (e ▸ hg))⟩
theorem aiO {α:Type}{xs:List (Option (List α))}{n:Nat}{l l':List α}(hn:1≤n)(hle:n≤xs.length)(h:(b9 xs n l)[n - 1]? =some (some l')):l'=l:=by
 cases n with
 |zero=>omega
 |succ m=>
  simp only[b9,Nat.add_sub_cancel] at h
  rw[List.getElem?_set_self (by omega)] at h
  simpa using h.symm
theorem adu {α:Type}{xs:List (Option (List α))}{n m:Nat}{l:List α}(h:m+1≠n):(b9 xs n l)[m]? =xs[m]? :=by
 cases n with
 |zero=>rfl
 |succ k=>simp only[b9];rw[List.getElem?_set_ne (by omega)]
theorem aba {α:Type}{xs:List (Option (List α))}{n:Nat}{l:List α}:(b9 xs n l).length=xs.length:=by
 cases n with
 |zero=>rfl
 |succ k=>simp[b9]
theorem St.amI (hE:aR E)(h:St E σ a w ν O){i n g:Nat}{hr:bK}{l l':List hr.t.den}(hh:σ.ag[i]? =some hr)(hw:hr.w=true)(hn:1≤n)(hl:af hr.xs n=some l)(hg:dm (ν (.hp i n))=some g)(hgr:Grow (fun k=>k=g) w w')
  (cV:∀V',(∀key v,view E σ ν O w key v→V' key v)→CS V' w' hr.k (ν (.hp i n)) ⟨hr.e,hr.t,l'⟩):
  St E {σ with ag:=σ.ag.set i ⟨hr.e,hr.t,hr.k,hr.w,b9 hr.xs n l'⟩} a w' (R4 ν i n (ν (.hp i n))) O:=by
 have hle:=Qq hl
 have hob:(σ.obj (.hp i n)).isSome=true:=bC (adm hh hn hl)
 refine h.amG hE (n0:=n) (n1:=n) (C:=fun k=>dm (ν (.hp i n))=some k) hh hw hn (.inr ⟨aba,rfl⟩) (fun m h1 _ l=>by rw[adu h1]) (.inl rfl) (fun k hk=>⟨hob,hk⟩) (hgr.mono (fun k _ e=>by rw[e];exact hg)) (fun k hk=> .inl ⟨hob,hk⟩) (h.nn i hr n hh hn hle) (fun hV l2 h2=> ?_)
 have:=aiO hn hle h2
 subst this
 exact cV _ hV
theorem afg (hE:aR E)(hT:jA P T.rows)(h:St E σ a w ν O){tr:gJ}(htr:TOk P T.rows tr){i n j off g:Nat}{hr:bK}{u v:Value}{vs:List CV}(hh:σ.ag[i]? =some hr)(hn:1≤n)(hg:dm (ν (.hp i n))=some g)
  (hu:u= .pointer (some ⟨g,j*hr.t.size+off,none⟩)) (hv:aS (cw (view E σ ν O w)) vs v.cells.toList) (hl:vs.length=tr.ty.size) {r:cS} (he:(RS (T:=T) i n j off vs).val Φ σ=some r):
  ∃us w',r=(.nil, .mw us)∧(Instr.storeAt tr.id u v).run P w= .ok () w'∧∃ν',St E (σ.app us) a w' ν' O:=by
 unfold RS at he
 rw[gg] at he
 obtain⟨hr',e1,he⟩:=he
 rw[hh] at e1
 obtain rfl:hr=hr':=by simpa using e1
 rw[cG] at he
 obtain⟨l,hl1,he⟩:=he
 rw[cG] at he
 obtain⟨y,hy,he⟩:=he
 rw[cG] at he
 obtain⟨y',hf,he⟩:=he
 rw[aM,iF] at he
 obtain⟨hb,he⟩:=he
 simp only[Bool.and_eq_true] at hb
 obtain⟨hw,hle⟩:=hb
 have hle:=Nat.le_of_ble_eq_true hle
 subst he
 have cV:=h.hp hh hn hl1
 obtain⟨k,hk⟩:∃k,hr.k=k:=⟨_,rfl⟩
 rw[hk] at cV
 match k,hk,cV with
 |0,hk,⟨hs,bQ,⟨e1,e2⟩,hall⟩=>
  dsimp only at e1 e2 hall
  rcases e2 with ⟨e2,e3⟩ | ⟨g',cap,cur,e2,_,hgg,hn1,hm,hcs,N8⟩
  ·have:l=[]:=List.eq_nil_of_length_eq_zero e3
   rw[this] at hy;simp at hy
  ·have:g'=g:=by rw[e2] at hg;simpa [dm] using hg
   subst this
   have hln:v.cells.toList.length=vs.length:=hv.length.symm
   obtain⟨q1,Vv,q2,q3⟩:=aff (n:=0) (V':=view E σ ν O w) (fun _ _ h=>h) e1 hn1 hm hcs N8 hgg hall hy hf hv hle
   have hrun:=HE hT htr hv hl hu hgg (by omega)
   refine⟨_,_,rfl,hrun,_,h.amI (l':=l.set j y') hE hh hw hn hl1 hg (tA rfl) (fun V' hV=> ?_)⟩
   rw[hk]
   refine⟨hs,Vv, ?_,q3.mono (Rel.mono hV _)⟩
   rw[e2]
   simpa using q2
 |1,hk,⟨g',cur,ys,x,e1,e2,e3,e4,e5⟩=>
  dsimp only at e2 x e4 e5
  have:g'=g:=by rw[e1] at hg;simpa [dm] using hg
  subst this
  subst e4
  cases j with
  |succ j=>simp at hy
  |zero=>
   obtain rfl:x=y:=by simpa using hy
   have hcl:cur.size=hr.t.size:=by have:=Rel.length e5;rw[←e3] at this;simpa using this
   have hrun:=HE (w:=w) hT htr hv hl hu e2 (by rw[Nat.zero_mul];omega)
   have X6:=X5 hf e5 hv
   have HC:=setRow_heap w g' cur (cur.toList.take (0*hr.t.size+off)++v.cells.toList++cur.toList.drop (0*hr.t.size+off+vs.length)).toArray hr.e (0,0) e2
   refine⟨_,_,rfl,hrun,_,h.amI (l':=[x].set 0 y') hE hh hw hn hl1 hg (tA rfl) (fun V' hV=> ?_)⟩
   rw[hk]
   refine⟨g',_,_,y',e1,HC,rfl,rfl, ?_⟩
   have hlen:vs.length=v.cells.toList.length:=hv.length
   rw[e3]
   simp only[Nat.zero_mul,Nat.zero_add]
   rw[hlen]
   exact Rel.mono hV _ _ _ X6
theorem afi (hE:aR E)(hT:jA P T.rows)(h:St E σ a w ν O){tr:gJ}(htr:TOk P T.rows tr){x:AV}{u v:Value}{vs:List CV}(hx:au (view E σ ν O w) σ ν E.Y x u)(hv:aS (cw (view E σ ν O w)) vs v.cells.toList)(hl:vs.length=tr.ty.size){r:cS}
  (he:(K2 (T:=T) x vs).val Φ σ=some r):
  ∃us w',r=(.nil, .mw us)∧(Instr.storeAt tr.id u v).run P w= .ok () w'∧∃ν',St E (σ.app us) a w' ν' O:=by
 have hlen:vs.length=v.cells.toList.length:=hv.length
 unfold K2 at he
 split at he
 ·rename_i b off
  obtain⟨hbs,g,hbν,hu⟩:=hx
  rw[F2] at he
  obtain⟨bx,hb,he⟩:=he
  obtain⟨g',hg',hbr⟩:=h.box hb
  obtain rfl:g=g':=by rw[hbν] at hg';simpa using hg'
  have one:∀(cur:Array Value) (e:TypeId),w.heap[g]? =some (.cells cur e (0,0))→cur.size=1→(Q.iN (T:=T) (Nat.beq off 0&&Nat.beq vs.length 1) (.ret ((.nil, .mw [.box b (.cells vs)]):cS))).val Φ σ=some r→
    ∃us w',r=(.nil, .mw us)∧(Instr.storeAt tr.id u v).run P w= .ok () w'∧∃ν',St E (σ.app us) a w' ν' O:=fun cur e hg h1 he=>by
   rw[aM,iF] at he
   obtain⟨hc,rfl⟩:=he
   simp only[Bool.and_eq_true,beq_iff] at hc
   obtain⟨rfl,hc⟩:=hc
   have hrun:=HE hT htr hv hl hu hg (by omega)
   have HC:=setRow_heap w g cur (cur.toList.take 0++v.cells.toList++cur.toList.drop (0+vs.length)).toArray e (0,0) hg
   refine⟨_,_,rfl,hrun,ν,h.adt hE hbs (tA (by rw[hbν];rfl)) (fun hV=>⟨g,hbν,_,e,HC, ?_⟩)⟩
   have hd:cur.toList.drop (0+vs.length)=[]:=List.drop_eq_nil_of_le (by simp;omega)
   have he':(cur.toList.take 0++v.cells.toList++cur.toList.drop (0+vs.length)).toArray.toList=v.cells.toList:=by rw[hd];simp
   rw[he']
   exact hv.mono (cw.mono hV)
  split at he
  ·rename_i cs
   obtain⟨cur,e,hg,cV⟩:=hbr
   rw[aM,iF] at he
   obtain⟨hc,rfl⟩:=he
   have hc:=Nat.le_of_ble_eq_true hc
   have hcl:cs.length=cur.size:=by simpa using cV.length
   have hrun:=HE hT htr hv hl hu hg (by omega)
   have HC:=setRow_heap w g cur (cur.toList.take off++v.cells.toList++cur.toList.drop (off+vs.length)).toArray e (0,0) hg
   refine⟨_,_,rfl,hrun,ν,h.adt hE hbs (tA (by rw[hbν];rfl)) (fun hV=>⟨g,hbν,_,e,HC, ?_⟩)⟩
   simp only[I6]
   exact(((cV.mono (cw.mono hV)).take off).append (hv.mono (cw.mono hV))).append ((cV.mono (cw.mono hV)).drop _)
  ·rename_i hnc
   cases bx with
   |cells cs=>exact absurd rfl (hnc cs)
   |own q=>obtain⟨e,hg,_⟩:=hbr;exact one _ e hg rfl he
   |nil=>obtain⟨u0,e,hg⟩:=hbr;exact one _ e hg rfl he
 ·rename_i q sz i off
  obtain⟨row,g,hrow,hgq,rfl,hu⟩:=hx
  rw[rW] at he
  obtain⟨row',e1,he⟩:=he
  rw[hrow] at e1
  obtain rfl:row=row':=by simpa using e1
  rw[cG] at he
  obtain⟨y,hy,he⟩:=he
  rw[cG] at he
  obtain⟨y',hf,he⟩:=he
  rw[aM,iF] at he
  obtain⟨hle,rfl⟩:=he
  have hle:=Nat.le_of_ble_eq_true hle
  obtain⟨bQ,⟨e1,e2⟩,hall⟩:=h.row hrow
  rcases e2 with ⟨e2,e3⟩ | ⟨g',cap,cur,e2,_,hg,hn,hm,hcs,N8⟩
  ·have:row.xs=[]:=List.eq_nil_of_length_eq_zero e3
   rw[this] at hy;simp at hy
  ·have:g'=g:=by rw[e2] at hgq;simpa [dm] using hgq
   subst this
   obtain⟨q1,Vv,q2,q3⟩:=aff (n:=0) (V':=view E σ ν O w) (fun _ _ h=>h) e1 hn hm hcs N8 hg hall hy hf hv hle
   have hrun:=HE hT htr hv hl hu hg (by omega)
   refine⟨_,_,rfl,hrun,ν,h.setRow hE (row':=⟨row.e,row.t,row.xs.set i y'⟩) hrow rfl (tA hgq) (fun hV=>⟨Vv, ?_,q3.mono (Rel.mono hV _)⟩)⟩
   rw[e2]
   simpa using q2
 ·rename_i i n j off
  obtain⟨hr,g,h1,h2,h3,h4,h5⟩:=hx
  exact afg hE hT h htr h1 h2 h4 h5 hv hl he
 ·rename_i i n
  by_cases hn:n=0
  ·subst hn
   unfold RS at he
   rw[gg] at he
   obtain⟨hr',e1,he⟩:=he
   rw[cG] at he
   obtain⟨l,hl1,he⟩:=he
   rw[cG] at he
   obtain⟨y,hy,he⟩:=he
   simp only[af,Option.some.injEq] at hl1
   subst hl1
   simp at hy
  ·obtain⟨hr,g,h1,h2,h3,h4,h5⟩:=Zf h hx hn
   exact afg (j:=0) (off:=0) hE hT h htr h1 h2 h4 (by rw[h5,Nat.zero_mul]) hv hl he
 ·cases he
theorem Zm (hT:jA P T.rows){tr:gJ}(htr:TOk P T.rows tr)(h1:tr.ty.size=1){g:Nat}{cur:Array Value}{e:TypeId}{v:Value}(hv:v.oneCell'=true)(hg:w.heap[g]? =some (.cells cur e (0,0)))(hc:cur.size=1):
  (Instr.storeAt tr.id (.pointer (some ⟨g,0,none⟩)) v).run P w= .ok () (w.setRow g #[v]):=by
 have hcl:v.cells= #[v]:=by cases v<;>first |rfl |cases hv
 have hst:=run_storeCells_at P g 0 e [v] 0 cur w hg (by simp;omega) (by simpa using hv)
 have hd:cur.toList.drop 1=[]:=List.drop_eq_nil_of_le (by simp;omega)
 simp only[Nat.add_zero,List.take_zero,List.nil_append,List.length_singleton,Nat.zero_add,hd,List.append_nil] at hst
 simp[Instr.storeAt,Instr.sureAddr,storeVar,Ea htr,hcl,h1,hst]
theorem R7 (hE:aR E)(hT:jA P T.rows)(h:St E σ a w ν O){tr:gJ}(htr:TOk P T.rows tr)(h1:tr.ty.size=1){b q:Nat}{u v:Value}(hb:D6 σ ν b 0 u){bx:BX}(hbx:look σ.boxes b=some bx)(hone:bx.one=true)(hq:(look σ.rows q).isSome=true)(hv:v=ν (.row q)):
  ∃w',(Instr.storeAt tr.id u v).run P w= .ok () w'∧St E {σ with boxes:=put σ.boxes b (.own q)} a w' ν O:=by
 obtain⟨hbs,g,hbν,rfl⟩:=hb
 obtain⟨g',hg',hbr⟩:=h.box hbx
 obtain rfl:g=g':=by rw[hbν] at hg';simpa using hg'
 obtain⟨row,hrow⟩:=Option.isSome_iff_exists.1 hq
 obtain⟨A,c,hA,_⟩:=F3 (h.row hrow)
 have apo:v.oneCell'=true:=by rw[hv,hA];rfl
 have:∃cur e,w.heap[g]? =some (.cells cur e (0,0))∧cur.size=1:=by
  cases bx with
  |cells cs=>obtain⟨cur,e,h2,h3⟩:=hbr;exact⟨cur,e,h2,by rw[BX.one,beq_iff] at hone;have:=h3.length;rw[hone] at this;simpa using this.symm⟩
  |own k=>obtain⟨e,h2,_⟩:=hbr;exact⟨_,e,h2,rfl⟩
  |nil=>obtain⟨u0,e,h2⟩:=hbr;exact⟨_,e,h2,rfl⟩
 obtain⟨cur,e,hg,hc⟩:=this
 have hrun:=Zm hT htr h1 apo hg hc
 refine⟨_,hrun,h.adt hE hbs (tA (by rw[hbν];rfl)) (fun hV=>⟨g,hbν,e, ?_,hq⟩)⟩
 rw[←hv]
 exact setRow_heap w g cur #[v] e (0,0) hg
theorem Lg {d b:Nat}{bx:BX}(hb:look σ.boxes b=some bx)(h1:bx.one=true):∃bx',look (σ.freeze d).boxes b=some bx'∧bx'.one=true:=by
 unfold AS.freeze
 cases look σ.rows d with
 |none=>exact⟨bx,hb,h1⟩
 |some row=>
  refine⟨bx.vX d ⟨.slice row.t,row.xs⟩,by show look (KZ _ _) b=_;rw[iU,hb];rfl, ?_⟩
  cases bx with
  |own q=>simp only[BX.vX];cases Nat.beq q d<;>rfl
  |cells cs=>exact h1
  |nil=>rfl
theorem Vw {r d b:Nat}{bx:BX}(hb:look σ.boxes b=some bx)(h1:bx.one=true):∃bx',look (σ.rename r d).boxes b=some bx'∧bx'.one=true:=by
 unfold AS.rename
 cases look σ.rows r with
 |none=>exact⟨bx,hb,h1⟩
 |some row=>
  refine⟨bx.ren r d,by show look (KZ _ _) b=_;rw[iU,hb];rfl, ?_⟩
  cases bx with
  |own q=>rfl
  |cells cs=>exact h1
  |nil=>rfl
theorem aiP (hE:aR E)(hG:OW E)(hT:jA P T.rows)(h:St E σ a w ν O){o:Oper}{r:cS}{t:TypeId}{x v:Operand}(ho:o.op= .store t x v)
  (he:(F0 T σ.av σ.sites o).val Φ σ=some r):mz P o a w (To E (bt σ o.dst r)):=by
 have hd:∀c,o.op≠ .defer c:=by rw[ho];intro c e;cases e
 have hx:=h.av hG x
 have hv:=h.av hG v
 have fin:∀{w':World} {σ':AS},r=(.nil, .set σ')→(Instr.storeAt t (a.eval x) (a.eval v)).run P w= .ok () w'→(∃ν',St E σ' a w' ν' O)→mz P o a w (To E (bt σ o.dst r)):=fun {w' σ'} e hrun ⟨ν',hs⟩=>by
  subst e
  exact X2 hd (by simp[execOp,ho,hrun]) ⟨ν',O,hs.slot trivial⟩
 unfold F0 at he
 simp only[ho] at he
 split at he
 ·rename_i tr hr
  obtain⟨rfl,htr⟩:=hT t tr hr
  split at he
  ·rename_i q b e1 e2
   rw[e1] at hv
   rw[e2] at hx
   rw[F2] at he
   obtain⟨bx,hbx,he⟩:=he
   rw[aM,nN] at he
   obtain⟨hc,he⟩:=he
   simp only[Bool.and_eq_true,beq_iff] at hc
   obtain⟨h1,h2⟩:=hc
   cases hb:Nat.beq q b with
   |true=>
    have:=(beq_iff _ _).1 hb;subst this
    rw[hb,cond_true,iF] at he
    obtain⟨w',hrun,hs⟩:=R7 hE hT h htr h2 hx hbx h1 hv.2 hv.1
    exact fin he.symm hrun ⟨ν,hs⟩
   |false=>
    rw[hb,cond_false,iF] at he
    obtain⟨ν',s1,s2,s3,s4⟩:=h.renamed hE hv.2 (uy.1 hb)
    obtain⟨bx1,alr,h11⟩:=Lg (d:=b) hbx h1
    obtain⟨bx2,apr,h12⟩:=Vw (r:=q) (d:=b) alr h11
    obtain⟨w',hrun,hs⟩:=R7 (u:=a.eval x) (v:=a.eval v) hE hT s1 htr h2 (by
     obtain⟨g1,g,g2,g3⟩:=hx
     exact⟨bC apr,g,(s2 _ (fun k e=>by cases e)).trans g2,g3⟩) apr h12 s4 (by rw[s3];exact hv.1)
    exact fin he.symm hrun ⟨ν',hs⟩
  ·rename_i q hnb e1
   rw[nN,UN] at he
   obtain⟨y,he,rfl⟩:=he
   rw[Vf,ph] at he
   obtain⟨vs,hvs,he⟩:=he
   rw[aM] at he
   obtain⟨hl,he⟩:=he
   have s1:=h.freeze hE q
   obtain⟨us,w',rfl,hrun,ν',hs⟩:=afi hE hT s1 htr (s1.av hG x) (R5 hvs (s1.av hG v)) ((beq_iff _ _).1 hl) he
   exact fin rfl hrun ⟨ν',hs⟩
  ·rename_i b e1 e2
   rw[e1] at hv
   rw[e2] at hx
   split at he
   ·rename_i u e bytes hel
    rw[F2] at he
    obtain⟨bx,hbx,he⟩:=he
    rw[aM,nN,iF] at he
    obtain⟨h1,he⟩:=he
    have h2:tr.ty.size=1:=by
     unfold iE at hel
     rw[hr] at hel
     dsimp only at hel
     split at hel
     ·rename_i u' hu;rw[hu];rfl
     ·cases hel
    have s1:=h.aiN hE b u e
    obtain⟨bx1,alr,h11⟩:=Lg (d:=b) hbx h1
    obtain⟨w',hrun,hs⟩:=R7 (u:=a.eval x) (v:=a.eval v) (q:=b) hE hT s1 htr h2 (by
     obtain⟨g1,g,g2,g3⟩:=hx
     exact⟨bC alr,g,g2,g3⟩) alr h11 (by show (look (put _ _ _) _).isSome=true;rw[aQ,if_pos rfl];rfl) (by rw[nZ];exact hv)
    exact fin he.symm hrun ⟨_,hs⟩
   ·cases he
  ·rw[ph] at he
   obtain⟨vs,hvs,he⟩:=he
   rw[aM] at he
   obtain⟨hl,he⟩:=he
   obtain⟨us,w',rfl,hrun,ν',hs⟩:=afi hE hT h htr hx (R5 hvs hv) ((beq_iff _ _).1 hl) he
   exact X2 hd (by simp[execOp,ho,hrun]) ⟨ν',O,hs.slot trivial⟩
 ·cases he
end
end Go.Abs
namespace Go.Abs
open Go.RowKit Go.Lib
def F6 (P:Program)(T:c9):Prop:=∀(i:Nat) (ht:HT),T.ag[i]? =some ht→∃(j:TypeInfo) (z:Value),P.info? ht.e=some j∧j.size=ht.t.size∧j.zero=some z∧∀V,Rel V ht.t ht.t.zero z.cells.toList
section
variable {P:Program}{T:c9}{E:Env}{σ σ':AS}{a:Act}{w w':World}{ν ν':Nm→Value}{O:Nat→Prop}{Φ:cd T}{V:View}{Y:Value}
theorem pk {α:Type}{xs:List (Option (List α))}{n:Nat}:(ix xs n).length=xs.length:=by cases n<;>simp[ix]
theorem abb {α:Type}{xs:List (Option (List α))}{n m:Nat}(h:m+1≠n):(ix xs n)[m]? =xs[m]? :=by
 cases n with
 |zero=>rfl
 |succ k=>simp only[ix];rw[List.getElem?_set_ne (by omega)]
theorem adv {α:Type}{xs:List (Option (List α))}{n:Nat}(hn:1≤n)(l:List α):(ix xs n)[n - 1]? ≠some (some l):=by
 cases n with
 |zero=>omega
 |succ k=>
  simp only[ix,Nat.add_sub_cancel]
  intro h
  rw[List.getElem?_set] at h
  split at h
  ·split at h<;>cases h
  ·rename_i h1;exact h1 rfl
theorem St.amJ (hE:aR E)(h:St E σ a w ν O){i n1:Nat}{hr:bK}{l':List hr.t.den}{v0:Value}{C:Nat→Prop}(hh:σ.ag[i]? =some hr)(hw:hr.w=true)(hn1:n1≤hr.xs.length)
  (hC:∀k,C k→Own σ ν (.hp i n1) k) (hg:Grow C w w') (hblk:∀k,dm v0=some k→Own σ ν (.hp i n1) k∨(w.heap.size≤k∧k<w'.heap.size)) (hv0:agi hr.k v0)
  (cV:∀V',(∀key v,view E σ ν O w key v→V' key v)→CS V' w' hr.k v0 ⟨hr.e,hr.t,l'⟩):
  St E {σ with ag:=σ.ag.set i ⟨hr.e,hr.t,hr.k,hr.w,ix hr.xs n1++[some l']⟩} a w' (R4 ν i (hr.xs.length+1) v0) O∧
   view E {σ with ag:=σ.ag.set i ⟨hr.e,hr.t,hr.k,hr.w,ix hr.xs n1++[some l']⟩} (R4 ν i (hr.xs.length+1) v0) O w' (.ref i (hr.xs.length+1)) v0:=by
 have hlt:i<σ.ag.length:=(List.getElem?_eq_some_iff.1 hh).1
 have hl:(ix hr.xs n1++[some l']).length=hr.xs.length+1:=by simp[pk]
 refine⟨h.amG hE (n0:=hr.xs.length+1) (n1:=n1) (C:=C) hh hw (by omega) (.inl ⟨hl.symm,hl⟩) (fun m h1 h2 l=> ?_) ?_ hC hg (fun k hk=> .inr (hblk k hk)) hv0 (fun hV l2 h2=> ?_), ?_⟩
 ·rcases Nat.lt_trichotomy m hr.xs.length with h3 |h3 |h3
  ·rw[List.getElem?_append_left (by rw[pk];exact h3),abb h2]
  ·omega
  ·rw[List.getElem?_eq_none (by omega),List.getElem?_eq_none (by omega)]
 ·by_cases h0:n1=0
  ·exact .inr (.inl h0)
  ·refine .inr (.inr fun l=> ?_)
   rw[List.getElem?_append_left (by rw[pk];omega)]
   exact adv (by omega) l
 ·rw[Nat.add_sub_cancel,List.getElem?_append_right (by rw[pk];exact Nat.le_refl _),pk] at h2
  simp only[Nat.sub_self,List.getElem?_cons_zero,Option.some.injEq] at h2
  subst h2
  exact cV _ hV
 ·refine⟨by omega, ?_,by simp only[R4,and_self,if_pos]⟩
  show hr.xs.length+1≤hlen (σ.ag.set i _) i
  unfold hlen
  rw[List.getElem?_set_self hlt]
  simp[pk]
theorem afj (hE:aR E)(h:St E σ a w ν O){i:Nat}{hr:bK}{x:hr.t.den}{cur:Array Value}(hh:σ.ag[i]? =some hr)(hx:Rel (view E σ ν O w) hr.t x cur.toList){r:cS}(he:(OS (T:=T) i hr x).val Φ σ=some r):
  ∃us n,r=(.rv (.cv ⟨.ptr i,n⟩), .mw us)∧∃ν',St E (σ.app us) a (w.alloc (.cells cur hr.e)) ν' O∧cw (view E (σ.app us) ν' O (w.alloc (.cells cur hr.e))) ⟨.ptr i,n⟩ (.pointer (some ⟨w.heap.size,0,none⟩)):=by
 unfold OS at he
 rw[aM,iF] at he
 obtain⟨hc,rfl⟩:=he
 simp only[Bool.and_eq_true,beq_iff] at hc
 obtain⟨hw,hk⟩:=hc
 obtain⟨h1,h2⟩:=h.amJ hE (n1:=0) (l':=[x]) (v0:= .pointer (some ⟨w.heap.size,0,none⟩)) (w':=w.alloc (.cells cur hr.e)) (C:=fun _=>False) hh hw (Nat.zero_le _) (fun _ hk=>hk.elim)
  (Grow.D8 ⟨rfl,rfl,rfl,by simp,fun k hk=>heap_alloc_old w _ k hk⟩) (fun k hk=>by simp only[dm,Option.some.injEq] at hk;subst hk;exact .inr ⟨Nat.le_refl _,by simp⟩) (.inr ⟨hk,_,rfl⟩)
  (fun V' hV=>by rw[hk];exact⟨w.heap.size,cur,_,x,rfl,heap_alloc_new w _,rfl,rfl,Rel.mono hV _ _ _ hx⟩)
 exact⟨_,_,rfl,_,h1,ali (by omega) ⟨_,rfl⟩ h2⟩
theorem R8 {i:Nat}{hr:bK}(hH:F6 P T)(h:aaQ T i hr=true)(hi:i<T.ag.length):∃(j:TypeInfo) (z:Value),P.info? hr.e=some j∧j.size=hr.t.size∧j.zero=some z∧∀V,Rel V hr.t hr.t.zero z.cells.toList:=by
 simp only[aaQ,Bool.and_eq_true,beq_iff,decide_eq_true_eq] at h
 have e:T.ag[i]? =some (T.ht i):=by unfold c9.ht;rw[List.getElem?_eq_getElem hi];rfl
 obtain⟨j,z,h1,h2,h3,h4⟩:=hH i _ e
 obtain⟨⟨e1,_⟩,e2⟩:=h
 rw[e1,e2]
 exact⟨j,z,h1,h2,h3,h4⟩
theorem afk (hE:aR E)(h:St E σ a w ν O){d:Option Tmp}{cs:List CV}{cur:Array Value}{e:TypeId}(hx:aS (cw (view E σ ν O w)) cs cur.toList){r:cS}(he:(Cn (T:=T) d (.cells cs)).val Φ σ=some r):
  ∃b us,r=(.box b 0, .mw us)∧∃ν',St E (σ.app us) a (w.alloc (.cells cur e)) ν' O∧D6 (σ.app us) ν' b 0 (.pointer (some ⟨w.heap.size,0,none⟩)):=by
 unfold Cn at he
 split at he
 ·rename_i d
  rw[Ap,iF] at he
  obtain⟨hd,rfl⟩:=he
  refine⟨_,_,rfl,_,h.Cn hE hd (fun hV=>⟨w.heap.size,rfl,cur,e,heap_alloc_new w _,hx.mono (cw.mono hV)⟩), ?_,w.heap.size,by simp only[R3,if_pos],rfl⟩
  show (look (put _ _ _) _).isSome=true
  rw[aQ,if_pos rfl];rfl
 ·cases he
theorem aiQ (hE:aR E)(hG:OW E)(hT:jA P T.rows)(hH:F6 P T)(hl:σ.ag.length=T.ag.length)(h:St E σ a w ν O){o:Oper}{r:cS}{t:TypeId}(ho:o.op= .alloc t)
  (he:(F0 T σ.av σ.sites o).val Φ σ=some r):mz P o a w (To E (bt σ o.dst r)):=by
 have hd:∀c,o.op≠ .defer c:=by rw[ho];intro c e;cases e
 unfold F0 at he
 simp only[ho] at he
 split at he
 ·rename_i tr hr
  obtain⟨rfl,htr⟩:=hT t tr hr
  obtain⟨i,z,h1,h2,h3,h4,h5⟩:=Vu (V:=view E σ ν O w) htr
  have hrun:(execOp a.eval o).run P w= .ok (.value (.pointer (some ⟨w.heap.size,0,none⟩))) (w.alloc (.cells z.cells tr.id)):=by
   simp[execOp,ho,Instr.alloc,zeroValue,typeInfo,h1,h4,newVar,Go.newRow]
  split at he
  ·rename_i k hk
   rw[gg] at he
   obtain⟨RZ,hh,he⟩:=he
   rw[aM] at he
   obtain⟨hc,he⟩:=he
   simp only[Bool.and_eq_true,beq_iff] at hc
   obtain⟨e1,hc⟩:=hc
   obtain⟨j,z',j1,j2,j3,j4⟩:=R8 hH hc (by rw[←hl];exact(List.getElem?_eq_some_iff.1 hh).1)
   rw[e1,h1] at j1
   obtain rfl:i=j:=by simpa using j1
   rw[h4] at j3
   obtain rfl:z=z':=by simpa using j3
   obtain⟨us,n,rfl,ν',hs,hv⟩:=afj hE h (cur:=z.cells) hh (j4 _) he
   rw[e1] at hs hv
   exact cN hd hrun ⟨ν',O,hs.slot hv⟩
  ·split at he
   ·rename_i u0 u e b d rX hel R6
    rw[Ap,Ao,iF] at he
    obtain⟨f1,f2,rfl⟩:=he
    have hz:z= .slice none 0 0:=by
     obtain⟨i',z',k1,_,_,k4,_,_,k5⟩:=htr.info
     rw[h1] at k1
     obtain rfl:i=i':=by simpa using k1
     rw[h4] at k4
     obtain rfl:z=z':=by simpa using k4
     exact k5 _ rX
    have s1:=h.newRow hE (d:=d) (row':=⟨e,u,[]⟩) (v':= .slice none 0 0) f2 (Below.refl _ _) (fun k hk=>by cases hk) (fun _=>⟨[],Jf,trivial⟩)
    have hrow:(look (put σ.rows d (⟨e,u,[]⟩:Row)) d).isSome=true:=by rw[aQ,if_pos rfl];rfl
    have s2:=s1.Cn hE (d:=d) (x:= .own d) (o:= .cells z.cells tr.id) f1 (fun hV=>⟨w.heap.size,rfl,tr.id,by rw[hz];simp only[R3,vY,if_pos];exact heap_alloc_new w _,hrow⟩)
    refine cN hd hrun ⟨R3 (vY ν d (.slice none 0 0)) d (.pointer (some ⟨w.heap.size,0,none⟩)),O, ?_⟩
    simp only[bt,R6]
    refine s2.slot (x:= .box d 0) ⟨?_,w.heap.size,by simp only[R3,if_pos],rfl⟩
    show (look (put _ _ _) _).isSome=true
    rw[aQ,if_pos rfl];rfl
   ·obtain⟨b,us,rfl,ν',hs,hv⟩:=afk hE h (cur:=z.cells) (e:=tr.id) (jv h5) he
    exact cN hd hrun ⟨ν',O,hs.slot (x:= .box b 0) hv⟩
 ·cases he
theorem als (f:AV→AV)(hf:f .nil= .nil)(s:fT)(t:Nat):nth (s.map f) t=f (nth s t):=by
 unfold nth
 show (match look (W8 f s.l) t with |some x=>x |none=> .nil)=_
 rw[MK]
 cases look s.l t with
 |none=>exact hf.symm
 |some x=>rfl
theorem anE (f:AV→AV)(hf:f .nil= .nil)(hc:∀v,f (ofConst v)=ofConst v)(hF:∀g,f (.fn g [])= .fn g [])(s:fT)(x:Operand):(s.map f).av x=f (s.av x):=by
 cases x with
 |tmp t=>exact als f hf s t
 |const v=>exact(hc v).symm
 |func g=>exact(hF g).symm
 |global g=>
  show (match look (W8 f s.s) (gk g) with |some x=>x |none=> .nil)=f (match look s.s (gk g) with |some x=>x |none=> .nil)
  rw[MK]
  cases look s.s (gk g) with
  |none=>exact hf.symm
  |some x=>rfl
theorem Zn (r:Nat)(c:CV)(v:Value):(ofConst v).vX r c=ofConst v:=by cases v<;>rfl
theorem MP {q:Nat}{row:Row}(hq:look σ.rows q=some row)(x:Operand):(σ.freeze q).av x=(σ.av x).vX q ⟨.slice row.t,row.xs⟩:=by
 unfold AS.freeze
 rw[hq]
 exact anE _ rfl (Zn q _) (fun _=>rfl) σ.tmps x
theorem anF (hE:aR E)(hG:OW E)(hT:jA P T.rows)(h:St E σ a w ν O){o:Oper}{r:cS}{t:TypeId}{v:Operand}(ho:o.op= .box t v)
  (he:(F0 T σ.av σ.sites o).val Φ σ=some r):mz P o a w (To E (bt σ o.dst r)):=by
 have hd:∀c,o.op≠ .defer c:=by rw[ho];intro c e;cases e
 have hv:=h.av hG v
 have hrun:(execOp a.eval o).run P w= .ok (.value (.pointer (some ⟨w.heap.size,0,none⟩))) (w.alloc (.cells (a.eval v).cells t)):=by
  simp[execOp,ho,Instr.box,newVar,Go.newRow]
 unfold F0 at he
 simp only[ho] at he
 split at he
 ·rename_i tr hr
  obtain⟨rfl,htr⟩:=hT t tr hr
  split at he
  ·rename_i q hq
   rw[rW] at he
   obtain⟨row,hrow,he⟩:=he
   rw[nN] at he
   split at he
   ·rename_i d R6
    split at he
    ·rename_i hbd
     rw[iF] at he
     subst he
     have s1:=h.freeze hE q
     have Zo:=s1.av hG v
     rw[MP hrow,hq] at Zo
     simp only[AV.vX,RV.vX,beq_refl,cond_true] at Zo
     have hb1:look (σ.freeze q).boxes d=none:=by
      have:=Qv (σ:=σ) q d
      rw[hbd] at this
      cases hl:look (σ.freeze q).boxes d with
      |none=>rfl
      |some x=>rw[hl] at this;cases this
     have s2:=s1.Cn hE (d:=d) (x:= .cells [⟨.slice row.t,row.xs⟩]) (o:= .cells (a.eval v).cells tr.id) hb1 (fun hV=>⟨w.heap.size,rfl,_,tr.id,heap_alloc_new w _,by
      have e2:(a.eval v).cells.toList=[a.eval v]:=by rw[I4 Zo]
      rw[e2];exact⟨cw.mono hV _ _ Zo,trivial⟩⟩)
     refine cN hd hrun ⟨R3 ν d (.pointer (some ⟨w.heap.size,0,none⟩)),O, ?_⟩
     simp only[bt,R6]
     refine s2.slot (x:= .box d 0) ⟨?_,w.heap.size,by simp only[R3,if_pos],rfl⟩
     show (look (put _ _ _) _).isSome=true
     rw[aQ,if_pos rfl];rfl
    ·cases he
   ·cases he
  ·rw[ph] at he
   obtain⟨vs,hvs,he⟩:=he
   rw[aM] at he
   obtain⟨hl,he⟩:=he
   have UP:=R5 hvs hv
   split at he
   ·rename_i k hk
    rw[gg] at he
    obtain⟨RZ,hh,he⟩:=he
    rw[aM,cG] at he
    obtain⟨hc,x,hx,he⟩:=he
    have e1:=(beq_iff _ _).1 hc
    obtain⟨us,n,rfl,ν',hs,hv⟩:=afj hE h (cur:=(a.eval v).cells) hh (Jd hx UP) he
    rw[e1] at hs hv
    exact cN hd hrun ⟨ν',O,hs.slot hv⟩
   ·obtain⟨b,us,rfl,ν',hs,hv⟩:=afk hE h (cur:=(a.eval v).cells) (e:=tr.id) UP he
    exact cN hd hrun ⟨ν',O,hs.slot (x:= .box b 0) hv⟩
 ·cases he
theorem aiS (hE:aR E)(hG:OW E)(hT:jA P T.rows)(h:St E σ a w ν O){o:Oper}{r:cS}{t:TypeId}{parts:Array (Nat×Operand)}(ho:o.op= .build t parts)
  (he:(F0 T σ.av σ.sites o).val Φ σ=some r):mz P o a w (To E (bt σ o.dst r)):=by
 have hd:∀c,o.op≠ .defer c:=by rw[ho];intro c e;cases e
 unfold F0 at he
 simp only[ho] at he
 cases hb:(List.map (fun x=>x.2) parts.toList).any fun x=>zO (σ.av x) with
 |true=>
  rw[hb,cond_true,nN,UN] at he
  obtain⟨y,he,rfl⟩:=he
  have s1:=h.ya hE (parts.toList.map (·.2))
  obtain⟨e1,v,h2,h3⟩:=Vq (P:=P) (w:=w) hT (s1.av hG) he
  exact cN hd (v:=v) (by simp[execOp,ho,h2]) ⟨ν,O,s1.slot h3⟩
 |false=>
  rw[hb,cond_false] at he
  obtain⟨e1,v,h2,h3⟩:=Vq (P:=P) (w:=w) hT (h.av hG) he
  exact cO hE hd h e1 (v:=v) (by simp[execOp,ho,h2]) h3
theorem abc (sy:∀x,au V σ ν Y (σ.av x) (a.eval x)):∀{xs:List Operand} {bj:List J2},mP (fun x=>match σ.av x with
   | .box b 0=>some (J2.box b)
   | .qB cs=>some (.qB cs)
   |_=>none) xs=some bj→aS (uz V σ ν) bj (xs.map a.eval)
 | [],bj,h=>by simp only[mP,Option.some.injEq] at h;subst h;trivial
 |x::xs,bj,h=>by
  simp only[mP] at h
  split at h
  ·rename_i y hy
   split at h
   ·rename_i l hl
    simp only[Option.some.injEq] at h
    subst h
    refine⟨?_,abc sy hl⟩
    have hx:=sy x
    split at hy
    ·rename_i b e;simp only[Option.some.injEq] at hy;subst hy;rw[e] at hx;exact hx
    ·rename_i cs e;simp only[Option.some.injEq] at hy;subst hy;rw[e] at hx;exact hx
    ·cases hy
   ·cases h
  ·cases h
theorem abd (hE:aR E)(hG:OW E)(h:St E σ a w ν O){o:Oper}{r:cS}{f:Fn}{first captured:Array Operand}(ho:o.op= .makeFunc f first captured)
  (he:(F0 T σ.av σ.sites o).val Φ σ=some r):mz P o a w (To E (bt σ o.dst r)):=by
 have hd:∀c,o.op≠ .defer c:=by rw[ho];intro c e;cases e
 unfold F0 at he
 simp only[ho] at he
 split at he<;>first | (rename_i e;cases e;done) |skip
 all_goals try (cases he;done)
 rename_i f' fst' cap' e
 cases e
 split at he
 ·rename_i hf
  have hf':first= #[]:=by cases first;simp at hf;subst hf;rfl
  subst hf'
  rw[ph] at he
  obtain⟨bj,hc,he⟩:=he
  rw[iB] at he
  subst he
  refine cO hE hd h rfl (v:= .func (.func f') #[] (captured.map a.eval)) (by simp[execOp,ho,Instr.makeFunc]) ⟨(captured.toList.map a.eval),(by rw[←Array.toList_map]),abc (h.av hG) hc⟩
 ·cases he
end
end Go.Abs
