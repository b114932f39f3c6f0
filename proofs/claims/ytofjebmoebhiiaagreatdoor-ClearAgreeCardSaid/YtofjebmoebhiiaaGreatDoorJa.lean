/- YtofjebmoebhiiaaGreatDoorJa: a part of the proof (AbsV, AbsE, AbsS ..). No condition. -/
import Derived.Laws.AppendOwn
import Derived.Laws.MakeOwn
import Derived.Below
import Derived.Orders
import Derived.Laws.StructEq
import Derived.Lib.ConvBytes
import Derived.Laws.BytesString
import Derived.RangeFuncLeaves
set_option linter.unusedVariables false
set_option linter.unusedSimpArgs false
set_option maxRecDepth 100000
set_option exponentiation.threshold 2000
namespace Go.Abs
inductive Ty where
 |int (k:IntKind) |bool |str |slice (t:Ty) |unit |pair (a b:Ty) |st (t:Ty) |ref (h:Nat) |ptr (h:Nat) |qG (t:Ty) |mp (h:Nat) |fn
 deriving DecidableEq
@[reducible] def Ty.den:Ty→Type
  | .int _=>Int
  | .bool=>Bool
  | .str=>ByteArray
  | .slice t=>List t.den
  | .unit=>Unit
  | .pair a b=>a.den×b.den
  | .st t=>t.den
  | .ref _=>Nat
  | .ptr _=>Nat
  | .qG t=>Option (List t.den)
  | .mp _=>Nat
  | .fn=>Nat
def Ty.size:Ty→Nat
 | .unit=>0
 | .pair a b=>a.size+b.size
 | .st t=>t.size
 |_=>1
def Ty.leaf:Ty→Bool
 | .unit | .pair .. | .st _=>false
 |_=>true
def Ty.zero:(t:Ty)→t.den
 | .int _=>(0:Int)
 | .bool=>false
 | .str=>ByteArray.empty
 | .slice t=>([]:List t.den)
 | .unit=>()
 | .pair a b=>(a.zero,b.zero)
 | .st t=>t.zero
 | .ref _=>(0:Nat)
 | .ptr _=>(0:Nat)
 | .qG t=>(none:Option (List t.den))
 | .mp _=>(0:Nat)
 | .fn=>(0:Nat)
def aF {α β:Type}(R:α→β→Prop):List α→List β→Prop
 | [],[]=>True
 |x::xs,y::ys=>R x y∧aF R xs ys
 |_,_=>False
section
variable {α β γ:Type}{R S:α→β→Prop}
theorem aF.length:∀{xs:List α} {ys:List β},aF R xs ys→xs.length=ys.length
 | [],[],_=>rfl
 |_::_,_::_,h=>by simp[aF.length h.2]
 | [],_::_,h=>h.elim
 |_::_,[],h=>h.elim
theorem aF.mono (hRS:∀x y,R x y→S x y):∀{xs:List α} {ys:List β},aF R xs ys→aF S xs ys
 | [],[],_=>trivial
 |_::_,_::_,h=>⟨hRS _ _ h.1,aF.mono hRS h.2⟩
 | [],_::_,h=>h.elim
 |_::_,[],h=>h.elim
theorem aF.get:∀{xs:List α} {ys:List β},aF R xs ys→∀(i:Nat) x,xs[i]? =some x→∃y,ys[i]? =some y∧R x y
 | [],[],_,i,x,h=>by simp at h
 |a::as,b::bs,h,0,x,hx=>⟨b,by simp,by simp at hx;subst hx;exact h.1⟩
 |a::as,b::bs,h,i+1,x,hx=>by obtain⟨y,hy,hr⟩:=aF.get h.2 i x (by simpa using hx);exact⟨y,by simpa using hy,hr⟩
 | [],_::_,h,_,_,_=>h.elim
 |_::_,[],h,_,_,_=>h.elim
theorem aF.get':∀{xs:List α} {ys:List β},aF R xs ys→∀(i:Nat) y,ys[i]? =some y→∃x,xs[i]? =some x∧R x y
 | [],[],_,i,x,h=>by simp at h
 |a::as,b::bs,h,0,y,hy=>⟨a,by simp,by simp at hy;subst hy;exact h.1⟩
 |a::as,b::bs,h,i+1,y,hy=>by obtain⟨x,hx,hr⟩:=aF.get' h.2 i y (by simpa using hy);exact⟨x,by simpa using hx,hr⟩
 | [],_::_,h,_,_,_=>h.elim
 |_::_,[],h,_,_,_=>h.elim
theorem aF.append:∀{xs:List α} {ys:List β} {xs':List α} {ys':List β},aF R xs ys→aF R xs' ys'→aF R (xs++xs') (ys++ys')
 | [],[],_,_,_,h=>h
 |_::_,_::_,_,_,h,h'=>⟨h.1,aF.append h.2 h'⟩
 | [],_::_,_,_,h,_=>h.elim
 |_::_,[],_,_,h,_=>h.elim
theorem aF.split:∀{xs xs':List α} {zs:List β},aF R (xs++xs') zs→∃ys ys',zs=ys++ys'∧aF R xs ys∧aF R xs' ys'
 | [],xs',zs,h=>⟨[],zs,rfl,trivial,h⟩
 |x::xs,xs',z::zs,h=>by obtain⟨ys,ys',rfl,h1,h2⟩:=aF.split (xs:=xs) h.2;exact⟨z::ys,ys',rfl,⟨h.1,h1⟩,h2⟩
 |x::xs,xs',[],h=>h.elim
theorem aF.set:∀{xs:List α} {ys:List β} {i:Nat} {x:α} {y:β},aF R xs ys→R x y→aF R (xs.set i x) (ys.set i y)
 | [],[],i,x,y,_,_=>trivial
 |_::_,_::_,0,x,y,h,hr=>⟨hr,h.2⟩
 |_::_,_::_,i+1,x,y,h,hr=>⟨h.1,aF.set h.2 hr⟩
 | [],_::_,_,_,_,h,_=>h.elim
 |_::_,[],_,_,_,h,_=>h.elim
theorem aF.drop:∀{xs:List α} {ys:List β} (i:Nat),aF R xs ys→aF R (xs.drop i) (ys.drop i)
 |xs,ys,0,h=>h
 | [],[],i+1,h=>trivial
 |_::_,_::_,i+1,h=>aF.drop i h.2
 | [],_::_,_,h=>h.elim
 |_::_,[],_,h=>h.elim
theorem aF.take:∀{xs:List α} {ys:List β} (i:Nat),aF R xs ys→aF R (xs.take i) (ys.take i)
 | [],[],0,h=>trivial
 |_::_,_::_,0,h=>trivial
 | [],[],i+1,h=>trivial
 |_::_,_::_,i+1,h=>⟨h.1,aF.take i h.2⟩
 | [],_::_,_,h=>h.elim
 |_::_,[],_,h=>h.elim
theorem aF.replicate {x:α}{y:β}(h:R x y):∀n,aF R (List.replicate n x) (List.replicate n y)
 |0=>trivial
 |n+1=>⟨h,aF.replicate h n⟩
end
inductive Key where
 |cell (a:Addr) |ref (h n:Nat)
instance:Coe Addr Key:=⟨Key.cell⟩
abbrev View:=Key→Value→Prop
def aij (v:Value):Prop:=∃a n c,v= .slice (some a) n c
def an5 (v:Value):Prop:=∃a,v= .pointer (some a)
def aqd (v:Value):Prop:=∃a,v= .map (some a)
def fnV:Nat→Value
 |0=> .nilFunc
 |f+1=> .func (.func f) #[] #[]
def Rel (V:View):(t:Ty)→t.den→List Value→Prop
 | .int k,x,cs=>cs=[.int k x]
 | .bool,x,cs=>cs=[.bool x]
 | .str,x,cs=>cs=[.string x]
 | .slice t,xs,cs=>∃(A:Option Addr) (c:Nat) (bG:List (List Value)),cs=[.slice A (List.length xs) c]∧List.length xs≤c∧aF (Rel V t) xs bG∧
   (A=none→c=0)∧∀j u,bG.flatten[j]? =some u→∃ad,A=some ad∧V (ad.add j) u
 | .unit,_,cs=>cs=[]
 | .pair a b,x,cs=>∃c1 c2,cs=c1++c2∧Rel V a x.1 c1∧Rel V b x.2 c2
 | .st t,x,cs=>Rel V t x cs
 | .ref h,n,cs=>match (n:Nat) with
   |0=>cs=[.slice none 0 0]
   |m+1=>∃v,cs=[v]∧aij v∧V (.ref h (m+1)) v
 | .ptr h,n,cs=>match (n:Nat) with
   |0=>cs=[.pointer none]
   |m+1=>∃v,cs=[v]∧an5 v∧V (.ref h (m+1)) v
 | .qG t,xs,cs=>match xs with
   |none=>cs=[.slice none 0 0]
   |some xs=>∃(ad:Addr) (c:Nat) (bG:List (List Value)),cs=[.slice (some ad) (List.length xs) c]∧List.length xs≤c∧aF (Rel V t) xs bG∧
    ∀j u,bG.flatten[j]? =some u→V (ad.add j) u
 | .mp h,n,cs=>match (n:Nat) with
   |0=>cs=[.map none]
   |m+1=>∃v,cs=[v]∧aqd v∧V (.ref h (m+1)) v
 | .fn,f,cs=>cs=[fnV f]
theorem Rel.mono {V V':View}(h:∀a v,V a v→V' a v):∀(t:Ty) (x:t.den) (cs:List Value),Rel V t x cs→Rel V' t x cs
 | .int k,x,cs,hr=>hr
 | .bool,x,cs,hr=>hr
 | .str,x,cs,hr=>hr
 | .slice t,xs,cs,⟨A,c,bG,h1,h2,h3,h5,h4⟩=>⟨A,c,bG,h1,h2,h3.mono (Rel.mono h t),h5,fun j u hj=>let ⟨ad,e,hv⟩:=h4 j u hj;⟨ad,e,h _ _ hv⟩⟩
 | .unit,_,cs,hr=>hr
 | .pair a b,x,cs,⟨c1,c2,e,h1,h2⟩=>⟨c1,c2,e,Rel.mono h a _ _ h1,Rel.mono h b _ _ h2⟩
 | .st t,x,cs,hr=>Rel.mono h t x cs hr
 | .ref _,0,_,hr=>hr
 | .ref _,_+1,_,⟨v,e,hs,hv⟩=>⟨v,e,hs,h _ _ hv⟩
 | .ptr _,0,_,hr=>hr
 | .ptr _,_+1,_,⟨v,e,hs,hv⟩=>⟨v,e,hs,h _ _ hv⟩
 | .mp _,0,_,hr=>hr
 | .mp _,_+1,_,⟨v,e,hs,hv⟩=>⟨v,e,hs,h _ _ hv⟩
 | .fn,_,_,hr=>hr
 | .qG t,none,cs,hr=>hr
 | .qG t,some xs,cs,⟨ad,c,bG,h1,h2,h3,h4⟩=>⟨ad,c,bG,h1,h2,h3.mono (Rel.mono h t),fun j u hj=>h _ _ (h4 j u hj)⟩
theorem Rel.length {V:View}:∀{t:Ty} {x:t.den} {cs:List Value},Rel V t x cs→cs.length=t.size
 | .int k,x,cs,hr=>by have:cs=_:=hr;subst this;rfl
 | .bool,x,cs,hr=>by have:cs=_:=hr;subst this;rfl
 | .str,x,cs,hr=>by have:cs=_:=hr;subst this;rfl
 | .slice t,xs,cs,⟨A,c,bG,h1,_⟩=>by subst h1;rfl
 | .unit,_,cs,hr=>by have:cs=_:=hr;subst this;rfl
 | .pair a b,x,cs,⟨c1,c2,e,h1,h2⟩=>by subst e;simp[Ty.size,Rel.length h1,Rel.length h2]
 | .st t,x,cs,hr=>Rel.length (t:=t) hr
 | .ref _,0,cs,hr=>by have:cs=_:=hr;subst this;rfl
 | .ref _,_+1,_,⟨v,e,_⟩=>by subst e;rfl
 | .ptr _,0,cs,hr=>by have:cs=_:=hr;subst this;rfl
 | .ptr _,_+1,_,⟨v,e,_⟩=>by subst e;rfl
 | .mp _,0,cs,hr=>by have:cs=_:=hr;subst this;rfl
 | .mp _,_+1,_,⟨v,e,_⟩=>by subst e;rfl
 | .fn,_,cs,hr=>by have:cs=_:=hr;subst this;rfl
 | .qG t,none,cs,hr=>by have:cs=_:=hr;subst this;rfl
 | .qG t,some xs,cs,⟨ad,c,bG,h1,_⟩=>by subst h1;rfl
abbrev CV:=(t:Ty)×t.den
def cg (V:View)(c:CV)(v:Value):Prop:=Rel V c.1 c.2 [v]
theorem cg.mono {V V':View}(h:∀a v,V a v→V' a v)(c:CV)(v:Value)(hr:cg V c v):cg V' c v:=Rel.mono h _ _ _ hr
def flat:(t:Ty)→t.den→List CV
 | .unit,_=>[]
 | .pair a b,x=>flat a x.1++flat b x.2
 | .st t,x=>flat t x
 | .int k,x=>[⟨.int k,x⟩]
 | .bool,x=>[⟨.bool,x⟩]
 | .str,x=>[⟨.str,x⟩]
 | .slice t,x=>[⟨.slice t,x⟩]
 | .ref h,x=>[⟨.ref h,x⟩]
 | .ptr h,x=>[⟨.ptr h,x⟩]
 | .qG t,x=>[⟨.qG t,x⟩]
 | .mp h,x=>[⟨.mp h,x⟩]
 | .fn,x=>[⟨.fn,x⟩]
theorem jK {V:View}:∀{t:Ty} {x:t.den} {cs:List Value},Rel V t x cs→aF (cg V) (flat t x) cs
 | .int k,x,cs,hr=>by have:cs=_:=hr;subst this;exact⟨hr,trivial⟩
 | .bool,x,cs,hr=>by have:cs=_:=hr;subst this;exact⟨hr,trivial⟩
 | .str,x,cs,hr=>by have:cs=_:=hr;subst this;exact⟨hr,trivial⟩
 | .slice t,xs,cs,hr=>by have h':=hr;obtain⟨A,c,bG,h1,_⟩:=h';subst h1;exact⟨hr,trivial⟩
 | .unit,_,cs,hr=>by have:cs=_:=hr;subst this;trivial
 | .pair a b,x,cs,⟨c1,c2,e,h1,h2⟩=>by subst e;exact aF.append (jK h1) (jK h2)
 | .st t,x,cs,hr=>jK (t:=t) hr
 | .ref _,0,cs,hr=>by have:cs=_:=hr;subst this;exact⟨hr,trivial⟩
 | .ref _,_+1,_,⟨v,e,hv⟩=>by subst e;exact⟨⟨v,rfl,hv⟩,trivial⟩
 | .ptr _,0,cs,hr=>by have:cs=_:=hr;subst this;exact⟨hr,trivial⟩
 | .ptr _,_+1,_,⟨v,e,hv⟩=>by subst e;exact⟨⟨v,rfl,hv⟩,trivial⟩
 | .mp _,0,cs,hr=>by have:cs=_:=hr;subst this;exact⟨hr,trivial⟩
 | .mp _,_+1,_,⟨v,e,hv⟩=>by subst e;exact⟨⟨v,rfl,hv⟩,trivial⟩
 | .fn,x,cs,hr=>by have:cs=_:=hr;subst this;exact⟨hr,trivial⟩
 | .qG t,none,cs,hr=>by have:cs=_:=hr;subst this;exact⟨hr,trivial⟩
 | .qG t,some xs,cs,hr=>by have h':=hr;obtain⟨ad,c,bG,h1,_⟩:=h';subst h1;exact⟨hr,trivial⟩
theorem jL {V:View}:∀{t:Ty} {x:t.den} {cs:List Value},aF (cg V) (flat t x) cs→Rel V t x cs
 | .int k,x,[v],h=>h.1
 | .bool,x,[v],h=>h.1
 | .str,x,[v],h=>h.1
 | .slice t,xs,[v],h=>h.1
 | .ref _,_,[v],h=>h.1
 | .ptr _,_,[v],h=>h.1
 | .qG _,_,[v],h=>h.1
 | .mp _,_,[v],h=>h.1
 | .fn,_,[v],h=>h.1
 | .qG _,_,[],h=>h.elim
 | .mp _,_,[],h=>h.elim
 | .fn,_,[],h=>h.elim
 | .qG _,_,_::_::_,h=>h.2.elim
 | .mp _,_,_::_::_,h=>h.2.elim
 | .fn,_,_::_::_,h=>h.2.elim
 | .ref _,_,[],h=>h.elim
 | .ptr _,_,[],h=>h.elim
 | .ref _,_,_::_::_,h=>h.2.elim
 | .ptr _,_,_::_::_,h=>h.2.elim
 | .int k,x,[],h=>h.elim
 | .bool,x,[],h=>h.elim
 | .str,x,[],h=>h.elim
 | .slice t,xs,[],h=>h.elim
 | .int k,x,_::_::_,h=>h.2.elim
 | .bool,x,_::_::_,h=>h.2.elim
 | .str,x,_::_::_,h=>h.2.elim
 | .slice t,xs,_::_::_,h=>h.2.elim
 | .unit,_,[],h=>rfl
 | .unit,_,_::_,h=>h.elim
 | .pair a b,x,cs,h=>by obtain⟨c1,c2,rfl,h1,h2⟩:=aF.split (xs:=flat a x.1) h;exact⟨c1,c2,rfl,jL h1,jL h2⟩
 | .st t,x,cs,h=>jL (t:=t) h
def dv (t:Ty):List CV→Option (t.den×List CV)
 | ⟨t',x⟩::r=>if h:t'=t then some (h ▸ x,r) else none
 | []=>none
def NO:(t:Ty)→List CV→Option (t.den×List CV)
 | .unit,l=>some ((),l)
 | .pair a b,l=>match NO a l with
   |some (x,l')=>match NO b l' with
    |some (y,l'')=>some ((x,y),l'')
    |none=>none
   |none=>none
 | .st t,l=>NO t l
 | .int k,l=>dv (.int k) l
 | .bool,l=>dv .bool l
 | .str,l=>dv .str l
 | .slice t,l=>dv (.slice t) l
 | .ref h,l=>dv (.ref h) l
 | .ptr h,l=>dv (.ptr h) l
 | .qG t,l=>dv (.qG t) l
 | .mp h,l=>dv (.mp h) l
 | .fn,l=>dv .fn l
theorem cq {t:Ty}{l:List CV}{x:t.den}{r:List CV}(h:dv t l=some (x,r)):l=⟨t,x⟩::r:=by
 cases l with
 |nil=>simp[dv] at h
 |cons c l=>
  obtain⟨t',y⟩:=c;simp only[dv] at h;split at h
  ·rename_i e;subst e;simp only[Option.some.injEq,Prod.mk.injEq] at h;obtain⟨rfl,rfl⟩:=h;rfl
  ·simp at h
theorem LM:∀{t:Ty} {l:List CV} {x:t.den} {r:List CV},NO t l=some (x,r)→l=flat t x++r
 | .unit,l,x,r,h=>by simp[NO] at h;simp[flat,h]
 | .pair a b,l,x,r,h=>by
   simp only[NO] at h;split at h
   ·rename_i y l' h1;split at h
    ·rename_i z l'' h2;simp only[Option.some.injEq,Prod.mk.injEq] at h;obtain⟨rfl,rfl⟩:=h;rw[LM h1,LM h2];simp[flat]
    ·simp at h
   ·simp at h
 | .st t,l,x,r,h=>LM (t:=t) h
 | .int k,l,x,r,h=>cq h
 | .bool,l,x,r,h=>cq h
 | .str,l,x,r,h=>cq h
 | .slice t,l,x,r,h=>cq h
 | .ref _,l,x,r,h=>cq h
 | .ptr _,l,x,r,h=>cq h
 | .qG _,l,x,r,h=>cq h
 | .mp _,l,x,r,h=>cq h
 | .fn,l,x,r,h=>cq h
def CE (t:Ty)(l:List CV):Option t.den:=
 match NO t l with
 |some (x,[])=>some x
 |_=>none
theorem rT {t:Ty}{l:List CV}{x:t.den}(h:CE t l=some x):l=flat t x:=by
 unfold CE at h;split at h
 ·rename_i y h1;simp only[Option.some.injEq] at h;subst h;simpa using LM h1
 ·simp at h
def wrap (t:Ty)(cs:List Value):Value:=match t with
 | .st _=> .agg cs.toArray
 |_=>cs.headD undef
theorem T8 {V:View}{c:CV}{v:Value}(h:cg V c v):v.oneCell'=true:=by
 obtain⟨t,x⟩:=c;unfold cg at h;induction t with
 |int k=>have: [v]=_:=h;simp at this;subst this;rfl
 |bool=>have: [v]=_:=h;simp at this;subst this;rfl
 |str=>have: [v]=_:=h;simp at this;subst this;rfl
 |slice t ih=>obtain⟨A,c,bG,h1,_⟩:=h;simp at h1;subst h1;rfl
 |unit=>have: [v]=_:=h;simp at this
 |pair a b iha Yz=>
  obtain⟨c1,c2,e,h1,h2⟩:=h;cases c1 with
  |nil=>simp at e;subst e;exact Yz _ h2
  |cons y ys=>simp at e;obtain⟨rfl,h3⟩:=e;obtain⟨rfl,rfl⟩:=h3;exact iha _ h1
 |st t ih=>exact ih x h
 |ref _=>
  cases x with
  |zero=>have: [v]=_:=h;simp at this;subst this;rfl
  |succ m=>obtain⟨u,e,hs,_⟩:=h;simp at e;subst e;obtain⟨a,n,c,rfl⟩:=hs;rfl
 |ptr _=>
  cases x with
  |zero=>have: [v]=_:=h;simp at this;subst this;rfl
  |succ m=>obtain⟨u,e,hs,_⟩:=h;simp at e;subst e;obtain⟨a,rfl⟩:=hs;rfl
 |mp _=>
  cases x with
  |zero=>have: [v]=_:=h;simp at this;subst this;rfl
  |succ m=>obtain⟨u,e,hs,_⟩:=h;simp at e;subst e;obtain⟨a,rfl⟩:=hs;rfl
 |fn=>have: [v]=_:=h;simp at this;subst this;cases x<;>rfl
 |qG t ih=>
  cases x with
  |none=>have: [v]=_:=h;simp at this;subst this;rfl
  |some xs=>obtain⟨ad,c,bG,h1,_⟩:=h;simp at h1;subst h1;rfl
theorem HM {V:View}{c:CV}{v:Value}(h:cg V c v):v.cells= #[v]:=by have:=T8 h;cases v<;>first |rfl | (simp[Value.oneCell'] at this)
structure Row where
 e:TypeId
 t:Ty
 xs:List t.den
inductive BX where
 |cells (l:List CV) |own (r:Nat) |nil
inductive I5 where
 |box (b:Nat) |qA (cs:List CV)
inductive RV where
 |cv (c:CV) |agg (cs:List CV) |own (r:Nat)
inductive AV where
 |rv (x:RV)
 |lit (v:Value)
 |box (b off:Nat)
 |Pj (r sz i off:Nat)
 |qA (cs:List CV)
 |hel (h n i off:Nat)
 |fn (f:FuncId) (aX:List I5)
 |Na
 |tup (l:List RV)
 |nil
structure gh where
 n:Nat
 l:List (Nat×AV)
 s:List (Nat×AV)
structure aQ where
 e:TypeId
 t:Ty
 k:Nat
 w:Bool
 xs:List (Option (List t.den))
@[reducible] def kL:List Ty→Ty
  | []=> .unit
  |t::ts=> .pair t (kL ts)
structure Rng where
 ts:List Ty
 xs:List (kL ts).den
inductive Site where
 |qG |heap (h:Nat) |vid (v:Nat)
structure AS where
 tmps:gh
 rows:List (Nat×Row)
 boxes:List (Nat×BX)
 af:List aQ
 trace:CV
 cR:List Rng
 sites:List (Nat×Site)
structure gZ where
 id:TypeId
 ty:Ty
 bytes:Nat
 elem:TypeId
 rU:List (Nat×Nat)
 arr:Bool
@[reducible] def tw:List Ty→Type
  | []=>Unit
  | [a]=>a.den
  |a::b::r=>a.den×tw (b::r)
inductive ph where
 |v (t:Ty) |fn (f:FuncId) (ts:List Ty) |c (l:List CV) |rp (t:Ty) |bx (t:Ty) |Na
@[reducible] def ph.den:ph→Type
  | .v t=>t.den
  | .fn _ ts=>tw ts
  | .c _=>Unit
  | .rp t=>t.den
  | .bx t=>t.den
  | .Na=>Unit
@[reducible] def HN:List ph→Type
  | []=>Unit
  | [a]=>a.den
  |a::b::r=>a.den×HN (b::r)
abbrev NP:=Ty×Option TypeId
structure JZ where
 args:List ph
 res:List NP
 clo:Option (FuncId×List Ty)
 af:List (Nat×Bool)
 gen:Option (List Ty)
@[reducible] def NQ (s:JZ):Type:=match s.gen with
  |some ts=>List (kL ts).den
  |none=>match s.clo with
   |some (_,ts)=>tw ts
   |none=>tw (s.res.map (·.1))
structure HT where
 e:TypeId
 t:Ty
 k:Nat
structure dc where
 rows:List gZ
 af:List HT
 real:Nat→FuncId
 sig:Nat→JZ
 alF:FuncId→List Nat
 hint:Nat→List (List (Nat×Bool))
 sites:Nat→List (Nat×Site)
 ano:List (Nat×AV)
 eqs:List TypeId
def km:List gZ→TypeId→Option gZ
 | [],_=>none
 |r::rs,t=>bif Nat.beq r.id t then some r else km rs t
def dc.ht (T:dc)(h:Nat):HT:=(T.af[h]?).getD ⟨0, .unit,0⟩
@[reducible] def HX (T:dc)(h:Nat):Type:=List (Option (List (T.ht h).t.den))
@[reducible] def FZ (T:dc):List Nat→Type
  | []=>Unit
  | [h]=>HX T h
  |h::i::r=>HX T h×FZ T (i::r)
@[reducible] def Pk (T:dc)(A:Type):List Nat→Type
  | []=>A
  |h::r=>A×FZ T (h::r)
@[reducible] def JZ.hin (s:JZ):List Nat:=s.af.map (·.1)
@[reducible] def JZ.hout (s:JZ):List Nat:=(s.af.filter (·.2)).map (·.1)
@[reducible] def CS (T:dc)(v:Nat):Type:=Pk T (HN (T.sig v).args) (T.sig v).hin
@[reducible] def wN (T:dc)(v:Nat):Type:=Pk T (NQ (T.sig v)) (T.sig v).hout
abbrev cj (T:dc):=(v:Nat)→CS T v→Option (wN T v)
def J2 {T:dc}{A:Type}(x:A):(hs:List Nat)→Option (FZ T hs)→Option (Pk T A hs)
 | [],_=>some x
 |_::_,some h=>some (x,h)
 |_::_,none=>none
def wJ {T:dc}{A:Type}:(hs:List Nat)→Pk T A hs→A
 | [],x=>x
 |_::_,x=>x.1
def F0 {T:dc}{A:Type}:(hs:List Nat)→Pk T A hs→FZ T hs
 | [],x=>()
 |_::_,x=>x.2
def Sd {s t:Ty}(h:s=t)(xs:List (Option (List s.den))):List (Option (List t.den)):=h ▸ xs
def aez (T:dc)(af:List aQ)(h:Nat):Option (HX T h):=match af[h]? with
 |some r=>if e:r.t=(T.ht h).t then some (Sd e r.xs) else none
 |none=>none
def NR (T:dc)(af:List aQ):(hs:List Nat)→Option (FZ T hs)
 | []=>some ()
 | [h]=>aez T af h
 |h::i::r=>match aez T af h with
  |some x=>match NR T af (i::r) with
   |some y=>some (x,y)
   |none=>none
  |none=>none
def uh (T:dc)(w:Bool)(af:List aQ)(h:Nat)(x:HX T h):List aQ:=af.set h ⟨(T.ht h).e,(T.ht h).t,(T.ht h).k,w,x⟩
def rR (T:dc)(wr:List Nat):(hs:List Nat)→FZ T hs→List aQ→List aQ
 | [],_,af=>af
 | [h],x,af=>uh T (wr.any (Nat.beq h)) af h x
 |h::i::r,x,af=>rR T wr (i::r) x.2 (uh T (wr.any (Nat.beq h)) af h x.1)
def c8 (T:dc):List aQ:=T.af.map fun h=>⟨h.e,h.t,h.k,true,[]⟩
def look {α:Type}:List (Nat×α)→Nat→Option α
 | [],_=>none
 | (k,v)::r,j=>bif Nat.beq k j then some v else look r j
def put {α:Type}:List (Nat×α)→Nat→α→List (Nat×α)
 | [],j,v=>[(j,v)]
 | (k,u)::r,j,v=>bif Nat.blt j k then (j,v)::(k,u)::r else bif Nat.beq k j then (j,v)::r else (k,u)::put r j v
def del {α:Type}:List (Nat×α)→Nat→List (Nat×α)
 | [],_=>[]
 | (k,u)::r,j=>bif Nat.beq k j then del r j else (k,u)::del r j
def NS {α:Type}:List (Nat×α)→Nat→α→List (Nat×α)
 | [],j,v=>[(j,v)]
 | (k,u)::r,j,v=>bif Nat.blt k j then (j,v)::(k,u)::r else bif Nat.beq k j then (j,v)::r else (k,u)::NS r j v
def alG {α:Type}:List (Nat×α)→Nat→α→List (Nat×α)
 | [],_,_=>[]
 | (k,u)::r,j,v=>bif Nat.beq k j then (k,v)::r else (k,u)::alG r j v
def ag {α:Type}(xs:List (Option (List α))):Nat→Option (List α)
 |0=>some []
 |m+1=>match xs[m]? with
  |some o=>o
  |none=>none
def ef {α:Type}(xs:List (Option (List α))):Nat→List α→List (Option (List α))
 |0,_=>xs
 |m+1,l=>xs.set m (some l)
def cw {α:Type}(xs:List (Option (List α))):Nat→List (Option (List α))
 |0=>xs
 |m+1=>xs.set m none
def hk (h:Nat):Nat:=4*(1000000000+h)
def gk (g:Nat):Nat:=1000000000+g
def nth (s:gh)(i:Nat):AV:=
 match look s.l i with
 |some x=>x
 |none=> .nil
def ED (s:gh)(i:Nat)(v:AV):gh:=bif Nat.blt i s.n then ⟨s.n,NS s.l i v,s.s⟩ else s
def Wr (f:AV→AV)(l:List (Nat×AV)):List (Nat×AV):=l.map fun p=>(p.1,f p.2)
def gh.map (f:AV→AV)(s:gh):gh:=⟨s.n,Wr f s.l,Wr f s.s⟩
def aik {α:Type}:Nat→List α→List (Nat×α)→List (Nat×α)
 |_,[],acc=>acc
 |i,x::r,acc=>aik (i+1) r ((i,x)::acc)
def gh.of (l:List AV)(m:Nat)(s:List (Nat×AV)):gh:=⟨l.length+m,aik 0 l [],s⟩
def ofConst:Value→AV
 | .int k n=> .rv (.cv ⟨.int k,n⟩)
 | .bool b=> .rv (.cv ⟨.bool,b⟩)
 | .string s=> .rv (.cv ⟨.str,s⟩)
 |v=> .lit v
def gh.av (s:gh):Operand→AV
 | .tmp t=>nth s t
 | .const v=>ofConst v
 | .func f=> .fn f []
 | .global g=>match look s.s (gk g) with
   |some x=>x
   |none=> .nil
abbrev AS.av (σ:AS)(x:Operand):AV:=σ.tmps.av x
def AS.jX (σ:AS)(d:Option Tmp)(v:AV):AS:=
 match d with
 |some d=>{σ with tmps:=ED σ.tmps d v}
 |none=>σ
def idx {α:Type}(xs:List α)(i:Int):Option α:=
 match i with
 | .ofNat n=>xs[n]?
 | .negSucc _=>none
def Bi (s:ByteArray)(i:Int):Option Int:=
 match i with
 | .ofNat n=>s[n]?.map fun b=>(b.toNat:Int)
 | .negSucc _=>none
def dW (n:Nat)(l h:Int):Bool:=decide (0≤l)&&decide (l≤h)&&decide (h≤n)
def cut {α:Type}(xs:List α)(l h:Int):List α:=(xs.take h.toNat).drop l.toNat
def bytesOf (s:ByteArray):List Int:=s.data.toList.map fun b=>(b.toNat:Int)
def strOf (xs:List Int):ByteArray:=⟨(xs.map fun n=>UInt8.ofNat n.toNat).toArray⟩
def de:(t:Ty)→List Value→Option (List CV×List Value)
 | .unit,l=>some ([],l)
 | .pair a b,l=>match de a l with
   |some (x,l')=>match de b l' with
    |some (y,l'')=>some (x++y,l'')
    |none=>none
   |none=>none
 | .st t,l=>de t l
 | .int k, .int k' n::l=>if k=k' then some ([⟨.int k,n⟩],l) else none
 | .bool, .bool b::l=>some ([⟨.bool,b⟩],l)
 | .str, .string s::l=>some ([⟨.str,s⟩],l)
 | .slice t, .slice none 0 0::l=>some ([⟨.slice t,([]:List t.den)⟩],l)
 | .ref h, .slice none 0 0::l=>some ([⟨.ref h,(0:Nat)⟩],l)
 | .ptr h, .pointer none::l=>some ([⟨.ptr h,(0:Nat)⟩],l)
 | .mp h, .map none::l=>some ([⟨.mp h,(0:Nat)⟩],l)
 | .qG t, .slice none 0 0::l=>some ([⟨.qG t,(none:Option (List t.den))⟩],l)
 | .fn, .nilFunc::l=>some ([⟨.fn,(0:Nat)⟩],l)
 |_,_=>none
def cells (t:Ty):AV→Option (List CV)
 | .rv (.cv c)=>some [c]
 | .rv (.agg cs)=>some cs
 | .lit v=>match de t v.cells.toList with
   |some (cs,[])=>some cs
   |_=>none
 |_=>none
def lst {α:Type}:Option (List α)→List α
 |some xs=>xs
 |none=>[]
def mO {α β:Type}(f:α→Option β):List α→Option (List β)
 | []=>some []
 |x::r=>match f x with
  |some y=>match mO f r with
   |some l=>some (y::l)
   |none=>none
  |none=>none
def HO (af:List aQ)(t:Ty)(f:(u:Ty)→u.den→Option t.den):List CV→Option (List t.den×List CV)
 | ⟨.ref h,n⟩::l=>bif Nat.beq n 0 then some ([],l) else match af[h]? with
   |some hr=>(ag hr.xs n).bind fun ys=>(mO (f hr.t) ys).bind fun xs=>some (xs,l)
   |none=>none
 | ⟨.qG t',o⟩::l=>(dv (.slice t) [⟨.slice t',lst o⟩]).map fun p=>(p.1,l)
 |l=>dv (.slice t) l
def YA (t:Ty):List CV→Option (Option (List t.den)×List CV)
 | ⟨.slice t',xs⟩::l=>match (xs:List t'.den) with
   | []=>none
   |x::xs=>(dv (.qG t) [⟨.qG t',some (x::xs)⟩]).map fun p=>(p.1,l)
 |l=>dv (.qG t) l
def YB (h:Nat):List CV→Option (Nat×List CV)
 | ⟨.ref h',n⟩::l=>bif Nat.beq h h' then dv (.ref h) (⟨.ref h',n⟩::l) else bif Nat.beq n 0 then some (0,l) else none
 |l=>dv (.ref h) l
def snap (af:List aQ):(t:Ty)→List CV→Option (t.den×List CV)
 | .unit,l=>some ((),l)
 | .pair a b,l=>match snap af a l with
   |some (x,l')=>match snap af b l' with
    |some (y,l'')=>some ((x,y),l'')
    |none=>none
   |none=>none
 | .st t,l=>snap af t l
 | .slice t,l=>HO af t (fun u y=>match snap af t (flat u y) with
   |some (x,[])=>some x
   |_=>none) l
 | .qG t,l=>YA t l
 | .int k,l=>dv (.int k) l
 | .bool,l=>dv .bool l
 | .str,l=>dv .str l
 | .ref h,l=>YB h l
 | .ptr h,l=>dv (.ptr h) l
 | .mp h,l=>dv (.mp h) l
 | .fn,l=>dv .fn l
def wO (af:List aQ)(t:Ty)(l:List CV):Option t.den:=match snap af t l with
 |some (x,[])=>some x
 |_=>none
def typed (af:List aQ)(t:Ty)(a:AV):Option t.den:=
 match t,a with
 | .st t, .rv (.agg cs)=>wO af t cs
 | .st t, .lit (.agg vs)=>match de t vs.toList with
   |some (cs,[])=>CE t cs
   |_=>none
 | .st _,_=>none
 |t, .rv (.cv c)=>wO af t [c]
 |t, .lit v=>match de t [v] with
  |some ([c],[])=>(dv t [c]).map (·.1)
  |_=>none
 |_,_=>none
def YC (t:Ty):List CV:=flat t t.zero
def HP (cs:List CV)(off:Nat)(vs:List CV):List CV:=cs.take off++vs++cs.drop (off+vs.length)
def nW (t:Ty)(cs:List CV):Option AV:=
 match t with
 | .st t=>bif Nat.ble t.size cs.length then some (.rv (.agg (cs.take t.size))) else none
 |_=>match cs with
  |c::_=>some (.rv (.cv c))
  | []=>none
def RV.uX (r:Nat)(c:CV):RV→RV
 | .own r'=>bif Nat.beq r' r then .cv c else .own r'
 |x=>x
def AV.uX (r:Nat)(c:CV):AV→AV
 | .rv x=> .rv (x.uX r c)
 | .Pj r' sz i off=>bif Nat.beq r' r then .nil else .Pj r' sz i off
 | .tup l=> .tup (l.map (RV.uX r c))
 |x=>x
def BX.uX (r:Nat)(c:CV):BX→BX
 | .own r'=>bif Nat.beq r' r then .cells [c] else .own r'
 |x=>x
def J3 (f:BX→BX)(l:List (Nat×BX)):List (Nat×BX):=l.map fun p=>(p.1,f p.2)
def AS.freeze (σ:AS)(r:Nat):AS:=
 match look σ.rows r with
 |none=>σ
 |some row=>{σ with tmps:=σ.tmps.map (AV.uX r ⟨.slice row.t,row.xs⟩),rows:=del σ.rows r,boxes:=J3 (BX.uX r ⟨.slice row.t,row.xs⟩) σ.boxes}
def AS.frz (σ:AS)(x:Operand):AS:=
 match σ.av x with
 | .rv (.own r)=>σ.freeze r
 |_=>σ
def AS.wK (σ:AS):List Operand→AS
 | []=>σ
 |x::xs=>(σ.frz x).wK xs
def RV.ren (r d:Nat):RV→RV
 | .own r'=> .own (bif Nat.beq r' r then d else r')
 |x=>x
def AV.ren (r d:Nat):AV→AV
 | .rv x=> .rv (x.ren r d)
 | .Pj r' sz i off=> .Pj (bif Nat.beq r' r then d else r') sz i off
 | .tup l=> .tup (l.map (RV.ren r d))
 |x=>x
def BX.ren (r d:Nat):BX→BX
 | .own r'=> .own (bif Nat.beq r' r then d else r')
 |x=>x
def AS.rename (σ:AS)(r d:Nat):AS:=
 match look σ.rows r with
 |none=>σ
 |some row=>{σ with tmps:=σ.tmps.map (AV.ren r d),rows:=put (del σ.rows r) d row,boxes:=J3 (BX.ren r d) σ.boxes}
def RV.yv (r:Nat):RV→Bool
 | .own r'=>Nat.beq r r'
 |_=>false
def I5.aqe (b:Nat):I5→Bool
 | .box b'=>Nat.beq b b'
 |_=>false
def AV.gj (r:Nat):AV→Bool
 | .rv x=>x.yv r
 | .Pj r' _ _ _=>Nat.beq r r'
 | .tup l=>l.any (RV.yv r)
 |_=>false
def AV.mP (b:Nat):AV→Bool
 | .box b' _=>Nat.beq b b'
 | .fn _ aX=>aX.any (I5.aqe b)
 |_=>false
def BX.gj (r:Nat):BX→Bool
 | .own r'=>Nat.beq r r'
 |_=>false
def AV.bz (r:Nat)(x:AV):AV:=bif x.gj r then .nil else x
def AV.eV (b:Nat)(x:AV):AV:=bif x.mP b then .nil else x
def BX.bz (r:Nat)(x:BX):BX:=bif x.gj r then .nil else x
def AS.bz (σ:AS)(r:Nat):AS:={σ with tmps:=σ.tmps.map (AV.bz r),rows:=del σ.rows r,boxes:=J3 (BX.bz r) σ.boxes}
def AS.eV (σ:AS)(b:Nat):AS:={σ with tmps:=σ.tmps.map (AV.eV b),boxes:=del σ.boxes b}
def ail (l:List (Nat×AV))(h:List (Nat×Bool)):List (Nat×AV):=l.filter fun x=>h.any fun p=>Nat.beq p.1 x.1
def AS.share (σ:AS):List (Nat×Bool)→AS
 | []=>σ
 | (j,true)::h=>(σ.frz (.tmp j)).share h
 | (_,false)::h=>σ.share h
def AS.forget (QS:AS)(h:List (Nat×Bool)):AS:=
 let σ:=QS.share h
 let l:=ail σ.tmps.l h
 let bs:=σ.boxes.filter fun p=>l.any (fun q=>q.2.mP p.1)||σ.tmps.s.any fun q=>q.2.mP p.1
 {σ with tmps:=⟨σ.tmps.n,l,σ.tmps.s⟩,rows:=σ.rows.filter fun p=>(l.any fun q=>q.2.gj p.1)||(σ.tmps.s.any fun q=>q.2.gj p.1)||bs.any fun q=>q.2.gj p.1,boxes:=bs}
def AS.save (σ:AS):AS:={σ with tmps:=⟨σ.tmps.n,σ.tmps.l,(σ.tmps.l.map fun p=>(p.1+10000*σ.cR.length,p.2))++σ.tmps.s⟩}
def lN (d k:Nat):Bool:=Nat.ble (10000*d) k&&Nat.blt k (10000*(d+1))
def AS.back (σ:AS):AS:={σ with tmps:=⟨σ.tmps.n,(σ.tmps.s.filter fun p=>lN σ.cR.length p.1).map fun p=>(p.1 - 10000*σ.cR.length,p.2),σ.tmps.s⟩}
def AS.CT (σ:AS):AS:={σ with tmps:=⟨σ.tmps.n,σ.tmps.l,σ.tmps.s.filter fun p=> !(lN σ.cR.length p.1)⟩}
inductive nx where
 |M (rd wr:List Nat) |X
def nx.rd (k:Nat):nx→nx
 | .M r w=> .M (k::r) w
 | .X=> .X
inductive TU where
 |row (q:Nat) (r:Row)
 |J4 (q:Nat) (r:Row)
 |box (b:Nat) (x:BX)
 |heap (h:Nat) (r:aQ)
def TU.keys:TU→List Nat
 | .row q _=>[4*q,4*q+2]
 | .J4 q _=>[4*q]
 | .box b _=>[2*b+1]
 | .heap h _=>[hk h]
def AS.one (σ:AS):TU→AS
 | .row q r=>{σ with rows:=put σ.rows q r}
 | .J4 q r=>{σ with rows:=put σ.rows q r}
 | .box b x=>{σ with boxes:=put σ.boxes b x}
 | .heap h r=>{σ with af:=σ.af.set h r}
def AS.app (σ:AS):List TU→AS
 | []=>σ
 |u::us=>(σ.one u).app us
def aal (us:List TU):List Nat:=us.flatMap TU.keys
inductive Eff where
 |nu (us:List TU)
 |set (σ:AS)
inductive Q (T:dc) (α:Type):Type 1 where
 |ret (a:α)
 |fail
 |opt {β:Type} (o:Option β) (k:β→Q T α)
 |gr (b:Bool) (k:Q T α)
 |ite (b:Bool) (x y:Q T α)
 |row (q:Nat) (k:Row→Q T α)
 |len (q:Nat) (k:Nat→Q T α)
 |box (b:Nat) (k:BX→Q T α)
 |heap (h:Nat) (k:aQ→Q T α)
 |rH (q:Nat) (k:Q T α)
 |rI (b:Nat) (k:Q T α)
 |call (v:Nat) (x:CS T v) (k:wN T v→Q T α)
 |all (k:AS→Q T α)
 |on (σ:AS) (k:Q T α)
section
variable {R:Type}{T:dc}
def Q.run {α:Type}(Φ:cj T)(σ:AS):Q T α→nx→(nx→α→Option R)→Option R
 | .ret a,c,k=>k c a
 | .fail,_,_=>none
 | .opt o q,c,k=>o.bind fun y=>(q y).run Φ σ c k
 | .gr b q,c,k=>bif b then q.run Φ σ c k else none
 | .ite b x y,c,k=>bif b then x.run Φ σ c k else y.run Φ σ c k
 | .row r q,c,k=>match look σ.rows r with
   |some x=>(q x).run Φ σ (c.rd (4*r)) k
   |none=>none
 | .len r q,c,k=>match look σ.rows r with
   |some x=>(q (List.length x.xs)).run Φ σ (c.rd (4*r+2)) k
   |none=>none
 | .box b q,c,k=>match look σ.boxes b with
   |some x=>(q x).run Φ σ (c.rd (2*b+1)) k
   |none=>none
 | .heap h q,c,k=>match σ.af[h]? with
   |some x=>(q x).run Φ σ (c.rd (hk h)) k
   |none=>none
 | .rH r q,c,k=>match look σ.rows r with
   |none=>q.run Φ σ (c.rd (4*r)) k
   |some _=>none
 | .rI b q,c,k=>match look σ.boxes b with
   |none=>q.run Φ σ (c.rd (2*b+1)) k
   |some _=>none
 | .call v x q,c,k=>(Φ v x).bind fun y=>(q y).run Φ σ c k
 | .all q,_,k=>(q σ).run Φ σ .X k
 | .on ah q,_,k=>q.run Φ ah .X k
def Q.map {α β:Type}(f:α→β):Q T α→Q T β
 | .ret a=> .ret (f a)
 | .fail=> .fail
 | .opt o q=> .opt o fun y=>(q y).map f
 | .gr b q=> .gr b (q.map f)
 | .ite b x y=> .ite b (x.map f) (y.map f)
 | .row r q=> .row r fun y=>(q y).map f
 | .len r q=> .len r fun y=>(q y).map f
 | .box r q=> .box r fun y=>(q y).map f
 | .heap r q=> .heap r fun y=>(q y).map f
 | .rH r q=> .rH r (q.map f)
 | .rI r q=> .rI r (q.map f)
 | .call v x q=> .call v x fun y=>(q y).map f
 | .all q=> .all fun y=>(q y).map f
 | .on σ q=> .on σ (q.map f)
abbrev cP:=AV×Eff
def acU (op:BinOp)(a b:Int):Option Bool:=
 match op with
 | .eql=>some (a==b)
 | .neq=>some (a != b)
 | .lss=>some (decide (a<b))
 | .leq=>some (decide (a≤b))
 | .gtr=>some (decide (a>b))
 | .geq=>some (decide (a≥b))
 |_=>none
def YD (op:BinOp)(x y:ByteArray):Option Bool:=
 match op with
 | .eql=>some (x.toList==y.toList)
 | .neq=>some (!(x.toList==y.toList))
 | .lss=>some (Op.bytesLess x.toList y.toList)
 | .leq=>some (Op.bytesLess x.toList y.toList||x.toList==y.toList)
 | .gtr=>some (!(Op.bytesLess x.toList y.toList||x.toList==y.toList))
 | .geq=>some (!(Op.bytesLess x.toList y.toList))
 |_=>none
def bits (op:BinOp)(i:IntKind)(a b:Int):Int:=match op with
 | .and=>i.wrap (BitVec.ofInt i.bits a&&& BitVec.ofInt i.bits b).toNat
 | .or=>i.wrap (BitVec.ofInt i.bits a|||BitVec.ofInt i.bits b).toNat
 | .xor=>i.wrap (BitVec.ofInt i.bits a^^^BitVec.ofInt i.bits b).toNat
 |_=>i.wrap (BitVec.ofInt i.bits a&&& ~~~ BitVec.ofInt i.bits b).toNat
def shl (i:IntKind)(a b:Int):Int:=i.wrap (a*2^(min b.toNat i.bits))
def shr (i:IntKind)(a b:Int):Int:=a.fdiv (2^(min b.toNat i.bits))
def CU:(t:Ty)→t.den→t.den→Bool
 | .int _,a,b=>(a:Int)==b
 | .bool,a,b=>(a:Bool)==b
 | .str,a,b=>(a:ByteArray).toList==(b:ByteArray).toList
 | .pair s t,a,b=>CU s a.1 b.1&&CU t a.2 b.2
 | .st t,a,b=>CU t a b
 | .unit,_,_=>true
 |_,_,_=>false
def YE:Ty→Bool
 | .int _ | .bool | .str | .unit=>true
 | .pair a b=>YE a&&YE b
 | .st t=>YE t
 |_=>false
def I6:Ty→Bool
 | .int _ | .bool | .str | .unit | .fn=>true
 | .pair a b=>I6 a&&I6 b
 | .st t=>I6 t
 |_=>false
def F1:Ty→Bool
 | .slice _ | .qG _=>false
 | .pair a b=>F1 a&&F1 b
 | .st t=>F1 t
 |_=>true
def fw (hs:List Nat):Ty→Bool
 | .ref h | .ptr h | .mp h=>hs.any (Nat.beq h)
 | .slice t | .qG t | .st t=>fw hs t
 | .pair a b=>fw hs a&&fw hs b
 |_=>true
def k9 (T:dc)(s:JZ):Bool:=s.clo.isNone&&(s.hout.all fun h=>F1 (T.ht h).t)&&match s.gen with
 |some ts=>ts.all I6
 |none=>s.res.all fun p=>match p.1,p.2 with
  | .slice t,some _=>F1 t
  |t,none=>F1 t
  |_,_=>false
def TO (hs:List Nat):ph→Bool
 | .v t | .rp t | .bx t=>fw hs t
 | .fn _ ts=>ts.all (fw hs)
 | .c cs=>cs.all fun c=>fw hs c.1
 | .Na=>true
def I7 (T:dc)(s:JZ):Bool:=s.args.all (TO s.hin)&&(s.hin.all fun h=>fw s.hin (T.ht h).t)&&((s.res.all fun p=>fw s.hin p.1)&&(match s.clo with |some (_,ts)=>ts.all (fw s.hin) |none=>true)&&match s.gen with
 |some ts=>ts.all I6&&s.af.isEmpty
 |none=>true)
def pv (z:AV):Q T cP:= .ret (z, .nu [])
def EE (t:Ty)(x:t.den):Q T cP:=pv (.rv (.cv ⟨t,x⟩))
def kt {α:Type}(f:α→Q T cP):Option α→Q T cP
 |some x=>f x
 |none=> .fail
def afR (op:BinOp)(x y:AV):Q T cP:=
 match x,y with
 | .rv (.cv ⟨.int i,a⟩), .rv (.cv ⟨.int j,b⟩)=>
   match op with
   | .shl=> .gr (decide (0≤b)) (EE (.int i) (shl i a b))
   | .shr=> .gr (decide (0≤b)) (EE (.int i) (shr i a b))
   |op=>if i=j then match op with
    | .add=>EE (.int i) (i.wrap (a+b))
    | .sub=>EE (.int i) (i.wrap (a - b))
    | .mul=>EE (.int i) (i.wrap (a*b))
    | .quo=> .gr (!(b==0)) (EE (.int i) (i.wrap (a.tdiv b)))
    | .rem=> .gr (!(b==0)) (EE (.int i) (a.tmod b))
    | .and=>EE (.int i) (bits .and i a b)
    | .or=>EE (.int i) (bits .or i a b)
    | .xor=>EE (.int i) (bits .xor i a b)
    | .andNot=>EE (.int i) (bits .andNot i a b)
    |op=>kt (fun c=>EE .bool c) (acU op a b)
    else .fail
 | .rv (.cv ⟨.str,a⟩), .rv (.cv ⟨.str,b⟩)=>
   match op with
   | .add=> .gr (Nat.ble (a.size+b.size) 9223372036854775807) (EE .str (a++b))
   |_=>kt (fun c=>EE .bool c) (YD op a b)
 |_,_=> .fail
def eqV (op:BinOp)(b:Bool):Q T cP:=match op with
 | .eql=>EE .bool b
 | .neq=>EE .bool (!b)
 |_=> .fail
def afS (op:BinOp)(x y:AV):Q T cP:=
 match x,y with
 | .rv (.cv ⟨.bool,a⟩), .rv (.cv ⟨.bool,b⟩)=>eqV op (a==b)
 |_,_=> .fail
def afT (ty:Ty)(op:BinOp)(x y:AV):Q T cP:=
 match ty,x,y with
 | .slice _, .rv (.cv ⟨.ref _,n⟩), .lit (.slice none 0 0)=>eqV op (Nat.beq n 0)
 | .ptr _, .rv (.cv ⟨.ptr _,n⟩), .lit (.pointer none)=>eqV op (Nat.beq n 0)
 | .mp _, .rv (.cv ⟨.mp _,n⟩), .lit (.map none)=>eqV op (Nat.beq n 0)
 | .slice _, .rv (.cv ⟨.qG t,o⟩), .lit (.slice none 0 0)=>eqV op (Option.isNone (α:=List t.den) o)
 |_,_,_=> .fail
def aim (t:Ty)(op:BinOp)(x y:AV):Q T cP:=
 match typed [] (.st t) x,typed [] (.st t) y with
 |some a,some b=> .gr (YE t) (eqV op (CU t a b))
 |_,_=> .fail
def co:AV→AV
 | .rv (.cv ⟨.qG t,o⟩)=> .rv (.cv ⟨.slice t,(lst o:List t.den)⟩)
 |a=>a
def afU (ty:Ty)(x:AV):Q T cP:=
 match ty,co x with
 | .slice _, .rv (.cv ⟨.slice t,xs⟩)=>EE (.int .i64) (List.length xs:Int)
 | .str, .rv (.cv ⟨.str,s⟩)=>EE (.int .i64) (s.size:Int)
 | .slice _, .rv (.own r)=> .len r fun n=>EE (.int .i64) (n:Int)
 | .slice _, .lit (.slice none 0 0)=>EE (.int .i64) (0:Int)
 | .slice _, .rv (.cv ⟨.ref h,n⟩)=> .heap h fun hr=> .opt (ag hr.xs n) fun l=>EE (.int .i64) (List.length l:Int)
 |_,_=> .fail
def jM (av:Operand→AV)(d:Int):Option Operand→Option Int
 |none=>some d
 |some x=>match av x with
  | .rv (.cv ⟨.int _,n⟩)=>some n
  |_=>none
def W5 (rows:List gZ)(t:TypeId)(x:AV):Q T cP:=match km rows t with
 |none=> .fail
 |some r=>match x with
  | .box b off=> .box b fun bx=>match bx with
    | .cells cs=>kt pv (nW r.ty (cs.drop off))
    | .own q=>match r.ty with
      | .slice _=> .gr (Nat.beq off 0) (pv (.rv (.own q)))
      |_=> .fail
    | .nil=> .fail
  | .Pj q sz i off=> .row q fun row=> .opt (row.xs[i]?) fun x=>kt pv (nW r.ty ((flat row.t x).drop off))
  | .qA cs=>kt pv (nW r.ty cs)
  | .hel h n i off=> .heap h fun hr=> .opt (ag hr.xs n) fun l=> .opt (l[i]?) fun x=>kt pv (nW r.ty ((flat hr.t x).drop off))
  | .rv (.cv ⟨.ptr h,n⟩)=> .heap h fun hr=> .opt (ag hr.xs n) fun l=> .opt (l[0]?) fun x=>kt pv (nW r.ty (flat hr.t x))
  |_=> .fail
def Nb (rows:List gZ)(ty:TypeId)(x:AV):Q T cP:=match x with
 | .lit v=>match km rows ty with
   |some r=>match r.ty with
    | .st t=>match v with
      | .agg vs=>match de t vs.toList with
        |some (cs,[])=>pv (.rv (.agg cs))
        |_=> .fail
      |_=> .fail
    |_=>pv (.lit v)
   |none=> .fail
 | .nil=> .fail
 |a=>pv a
def partsOf (av:Operand→AV)(rU:List (Nat×Nat)):List (Nat×Operand)→List CV→Option (List CV)
 | [],cs=>some cs
 | (i,x)::r,cs=>match rU[i]? with
   |some (off,size)=>match av x with
    | .rv (.cv c)=>bif Nat.beq size 1&&Nat.blt off cs.length then partsOf av rU r (HP cs off [c]) else none
    | .rv (.agg vs)=>bif Nat.beq size vs.length&&Nat.ble (off+vs.length) cs.length then partsOf av rU r (HP cs off vs) else none
    |_=>none
   |none=>none
def elems (av:Operand→AV)(t:Ty):List (Nat×Operand)→List t.den→Option (List t.den)
 | [],xs=>some xs
 | (i,x)::r,xs=>match typed [] t (av x) with
   |some v=>bif Nat.blt i xs.length then elems av t r (xs.set i v) else none
   |none=>none
def QT (rows:List gZ)(t:TypeId)(x i:AV):Q T cP:=match km rows t with
 |some r=>match i with
  | .rv (.cv ⟨.int _,n⟩)=>match r.ty,co x with
    | .slice u, .rv (.cv ⟨.slice u',xs⟩)=> .gr (Nat.beq u.size u'.size) (.opt (idx xs n) fun y=>pv (.qA (flat u' y)))
    | .slice u, .rv (.own q)=> .row q fun row=> .gr (Nat.beq u.size row.t.size) (.opt (idx row.xs n) fun _=>pv (.Pj q row.t.size n.toNat 0))
    | .slice u, .rv (.cv ⟨.ref h,m⟩)=> .heap h fun hr=> .gr (Nat.beq u.size hr.t.size) (.opt (ag hr.xs m) fun l=> .opt (idx l n) fun _=>pv (.hel h m n.toNat 0))
    | .st _,a=>match n with
      | .ofNat m=> .gr r.arr <| match r.rU[m]? with
        |some (off,_)=>match a with
         | .box b o=>pv (.box b (o+off))
         | .Pj q sz j o=>pv (.Pj q sz j (o+off))
         | .qA cs=>pv (.qA (cs.drop off))
         | .hel h k j o=>pv (.hel h k j (o+off))
         |_=> .fail
        |none=> .fail
      | .negSucc _=> .fail
    |_,_=> .fail
  |_=> .fail
 |none=> .fail
def QU (rows:List gZ)(s:TypeId)(x:AV)(f:Nat):Q T cP:=match km rows s with
 |some r=> .gr (!r.arr) <| match r.rU[f]? with
  |some (off,size)=>match x with
   | .box b o=>pv (.box b (o+off))
   | .Pj q sz i o=>pv (.Pj q sz i (o+off))
   | .qA cs=>pv (.qA (cs.drop off))
   | .hel h n i o=>pv (.hel h n i (o+off))
   | .rv (.cv ⟨.ptr h,n⟩)=> .gr (!(Nat.beq n 0)) (pv (.hel h n 0 off))
   |_=> .fail
  |none=> .fail
 |none=> .fail
def W6 (rows:List gZ)(s d:TypeId)(x:AV):Q T cP:=match km rows s,km rows d with
 |some rs,some rd=>match rs.ty,rd.ty,x with
  | .int _, .int j, .rv (.cv ⟨.int _,a⟩)=>EE (.int j) (j.wrap a)
  | .str, .str, .rv (.cv ⟨.str,s⟩)=>EE .str s
  | .slice (.int .u8), .str, .rv (.cv ⟨.slice (.int .u8),xs⟩)=>EE .str (strOf xs)
  | .slice (.int .u8), .str, .rv (.own r)=> .row r fun row=>match row with
    | ⟨_, .int .u8,xs⟩=>EE .str (strOf xs)
    |_=> .fail
  | .str, .slice (.int .u8), .rv (.cv ⟨.str,s⟩)=> .gr (Nat.ble s.size 140737488355328) (EE (.slice (.int .u8)) (bytesOf s))
  |_,_,_=> .fail
 |_,_=> .fail
def wP (rows:List gZ)(av:Operand→AV)(t:TypeId)(x:AV)(lo hi mx:Option Operand):Q T cP:=match km rows t with
 |some r=>match mx with
  |none=>match r.ty,co x with
   | .str, .rv (.cv ⟨.str,s⟩)=>match jM av 0 lo,jM av s.size hi with
     |some l,some h=> .gr (dW s.size l h) (EE .str (s.extract l.toNat h.toNat))
     |_,_=> .fail
   | .slice u, .rv (.cv ⟨.slice u',xs⟩)=>match jM av 0 lo,jM av (List.length xs) hi with
     |some l,some h=> .gr (Nat.beq u.size u'.size&&dW (List.length xs) l h) (EE (.slice u') (cut xs l h))
     |_,_=> .fail
   |_,_=> .fail
  |some mx=>match r.ty,co x with
   | .slice u, .rv (.cv ⟨.slice u',xs⟩)=>match hi with
     |some hx=>match jM av 0 lo,jM av 0 (some hx),jM av 0 (some mx) with
      |some l,some h,some m=> .gr (Nat.beq u.size u'.size&&dW (List.length xs) l h&&decide (h≤m)&&decide (m≤List.length xs)) (EE (.slice u') (cut xs l h))
      |_,_,_=> .fail
     |none=> .fail
   |_,_=> .fail
 |none=> .fail
def yv:AV→Bool
 | .rv (.own _)=>true
 |_=>false
def CW (rows:List gZ)(av:Operand→AV)(t:TypeId)(parts:List (Nat×Operand)):Q T cP:=match km rows t with
 |some r=>match r.ty with
  | .st u=>kt (fun cs=>pv (.rv (.agg cs))) (partsOf av r.rU parts (YC u))
  |_=> .fail
 |none=> .fail
def ic (bytes:Nat)(l c:Int):Bool:=decide (0≤l)&&decide (l≤c)&&decide ((bytes:Int)*c≤140737488355328)
def aB (bytes size n m:Nat):Bool:=Nat.blt 0 size&&Nat.ble ((n+m)*bytes) 140737488355328
def iK (T:List gZ)(t:TypeId):Option (Ty×TypeId×Nat):=
 match km T t with
 |some r=>match r.ty with
  | .slice u=>match km T r.elem with
    |some re=>bif Nat.blt 0 re.bytes then some (u,r.elem,re.bytes) else none
    |none=>none
  |_=>none
 |none=>none
def Nc (s:Option Site)(u:Ty):Ty:=match s,u with
 |some .qG, .slice v=> .qG v
 |_,u=>u
def J5 (s:Option Site):Option Nat:=match s with
 |some (.heap h)=>some h
 |_=>none
def aeA (T:List gZ)(t:TypeId):Option Nat:=
 match km T t with
 |some r=>match r.ty with
  | .ptr h=>some h
  |_=>none
 |none=>none
def aam (T:dc)(h:Nat)(hr:aQ):Bool:=Nat.beq hr.e (T.ht h).e&&Nat.beq hr.k (T.ht h).k&&decide (hr.t=(T.ht h).t)
def newRow (d:Option Tmp)(row:Row):Q T cP:=match d with
 |some d=> .rH d (.ret (.rv (.own d), .nu [.row d row]))
 |none=> .fail
def Bj (d:Option Tmp)(x:BX):Q T cP:=match d with
 |some d=> .rI d (.ret (.box d 0, .nu [.box d x]))
 |none=> .fail
def y8 (h:Nat)(hr:aQ)(xs:List (Option (List hr.t.den)))(l:List hr.t.den):Q T cP:=
 .gr (hr.w&&Nat.beq hr.k 0) <| .ret (.rv (.cv ⟨.ref h,(List.length xs+1:Nat)⟩), .nu [.heap h ⟨hr.e,hr.t,hr.k,hr.w,xs++[some l]⟩])
def NT (h:Nat)(hr:aQ)(x:hr.t.den):Q T cP:=
 .gr (hr.w&&Nat.beq hr.k 1) <| .ret (.rv (.cv ⟨.ptr h,(List.length hr.xs+1:Nat)⟩), .nu [.heap h ⟨hr.e,hr.t,hr.k,hr.w,hr.xs++[some [x]]⟩])
def aeB (t:Ty)(y:t.den)(off:Nat)(vs:List CV):Option t.den:=wO [] t (HP (flat t y) off vs)
def QV (h n i off:Nat)(vs:List CV):Q T cP:= .heap h fun hr=> .opt (ag hr.xs n) fun l=> .opt (l[i]?) fun y=> .opt (aeB hr.t y off vs) fun y'=>
 .gr (hr.w&&Nat.ble (off+vs.length) hr.t.size) (.ret (.nil, .nu [.heap h ⟨hr.e,hr.t,hr.k,hr.w,ef hr.xs n (l.set i y')⟩]))
def BX.one:BX→Bool
 | .cells cs=>Nat.beq cs.length 1
 |_=>true
def J6 (x:AV)(vs:List CV):Q T cP:=match x with
 | .box b off=> .box b fun bx=>match bx with
   | .cells cs=> .gr (Nat.ble (off+vs.length) cs.length) (.ret (.nil, .nu [.box b (.cells (HP cs off vs))]))
   |_=> .gr (Nat.beq off 0&&Nat.beq vs.length 1) (.ret (.nil, .nu [.box b (.cells vs)]))
 | .Pj q sz i off=> .row q fun row=> .opt (row.xs[i]?) fun y=> .opt (aeB row.t y off vs) fun y'=>
   .gr (Nat.ble (off+vs.length) row.t.size) (.ret (.nil, .nu [.J4 q ⟨row.e,row.t,row.xs.set i y'⟩]))
 | .hel h n i off=>QV h n i off vs
 | .rv (.cv ⟨.ptr h,n⟩)=>QV h n 0 0 vs
 |_=> .fail
def appended (t:Ty)(x:AV)(k:List t.den→Q T cP):Q T cP:=match co x with
 | .rv (.cv ⟨.ref h,n⟩)=> .heap h fun hr=> .opt (ag hr.xs n) fun l=> .opt ((dv (.slice t) [⟨.slice hr.t,l⟩]).map (·.1)) k
 | .rv (.cv c)=> .opt ((dv (.slice t) [c]).map (·.1)) k
 | .rv (.own q)=> .row q fun row=> .opt ((dv (.slice t) [⟨.slice row.t,row.xs⟩]).map (·.1)) k
 | .lit (.slice none 0 0)=>k []
 |_=> .fail
def ain:CV→CV→Bool
 | ⟨.int i,a⟩,⟨.int j,b⟩=>decide (i=j)&&(a:Int)==b
 | ⟨.bool,a⟩,⟨.bool,b⟩=>(a:Bool)==b
 | ⟨.fn,a⟩,⟨.fn,b⟩=>Nat.beq a b
 |_,_=>false
def YF:List CV→List CV→Bool
 | [],[]=>true
 |a::r,b::s=>ain a b&&YF r s
 |_,_=>false
def QW:AV→Option (FuncId×List I5)
 | .fn f aX=>some (f,aX)
 | .rv (.cv ⟨.fn,n⟩)=>match (n:Nat) with
   |f+1=>some (f,[])
   |0=>none
 |_=>none
def W7:I5→AV
 | .box b=> .box b 0
 | .qA cs=> .qA cs
def aio:ph→AV→Bool
 | .fn f _,a=>match QW a with
   |some (g,_)=>Nat.beq f g
   |none=>false
 | .c cs, .rv (.agg cs')=>YF cs cs'
 | .c _,_=>false
 |_,_=>true
def fits:List ph→List AV→Bool
 | [],[]=>true
 |t::ts,a::as=>aio t a&&fits ts as
 |_,_=>false
def pick (T:dc)(avs:List AV):List Nat→Option Nat
 | []=>none
 |v::vs=>bif fits (T.sig v).args avs then some v else pick T avs vs
def T9 (T:dc)(s:Option Site)(f:FuncId)(avs:List AV):Option Nat:=match s with
 |some (.vid v)=>bif Nat.beq (T.real v) f then some v else none
 |_=>match pick T avs (T.alF f) with
  |some v=>bif Nat.beq (T.real v) f then some v else none
  |none=>none
def J7 (t:Ty)(k:t.den→Q T cP):I5→Q T cP
 | .box b=> .box b fun bx=>match bx with
   | .cells cs=> .opt (CE t cs) k
   | .own q=> .row q fun row=> .opt ((dv t [⟨.slice row.t,row.xs⟩]).map (·.1)) k
   | .nil=> .fail
 | .qA cs=> .opt (CE t cs) k
def zQ:(ts:List Ty)→List I5→(tw ts→Q T cP)→Q T cP
 | [],[],k=>k ()
 | [t],[c],k=>J7 t k c
 |t::u::ts,c::cs,k=>J7 t (fun x=>zQ (u::ts) cs fun y=>k (x,y)) c
 |_,_,_=> .fail
def QX:AV→Bool
 | .rv (.cv ⟨.ref _,_⟩)=>true
 | .rv (.agg cs)=>cs.any fun | ⟨.ref _,_⟩=>true |_=>false
 |_=>false
def acX:Ty→Bool
 | .ref _=>true
 |_=>false
def CN:List Nat→List aQ→(List aQ→Q T cP)→Q T cP
 | [],acc,k=>k acc.reverse
 |h::hs,acc,k=> .heap h fun hr=>CN hs (hr::acc) k
def afV (dY:Bool)(nh:Nat)(hout:List Nat)(p:ph)(a:AV)(k:p.den→Q T cP):Q T cP:=match p,k with
 | .v t,k=>match a with
   | .rv (.own q)=> .gr dY (.row q fun row=> .opt ((dv t [⟨.slice row.t,row.xs⟩]).map (·.1)) k)
   |a=>bif QX a&& !(acX t)&&dY then
     CN (List.range nh) [] fun hs=> .opt (typed (hs.zipIdx.map fun p=>bif hout.any (Nat.beq p.2) then ⟨p.1.e,p.1.t,p.1.k,p.1.w,[]⟩ else p.1) t a) k
    else .opt (typed [] t a) k
 | .fn f ts,k=>match QW a with
   |some (g,aX)=> .gr (Nat.beq f g&&(dY||aX.isEmpty)) (zQ ts aX k)
   |none=> .fail
 | .c cs,k=> .gr (aio (.c cs) a) (k ())
 | .rp t,k=>match a with
   | .box b 0=> .gr dY (J7 t k (.box b))
   | .qA cs=>J7 t k (.qA cs)
   |_=> .fail
 | .bx _,_=> .fail
 | .Na,_=> .fail
def Nf (dY:Bool)(nh:Nat)(hout:List Nat):(ps:List ph)→List AV→(HN ps→Q T cP)→Q T cP
 | [],[],k=>k ()
 | [p],[a],k=>afV dY nh hout p a k
 |p::q::ps,a::as,k=>afV dY nh hout p a fun x=>Nf dY nh hout (q::ps) as fun y=>k (x,y)
 |_,_,_=> .fail
def Ua (T:dc)(wr:List Nat):(hs:List Nat)→(FZ T hs→Q T cP)→Q T cP
 | [],k=>k ()
 | [h],k=> .heap h fun hr=> .gr ((hr.w|| !(wr.any (Nat.beq h)))&&Nat.beq hr.e (T.ht h).e&&Nat.beq hr.k (T.ht h).k) (if e:hr.t=(T.ht h).t then k (Sd e hr.xs) else .fail)
 |h::i::r,k=> .heap h fun hr=> .gr ((hr.w|| !(wr.any (Nat.beq h)))&&Nat.beq hr.e (T.ht h).e&&Nat.beq hr.k (T.ht h).k) (if e:hr.t=(T.ht h).t then Ua T wr (i::r) fun y=>k (Sd e hr.xs,y) else .fail)
def BL (d:Nat):(ts:List NP)→tw (ts.map (·.1))→List RV
 | [],_=>[]
 | [(t,some e)],x=>[.own d]
 | [(.st t,none)],x=>[.agg (flat t x)]
 | [(t,none)],x=>[.cv ⟨t,x⟩]
 | (t,some e)::u::ts,x=> .own d::BL (d+1) (u::ts) x.2
 | (.st t,none)::u::ts,x=> .agg (flat t x.1)::BL (d+1) (u::ts) x.2
 | (t,none)::u::ts,x=> .cv ⟨t,x.1⟩::BL (d+1) (u::ts) x.2
def ownRow (t:Ty)(e:TypeId)(x:t.den):Option Row:=
 match t,x with
 | .slice t',xs=>some ⟨e,t',xs⟩
 |_,_=>none
def aan:List RV→AV
 | [x]=> .rv x
 |l=> .tup l
def aae (d:Nat):(ts:List NP)→tw (ts.map (·.1))→(List TU→Q T cP)→Q T cP
 | [],_,k=>k []
 | [(t,some e)],x,k=>match ownRow t e x with
   |some row=> .rH d (k [.row d row])
   |none=> .fail
 | [(t,none)],x,k=>k []
 | (t,some e)::u::ts,x,k=>match ownRow t e x.1 with
   |some row=> .rH d (aae (d+1) (u::ts) x.2 fun us=>k (.row d row::us))
   |none=> .fail
 | (t,none)::u::ts,x,k=>aae (d+1) (u::ts) x.2 k
def GD (d:Nat):(ts:List Ty)→tw ts→(List TU→List I5→Q T cP)→Q T cP
 | [],_,k=>k [] []
 | [t],x,k=> .rI d (k [.box d (.cells (flat t x))] [.box d])
 |t::u::ts,x,k=> .rI d (GD (d+1) (u::ts) x.2 fun us cs=>k (.box d (.cells (flat t x.1))::us) (.box d::cs))
def Pl (d:Option Tmp):Nat:=1000+16*d.getD 0
def Bk (T:dc):(hs:List Nat)→FZ T hs→List TU
 | [],_=>[]
 | [h],x=>[.heap h ⟨(T.ht h).e,(T.ht h).t,(T.ht h).k,true,x⟩]
 |h::i::r,x=> .heap h ⟨(T.ht h).e,(T.ht h).t,(T.ht h).k,true,x.1⟩::Bk T (i::r) x.2
def aip (T:dc)(d:Nat)(s:JZ)(y:NQ s)(us:List TU):Q T cP:=match s,y with
 | ⟨_,res,none,_,none⟩,y=>aae d res y fun vs=> .ret (aan (BL d res y), .nu (us++vs))
 | ⟨_,_,some (f,ts),_,none⟩,y=>GD d ts y fun vs cs=> .ret (.fn f cs, .nu (us++vs))
 |_,_=> .fail
def J8 (T:dc)(av:Operand→AV)(st:Option Site)(dst:Option Tmp)(f:FuncId)(aX:List I5)(args:List Operand):Q T cP:=
 let avs:=args.map av++aX.map W7
 match T9 T st f avs with
 |some v=>
  let s:=T.sig v
  Nf (k9 T s) T.af.length s.hout s.args avs fun x=>
  Ua T s.hout s.hin fun h=> .opt (J2 x s.hin (some h)) fun xh=> .call v xh fun yh=>
  aip T (Pl dst) s (wJ _ yh) (Bk T s.hout (F0 _ yh))
 |none=> .fail
def rV:(t:Ty)→List AV→Option t.den
 | .unit,[]=>some ()
 | .pair a b,x::r=>match typed [] a x with
   |some v=>match rV b r with
    |some u=>some (v,u)
    |none=>none
   |none=>none
 |_,_=>none
def EN (T:dc)(av:Operand→AV)(sites:List (Nat×Site))(o:Oper):Q T cP:=
 let st:=o.dst.bind (look sites)
 match o.op with
 | .move x=>Nb T.rows o.type (av x)
 | .assign x=>match av x,o.dst with
   | .rv (.own r),some d=> .all fun σ=> .ret (.rv (.own d), .set (bif Nat.beq r d then σ else (σ.freeze d).rename r d))
   | .lit (.slice none 0 0),some d=>match J5 st with
     |some h=>pv (.rv (.cv ⟨.ref h,(0:Nat)⟩))
     |none=>match iK T.rows o.type with
      |some (u,e,_)=> .all fun σ=> .ret (.rv (.own d), .set {(σ.freeze d) with rows:=put (σ.freeze d).rows d ⟨e,u,[]⟩})
      |none=>Nb T.rows o.type (.lit (.slice none 0 0))
   |a,_=>Nb T.rows o.type (co a)
 | .pick c a b=>match av c with
   | .rv (.cv ⟨.bool,t⟩)=> .ite t (pv (av a)) (pv (av b))
   |_=> .fail
 | .nilCheck x=>match av x with
   | .rv (.cv ⟨.ptr h,n⟩)=> .gr (!(Nat.beq n 0)) (pv (.rv (.cv ⟨.ptr h,n⟩)))
   | .box b off=>pv (.box b off)
   | .Pj r sz i off=>pv (.Pj r sz i off)
   | .qA cs=>pv (.qA cs)
   | .hel h n i off=>pv (.hel h n i off)
   |_=> .fail
 | .load t x=>W5 T.rows t (av x)
 | .binOp op xt x y _=>match km T.rows xt with
   |some r=>match r.ty with
    | .bool=>afS op (av x) (av y)
    | .int _ | .str=>afR op (av x) (av y)
    | .st t=> .gr (T.eqs.any (Nat.beq xt)) (aim t op (av x) (av y))
    |ty=>afT ty op (av x) (av y)
   |none=> .fail
 | .unOp op _ x=>match op,av x with
   | .not, .rv (.cv ⟨.bool,b⟩)=>EE .bool (!b)
   | .neg, .rv (.cv ⟨.int i,a⟩)=>EE (.int i) (i.wrap (0 - a))
   |_,_=> .fail
 | .convert s d x=>W6 T.rows s d (av x)
 | .fieldAddr s x f=>QU T.rows s (av x) f
 | .indexAddr t x i=>QT T.rows t (av x) (av i)
 | .index t x i=>match km T.rows t with
   |some r=>match r.ty,av i,av x with
    | .str, .rv (.cv ⟨.int _,n⟩), .rv (.cv ⟨.str,s⟩)=> .opt (Bi s n) fun b=>EE (.int .u8) b
    |_,_,_=> .fail
   |none=> .fail
 | .extract x i=>match av x with
   | .tup l=>kt (fun v=>pv (.rv v)) l[i]?
   |_=> .fail
 | .makeFunc (.func f) first captured=>match first.toList with
   | []=>kt (fun aX=>pv (.fn f aX)) (mO (fun x=>match av x with
     | .box b 0=>some (.box b)
     | .qA cs=>some (.qA cs)
     |_=>none) captured.toList)
   |_=> .fail
 | .slice t x lo hi mx=>match av x with
   | .rv (.own q)=>match lo,hi,mx with
     |none,some h,none=>match iK T.rows t,av h with
      |some (u,e,_), .rv (.cv ⟨.int _,h⟩)=> .row q fun row=> .gr (Nat.beq u.size row.t.size&&dW row.xs.length 0 h) (match o.dst with
       |some d=> .all fun σ=>match look (σ.bz q).rows d with
        |none=> .ret (.rv (.own d), .set {(σ.bz q) with rows:=put (σ.bz q).rows d ⟨row.e,row.t,row.xs.take h.toNat⟩})
        |some _=> .fail
       |none=> .fail)
      |_,_=> .fail
     |_,_,_=> .row q fun row=> .all fun σ=>(wP T.rows av t (.rv (.cv ⟨.slice row.t,row.xs⟩)) lo hi mx).map fun p=>(p.1, .set (σ.freeze q))
   | .rv (.cv ⟨.ref h,n⟩)=>match lo,hi,mx with
     |none,some y,none=>match iK T.rows t,av y with
      |some _, .rv (.cv ⟨.int _,y⟩)=> .heap h fun hr=> .opt (ag hr.xs n) fun l=> .gr (dW l.length 0 y)
        (.ite (Nat.beq n 0) (pv (.rv (.cv ⟨.ref h,n⟩))) (y8 h hr (cw hr.xs n) (l.take y.toNat)))
      |_,_=> .fail
     |_,_,_=> .fail
   |a=>wP T.rows av t a lo hi mx
 | .build t parts=>let xs:=parts.toList.map (·.2)
   bif xs.any (fun x=>yv (av x)) then .all fun σ=>(CW T.rows (σ.wK xs).av t parts.toList).map fun p=>(p.1, .set (σ.wK xs))
   else CW T.rows av t parts.toList
 | .buildSlice t len parts=>let xs:=parts.toList.map (·.2)
   match iK T.rows t with
   |some (u0,e,_)=>match J5 st with
    |some h=> .heap h fun hr=> .gr (Nat.beq e hr.e&&aam T h hr&&Nat.ble (len*hr.t.size) 16777216&&Nat.ble len 16777216) (.opt (elems av hr.t parts.toList (List.replicate len hr.t.zero)) fun ys=>y8 h hr hr.xs ys)
    |none=>let u:=Nc st u0
     .gr (Nat.ble (len*u.size) 16777216&&Nat.ble len 16777216) (bif xs.any (fun x=>yv (av x)) then
      .all fun σ=> .opt (elems (σ.wK xs).av u parts.toList (List.replicate len u.zero)) fun ys=>match o.dst with
       |some d=>match look (σ.wK xs).rows d with
        |none=> .ret (.rv (.own d), .set {(σ.wK xs) with rows:=put (σ.wK xs).rows d ⟨e,u,ys⟩})
        |some _=> .fail
       |none=> .fail
      else .opt (elems av u parts.toList (List.replicate len u.zero)) fun ys=>newRow o.dst ⟨e,u,ys⟩)
   |none=> .fail
 | .makeSlice t l c=>match iK T.rows t,av l,av c with
   |some (u0,e,bytes), .rv (.cv ⟨.int _,l⟩), .rv (.cv ⟨.int _,c⟩)=> .gr (ic bytes l c) (match J5 st with
    |some h=> .heap h fun hr=> .gr (Nat.beq e hr.e&&aam T h hr) (y8 h hr hr.xs (List.replicate l.toNat hr.t.zero))
    |none=>let u:=Nc st u0
     newRow o.dst ⟨e,u,List.replicate l.toNat u.zero⟩)
   |_,_,_=> .fail
 | .alloc t=>match km T.rows t with
   |some r=>match aeA T.rows o.type with
    |some h=> .heap h fun hr=> .gr (Nat.beq hr.e t&&aam T h hr) (NT h hr hr.t.zero)
    |none=>match r.ty,iK T.rows t,o.dst with
     | .slice _,some (u,e,_),some d=> .rI d (.rH d (.ret (.box d 0, .nu [.box d (.own d), .row d ⟨e,u,[]⟩])))
     |_,_,_=>Bj o.dst (.cells (YC r.ty))
   |none=> .fail
 | .box t v=>match km T.rows t with
   |some r=>match av v with
    | .rv (.own q)=> .row q fun row=> .all fun σ=>match o.dst with
      |some d=>match look σ.boxes d with
       |none=> .ret (.box d 0, .set {(σ.freeze q) with boxes:=put (σ.freeze q).boxes d (.cells [⟨.slice row.t,row.xs⟩])})
       |some _=> .fail
      |none=> .fail
    |a=>kt (fun vs=> .gr (Nat.beq vs.length r.ty.size) (match aeA T.rows o.type with
     |some h=> .heap h fun hr=> .gr (Nat.beq hr.e t) (.opt (wO [] hr.t vs) fun x=>NT h hr x)
     |none=>Bj o.dst (.cells vs))) (cells r.ty a)
   |none=> .fail
 | .store t x v=>match km T.rows t with
   |some r=>match av v,av x with
    | .rv (.own q), .box b 0=> .box b fun bx=> .gr (bx.one&&Nat.beq r.ty.size 1) <| .all fun σ=>
      bif Nat.beq q b then .ret (.nil, .set {σ with boxes:=put σ.boxes b (.own b)})
      else .ret (.nil, .set {((σ.freeze b).rename q b) with boxes:=put ((σ.freeze b).rename q b).boxes b (.own b)})
    | .rv (.own q),_=> .all fun σ=>(Q.on (σ.freeze q) (kt (fun vs=> .gr (Nat.beq vs.length r.ty.size) (J6 ((σ.freeze q).av x) vs)) (cells r.ty ((σ.freeze q).av v)))).map fun p=>(p.1,match p.2 with
      | .nu us=> .set ((σ.freeze q).app us)
      | .set ah=> .set ah)
    | .lit (.slice none 0 0), .box b 0=>match iK T.rows t with
      |some (u,e,_)=> .box b fun bx=> .gr bx.one <| .all fun σ=> .ret (.nil, .set {(σ.freeze b) with rows:=put (σ.freeze b).rows b ⟨e,u,[]⟩,boxes:=put (σ.freeze b).boxes b (.own b)})
      |none=> .fail
    |a,x=>kt (fun vs=> .gr (Nat.beq vs.length r.ty.size) (J6 x vs)) (cells r.ty a)
   |none=> .fail
 | .call {callee:= .builtin .len,args,argTypes}=>match args.toList,argTypes.toList with
   | [x],[t]=>match km T.rows t with
     |some r=>afU r.ty (av x)
     |none=> .fail
   |_,_=> .fail
 | .call {callee:= .builtin .max,args, .. }=>match args.toList with
   | [x,y]=>match av x,av y with
     | .rv (.cv ⟨.int i,a⟩), .rv (.cv ⟨.int _,b⟩)=>EE (.int i) (bif decide (b>a) then b else a)
     |_,_=> .fail
   |_=> .fail
 | .call {callee:= .builtin .min,args, .. }=>match args.toList with
   | [x,y]=>match av x,av y with
     | .rv (.cv ⟨.int i,a⟩), .rv (.cv ⟨.int _,b⟩)=>EE (.int i) (bif decide (b<a) then b else a)
     |_,_=> .fail
   |_=> .fail
 | .call {callee:= .builtin .append,args,argTypes}=>match args.toList,argTypes.toList with
   | [s,x],[t,tx]=> .gr (Nat.beq t tx||(iK T.rows tx).isSome) (match iK T.rows t with
     |some (u,e,bytes)=>match av s with
      | .rv (.own r)=> .row r fun row=> .gr (match av x with | .rv (.own q)=> !(Nat.beq q r) |_=>true) (appended row.t (av x) fun ys=>
        .gr (Nat.beq row.e e&&Nat.beq row.t.size u.size&&aB bytes u.size row.xs.length ys.length) (match o.dst with
         |some d=> .all fun σ=>match look (σ.bz r).rows d with
          |none=> .ret (.rv (.own d), .set {(σ.bz r) with rows:=put (σ.bz r).rows d ⟨e,row.t,row.xs++ys⟩})
          |some _=> .fail
         |none=> .fail))
      | .rv (.cv ⟨.ref h,n⟩)=> .heap h fun hr=> .opt (ag hr.xs n) fun l=> .gr (Nat.beq e hr.e&&Nat.beq u.size hr.t.size) (appended hr.t (av x) fun ys=>
        .gr (aB bytes hr.t.size l.length ys.length) (.ite ys.isEmpty (pv (.rv (.cv ⟨.ref h,n⟩))) (y8 h hr (cw hr.xs n) (l++ys))))
      | .lit (.slice none 0 0)=>match J5 st with
        |some h=> .heap h fun hr=> .gr (Nat.beq e hr.e&&Nat.beq u.size hr.t.size) (appended hr.t (av x) fun ys=>
          .gr (aB bytes hr.t.size 0 ys.length) (.ite ys.isEmpty (pv (.rv (.cv ⟨.ref h,(0:Nat)⟩))) (y8 h hr hr.xs ys)))
        |none=>appended u (av x) fun ys=> .gr (aB bytes u.size 0 ys.length) (newRow o.dst ⟨e,u,ys⟩)
      |_=> .fail
     |none=> .fail)
   |_,_=> .fail
 | .call {callee:= .value f,args, .. }=>match av f with
   | .Na=> .all fun σ=>match σ.trace with
     | ⟨.slice t,xs⟩=> .gr (I6 t) (.opt (rV t (args.toList.map av)) fun x=> .ret (.rv (.cv ⟨.bool,true⟩), .set {σ with trace:=⟨.slice t,xs++[x]⟩}))
     |_=> .fail
   |a=>match QW a with
    |some (f,aX)=>bif args.toList.any (fun x=>yv (av x))&& !(k9 T (T.sig ((T9 T st f (args.toList.map av++aX.map W7)).getD 0))) then
      .all fun σ=>(Q.on (σ.wK args.toList) (J8 T (σ.wK args.toList).av st o.dst f aX args.toList)).map fun p=>(p.1,match p.2 with
       | .nu us=> .set ((σ.wK args.toList).app us)
       | .set ah=> .set ah)
     else J8 T av st o.dst f aX args.toList
    |none=> .fail
 |_=> .fail
def aiq (T:dc)(av:Operand→AV)(st:Option Site)(o:Oper)(x:Operand):Q T cP:=
 match av x,o.dst with
  | .rv (.own r),some d=> .all fun σ=> .ret (.rv (.own d), .set (bif Nat.beq r d then σ else (σ.freeze d).rename r d))
  | .lit (.slice none 0 0),some d=>match J5 st with
    |some h=>pv (.rv (.cv ⟨.ref h,(0:Nat)⟩))
    |none=>match iK T.rows o.type with
     |some (u,e,_)=> .all fun σ=> .ret (.rv (.own d), .set {(σ.freeze d) with rows:=put (σ.freeze d).rows d ⟨e,u,[]⟩})
     |none=>Nb T.rows o.type (.lit (.slice none 0 0))
  |a,_=>Nb T.rows o.type (co a)
def an6 (T:dc)(av:Operand→AV)(st:Option Site)(o:Oper)(c:Operand)(a:Operand)(b:Operand):Q T cP:=
 match av c with
  | .rv (.cv ⟨.bool,t⟩)=> .ite t (pv (av a)) (pv (av b))
  |_=> .fail
def acY (T:dc)(av:Operand→AV)(st:Option Site)(o:Oper)(x:Operand):Q T cP:=
 match av x with
  | .rv (.cv ⟨.ptr h,n⟩)=> .gr (!(Nat.beq n 0)) (pv (.rv (.cv ⟨.ptr h,n⟩)))
  | .box b off=>pv (.box b off)
  | .Pj r sz i off=>pv (.Pj r sz i off)
  | .qA cs=>pv (.qA cs)
  | .hel h n i off=>pv (.hel h n i off)
  |_=> .fail
def alH (T:dc)(av:Operand→AV)(st:Option Site)(o:Oper)(op:BinOp)(xt:TypeId)(x:Operand)(y:Operand):Q T cP:=
 match km T.rows xt with
  |some r=>match r.ty with
   | .bool=>afS op (av x) (av y)
   | .int _ | .str=>afR op (av x) (av y)
   | .st t=> .gr (T.eqs.any (Nat.beq xt)) (aim t op (av x) (av y))
   |ty=>afT ty op (av x) (av y)
  |none=> .fail
def an7 (T:dc)(av:Operand→AV)(st:Option Site)(o:Oper)(op:UnOp)(x:Operand):Q T cP:=
 match op,av x with
  | .not, .rv (.cv ⟨.bool,b⟩)=>EE .bool (!b)
  | .neg, .rv (.cv ⟨.int i,a⟩)=>EE (.int i) (i.wrap (0 - a))
  |_,_=> .fail
def alI (T:dc)(av:Operand→AV)(st:Option Site)(o:Oper)(t:TypeId)(x:Operand)(i:Operand):Q T cP:=
 match km T.rows t with
  |some r=>match r.ty,av i,av x with
   | .str, .rv (.cv ⟨.int _,n⟩), .rv (.cv ⟨.str,s⟩)=> .opt (Bi s n) fun b=>EE (.int .u8) b
   |_,_,_=> .fail
  |none=> .fail
def afW (T:dc)(av:Operand→AV)(st:Option Site)(o:Oper)(x:Operand)(i:Nat):Q T cP:=
 match av x with
  | .tup l=>kt (fun v=>pv (.rv v)) l[i]?
  |_=> .fail
def acZ (T:dc)(av:Operand→AV)(st:Option Site)(o:Oper)(f:FuncId)(first:Array Operand)(captured:Array Operand):Q T cP:=
 match first.toList with
  | []=>kt (fun aX=>pv (.fn f aX)) (mO (fun x=>match av x with
    | .box b 0=>some (.box b)
    | .qA cs=>some (.qA cs)
    |_=>none) captured.toList)
  |_=> .fail
def alJ (T:dc)(av:Operand→AV)(st:Option Site)(o:Oper)(t:TypeId)(x:Operand)(lo:Option Operand)(hi:Option Operand)(mx:Option Operand):Q T cP:=
 match av x with
  | .rv (.own q)=>match lo,hi,mx with
    |none,some h,none=>match iK T.rows t,av h with
     |some (u,e,_), .rv (.cv ⟨.int _,h⟩)=> .row q fun row=> .gr (Nat.beq u.size row.t.size&&dW row.xs.length 0 h) (match o.dst with
      |some d=> .all fun σ=>match look (σ.bz q).rows d with
       |none=> .ret (.rv (.own d), .set {(σ.bz q) with rows:=put (σ.bz q).rows d ⟨row.e,row.t,row.xs.take h.toNat⟩})
       |some _=> .fail
      |none=> .fail)
     |_,_=> .fail
    |_,_,_=> .row q fun row=> .all fun σ=>(wP T.rows av t (.rv (.cv ⟨.slice row.t,row.xs⟩)) lo hi mx).map fun p=>(p.1, .set (σ.freeze q))
  | .rv (.cv ⟨.ref h,n⟩)=>match lo,hi,mx with
    |none,some y,none=>match iK T.rows t,av y with
     |some _, .rv (.cv ⟨.int _,y⟩)=> .heap h fun hr=> .opt (ag hr.xs n) fun l=> .gr (dW l.length 0 y)
       (.ite (Nat.beq n 0) (pv (.rv (.cv ⟨.ref h,n⟩))) (y8 h hr (cw hr.xs n) (l.take y.toNat)))
     |_,_=> .fail
    |_,_,_=> .fail
  |a=>wP T.rows av t a lo hi mx
def alK (T:dc)(av:Operand→AV)(st:Option Site)(o:Oper)(t:TypeId)(parts:Array (Nat×Operand)):Q T cP:=
 let xs:=parts.toList.map (·.2)
  bif xs.any (fun x=>yv (av x)) then .all fun σ=>(CW T.rows (σ.wK xs).av t parts.toList).map fun p=>(p.1, .set (σ.wK xs))
  else CW T.rows av t parts.toList
def YG (T:dc)(av:Operand→AV)(st:Option Site)(o:Oper)(t:TypeId)(len:Nat)(parts:Array (Nat×Operand)):Q T cP:=
 let xs:=parts.toList.map (·.2)
  match iK T.rows t with
  |some (u0,e,_)=>match J5 st with
   |some h=> .heap h fun hr=> .gr (Nat.beq e hr.e&&aam T h hr&&Nat.ble (len*hr.t.size) 16777216&&Nat.ble len 16777216) (.opt (elems av hr.t parts.toList (List.replicate len hr.t.zero)) fun ys=>y8 h hr hr.xs ys)
   |none=>let u:=Nc st u0
    .gr (Nat.ble (len*u.size) 16777216&&Nat.ble len 16777216) (bif xs.any (fun x=>yv (av x)) then
     .all fun σ=> .opt (elems (σ.wK xs).av u parts.toList (List.replicate len u.zero)) fun ys=>match o.dst with
      |some d=>match look (σ.wK xs).rows d with
       |none=> .ret (.rv (.own d), .set {(σ.wK xs) with rows:=put (σ.wK xs).rows d ⟨e,u,ys⟩})
       |some _=> .fail
      |none=> .fail
     else .opt (elems av u parts.toList (List.replicate len u.zero)) fun ys=>newRow o.dst ⟨e,u,ys⟩)
  |none=> .fail
def aao (T:dc)(av:Operand→AV)(st:Option Site)(o:Oper)(t:TypeId)(l:Operand)(c:Operand):Q T cP:=
 match iK T.rows t,av l,av c with
  |some (u0,e,bytes), .rv (.cv ⟨.int _,l⟩), .rv (.cv ⟨.int _,c⟩)=> .gr (ic bytes l c) (match J5 st with
   |some h=> .heap h fun hr=> .gr (Nat.beq e hr.e&&aam T h hr) (y8 h hr hr.xs (List.replicate l.toNat hr.t.zero))
   |none=>let u:=Nc st u0
    newRow o.dst ⟨e,u,List.replicate l.toNat u.zero⟩)
  |_,_,_=> .fail
def alL (T:dc)(av:Operand→AV)(st:Option Site)(o:Oper)(t:TypeId):Q T cP:=
 match km T.rows t with
  |some r=>match aeA T.rows o.type with
   |some h=> .heap h fun hr=> .gr (Nat.beq hr.e t&&aam T h hr) (NT h hr hr.t.zero)
   |none=>match r.ty,iK T.rows t,o.dst with
    | .slice _,some (u,e,_),some d=> .rI d (.rH d (.ret (.box d 0, .nu [.box d (.own d), .row d ⟨e,u,[]⟩])))
    |_,_,_=>Bj o.dst (.cells (YC r.ty))
  |none=> .fail
def aqf (T:dc)(av:Operand→AV)(st:Option Site)(o:Oper)(t:TypeId)(v:Operand):Q T cP:=
 match km T.rows t with
  |some r=>match av v with
   | .rv (.own q)=> .row q fun row=> .all fun σ=>match o.dst with
     |some d=>match look σ.boxes d with
      |none=> .ret (.box d 0, .set {(σ.freeze q) with boxes:=put (σ.freeze q).boxes d (.cells [⟨.slice row.t,row.xs⟩])})
      |some _=> .fail
     |none=> .fail
   |a=>kt (fun vs=> .gr (Nat.beq vs.length r.ty.size) (match aeA T.rows o.type with
    |some h=> .heap h fun hr=> .gr (Nat.beq hr.e t) (.opt (wO [] hr.t vs) fun x=>NT h hr x)
    |none=>Bj o.dst (.cells vs))) (cells r.ty a)
  |none=> .fail
def alM (T:dc)(av:Operand→AV)(st:Option Site)(o:Oper)(t:TypeId)(x:Operand)(v:Operand):Q T cP:=
 match km T.rows t with
  |some r=>match av v,av x with
   | .rv (.own q), .box b 0=> .box b fun bx=> .gr (bx.one&&Nat.beq r.ty.size 1) <| .all fun σ=>
     bif Nat.beq q b then .ret (.nil, .set {σ with boxes:=put σ.boxes b (.own b)})
     else .ret (.nil, .set {((σ.freeze b).rename q b) with boxes:=put ((σ.freeze b).rename q b).boxes b (.own b)})
   | .rv (.own q),_=> .all fun σ=>(Q.on (σ.freeze q) (kt (fun vs=> .gr (Nat.beq vs.length r.ty.size) (J6 ((σ.freeze q).av x) vs)) (cells r.ty ((σ.freeze q).av v)))).map fun p=>(p.1,match p.2 with
     | .nu us=> .set ((σ.freeze q).app us)
     | .set ah=> .set ah)
   | .lit (.slice none 0 0), .box b 0=>match iK T.rows t with
     |some (u,e,_)=> .box b fun bx=> .gr bx.one <| .all fun σ=> .ret (.nil, .set {(σ.freeze b) with rows:=put (σ.freeze b).rows b ⟨e,u,[]⟩,boxes:=put (σ.freeze b).boxes b (.own b)})
     |none=> .fail
   |a,x=>kt (fun vs=> .gr (Nat.beq vs.length r.ty.size) (J6 x vs)) (cells r.ty a)
  |none=> .fail
def afX (T:dc)(av:Operand→AV)(st:Option Site)(o:Oper)(args:Array Operand)(argTypes:Array TypeId):Q T cP:=
 match args.toList,argTypes.toList with
  | [x],[t]=>match km T.rows t with
    |some r=>afU r.ty (av x)
    |none=> .fail
  |_,_=> .fail
def afY (T:dc)(av:Operand→AV)(st:Option Site)(o:Oper)(args:Array Operand):Q T cP:=
 match args.toList with
  | [x,y]=>match av x,av y with
    | .rv (.cv ⟨.int i,a⟩), .rv (.cv ⟨.int _,b⟩)=>EE (.int i) (bif decide (b>a) then b else a)
    |_,_=> .fail
  |_=> .fail
def afZ (T:dc)(av:Operand→AV)(st:Option Site)(o:Oper)(args:Array Operand):Q T cP:=
 match args.toList with
  | [x,y]=>match av x,av y with
    | .rv (.cv ⟨.int i,a⟩), .rv (.cv ⟨.int _,b⟩)=>EE (.int i) (bif decide (b<a) then b else a)
    |_,_=> .fail
  |_=> .fail
def YH (T:dc)(av:Operand→AV)(st:Option Site)(o:Oper)(args:Array Operand)(argTypes:Array TypeId):Q T cP:=
 match args.toList,argTypes.toList with
  | [s,x],[t,tx]=> .gr (Nat.beq t tx||(iK T.rows tx).isSome) (match iK T.rows t with
    |some (u,e,bytes)=>match av s with
     | .rv (.own r)=> .row r fun row=> .gr (match av x with | .rv (.own q)=> !(Nat.beq q r) |_=>true) (appended row.t (av x) fun ys=>
       .gr (Nat.beq row.e e&&Nat.beq row.t.size u.size&&aB bytes u.size row.xs.length ys.length) (match o.dst with
        |some d=> .all fun σ=>match look (σ.bz r).rows d with
         |none=> .ret (.rv (.own d), .set {(σ.bz r) with rows:=put (σ.bz r).rows d ⟨e,row.t,row.xs++ys⟩})
         |some _=> .fail
        |none=> .fail))
     | .rv (.cv ⟨.ref h,n⟩)=> .heap h fun hr=> .opt (ag hr.xs n) fun l=> .gr (Nat.beq e hr.e&&Nat.beq u.size hr.t.size) (appended hr.t (av x) fun ys=>
       .gr (aB bytes hr.t.size l.length ys.length) (.ite ys.isEmpty (pv (.rv (.cv ⟨.ref h,n⟩))) (y8 h hr (cw hr.xs n) (l++ys))))
     | .lit (.slice none 0 0)=>match J5 st with
       |some h=> .heap h fun hr=> .gr (Nat.beq e hr.e&&Nat.beq u.size hr.t.size) (appended hr.t (av x) fun ys=>
         .gr (aB bytes hr.t.size 0 ys.length) (.ite ys.isEmpty (pv (.rv (.cv ⟨.ref h,(0:Nat)⟩))) (y8 h hr hr.xs ys)))
       |none=>appended u (av x) fun ys=> .gr (aB bytes u.size 0 ys.length) (newRow o.dst ⟨e,u,ys⟩)
     |_=> .fail
    |none=> .fail)
  |_,_=> .fail
def aap (T:dc)(av:Operand→AV)(st:Option Site)(o:Oper)(f:Operand)(args:Array Operand):Q T cP:=
 match av f with
  | .Na=> .all fun σ=>match σ.trace with
    | ⟨.slice t,xs⟩=> .gr (I6 t) (.opt (rV t (args.toList.map av)) fun x=> .ret (.rv (.cv ⟨.bool,true⟩), .set {σ with trace:=⟨.slice t,xs++[x]⟩}))
    |_=> .fail
  |a=>match QW a with
   |some (f,aX)=>bif args.toList.any (fun x=>yv (av x))&& !(k9 T (T.sig ((T9 T st f (args.toList.map av++aX.map W7)).getD 0))) then
     .all fun σ=>(Q.on (σ.wK args.toList) (J8 T (σ.wK args.toList).av st o.dst f aX args.toList)).map fun p=>(p.1,match p.2 with
      | .nu us=> .set ((σ.wK args.toList).app us)
      | .set ah=> .set ah)
    else J8 T av st o.dst f aX args.toList
   |none=> .fail
def an8 (T:dc)(av:Operand→AV)(st:Option Site)(o:Oper)(c:Call):Q T cP:=match c with
 | {callee:= .builtin .len,args,argTypes}=>afX T av st o args argTypes
 | {callee:= .builtin .max,args, .. }=>afY T av st o args
 | {callee:= .builtin .min,args, .. }=>afZ T av st o args
 | {callee:= .builtin .append,args,argTypes}=>YH T av st o args argTypes
 | {callee:= .value f,args, .. }=>aap T av st o f args
 |_=> .fail
def opF (T:dc)(av:Operand→AV)(sites:List (Nat×Site))(o:Oper):Q T cP:=
 let st:=o.dst.bind (look sites)
 match o.op with
 | .move x=>Nb T.rows o.type (av x)
 | .assign x=>aiq T av st o x
 | .pick c a b=>an6 T av st o c a b
 | .nilCheck x=>acY T av st o x
 | .load t x=>W5 T.rows t (av x)
 | .binOp op xt x y _=>alH T av st o op xt x y
 | .unOp op _ x=>an7 T av st o op x
 | .convert s d x=>W6 T.rows s d (av x)
 | .fieldAddr s x f=>QU T.rows s (av x) f
 | .indexAddr t x i=>QT T.rows t (av x) (av i)
 | .index t x i=>alI T av st o t x i
 | .extract x i=>afW T av st o x i
 | .makeFunc (.func f) first captured=>acZ T av st o f first captured
 | .slice t x lo hi mx=>alJ T av st o t x lo hi mx
 | .build t parts=>alK T av st o t parts
 | .buildSlice t len parts=>YG T av st o t len parts
 | .makeSlice t l c=>aao T av st o t l c
 | .alloc t=>alL T av st o t
 | .box t v=>aqf T av st o t v
 | .store t x v=>alM T av st o t x v
 | .call c=>an8 T av st o c
 |_=> .fail
theorem an9 (T:dc)(av:Operand→AV)(sites:List (Nat×Site))(o:Oper):opF T av sites o=EN T av sites o:=by
 unfold opF EN;generalize o.dst.bind (look sites)=st;cases o.op with
 |call c=>
  obtain⟨callee,args,ats⟩:=c;cases callee with
  |builtin b=>cases b<;>rfl
  |value f=>rfl
  |invoke r m=>rfl
 |makeFunc f a b=>cases f<;>rfl
 |_=>rfl
def nx.wr (k:List Nat):nx→nx
 | .M r w=> .M r (k++w)
 | .X=> .X
noncomputable def aeC {α:Type}(l:List (Nat×α))(j:Nat):Option α:=List.rec (motive:=fun _=>Option α) none (fun p _ ih=>bif Nat.beq p.1 j then some p.2 else ih) l
theorem Ub {α:Type}:∀(l:List (Nat×α)) (j:Nat),aeC l j=look l j
 | [],j=>rfl
 | (k,v)::r,j=>by have ih:=Ub r j;unfold aeC at ih ⊢;simp only[look];rw[ih]
noncomputable def air {α:Type}(l:List (Nat×α))(j:Nat)(v:α):List (Nat×α):=List.rec (motive:=fun _=>List (Nat×α)) [(j,v)] (fun p r ih=>bif Nat.blt p.1 j then (j,v)::p::r else bif Nat.beq p.1 j then (j,v)::r else p::ih) l
theorem aaq {α:Type}:∀(l:List (Nat×α)) (j:Nat) (v:α),air l j v=NS l j v
 | [],j,v=>rfl
 | (k,u)::r,j,v=>by have ih:=aaq r j v;unfold air at ih ⊢;simp only[NS];rw[ih]
noncomputable def gh.avF (s:gh)(x:Operand):AV:=match s with
 | ⟨_,l,sv⟩=>match x with
   | .tmp t=>match aeC l t with
     |some x=>x
     |none=> .nil
   | .const v=>ofConst v
   | .func f=> .fn f []
   | .global g=>match aeC sv (gk g) with
     |some x=>x
     |none=> .nil
theorem aoa (s:gh)(x:Operand):s.avF x=s.av x:=by
 obtain⟨n,l,sv⟩:=s;cases x with
 |tmp t=>simp only[gh.avF,gh.av,nth,Ub]
 |const v=>rfl
 |func f=>rfl
 |global g=>simp only[gh.avF,gh.av,Ub]
noncomputable def Q.Ws {α:Type}(Φ:cj T)(q:Q T α):AS→nx→(nx→α→Option R)→Option R:=
 Q.rec (motive:=fun _=>AS→nx→(nx→α→Option R)→Option R)
   (fun a _ c k=>k c a)
   (fun _ _ _=>none)
   (fun o _ ih σ c k=>o.bind fun y=>ih y σ c k)
   (fun b _ ih σ c k=>bif b then ih σ c k else none)
   (fun b _ _ Ml JA σ c k=>bif b then Ml σ c k else JA σ c k)
   (fun r _ ih σ c k=>match look σ.rows r with
    |some x=>ih x σ (c.rd (4*r)) k
    |none=>none)
   (fun r _ ih σ c k=>match look σ.rows r with
    |some x=>ih (List.length x.xs) σ (c.rd (4*r+2)) k
    |none=>none)
   (fun b _ ih σ c k=>match look σ.boxes b with
    |some x=>ih x σ (c.rd (2*b+1)) k
    |none=>none)
   (fun h _ ih σ c k=>match σ.af[h]? with
    |some x=>ih x σ (c.rd (hk h)) k
    |none=>none)
   (fun r _ ih σ c k=>match look σ.rows r with
    |none=>ih σ (c.rd (4*r)) k
    |some _=>none)
   (fun b _ ih σ c k=>match look σ.boxes b with
    |none=>ih σ (c.rd (2*b+1)) k
    |some _=>none)
   (fun v x _ ih σ c k=>(Φ v x).bind fun y=>ih y σ c k)
   (fun _ ih σ _ k=>ih σ σ .X k)
   (fun ah _ ih _ _ k=>ih ah .X k) q
theorem alN {α:Type}(Φ:cj T)(q:Q T α):∀(σ:AS) (c:nx) (k:nx→α→Option R),q.Ws Φ σ c k=q.run Φ σ c k:=by
 induction q with
 |ret a=>intro σ c k;rfl
 |fail=>intro σ c k;rfl
 |opt o q ih=>intro σ c k;show o.bind (fun y=>(q y).Ws Φ σ c k)=o.bind fun y=>(q y).run Φ σ c k;congr 1;funext y;exact ih y σ c k
 |gr b q ih=>intro σ c k;cases b<;>first |rfl |exact ih σ c k
 |ite b x y Ml JA=>intro σ c k;cases b<;>first |exact Ml σ c k |exact JA σ c k
 |row r q ih=>
  intro σ c k;show (match look σ.rows r with |some x=>(q x).Ws Φ σ (c.rd (4*r)) k |none=>none)=_;simp only[Q.run];cases look σ.rows r with
  |none=>rfl
  |some x=>exact ih x σ _ k
 |len r q ih=>
  intro σ c k;show (match look σ.rows r with |some x=>(q (List.length x.xs)).Ws Φ σ (c.rd (4*r+2)) k |none=>none)=_;simp only[Q.run];cases look σ.rows r with
  |none=>rfl
  |some x=>exact ih _ σ _ k
 |box b q ih=>
  intro σ c k;show (match look σ.boxes b with |some x=>(q x).Ws Φ σ (c.rd (2*b+1)) k |none=>none)=_;simp only[Q.run];cases look σ.boxes b with
  |none=>rfl
  |some x=>exact ih x σ _ k
 |heap h q ih=>
  intro σ c k;show (match σ.af[h]? with |some x=>(q x).Ws Φ σ (c.rd (hk h)) k |none=>none)=_;simp only[Q.run];cases σ.af[h]? with
  |none=>rfl
  |some x=>exact ih x σ _ k
 |rH r q ih=>
  intro σ c k;show (match look σ.rows r with |none=>q.Ws Φ σ (c.rd (4*r)) k |some _=>none)=_;simp only[Q.run];cases look σ.rows r with
  |none=>exact ih σ _ k
  |some x=>rfl
 |rI b q ih=>
  intro σ c k;show (match look σ.boxes b with |none=>q.Ws Φ σ (c.rd (2*b+1)) k |some _=>none)=_;simp only[Q.run];cases look σ.boxes b with
  |none=>exact ih σ _ k
  |some x=>rfl
 |call v x q ih=>intro σ c k;show (Φ v x).bind (fun y=>(q y).Ws Φ σ c k)=(Φ v x).bind fun y=>(q y).run Φ σ c k;congr 1;funext y;exact ih y σ c k
 |all q ih=>intro σ c k;exact ih σ σ _ k
 |on ah q ih=>intro σ c k;exact ih ah _ k
noncomputable def ais (s:gh)(i:Nat)(v:AV):gh:=match s with
 | ⟨n,l,sv⟩=>bif Nat.blt i n then ⟨n,air l i v,sv⟩ else ⟨n,l,sv⟩
theorem ait (s:gh)(i:Nat)(v:AV):ais s i v=ED s i v:=by obtain⟨n,l,sv⟩:=s;unfold ais ED;simp only[aaq]
noncomputable def AS.Uc (σ:AS)(d:Option Tmp)(v:AV):AS:=match d with
 |some d=>match σ with
  | ⟨t,rows,boxes,af,trace,cR,sites⟩=>⟨ais t d v,rows,boxes,af,trace,cR,sites⟩
 |none=>σ
theorem Ud (σ:AS)(d:Option Tmp)(v:AV):σ.Uc d v=σ.jX d v:=by
 cases d with
 |none=>rfl
 |some d=>obtain⟨t,rows,boxes,af,trace,cR,sites⟩:=σ;simp only[AS.Uc,AS.jX,ait]
def AS.aob (σ:AS)(u:TU):AS:=match σ with
 | ⟨t,rows,boxes,af,trace,cR,sites⟩=>match u with
   | .row q r=>⟨t,put rows q r,boxes,af,trace,cR,sites⟩
   | .J4 q r=>⟨t,put rows q r,boxes,af,trace,cR,sites⟩
   | .box b x=>⟨t,rows,put boxes b x,af,trace,cR,sites⟩
   | .heap h r=>⟨t,rows,boxes,af.set h r,trace,cR,sites⟩
def AS.alO (σ:AS):List TU→AS
 | []=>σ
 |u::us=>(σ.aob u).alO us
theorem aeD:∀(us:List TU) (σ:AS),σ.alO us=σ.app us
 | [],σ=>rfl
 |u::us,σ=>by
  have:σ.aob u=σ.one u:=by obtain⟨t,rows,boxes,af,trace,cR,sites⟩:=σ;cases u<;>rfl
  show (σ.aob u).alO us=(σ.one u).app us;rw[this,aeD us]
noncomputable def Mm (T:dc)(Φ:cj T)(σ:AS)(o:Oper)(k:nx→AS→Option R):Option R:=
 (opF T σ.tmps.avF σ.sites o).Ws Φ σ (.M [] []) fun c r=>match r.2 with
  | .nu us=>k (c.wr (aal us)) ((σ.alO us).Uc o.dst r.1)
  | .set ah=>k .X (ah.Uc o.dst r.1)
theorem LN (T:dc)(Φ:cj T)(σ:AS)(o:Oper)(k:nx→AS→Option R):Mm T Φ σ o k=(EN T σ.av σ.sites o).run Φ σ (.M [] []) fun c r=>match r.2 with
  | .nu us=>k (c.wr (aal us)) ((σ.app us).jX o.dst r.1)
  | .set ah=>k .X (ah.jX o.dst r.1):=by
 unfold Mm;have e:σ.tmps.avF=σ.av:=funext fun x=>aoa σ.tmps x;rw[alN,an9,e];simp only[aeD,Ud]
def AS.NU (σ:AS)(t:Nat)(b:Bool):AS:=match σ with
 | ⟨⟨n,l,sv⟩,rows,boxes,af,trace,cR,sites⟩=>⟨⟨n,alG l t (.rv (.cv ⟨.bool,b⟩)),sv⟩,rows,boxes,af,trace,cR,sites⟩
noncomputable def J9 (T:dc)(Φ:cj T)(ops:Array Oper)(σ:AS)(o:Oper)(k:nx→AS→Option R):Option R:=
 match o.guard with
 |none=>Mm T Φ σ o k
 |some (j,want)=>match (ops[j]?).bind (·.dst) with
  |some t=>match nth σ.tmps t with
   | .rv (.cv ⟨.bool,b⟩)=>
     bif b then (bif want then Mm T Φ (σ.NU t true) o k else k (.M [] []) ((σ.NU t true).Uc o.dst (.lit undef)))
     else (bif want then k (.M [] []) ((σ.NU t false).Uc o.dst (.lit undef)) else Mm T Φ (σ.NU t false) o k)
   | .lit (.tuple _)=>k (.M [] []) (σ.Uc o.dst (.lit undef))
   |_=>none
  |none=>none
noncomputable def W8 (T:dc)(Φ:cj T)(ops:Array Oper):List Oper→AS→List nx→(List nx→AS→Option R)→Option R
 | [],σ,cs,k=>k cs σ
 |o::r,σ,cs,k=>J9 T Φ ops σ o fun c ah=>W8 T Φ ops r ah (c::cs) k
def AS.kM (σ:AS):List Nat→AS
 | []=>σ
 |d::ds=>(σ.eV d).kM ds
def AS.aar (σ:AS)(d:Nat):AS:=match look σ.rows d with
 |none=>σ
 |some _=>σ.bz d
def AS.aas (σ:AS)(d:Nat):AS:=match look σ.boxes d with
 |none=>σ
 |some _=>σ.eV d
def AS.QY (σ:AS):List Nat→AS
 | []=>σ
 |d::ds=>match σ.rows with
  | []=>σ
  |_=>(σ.aar d).QY ds
def AS.QZ (σ:AS):List Nat→AS
 | []=>σ
 |d::ds=>match σ.boxes with
  | []=>σ
  |_=>(σ.aas d).QZ ds
def Pm:List Oper→List Nat
 | []=>[]
 |o::r=>match o.op with
  | .alloc _ | .box .. | .buildSlice .. | .makeSlice .. | .slice .. | .call {callee:= .builtin .append, .. }=>o.dst.getD 0::Pm r
  | .call {callee:= .builtin _, .. }=>Pm r
  | .call _=>Pl o.dst::(Pl o.dst+1)::(Pl o.dst+2)::(Pl o.dst+3)::Pm r
  |_=>Pm r
def Pn:List Oper→List Nat
 | []=>[]
 |o::r=>match o.op with
  | .alloc _ | .box .. =>o.dst.getD 0::Pn r
  | .call {callee:= .builtin _, .. }=>Pn r
  | .call _=>Pl o.dst::(Pl o.dst+1)::(Pl o.dst+2)::(Pl o.dst+3)::Pn r
  |_=>Pn r
def AS.alP (σ:AS)(l:List Oper):AS:=(σ.QY (Pm l)).QZ (Pn l)
def meets (a b:List Nat):Bool:=a.any fun x=>b.any fun y=>Nat.beq x y
def HQ:nx→nx→Bool
 | .M r w, .M r' w'=> !(meets w r'||meets w w'||meets r w')
 |_,_=>false
def Ng (acc:List Nat)(o:Oper):Nat:=
 o.after.toList.foldr (fun e s=>bif Region.binds .any e then (s|||2^e.on)||| (acc[e.on]?).getD 0 else s) 0
def Mn:List Oper→List Nat→List Nat
 | [],acc=>acc
 |o::r,acc=>Mn r (acc++[Ng acc o])
def YI (ops:Array Oper)(i:Nat)(a:Oper×nx)(m:Nat)(b:Oper×nx):Bool:=
 m.testBit i||(a.1.apart ops b.1&&HQ a.2 b.2)
def Ue (ops:Array Oper)(i:Nat)(a:Oper×nx):List (Oper×nx)→List Nat→Bool
 | [],_=>true
 |b::r,m::ms=>YI ops i a m b&&Ue ops i a r ms
 |_::_,[]=>false
def Ka (ops:Array Oper):Nat→List (Oper×nx)→List Nat→Bool
 |_,[],_=>true
 |i,a::r,_::ms=>Ue ops i a r ms&&Ka ops (i+1) r ms
 |_,_::_,[]=>false
def Kb:Nat→List Oper→Bool
 |_,[]=>true
 |i,o::r=>o.after.toList.all (fun e=> !(Region.binds .any e)||Nat.blt e.on i)&&Kb (i+1) r
noncomputable def wQ (T:dc)(Φ:cj T)(ops:Array Oper)(draw:Bool)(σ:AS)(k:AS→Option R):Option R:=
 W8 T Φ ops ops.toList (σ.alP ops.toList) [] fun cs ah=>
  bif draw then (bif Kb 0 ops.toList&&Ka ops 0 (ops.toList.zip cs.reverse) (Mn ops.toList []) then k ah else none) else k ah
inductive Ex where
 |normal |exit (id:Nat) |ret
def loops:Code→Nat
 | .seq a b=>loops a+loops b
 | .cond _ a b=>loops a+loops b
 | .block _ c=>loops c
 | .loop c=>loops c+1
 | .rangeFunc _ _ a b=>loops a+loops b+1
 |_=>0
def mQ (h:List (Nat×Bool))(body:AS→(Ex→AS→Option R)→Option R)(k:Ex→AS→Option R):Nat→AS→Option R
 |0,_=>none
 |n+1,σ=>body σ fun e ah=>match e with
  | .normal=>mQ h body k n (ah.forget h)
  | .exit i=>k (.exit i) ah
  | .ret=>k .ret ah
def aiu:(t:Ty)→t.den→AV
 | .st t,x=> .rv (.agg (flat t x))
 |t,x=> .rv (.cv ⟨t,x⟩)
def I8 (s:gh):List Tmp→(ts:List Ty)→(kL ts).den→Option gh
 | [],[],_=>some s
 |p::ps,t::ts,x=>I8 (ED s p (aiu t x.1)) ps ts x.2
 |_,_,_=>none
def y9 (σ:AS):Bool:=(σ.tmps.l.all fun p=>Nat.blt p.1 10000)&&σ.tmps.s.all fun p=>Nat.ble 1000000000 p.1
def RNG:Nat:=1000000007
def jN (ps:List Tmp)(Tl body:AS→(Ex→AS→Option R)→Option R)(σ:AS)(k:Ex→AS→Option R):Option R:=
 match σ.cR with
 | []=>none
 |r::rs=>match r with
  | ⟨ts,xs⟩=>match xs with
    | []=>k (.exit RNG) σ
    |x::xs=>match I8 σ.tmps ps ts x with
     |some s=>Tl {σ with tmps:=s,cR:=⟨ts,xs⟩::rs} fun e dL=>match e with
      | .normal=>body dL fun e nv=>match e with
        | .normal=>k .normal nv.back
        |_=>none
      |_=>none
     |none=>none
def gF (k:Ex→AS→Option R):Ex→AS→Option R
 | .exit _,σ=>k .normal {σ.CT with cR:=σ.cR.tail}
 |_,_=>none
def aC (boxes:List (Nat×BX)):(ps:List ph)→List I5→Option (HN ps)
 | [],[]=>some ()
 | [.bx t],[.box b]=>match look boxes b with
   |some (.cells cs)=>CE t cs
   |_=>none
 | .bx t::q::ps, .box b::cs=>match look boxes b with
   |some (.cells l)=>match CE t l with
    |some x=>match aC boxes (q::ps) cs with
     |some y=>some (x,y)
     |none=>none
    |none=>none
   |_=>none
 |_,_=>none
def bA:List I5→List Nat
 | []=>[]
 | .box b::r=>b::bA r
 | .qA _::r=>bA r
def yw:List Nat→Bool
 | []=>true
 |x::r=> !(r.any (Nat.beq x))&&yw r
def HR (boxes:List (Nat×BX)):(ps:List ph)→List I5→Option (HN ps)
 | [.Na],[]=>some ()
 | .Na::q::ps,cs=>match aC boxes (q::ps) cs with
   |some y=>some ((),y)
   |none=>none
 |_,_=>none
def wR (T:dc)(Φ:cj T)(σ:AS)(f:AV)(k:Rng→List Nat→Option R):Option R:=match f with
 | .fn g aX=>match T.alF g with
   |v::_=>match HR σ.boxes (T.sig v).args aX with
    |some x=>match J2 x (T.sig v).hin (NR T σ.af (T.sig v).hin) with
     |some xh=>(Φ v xh).bind fun yh=>bif yw (bA aX)&&(T.sig v).af.isEmpty&&Nat.beq (T.real v) g then match T.sig v,wJ _ yh with
      | ⟨_,_,_,_,some ts⟩,y=>k ⟨ts,y⟩ (bA aX)
      |_,_=>none
      else none
     |none=>none
    |none=>none
   | []=>none
 |_=>none
noncomputable def aM (T:dc)(Φ:cj T)(n:Nat):Code→List (List (Nat×Bool))→AS→(Ex→AS→Option R)→Option R
 | .skip,_,σ,k=>k .normal σ
 | .region _ ops draw,_,σ,k=>wQ T Φ ops draw σ (k .normal)
 | .seq a b,hs,σ,k=>aM T Φ n a hs σ fun e ah=>match e with
   | .normal=>aM T Φ n b (hs.drop (loops a)) ah k
   | .exit i=>k (.exit i) ah
   | .ret=>k .ret ah
 | .cond c a b,hs,σ,k=>match c with
   | .tmp t=>match nth σ.tmps t with
     | .rv (.cv ⟨.bool,x⟩)=>bif x then aM T Φ n a hs (σ.NU t true) k else aM T Φ n b (hs.drop (loops a)) (σ.NU t false) k
     |_=>none
   | .const (.bool x)=>bif x then aM T Φ n a hs σ k else aM T Φ n b (hs.drop (loops a)) σ k
   |_=>none
 | .block id c,hs,σ,k=>aM T Φ n c hs σ fun e ah=>match e with
   | .normal=>k .normal ah
   | .exit i=>bif Nat.beq i id then k .normal ah else k (.exit i) ah
   | .ret=>k .ret ah
 | .loop c,hs,σ,k=>match hs with
   |h::hs'=>mQ h (fun σ k'=>aM T Φ n c hs' σ k') k n (σ.forget h)
   | []=>none
 | .rangeFunc f ps a b,hs,σ,k=>match hs,σ.cR,σ.trace with
   |h::hs',[],⟨.unit,_⟩=>wR T Φ σ (σ.av f) fun r bs=>
     bif y9 ((σ.kM bs).forget h) then
      mQ h (jN ps.toList (fun σ k'=>aM T Φ n a hs' σ k') (fun σ k'=>aM T Φ n b (hs'.drop (loops a)) σ k')) (gF k) n
       {(((σ.kM bs).forget h)) with cR:=[r]}.save
     else none
   |_,_,_=>none
 | .exit i,_,σ,k=>k (.exit i) σ
 | .ret,_,σ,k=>k .ret σ
 |_,_,_,_=>none
end
def Uf:(ps:List ph)→HN ps→Nat→List AV
 | [],_,_=>[]
 | [p],x,i=>[one p x i]
 |p::q::ps,x,i=>one p x.1 i::Uf (q::ps) x.2 (i+1)
where
 ac0:(ts:List Ty)→tw ts→List I5
  | [],_=>[]
  | [t],x=>[.qA (flat t x)]
  |t::u::ts,x=> .qA (flat t x.1)::ac0 (u::ts) x.2
 one:(p:ph)→p.den→Nat→AV
  | .v t,x,_=>aiu t x
  | .fn f ts,x,_=> .fn f (ac0 ts x)
  | .c cs,_,_=> .rv (.agg cs)
  | .rp t,x,_=> .qA (flat t x)
  | .bx _,_,i=> .box i 0
  | .Na,_,_=> .Na
def dZ:(ps:List ph)→HN ps→Nat→List (Nat×BX)
 | [],_,_=>[]
 | [p],x,i=>one p x i
 |p::q::ps,x,i=>one p x.1 i++dZ (q::ps) x.2 (i+1)
where
 one:(p:ph)→p.den→Nat→List (Nat×BX)
  | .bx t,x,i=>[(i, .cells (flat t x))]
  |_,_,_=>[]
def HS (T:List gZ)(σ:AS):ResultVar→Option AV
 | .tmp t=>some (nth σ.tmps t)
 | .cell a t=>match nth σ.tmps a,km T t with
   | .box b off,some r=>match look σ.boxes b with
     |some (.cells cs)=>nW r.ty (cs.drop off)
     |some (.own q)=>match r.ty with
      | .slice _=>bif Nat.beq off 0 then some (.rv (.own q)) else none
      |_=>none
     |_=>none
   |_,_=>none
def YJ (af:List aQ)(hin:List Nat):List aQ:=af.zipIdx.map fun p=>bif hin.any (Nat.beq p.2) then ⟨p.1.e,p.1.t,p.1.k,p.1.w,[]⟩ else p.1
def Kc (σ:AS)(hin:List Nat)(p:NP)(a:AV):Option p.1.den:=
 match p.2,a with
 |none, .rv (.own r)=>match look σ.rows r with
  |some row=>(dv p.1 [⟨.slice row.t,row.xs⟩]).map (·.1)
  |none=>none
 |none,a=>bif QX a then typed (YJ σ.af hin) p.1 a else typed [] p.1 a
 |some e, .rv (.own r)=>match look σ.rows r with
  |some row=>bif Nat.beq row.e e then (dv p.1 [⟨.slice row.t,row.xs⟩]).map (·.1) else none
  |none=>none
 |some _,_=>none
def tA (T:List gZ)(σ:AS)(hin:List Nat):List ResultVar→(ts:List NP)→Option (tw (ts.map (·.1)))
 | [],[]=>some ()
 | [v],[p]=>(HS T σ v).bind (Kc σ hin p)
 |v::vs,p::q::ps=>match (HS T σ v).bind (Kc σ hin p),tA T σ hin vs (q::ps) with
  |some x,some y=>some (x,y)
  |_,_=>none
 |_,_=>none
def uN (T:List gZ)(σ:AS):List ResultVar→List Nat
 | []=>[]
 |v::vs=>match HS T σ v with
  |some (.rv (.own r))=>r::uN T σ vs
  |_=>uN T σ vs
def Ug (l:List NP):Bool:=l.any fun p=>p.2.isSome
def mr (boxes:List (Nat×BX)):(ts:List Ty)→List I5→Option (tw ts)
 | [],[]=>some ()
 | [t],[.box b]=>match look boxes b with
   |some (.cells cs)=>CE t cs
   |_=>none
 |t::u::ts, .box b::cs=>match look boxes b with
  |some (.cells l)=>match CE t l with
   |some x=>match mr boxes (u::ts) cs with
    |some y=>some (x,y)
    |none=>none
   |none=>none
  |_=>none
 |_,_=>none
def Wt (T:List gZ)(vars:List ResultVar)(s:JZ)(σ:AS):Option (NQ s):=match s with
 | ⟨_,_,_,_,some ts⟩=>match vars with
   | []=>(dv (.slice (kL ts)) [σ.trace]).map (·.1)
   |_=>none
 | ⟨_,_,some (f,ts),_,none⟩=>match vars with
   | [v]=>match HS T σ v with
     |some (.fn g aX)=>bif Nat.beq g f&&yw (bA aX) then mr σ.boxes ts aX else none
     |_=>none
   |_=>none
 | ⟨_,res,none,hs,none⟩=>bif yw (uN T σ vars)|| !(Ug res) then tA T σ (hs.map (·.1)) vars res else none
def EO (s:JZ):CV:=match s.gen with
 |some ts=>⟨.slice (kL ts),([]:List (kL ts).den)⟩
 |none=>⟨.unit,()⟩
def Po (T:dc)(fn:Func)(v:Nat)(x:CS T v):AS:=
 ⟨gh.of (Uf (T.sig v).args (wJ _ x) 0) (fn.ntmps - (T.sig v).args.length) T.ano,[],dZ (T.sig v).args (wJ _ x) 0,rR T (T.sig v).hout (T.sig v).hin (F0 _ x) (c8 T),EO (T.sig v),[],T.sites v⟩
def Mo (T:dc)(fn:Func)(v:Nat):Ex→AS→Option (wN T v):=fun e σ=>match e with
 | .exit _=>none
 |_=>match Wt T.rows fn.results.toList (T.sig v) σ with
  |some y=>J2 y (T.sig v).hout (NR T σ.af (T.sig v).hout)
  |none=>none
noncomputable def Ke (T:dc)(fn:Func)(c:Code)(Φ:cj T)(n:Nat)(v:Nat)(x:CS T v):Option (wN T v):=
 aM T Φ n c (T.hint v) (Po T fn v x) (Mo T fn v)
abbrev NV (T:dc):=(v:Nat)→Option (CS T v→Option (wN T v))
noncomputable def JB (T:dc)(B:NV T)(fns:Nat→Option Func):Nat→cj T
 |0,_,_=>none
 |n+1,v,x=>match B v with
  |some g=>g x
  |none=>match fns v with
   |some fn=>match fn.body with
    |some c=>Ke T fn c (JB T B fns n) n v x
    |none=>none
   |none=>none
open Go.RowKit
section
variable {α:Type}
theorem beq_iff (a b:Nat):Nat.beq a b=true↔a=b:=⟨fun h=>Nat.eq_of_beq_eq_true h,fun h=>by subst h;exact Nat.beq_refl a⟩
theorem tB {a b:Nat}:Nat.beq a b=false↔a≠b:=by
 constructor
 ·intro h e;rw[(beq_iff a b).2 e] at h;cases h
 ·intro h;cases hb:Nat.beq a b
  ·rfl
  ·exact absurd ((beq_iff a b).1 hb) h
theorem beq_refl (a:Nat):Nat.beq a a=true:=(beq_iff a a).2 rfl
theorem ny {a b:Nat}(h:a≠b):Nat.beq a b=false:=tB.2 h
theorem aH (l:List (Nat×α))(j:Nat)(v:α)(i:Nat):look (put l j v) i=if j=i then some v else look l i:=by
 induction l with
 |nil=>by_cases h:j=i<;>simp[put,look,h,beq_refl,ny]
 |cons p r ih=>
  obtain⟨k,u⟩:=p;simp only[put];cases hlt:Nat.blt j k with
  |true=>simp only[cond_true,look];by_cases h:j=i<;>simp[h,beq_refl,ny]
  |false=>
   simp only[cond_false];cases hb:Nat.beq k j with
   |true=>have:=(beq_iff _ _).1 hb;subst this;simp only[cond_true,look];by_cases h:k=i<;>simp[h,beq_refl,ny]
   |false=>
    have hne:=tB.1 hb;simp only[cond_false,look,ih];by_cases h:k=i
    ·subst h;simp[beq_refl];intro e;exact absurd e.symm hne
    ·simp[ny h]
theorem CX (l:List (Nat×α))(j i:Nat):look (del l j) i=if j=i then none else look l i:=by
 induction l with
 |nil=>simp[del,look]
 |cons p r ih=>
  obtain⟨k,u⟩:=p;simp only[del];cases hb:Nat.beq k j with
  |true=>have:=(beq_iff _ _).1 hb;subst this;simp only[cond_true,ih,look];by_cases h:k=i<;>simp[h,ny]
  |false=>
   have hne:=tB.1 hb;simp only[cond_false,look,ih];by_cases h:k=i
   ·subst h;simp[beq_refl];intro e;exact absurd e.symm hne
   ·simp[ny h]
theorem Au (l:List (Nat×α))(p:Nat→Bool)(i:Nat):look (l.filter fun x=>p x.1) i=if p i then look l i else none:=by
 induction l with
 |nil=>simp[look]
 |cons q r ih=>
  obtain⟨k,u⟩:=q;simp only[List.filter_cons];by_cases hk:k=i
  ·subst hk;cases hp:p k<;>simp[look,hp,beq_refl,ih]
  ·cases hp:p k<;>simp[look,hp,ny hk,ih]
theorem put_comm (l:List (Nat×α)){i j:Nat}(u v:α)(h:i≠j):put (put l i u) j v=put (put l j v) i u:=by
 have Se:∀{a b:Nat},a<b→Nat.blt a b=true:=fun h=>by simp[Nat.blt,Nat.ble_eq];omega
 have Sf:∀{a b:Nat},¬a<b→Nat.blt a b=false:=fun h=>by
  cases hb:Nat.blt _ _
  ·rfl
  ·simp[Nat.blt,Nat.ble_eq] at hb;omega
 induction l with
 |nil=>
  rcases Nat.lt_or_gt_of_ne h with h1 |h1
  ·simp[put,Se h1,Sf (show ¬j<i by omega),ny h]
  ·simp[put,Se h1,Sf (show ¬i<j by omega),ny (Ne.symm h)]
 |cons p r ih=>
  obtain⟨k,x⟩:=p;simp only[put];by_cases h1:i<k<;>by_cases h2:j<k<;>by_cases h3:k=i<;>by_cases h4:k=j<;>
   by_cases h5:i<j<;>
   first
   |omega
   | (have h6:¬j<i:=by omega
      simp[put, *,Se,Sf,ny,beq_refl,Ne.symm h];try omega)
   | (have h6:j<i:=by omega
      simp[put, *,Se,Sf,ny,beq_refl,Ne.symm h];try omega)
end
theorem W9 {α:Type}(l:List (Nat×α))(j:Nat)(v:α)(i:Nat):look (NS l j v) i=if j=i then some v else look l i:=by
 induction l with
 |nil=>by_cases h:j=i<;>simp[NS,look,h,beq_refl,ny]
 |cons p r ih=>
  obtain⟨k,u⟩:=p;simp only[NS];cases hlt:Nat.blt k j with
  |true=>simp only[cond_true,look];by_cases h:j=i<;>simp[h,beq_refl,ny]
  |false=>
   simp only[cond_false];cases hb:Nat.beq k j with
   |true=>have:=(beq_iff _ _).1 hb;subst this;simp only[cond_true,look];by_cases h:k=i<;>simp[h,beq_refl,ny]
   |false=>
    have hne:=tB.1 hb;simp only[cond_false,look,ih];by_cases h:k=i
    ·subst h;simp[beq_refl];intro e;exact absurd e.symm hne
    ·simp[ny h]
theorem LO (f:AV→AV)(l:List (Nat×AV))(i:Nat):look (Wr f l) i=(look l i).map f:=by
 induction l with
 |nil=>rfl
 |cons p r ih=>obtain⟨k,u⟩:=p;simp only[Wr,List.map_cons,look] at ih ⊢;cases Nat.beq k i<;>simp[ih]
theorem Av {α:Type}{l:List (Nat×α)}{i:Nat}{x:α}(h:look l i=some x):(i,x)∈l:=by
 induction l with
 |nil=>cases h
 |cons p r ih=>
  obtain⟨k,u⟩:=p;simp only[look] at h;cases hb:Nat.beq k i with
  |true=>
   have:=(beq_iff _ _).1 hb;subst this;rw[hb] at h;have e:u=x:=by simpa using h
   subst e;exact List.mem_cons_self
  |false=>rw[hb] at h;exact List.mem_cons_of_mem _ (ih h)
theorem i7 (f:BX→BX)(l:List (Nat×BX))(i:Nat):look (J3 f l) i=(look l i).map f:=by
 induction l with
 |nil=>rfl
 |cons p r ih=>obtain⟨k,u⟩:=p;simp only[J3,List.map_cons,look] at ih ⊢;cases Nat.beq k i<;>simp[ih]
inductive Nm where
 |row (r:Nat) |box (b:Nat) |hp (h n:Nat)
inductive Obj where
 |row (r:Row) |box (x:BX) |hp (k:Nat) (r:Row)
def dw:Value→Option Nat
 | .slice (some a) _ _=>some a.block
 | .pointer (some a)=>some a.block
 | .map (some r)=>some r
 |_=>none
def I9 (e:TypeId)(t:Ty)(k:Nat)(o:Option (Option (List t.den))):Option Obj:=match o with
 |some (some l)=>some (.hp k ⟨e,t,l⟩)
 |_=>none
def pj (af:List aQ)(h:Nat):Nat→Option Obj
 |0=>none
 |m+1=>match af[h]? with
  |some hr=>I9 hr.e hr.t hr.k hr.xs[m]?
  |none=>none
def AS.obj (σ:AS):Nm→Option Obj
 | .row r=>(look σ.rows r).map .row
 | .box b=>(look σ.boxes b).map .box
 | .hp h n=>pj σ.af h n
def hlen (af:List aQ)(h:Nat):Nat:=match af[h]? with
 |some hr=>hr.xs.length
 |none=>0
def Own (σ:AS)(ν:Nm→Value)(m:Nm)(k:Nat):Prop:=(σ.obj m).isSome=true∧dw (ν m)=some k
def Hid (σ:AS)(ν:Nm→Value)(k:Nat):Prop:=∃m,Own σ ν m k
structure Env where
 V0:View
 w0:World
 X:Nat→Prop
 J:CV→(Nat→Prop)→World→Prop
 XS:Nat→Value
 Y:Value
 ro:Nat→Option aQ
 h0:List aQ
 n0:Nat→Nat→Value
 M:Nat→Prop
 base:World
 CB:Nat→Prop
 Om:Nat→Prop
 acc:CV→Prop
 XH:Nat→Nat→Prop
def Env.Xa (E:Env):Nm→Nat→Prop
 | .row _,_=>False
 | .box _,_=>True
 | .hp i _,k=>E.XH i k
def Env.yq (E:Env)(m:Nm):Prop:=∃i n hr,m= .hp i n∧E.ro i=some hr
theorem Q0 {E:Env}{r:Nat}:¬E.yq (.row r):=fun⟨_,_,_,e,_⟩=>by cases e
theorem NW {E:Env}{r:Nat}:¬E.yq (.box r):=fun⟨_,_,_,e,_⟩=>by cases e
def view (E:Env)(σ:AS)(ν:Nm→Value)(O:Nat→Prop)(w:World):View:=fun key v=>match key with
 | .cell a=>(a.block<E.w0.heap.size∧E.V0 (.cell a) v)∨(E.w0.heap.size≤a.block∧¬Hid σ ν a.block∧¬O a.block∧w.cell? a=some v)
 | .ref h n=>1≤n∧n≤hlen σ.af h∧v=ν (.hp h n)
def tp (V:View)(σ:AS)(ν:Nm→Value):RV→Value→Prop
 | .cv c,v=>cg V c v
 | .agg cs,v=>∃vs:List Value,v= .agg vs.toArray∧aF (cg V) cs vs
 | .own r,v=>v=ν (.row r)∧(look σ.rows r).isSome=true
def CY (σ:AS)(ν:Nm→Value)(b off:Nat)(v:Value):Prop:=(look σ.boxes b).isSome=true∧∃g,ν (.box b)= .pointer (some ⟨g,0,none⟩)∧v= .pointer (some ⟨g,off,none⟩)
def rW (V:View)(cs:List CV)(v:Value):Prop:=∃(ad:Addr) (vs:List Value),v= .pointer (some ad)∧aF (cg V) cs vs∧∀(j:Nat) u,vs[j]? =some u→V (ad.add j) u
def tC (V:View)(σ:AS)(ν:Nm→Value):I5→Value→Prop
 | .box b,v=>CY σ ν b 0 v
 | .qA cs,v=>rW V cs v
def ak (V:View)(σ:AS)(ν:Nm→Value)(Y:Value):AV→Value→Prop
 | .rv x,v=>tp V σ ν x v
 | .lit u,v=>v=u
 | .box b off,v=>CY σ ν b off v
 | .Pj r sz i off,v=>∃row g,look σ.rows r=some row∧dw (ν (.row r))=some g∧sz=row.t.size∧v= .pointer (some ⟨g,i*sz+off,none⟩)
 | .qA cs,v=>rW V cs v
 | .hel h n i off,v=>∃hr g,σ.af[h]? =some hr∧1≤n∧n≤hr.xs.length∧dw (ν (.hp h n))=some g∧v= .pointer (some ⟨g,i*hr.t.size+off,none⟩)
 | .fn f aX,v=>∃vs:List Value,v= .func (.func f) #[] vs.toArray∧aF (tC V σ ν) aX vs
 | .Na,v=>v=Y
 | .tup l,v=>∃vs:List Value,v= .tuple vs.toArray∧aF (tp V σ ν) l vs
 | .nil,_=>True
def ki (V:View)(w:World)(v:Value)(row:Row):Prop:=
 ∃bG:List (List Value),w.ownsRow 0 row.e row.t.size v row.xs.length bG.flatten∧aF (Rel V row.t) row.xs bG
def CZ (V:View)(σ:AS)(ν:Nm→Value)(w:World)(v:Value)(x:BX):Prop:=
 ∃g,v= .pointer (some ⟨g,0,none⟩)∧match x with
  | .cells cs=>∃(cur:Array Value) (e:TypeId),w.heap[g]? =some (.cells cur e (0,0))∧aF (cg V) cs cur.toList
  | .own r=>∃e:TypeId,w.heap[g]? =some (.cells #[ν (.row r)] e (0,0))∧(look σ.rows r).isSome=true
  | .nil=>∃(u:Value) (e:TypeId),w.heap[g]? =some (.cells #[u] e (0,0))
def BM (V:View)(w:World)(k:Nat)(v:Value)(row:Row):Prop:=match k with
 |0=>aij v∧ki V w v row
 |1=>∃(g:Nat) (cur:Array Value) (ys:List Value) (x:row.t.den),v= .pointer (some ⟨g,0,none⟩)∧w.heap[g]? =some (.cells cur row.e (0,0))∧cur.toList=ys∧row.xs=[x]∧Rel V row.t x ys
 |_=>False
def HU (V:View)(σ:AS)(ν:Nm→Value)(w:World)(v:Value):Obj→Prop
 | .row row=>ki V w v row
 | .box x=>CZ V σ ν w v x
 | .hp k row=>BM V w k v row
def JC (R:AV→Value→Prop)(s:gh)(ys:List Value)(X:Nat→Value):Prop:=
 s.n=ys.length∧(∀i x,look s.l i=some x→R x (ys.getD i undef))∧∀i x,look s.s i=some x→R x (X i)
structure Grow (C:Nat→Prop) (w w':World):Prop where
 os:w'.os=w.os
 tape:w'.tape=w.tape
 output:w'.output=w.output
 size:w.heap.size≤w'.heap.size
 block:∀k,k<w.heap.size→¬C k→w'.heap[k]? =w.heap[k]?
theorem Grow.refl (C:Nat→Prop)(w:World):Grow C w w:=⟨rfl,rfl,rfl,Nat.le_refl _,fun _ _ _=>rfl⟩
theorem Grow.C0 {C:Nat→Prop}{w w':World}(h:Below w.heap.size w w'):Grow C w w':=⟨h.os,h.tape,h.output,h.size,fun k hk _=>h.block k hk⟩
theorem Grow.mono {C C':Nat→Prop}{w w':World}(h:Grow C w w')(hC:∀k,k<w.heap.size→C k→C' k):Grow C' w w':=⟨h.os,h.tape,h.output,h.size,fun k hk hn=>h.block k hk fun hc=>hn (hC k hk hc)⟩
theorem Grow.trans {C D:Nat→Prop}{a b c:World}(h:Grow C a b)(k:Grow D b c)(hD:∀i,i<a.heap.size→D i→C i):Grow C a c:=
 ⟨k.os.trans h.os,k.tape.trans h.tape,k.output.trans h.output,Nat.le_trans h.size k.size,fun i hi hn=>
   (k.block i (Nat.lt_of_lt_of_le hi h.size) fun hd=>hn (hD i hi hd)).trans (h.block i hi hn)⟩
theorem Grow.below {w w':World}(h:Grow (fun _=>False) w w'):Below w.heap.size w w':=⟨h.os,h.tape,h.output,h.size,fun k hk=>h.block k hk id⟩
def af0 (k:Nat)(v:Value):Prop:=(k=0∧∃g n c,v= .slice (some ⟨g,0,none⟩) n c)∨(k=1∧∃g,v= .pointer (some ⟨g,0,none⟩))
structure BN (hr hr':aQ):Prop where
 e:hr'.e=hr.e
 t:hr'.t=hr.t
 k:hr'.k=hr.k
 w:hr'.w=hr.w
theorem BN.refl (hr:aQ):BN hr hr:=⟨rfl,rfl,rfl,rfl⟩
theorem BN.trans {a b c:aQ}(h:BN a b)(g:BN b c):BN a c:=⟨g.e.trans h.e,g.t.trans h.t,g.k.trans h.k,g.w.trans h.w⟩
structure HK (h0:List aQ) (n0:Nat→Nat→Value) (hs:List aQ) (ν:Nm→Value):Prop where
 num:hs.length=h0.length
 row:∀(h:Nat) (hr:aQ),h0[h]? =some hr→∃hr':aQ,hs[h]? =some hr'∧BN hr hr'∧hr.xs.length≤hr'.xs.length
 nm:∀h n,1≤n→n≤hlen h0 h→ν (.hp h n)=n0 h n
structure St (E:Env) (σ:AS) (a:Act) (w:World) (ν:Nm→Value) (O:Nat→Prop):Prop where
 keep:Grow E.X E.w0 w
 marks:∀d∈a.defers,∃r,d=⟨.collected r, #[]⟩∧E.w0.heap.size≤r∧w.heap[r]? =some (.deferred (some []))∧¬O r
 slots:JC (ak (view E σ ν O w) σ ν E.Y) σ.tmps a.tmps.toList E.XS
 CF:∀m o,σ.obj m=some o→HU (view E σ ν O w) σ ν w (ν m) o
 inj:∀m m' k,Own σ ν m k→Own σ ν m' k→m=m'
 Aw:∀m k,Own σ ν m k→(E.w0.heap.size≤k∨E.X k∨E.yq m)∧k<w.heap.size∧¬O k
 new:∀m k,Own σ ν m k→E.w0.heap.size≤k∨E.Xa m k
 out:E.J σ.trace O w∧∀k,O k→k<w.heap.size∧(k<E.w0.heap.size→E.X k)
 nn:∀(h:Nat) (hr:aQ) (n:Nat),σ.af[h]? =some hr→1≤n→n≤hr.xs.length→af0 hr.k (ν (.hp h n))
 ro:∀h hr,E.ro h=some hr→σ.af[h]? =some hr∧hr.w=false
 kept:HK E.h0 E.n0 σ.af ν
 waits:∀r,E.M r→w.heap[r]? =some (.deferred (some []))∧¬O r
 wS:Grow E.CB E.base w
 yx:∀m k,Own σ ν m k→E.yq m∨E.CB k∨E.base.heap.size≤k
 Pp:∀k,E.Om k→O k
 nd:a.defers.Nodup
structure aI (E:Env):Prop where
 cell:∀ad v,E.V0 (.cell ad) v→E.w0.cell? ad=some v∧¬E.X ad.block
 stay:∀tr O w w' C,E.J tr O w→Grow C w w'→(∀k,C k→¬O k∧(k<E.w0.heap.size→E.X k))→E.J tr O w'
section
variable {E:Env}{σ ah:AS}{a:Act}{w w':World}{ν aN:Nm→Value}{O:Nat→Prop}
abbrev St.V (E:Env)(σ:AS)(w:World)(ν:Nm→Value)(O:Nat→Prop):View:=view E σ ν O w
theorem za (hE:aI E)(hb:Grow E.X E.w0 w){a:Addr}{v:Value}(h:view E σ ν O w a v):w.cell? a=some v:=by
 rcases h with ⟨hlt,h⟩ | ⟨_,_,_,h⟩
 ·obtain⟨h1,h2⟩:=hE.cell _ _ h;rw[World.cell?_of_block (hb.block a.block hlt h2)];exact h1
 ·exact h
structure HSub (σ:AS) (ν:Nm→Value) (ah:AS) (aN:Nm→Value):Prop where
 num:ah.af.length=σ.af.length
 row:∀(h:Nat) (hr:aQ),σ.af[h]? =some hr→∃hr':aQ,ah.af[h]? =some hr'∧BN hr hr'∧hr.xs.length≤hr'.xs.length
 nm:∀h n,1≤n→n≤hlen σ.af h→aN (.hp h n)=ν (.hp h n)
theorem HSub.of_eq (e:ah.af=σ.af)(hν:∀i n,aN (.hp i n)=ν (.hp i n)):HSub σ ν ah aN:=⟨by rw[e],fun i hr h=>⟨hr,by rw[e];exact h,BN.refl _,Nat.le_refl _⟩,fun i n _ _=>hν i n⟩
theorem HSub.refl (σ:AS)(ν:Nm→Value):HSub σ ν σ ν:=HSub.of_eq rfl fun _ _=>rfl
theorem HSub.len (h:HSub σ ν ah aN)(i:Nat):hlen σ.af i≤hlen ah.af i:=by
 unfold hlen;cases hi:σ.af[i]? with
 |none=>exact Nat.zero_le _
 |some hr=>obtain⟨hr',h1,_,h2⟩:=h.row i hr hi;simp only[h1];exact h2
theorem HK.trans {h0:List aQ}{n0:Nat→Nat→Value}(h:HK h0 n0 σ.af ν)(hs:HSub σ ν ah aN):HK h0 n0 ah.af aN:=by
 have hle:∀i n,1≤n→n≤hlen h0 i→n≤hlen σ.af i:=fun i n h1 h2=>by
  unfold hlen at h2;cases hi:h0[i]? with
  |none=>rw[hi] at h2;dsimp only at h2;omega
  |some hr=>rw[hi] at h2;obtain⟨hr',e1,_,e2⟩:=h.row i hr hi;unfold hlen;rw[e1];exact Nat.le_trans h2 e2
 refine⟨hs.num.trans h.num,fun i hr e=> ?_,fun i n h1 h2=>(hs.nm i n h1 (hle i n h1 h2)).trans (h.nm i n h1 h2)⟩;obtain⟨Pe,e1,e2,e3⟩:=h.row i hr e;obtain⟨Ja,e4,e5,e6⟩:=hs.row i Pe e1;exact⟨Ja,e4,e2.trans e5,Nat.le_trans e3 e6⟩
theorem GF {O':Nat→Prop}{C:Nat→Prop}(hg:Grow C w w')(hs:HSub σ ν ah aN)
  (hk:∀k,E.w0.heap.size≤k→k<w.heap.size→¬Hid σ ν k→¬O k→¬Hid ah aN k∧¬O' k∧¬C k) {key:Key} {v:Value}
  (h:view E σ ν O w key v):view E ah aN O' w' key v:=by
 cases key with
 |cell a=>
  rcases h with h | ⟨h1,h2,h3,h4⟩
  ·exact .inl h
  ·have hlt:=World.block_lt_of_cell? w a h4;obtain⟨h5,h6,h7⟩:=hk _ h1 hlt h2 h3;exact .inr ⟨h1,h5,h6,by rw[World.cell?_of_block (hg.block _ hlt h7)];exact h4⟩
 |ref i n=>obtain⟨h1,h2,h3⟩:=h;exact⟨h1,Nat.le_trans h2 (hs.len i),by rw[hs.nm i n h1 h2];exact h3⟩
structure Sub (σ:AS) (ν:Nm→Value) (ah:AS) (aN:Nm→Value):Prop extends HSub σ ν ah aN where
 rows:∀r row,look σ.rows r=some row→aN (.row r)=ν (.row r)∧∃row',look ah.rows r=some row'∧row'.t.size=row.t.size
 boxes:∀b,(look σ.boxes b).isSome=true→aN (.box b)=ν (.box b)∧(look ah.boxes b).isSome=true
theorem Sub.refl (σ:AS)(ν:Nm→Value):Sub σ ν σ ν:=⟨HSub.refl σ ν,fun r row h=>⟨rfl,row,h,rfl⟩,fun b h=>⟨rfl,h⟩⟩
theorem Sub.J4 (h:Sub σ ν ah aN){r:Nat}(hr:(look σ.rows r).isSome=true):aN (.row r)=ν (.row r)∧(look ah.rows r).isSome=true:=by obtain⟨row,hrow⟩:=Option.isSome_iff_exists.1 hr;obtain⟨h1,row',h2,_⟩:=h.rows r row hrow;exact⟨h1,by simp[h2]⟩
theorem tp.mono {V V':View}(hV:∀a v,V a v→V' a v)(hs:Sub σ ν ah aN):∀(x:RV) (v:Value),tp V σ ν x v→tp V' ah aN x v
 | .cv c,v,h=>cg.mono hV c v h
 | .agg cs,v,⟨vs,e,h⟩=>⟨vs,e,h.mono (cg.mono hV)⟩
 | .own r,v,⟨e,h⟩=>⟨by rw[(hs.J4 h).1];exact e,(hs.J4 h).2⟩
theorem CY.mono (hs:Sub σ ν ah aN){b off:Nat}{v:Value}(h:CY σ ν b off v):CY ah aN b off v:=by obtain⟨h1,g,h2,h3⟩:=h;obtain⟨h4,h5⟩:=hs.boxes b h1;exact⟨h5,g,by rw[h4];exact h2,h3⟩
theorem rW.mono {V V':View}(hV:∀a v,V a v→V' a v){cs:List CV}{v:Value}(h:rW V cs v):rW V' cs v:=by obtain⟨ad,vs,h1,h2,h3⟩:=h;exact⟨ad,vs,h1,h2.mono (cg.mono hV),fun j u hj=>hV _ _ (h3 j u hj)⟩
theorem tC.mono {V V':View}(hV:∀a v,V a v→V' a v)(hs:Sub σ ν ah aN):∀(x:I5) (v:Value),tC V σ ν x v→tC V' ah aN x v
 | .box b,v,h=>CY.mono hs h
 | .qA cs,v,h=>rW.mono hV h
theorem ak.mono {V V':View}{Y:Value}(hV:∀a v,V a v→V' a v)(hs:Sub σ ν ah aN):∀(x:AV) (v:Value),ak V σ ν Y x v→ak V' ah aN Y x v:=by
 intro x v h;cases x with
 |rv x=>exact tp.mono hV hs x v h
 |lit u=>exact h
 |box b off=>exact CY.mono hs h
 |Pj r sz i off=>obtain⟨row,g,h1,h2,h3,h4⟩:=h;obtain⟨h5,row',h6,h7⟩:=hs.rows r row h1;exact⟨row',g,h6,by rw[h5];exact h2,by rw[h7];exact h3,h4⟩
 |qA cs=>exact rW.mono hV h
 |hel i n j off=>obtain⟨hr,g,h1,h2,h3,h4,h5⟩:=h;obtain⟨hr',h6,h7,h8⟩:=hs.row i hr h1;exact⟨hr',g,h6,h2,Nat.le_trans h3 h8,by rw[hs.nm i n h2 (by unfold hlen;simp only[h1];exact h3)];exact h4,by rw[h7.t];exact h5⟩
 |fn f aX=>obtain⟨vs,h1,h2⟩:=h;exact⟨vs,h1,h2.mono (tC.mono hV hs)⟩
 |Na=>exact h
 |tup l=>obtain⟨vs,h1,h2⟩:=h;exact⟨vs,h1,h2.mono (tp.mono hV hs)⟩
 |nil=>trivial
theorem Wu {w w':World}{e:TypeId}{size n:Nat}{v:Value}{xs:List Value}(hk:∀k,dw v=some k→w'.heap[k]? =w.heap[k]?)(h:w.ownsRow 0 e size v n xs):w'.ownsRow 0 e size v n xs:=by
 obtain⟨h1,h2⟩:=h;refine⟨h1, ?_⟩;rcases h2 with h2 | ⟨g,cap,cur,rfl,hb,hg,rest⟩
 ·exact .inl h2
 ·exact .inr ⟨g,cap,cur,rfl,hb,by rw[hk g rfl];exact hg,rest⟩
theorem ki.mono {V V':View}{v:Value}{row:Row}(hV:∀a v,V a v→V' a v)(hk:∀k,dw v=some k→w'.heap[k]? =w.heap[k]?)
  (h:ki V w v row):ki V' w' v row:=by
 obtain⟨bG,h1,h3⟩:=h;exact⟨bG,Wu hk h1,h3.mono (Rel.mono hV _)⟩
theorem BM.mono {V V':View}{k:Nat}{v:Value}{row:Row}(hV:∀a v,V a v→V' a v)(hk:∀k,dw v=some k→w'.heap[k]? =w.heap[k]?)
  (h:BM V w k v row):BM V' w' k v row:=by
 match k,h with
 |0,⟨h1,h2⟩=>exact⟨h1,h2.mono hV hk⟩
 |1,⟨g,cur,ys,x,h1,h2,h3,h4,h5⟩=>exact⟨g,cur,ys,x,h1,by rw[hk g (by rw[h1];rfl)];exact h2,h3,h4,Rel.mono hV _ _ _ h5⟩
theorem CZ.mono {V V':View}{v:Value}{x:BX}(hV:∀a v,V a v→V' a v)(hk:∀k,dw v=some k→w'.heap[k]? =w.heap[k]?)
  (hr:∀r,x= .own r→(look σ.rows r).isSome=true→aN (.row r)=ν (.row r)∧(look ah.rows r).isSome=true) (h:CZ V σ ν w v x):CZ V' ah aN w' v x:=by
 obtain⟨g,h1,h2⟩:=h;have hg:=hk g (by rw[h1];rfl);refine⟨g,h1, ?_⟩;cases x with
 |cells cs=>obtain⟨cur,e,h3,h4⟩:=h2;exact⟨cur,e,by rw[hg];exact h3,h4.mono (cg.mono hV)⟩
 |own r=>obtain⟨e,h3,h4⟩:=h2;obtain⟨h5,h6⟩:=hr r rfl h4;exact⟨e,by rw[hg,h5];exact h3,h6⟩
 |nil=>obtain⟨u,e,h3⟩:=h2;exact⟨u,e,by rw[hg];exact h3⟩
theorem HU.mono {V V':View}{v:Value}{o:Obj}(hV:∀a v,V a v→V' a v)(hk:∀k,dw v=some k→w'.heap[k]? =w.heap[k]?)
  (hr:∀r,o= .box (.own r)→(look σ.rows r).isSome=true→aN (.row r)=ν (.row r)∧(look ah.rows r).isSome=true) (h:HU V σ ν w v o):HU V' ah aN w' v o:=by
 cases o with
 |row row=>exact ki.mono hV hk h
 |box x=>exact CZ.mono hV hk (fun r e=>hr r (by rw[e])) h
 |hp k row=>exact BM.mono hV hk h
theorem JC.mono {R S:AV→Value→Prop}{s:gh}{ys:List Value}{X:Nat→Value}(h:JC R s ys X)(hf:∀x v,R x v→S x v):JC S s ys X:=
 ⟨h.1,fun i x hx=>hf _ _ (h.2.1 i x hx),fun i x hx=>hf _ _ (h.2.2 i x hx)⟩
theorem Pq {R:AV→Value→Prop}(hn:∀v,R .nil v){s:gh}{ys:List Value}{X:Nat→Value}(h:JC R s ys X)(i:Nat):R (nth s i) (ys.getD i undef):=by
 unfold nth;cases hl:look s.l i with
 |none=>exact hn _
 |some x=>exact h.2.1 i x hl
theorem uO (a b:Nat):Nat.blt a b=true↔a<b:=by simp[Nat.blt,Nat.ble_eq];omega
theorem aat {R:AV→Value→Prop}{s:gh}{ys:List Value}{X:Nat→Value}{i:Nat}{x:AV}{y:Value}(h:JC R s ys X)(hx:R x y):JC R (ED s i x) (ys.set i y) X:=by
 unfold ED;cases hb:Nat.blt i s.n with
 |true=>
  have hi:i<ys.length:=by rw[←h.1];exact(uO _ _).1 hb
  refine⟨by rw[List.length_set];exact h.1,fun j z hz=> ?_,h.2.2⟩;have hz':look (NS s.l i x) j=some z:=hz;rw[W9] at hz';by_cases e:i=j
  ·subst e;rw[if_pos rfl] at hz';obtain rfl:x=z:=by simpa using hz'
   simpa [List.getD,List.getElem?_set,hi] using hx
  ·rw[if_neg e] at hz';have:=h.2.1 j z hz';simpa [List.getD,List.getElem?_set,e] using this
 |false=>
  have hi:¬i<ys.length:=fun hi=>by rw[←h.1, ←uO,hb] at hi;cases hi
  simp only[cond_false];rw[List.set_eq_of_length_le (by omega)];exact h
theorem LP {R S:AV→Value→Prop}{f:AV→AV}(hf:∀x v,R x v→S (f x) v){s:gh}{ys:List Value}{X:Nat→Value}(h:JC R s ys X):JC S (s.map f) ys X:=by
 refine⟨h.1,fun i x hx=> ?_,fun i x hx=> ?_⟩
 ·have hx':look (Wr f s.l) i=some x:=hx;rw[LO] at hx';obtain⟨z,hz,rfl⟩:=Option.map_eq_some_iff.1 hx';exact hf _ _ (h.2.1 i z hz)
 ·have hx':look (Wr f s.s) i=some x:=hx;rw[LO] at hx';obtain⟨z,hz,rfl⟩:=Option.map_eq_some_iff.1 hx';exact hf _ _ (h.2.2 i z hz)
theorem aiw {R:AV→Value→Prop}{σ:AS}{a:Act}{X:Nat→Value}{d:Option Tmp}{x:AV}{v:Value}(h:JC R σ.tmps a.tmps.toList X)(hx:R x v):
  JC R (σ.jX d x).tmps (a.put d v).tmps.toList X:=by
 cases d with
 |none=>exact h
 |some d=>simpa [AS.jX,Act.put] using aat h hx
theorem aau {a:Act}{d:Option Tmp}{v:Value}:(a.put d v).defers=a.defers:=by cases d<;>rfl
def Mp (σ ah:AS):Prop:=ah.rows=σ.rows∧ah.boxes=σ.boxes∧ah.af=σ.af∧ah.trace=σ.trace
theorem Mp.obj (h:Mp σ ah):ah.obj=σ.obj:=by obtain⟨h1,h2,h3,_⟩:=h;funext m;cases m<;>simp[AS.obj,h1,h2,h3]
theorem Mp.view (h:Mp σ ah):view E ah ν O w=view E σ ν O w:=by have:=h.obj;unfold Abs.view Hid Own;rw[this,h.2.2.1]
theorem Mp.sub (h:Mp σ ah):Sub σ ν ah ν:=by obtain⟨h1,h2,h3,_⟩:=h;exact⟨HSub.of_eq h3 (fun _ _=>rfl),fun r row h=>⟨rfl,row,by rw[h1];exact h,rfl⟩,fun b h=>⟨rfl,by rw[h2];exact h⟩⟩
theorem Mp.av (h:Mp σ ah){V:View}{Y:Value}{x:AV}{v:Value}(hr:ak V σ ν Y x v):ak V ah ν Y x v:=ak.mono (fun _ _ h=>h) h.sub x v hr
theorem Mp.symm (h:Mp σ ah):Mp ah σ:=⟨h.1.symm,h.2.1.symm,h.2.2.1.symm,h.2.2.2.symm⟩
theorem Mp.jX {d:Option Tmp}{x:AV}:Mp σ (σ.jX d x):=by cases d<;>exact⟨rfl,rfl,rfl,rfl⟩
theorem St.ac1 (h:St E σ a w ν O)(hs:Mp σ ah){a':Act}(hd:a'.defers=a.defers)(YK:JC (ak (view E σ ν O w) σ ν E.Y) ah.tmps a'.tmps.toList E.XS):St E ah a' w ν O:=by
 have hv:view E ah ν O w=view E σ ν O w:=hs.view;refine⟨h.keep,by rw[hd];exact h.marks, ?_, ?_, ?_, ?_, ?_, ?_, ?_, ?_, ?_,h.waits,h.wS, ?_,h.Pp,by rw[hd];exact h.nd⟩
 ·rw[hv];exact YK.mono fun x v hr=>hs.av hr
 ·intro m o ho;rw[hs.obj] at ho;rw[hv];exact(h.CF m o ho).mono (fun _ _ h=>h) (fun _ _=>rfl) (fun r _ hr=>⟨rfl,by rw[hs.1];exact hr⟩)
 ·unfold Own;rw[hs.obj];exact h.inj
 ·unfold Own;rw[hs.obj];exact h.Aw
 ·unfold Own;rw[hs.obj];exact h.new
 ·rw[hs.2.2.2];exact h.out
 ·rw[hs.2.2.1];exact h.nn
 ·rw[hs.2.2.1];exact h.ro
 ·rw[hs.2.2.1];exact h.kept
 ·unfold Own;rw[hs.obj];exact h.yx
theorem St.slot (h:St E σ a w ν O){d:Option Tmp}{x:AV}{v:Value}(hx:ak (view E σ ν O w) σ ν E.Y x v):St E (σ.jX d x) (a.put d v) w ν O:=
 h.ac1 Mp.jX aau (aiw h.slots hx)
theorem aav {V:View}{Y:Value}(v:Value):ak V σ ν Y (ofConst v) v:=by cases v<;>first |exact rfl | (show Rel V _ _ _;rfl)
def NX (E:Env):Prop:=∀g,E.XS (gk g)= .pointer (some ⟨g,0,none⟩)
theorem St.av (hG:NX E)(h:St E σ a w ν O)(x:Operand):ak (view E σ ν O w) σ ν E.Y (σ.av x) (a.eval x):=by
 cases x with
 |tmp t=>have:=Pq (fun v=>by trivial) h.slots t;simpa [AS.av,gh.av,Act.eval] using this
 |const v=>exact aav v
 |global g=>
  simp only[AS.av,gh.av];cases hl:look σ.tmps.s (gk g) with
  |none=>trivial
  |some x=>have:=h.slots.2.2 _ x hl;rw[hG g] at this;exact this
 |func f=>exact⟨[],rfl,trivial⟩
theorem St.step (hE:aI E)(h:St E σ a w ν O){C:Nat→Prop}{a':Act}(hg:Grow C w w')(hC:∀k,C k→∃m,Own σ ν m k∧¬E.yq m)(hs:HSub σ ν ah aN)
  (hown:∀m k,Own ah aN m k→(∃m',Own σ ν m' k∧(E.yq m'→E.yq m))∨w.heap.size≤k) (hlt:∀m k,Own ah aN m k→k<w'.heap.size) (af1:∀m m' k,Own ah aN m k→Own ah aN m' k→m=m')
  (GG:∀m k,Own ah aN m k→E.w0.heap.size≤k∨E.Xa m k) (htr:ah.trace=σ.trace) (hd:a'.defers=a.defers)
  (hnn:∀(h:Nat) (hr:aQ) (n:Nat),ah.af[h]? =some hr→1≤n→n≤hr.xs.length→af0 hr.k (aN (.hp h n)))
  (hro:∀h hr,E.ro h=some hr→ah.af[h]? =some hr)
  (Xb:(∀key v,view E σ ν O w key v→view E ah aN O w' key v)→∀m o,ah.obj m=some o→HU (view E ah aN O w') ah aN w' (aN m) o)
  (YK:(∀key v,view E σ ν O w key v→view E ah aN O w' key v)→JC (ak (view E ah aN O w') ah aN E.Y) ah.tmps a'.tmps.toList E.XS):St E ah a' w' aN O:=by
 have hmono:∀key v,view E σ ν O w key v→view E ah aN O w' key v:=fun key v hv=>GF hg hs (fun k h1 h2 h3 h4=>⟨fun⟨m,hm⟩=>by
  rcases hown m k hm with ⟨m',h5,_⟩ |h5
  ·exact h3 ⟨m',h5⟩
  ·omega,h4,fun hc=>h3 ((hC k hc).imp fun _ h=>h.1)⟩) hv
 have hcell:∀r ds,w.heap[r]? =some (.deferred ds)→¬C r:=fun r ds h3 hc=>by
  obtain⟨m,hm,_⟩:=hC r hc;obtain⟨o,ho⟩:=Option.isSome_iff_exists.1 hm.1;have cS:=h.CF m o ho;have hblk:=hm.2
  -- an owned block holds cells
  have:∃cur e,w.heap[r]? =some (.cells cur e (0,0)):=by
   cases o with
   |row row=>
    obtain⟨bG,⟨_,h5⟩,_⟩:=cS;rcases h5 with ⟨h5,_⟩ | ⟨g,cap,cur,h5,_,h6,_⟩
    ·rw[h5] at hblk;cases hblk
    ·rw[h5] at hblk;simp only[dw,Option.some.injEq] at hblk;subst hblk;exact⟨_,_,h6⟩
   |box x=>
    obtain⟨g,h5,h6⟩:=cS;rw[h5] at hblk;simp only[dw,Option.some.injEq] at hblk;subst hblk;cases x with
    |cells cs=>obtain⟨cur,e,h7,_⟩:=h6;exact⟨_,_,h7⟩
    |own q=>obtain⟨e,h7,_⟩:=h6;exact⟨_,_,h7⟩
    |nil=>obtain⟨u,e,h7⟩:=h6;exact⟨_,_,h7⟩
   |hp k row=>
    match k,cS with
    |0,⟨_,bG,⟨_,h5⟩,_⟩=>
     rcases h5 with ⟨h5,_⟩ | ⟨g,cap,cur,h5,_,h6,_⟩
     ·rw[h5] at hblk;cases hblk
     ·rw[h5] at hblk;simp only[dw,Option.some.injEq] at hblk;subst hblk;exact⟨_,_,h6⟩
    |1,⟨g,cur,ys,x,h5,h6,_⟩=>rw[h5] at hblk;simp only[dw,Option.some.injEq] at hblk;subst hblk;exact⟨_,_,h6⟩
  obtain⟨cur,e,h5⟩:=this;rw[h5] at h3;cases h3
 refine⟨h.keep.trans hg (fun k hk hc=> ?_), ?_,YK hmono,Xb hmono,af1, ?_,GG, ?_,hnn,fun i hr e=>⟨hro i hr e,(h.ro i hr e).2⟩,h.kept.trans hs,fun r hr=> ?_,h.wS.trans hg (fun k hk hc=> ?_),fun m k hm=> ?_,h.Pp,by rw[hd];exact h.nd⟩
 ·obtain⟨m,hm,hm2⟩:=hC k hc;rcases (h.Aw m k hm).1 with h1 |h1 |h1
  ·omega
  ·exact h1
  ·exact absurd h1 hm2
 ·rw[hd];intro d Wv;obtain⟨r,h1,h2,h3,h4⟩:=h.marks d Wv;exact⟨r,h1,h2,by rw[hg.block r (Array.getElem?_eq_some_iff.1 h3).1 (hcell r _ h3)];exact h3,h4⟩
 ·intro m k hm;refine⟨?_,hlt m k hm, ?_⟩
  ·rcases hown m k hm with ⟨m',h1,h2⟩ |h1
   ·exact(h.Aw m' k h1).1.imp id (Or.imp id h2)
   ·exact .inl (Nat.le_trans h.keep.size h1)
  ·intro ho;rcases hown m k hm with ⟨m',h1,_⟩ |h1
   ·exact(h.Aw m' k h1).2.2 ho
   ·exact absurd (h.out.2 k ho).1 (by omega)
 ·rw[htr];refine⟨hE.stay _ _ _ _ C h.out.1 hg (fun k hc=> ?_),fun k hk=>⟨Nat.lt_of_lt_of_le (h.out.2 k hk).1 hg.size,(h.out.2 k hk).2⟩⟩;obtain⟨m,hm,hm2⟩:=hC k hc;refine⟨(h.Aw m k hm).2.2,fun hk=> ?_⟩;rcases (h.Aw m k hm).1 with h1 |h1 |h1
  ·omega
  ·exact h1
  ·exact absurd h1 hm2
 ·obtain⟨h1,h2⟩:=h.waits r hr;exact⟨by rw[hg.block r (Array.getElem?_eq_some_iff.1 h1).1 (hcell r _ h1)];exact h1,h2⟩
 ·obtain⟨m,hm,hm2⟩:=hC k hc;rcases h.yx m k hm with h1 |h1 |h1
  ·exact absurd h1 hm2
  ·exact h1
  ·omega
 ·rcases hown m k hm with ⟨m',h1,h2⟩ |h1
  ·exact(h.yx m' k h1).imp h2 id
  ·exact .inr (.inr (Nat.le_trans h.wS.size h1))
theorem St.grow (hE:aI E)(h:St E σ a w ν O)(hb:Below w.heap.size w w'):St E σ a w' ν O:=by refine h.step hE (C:=fun _=>False) (Grow.C0 hb) (fun k hk=>hk.elim) (HSub.refl σ ν) (fun m k hm=> .inl ⟨m,hm,id⟩) (fun m k hm=>Nat.lt_of_lt_of_le (h.Aw m k hm).2.1 hb.size) h.inj h.new rfl rfl h.nn (fun i hr e=>(h.ro i hr e).1) (fun hV m o ho=> ?_) (fun hV=>h.slots.mono (ak.mono hV (Sub.refl σ ν)));exact(h.CF m o ho).mono hV (fun k hk=>hb.block k (h.Aw m k ⟨by rw[ho];rfl,hk⟩).2.1) (fun r _ hr=>⟨rfl,hr⟩)
end
def aoc (P:Program)(T:List gZ)(r:gZ):Ty→Prop
 | .int k=>P.underlying r.id=some (.int k)
 | .bool=>P.underlying r.id=some .bool
 | .str=>P.underlying r.id=some .string
 | .slice u=>P.underlying r.id=some (.slice r.elem)∧∃re,km T r.elem=some re∧re.ty=u
 | .st u=>(r.arr=false∧∃fs:Array Field,P.underlying r.id=some (.struct fs)∧fs.toList.mapM (fun f=>(P.info? f.type).map fun i=>(f.offset,i.size))=some r.rU∧∀(f off size:Nat),r.rU[f]? =some (off,size)→
   ∃(fd:Field) (j:TypeInfo),fs[f]? =some fd∧fd.offset=off∧P.info? fd.type=some j∧j.size=size∧size≠0∧off+size≤u.size)∨
   (r.arr=true∧∃(n e:Nat) (j:TypeInfo),P.underlying r.id=some (.array n e)∧P.info? e=some j∧r.rU=(List.range n).map (fun i=>(i*j.size,j.size))∧j.size≠0∧u.size=n*j.size)
 | .ptr _=>∃e,P.underlying r.id=some (.pointer e)
 | .mp _=>∃k e,P.underlying r.id=some (.map k e)
 | .fn=>∃a b c,P.underlying r.id=some (.func a b c)
 |_=>False
structure TOk (P:Program) (T:List gZ) (r:gZ):Prop where
 info:∃i z,P.info? r.id=some i∧i.size=r.ty.size∧i.bytes=r.bytes∧i.zero=some z∧(∀V,Rel V r.ty r.ty.zero z.cells.toList)∧(z=wrap r.ty z.cells.toList)∧(∀u,r.ty= .slice u→z= .slice none 0 0)
 desc:aoc P T r r.ty
 rU:(∀u,r.ty≠ .st u)→r.rU=[]
def jO (P:Program)(T:List gZ):Prop:=∀t r,km T t=some r→r.id=t∧TOk P T r
section
variable {P:Program}{T:List gZ}{V:View}{r:gZ}
theorem aix {i:IntKind}{n:Int}{v:Value}(h:cg V ⟨.int i,n⟩ v):v= .int i n:=by have: [v]=[Value.int i n]:=h;simpa using this
theorem Xc {b:Bool}{v:Value}(h:cg V ⟨.bool,b⟩ v):v= .bool b:=by have: [v]=[Value.bool b]:=h;simpa using this
theorem aiy {s:ByteArray}{v:Value}(h:cg V ⟨.str,s⟩ v):v= .string s:=by have: [v]=[Value.string s]:=h;simpa using this
theorem rX {t:Ty}{xs:List t.den}{v:Value}(h:cg V ⟨.slice t,xs⟩ v):∃(A:Option Addr) (c:Nat) (bG:List (List Value)),v= .slice A xs.length c∧
  xs.length≤c∧aF (Rel V t) xs bG∧(A=none→c=0)∧∀j u,bG.flatten[j]? =some u→∃ad,A=some ad∧V (ad.add j) u:=by
 obtain⟨A,c,bG,h1,h2⟩:=h;simp only[List.cons.injEq,and_true] at h1;exact⟨A,c,bG,h1,h2⟩
theorem aeE {i:IntKind}{n:Int}:cg V ⟨.int i,n⟩ (.int i n):=by show [Value.int i n]=[Value.int i n];rfl
theorem aax {b:Bool}:cg V ⟨.bool,b⟩ (.bool b):=by show [Value.bool b]=[Value.bool b];rfl
theorem aeF {s:ByteArray}:cg V ⟨.str,s⟩ (.string s):=by show [Value.string s]=[Value.string s];rfl
theorem ie {t:Ty}:∀{xs:List t.den} {bG:List (List Value)},aF (Rel V t) xs bG→bG.flatten.length=xs.length*t.size
 | [],[],_=>by simp
 |x::xs,y::ys,h=>by simp[Rel.length h.1,ie h.2,Nat.add_mul];omega
 | [],_::_,h=>h.elim
 |_::_,[],h=>h.elim
theorem C1 {t:Ty}:∀{xs:List t.den} {bG:List (List Value)},aF (Rel V t) xs bG→∀(i:Nat) x,xs[i]? =some x→
  ∃ys,bG[i]? =some ys∧Rel V t x ys∧∀j u,ys[j]? =some u→bG.flatten[i*t.size+j]? =some u
 | [],[],_,i,x,hx=>by simp at hx
 |a::xs,b::bG,h,0,x,hx=>by simp at hx;subst hx;refine⟨b,by simp,h.1,fun j u hj=> ?_⟩;have hlt:j<b.length:=(List.getElem?_eq_some_iff.1 hj).1;simp[List.getElem?_append_left hlt,hj]
 |a::xs,b::bG,h,i+1,x,hx=>by obtain⟨ys,h1,h2,h3⟩:=C1 h.2 i x (by simpa using hx);refine⟨ys,by simpa using h1,h2,fun j u hj=> ?_⟩;have hb:=Rel.length h.1;have:=h3 j u hj;rw[List.flatten_cons,List.getElem?_append_right (by rw[hb,Nat.succ_mul];omega)];rw[←this];congr 1;rw[hb,Nat.succ_mul];omega
 | [],_::_,h,_,_,_=>h.elim
 |_::_,[],h,_,_,_=>h.elim
theorem add_add (a:Addr)(m n:Nat):(a.add m).add n=a.add (m+n):=by unfold Addr.add;by_cases h1:m=0<;>by_cases h2:n=0<;>simp[h1,h2,Nat.add_assoc]
theorem Uh {α:Type}{xs:List α}{n:Int}{x:α}(h:idx xs n=some x):0≤n∧n<xs.length∧xs[n.toNat]? =some x:=by
 cases n with
 |ofNat m=>simp only[idx] at h;have:=(List.getElem?_eq_some_iff.1 h).1;exact⟨by simp,by simp;exact this,by simpa using h⟩
 |negSucc m=>simp[idx] at h
theorem Kf {vs:List Value}{n j:Nat}{u:Value}(h:(vs.take n)[j]? =some u):vs[j]? =some u:=by
 rw[List.getElem?_take] at h;split at h
 ·exact h
 ·cases h
theorem Kg {vs:List Value}{n j:Nat}{u:Value}(h:(vs.drop n)[j]? =some u):vs[n+j]? =some u:=by rwa [List.getElem?_drop] at h
theorem LQ (hr:TOk P T r)(w:World):(isAgg r.id).run P w= .ok (match r.ty with | .st _=>true |_=>false) w:=by
 have h:=hr.desc;cases ht:r.ty with
 |int k=>rw[ht] at h;simp[isAgg,run_underlying (show P.underlying r.id=some (.int k) from h)]
 |bool=>rw[ht] at h;simp[isAgg,run_underlying (show P.underlying r.id=some .bool from h)]
 |str=>rw[ht] at h;simp[isAgg,run_underlying (show P.underlying r.id=some .string from h)]
 |slice u=>rw[ht] at h;simp[isAgg,run_underlying h.1]
 |st u=>rw[ht] at h;rcases h with ⟨_,fs,h1,_,_⟩ | ⟨_,n,e,j,h1,_⟩<;>simp[isAgg,run_underlying h1]
 |ptr _=>rw[ht] at h;obtain⟨e,h1⟩:=h;simp[isAgg,run_underlying h1]
 |mp _=>rw[ht] at h;obtain⟨e,e',h1⟩:=h;simp[isAgg,run_underlying h1]
 |fn=>rw[ht] at h;obtain⟨e,e',e'',h1⟩:=h;simp[isAgg,run_underlying h1]
 |ref _=>rw[ht] at h;exact h.elim
 |qG _=>rw[ht] at h;exact h.elim
 |unit=>rw[ht] at h;exact h.elim
 |pair a b=>rw[ht] at h;exact h.elim
theorem C2 (hr:TOk P T r)(w:World):(sizeOf r.id).run P w= .ok r.ty.size w:=by obtain⟨i,z,h1,h2,_⟩:=hr.info;simp[sizeOf,typeInfo,h1,h2]
theorem aay (hr:TOk P T r){w:World}{ad:Addr}{vs:List Value}{cs:List CV}{x:AV}{σ:AS}{ν:Nm→Value}{Y:Value}
  (hc:∀j u,vs[j]? =some u→w.cell? (ad.add j)=some u) (hcs:aF (cg V) cs vs) (hx:nW r.ty cs=some x):
  ∃v,(loadVar r.id ad).run P w= .ok v w∧ak V σ ν Y x v:=by
 have one:(match r.ty with | .st _=>true |_=>false)=false→(∀c l,cs=c::l→x= .rv (.cv c))→cs≠ []→∃v,(loadVar r.id ad).run P w= .ok v w∧ak V σ ν Y x v:=by
  intro h1 h2 h3;cases cs with
  |nil=>exact absurd rfl h3
  |cons c l=>
   cases vs with
   |nil=>exact hcs.elim
   |cons v vs=>
    refine⟨v, ?_, ?_⟩
    ·have:=hc 0 v (by simp);have h0:ad.add 0=ad:=rfl;rw[h0] at this;simp[loadVar,LQ hr,h1,this]
    ·rw[h2 c l rfl];exact hcs.1
 cases ht:r.ty with
 |st t=>
  rw[ht] at hx;simp only[nW] at hx;cases hle:Nat.ble t.size cs.length with
  |false=>simp[hle] at hx
  |true=>
   simp only[hle,cond_true,Option.some.injEq] at hx;have hlen:=hcs.length;have hle':t.size≤vs.length:=by rw[←hlen];exact Nat.le_of_ble_eq_true hle
   refine⟨.agg (vs.take t.size).toArray, ?_, ?_⟩
   ·have hl:=run_loadCells_list (P:=P) w ad (vs.take t.size) (fun j v hj=>hc j v (Kf hj));rw[List.length_take,Nat.min_eq_left hle'] at hl;have hs:Ty.size (.st t)=t.size:=rfl;simp[loadVar,LQ hr,ht,C2 hr,hl,hs]
   ·subst hx;exact⟨_,rfl,hcs.take _⟩
 |int k=>rw[ht] at hx;exact one (by simp[ht]) (fun c l e=>by subst e;simpa [nW] using hx.symm) (fun e=>by subst e;simp[nW] at hx)
 |bool=>rw[ht] at hx;exact one (by simp[ht]) (fun c l e=>by subst e;simpa [nW] using hx.symm) (fun e=>by subst e;simp[nW] at hx)
 |str=>rw[ht] at hx;exact one (by simp[ht]) (fun c l e=>by subst e;simpa [nW] using hx.symm) (fun e=>by subst e;simp[nW] at hx)
 |slice u=>rw[ht] at hx;exact one (by simp[ht]) (fun c l e=>by subst e;simpa [nW] using hx.symm) (fun e=>by subst e;simp[nW] at hx)
 |ptr _=>rw[ht] at hx;exact one (by simp[ht]) (fun c l e=>by subst e;simpa [nW] using hx.symm) (fun e=>by subst e;simp[nW] at hx)
 |mp _=>rw[ht] at hx;exact one (by simp[ht]) (fun c l e=>by subst e;simpa [nW] using hx.symm) (fun e=>by subst e;simp[nW] at hx)
 |fn=>rw[ht] at hx;exact one (by simp[ht]) (fun c l e=>by subst e;simpa [nW] using hx.symm) (fun e=>by subst e;simp[nW] at hx)
 |ref _=>rw[ht] at hx;exact one (by simp[ht]) (fun c l e=>by subst e;simpa [nW] using hx.symm) (fun e=>by subst e;simp[nW] at hx)
 |qG _=>rw[ht] at hx;exact one (by simp[ht]) (fun c l e=>by subst e;simpa [nW] using hx.symm) (fun e=>by subst e;simp[nW] at hx)
 |unit=>exact absurd hr.desc (by rw[ht];exact id)
 |pair a b=>exact absurd hr.desc (by rw[ht];exact id)
theorem jP:∀{t:Ty} {l:List Value} {cs:List CV} {r:List Value},de t l=some (cs,r)→∃l1,l=l1++r∧aF (cg V) cs l1
 | .unit,l,cs,r,h=>by simp only[de,Option.some.injEq,Prod.mk.injEq] at h;obtain⟨rfl,rfl⟩:=h;exact⟨[],rfl,trivial⟩
 | .pair a b,l,cs,r,h=>by
   simp only[de] at h;split at h
   ·rename_i x l' h1;split at h
    ·rename_i y l'' h2;simp only[Option.some.injEq,Prod.mk.injEq] at h;obtain⟨rfl,rfl⟩:=h;obtain⟨m1,e1,r1⟩:=jP h1;obtain⟨m2,e2,r2⟩:=jP h2;exact⟨m1++m2,by rw[e1,e2,List.append_assoc],r1.append r2⟩
    ·cases h
   ·cases h
 | .st t,l,cs,r,h=>jP (t:=t) h
 | .int k, .int k' n::l,cs,r,h=>by
   simp only[de] at h;split at h
   ·rename_i e;subst e;simp only[Option.some.injEq,Prod.mk.injEq] at h;obtain⟨rfl,rfl⟩:=h;exact⟨[_],rfl,aeE,trivial⟩
   ·cases h
 | .bool, .bool b::l,cs,r,h=>by simp only[de,Option.some.injEq,Prod.mk.injEq] at h;obtain⟨rfl,rfl⟩:=h;exact⟨[_],rfl,aax,trivial⟩
 | .str, .string s::l,cs,r,h=>by simp only[de,Option.some.injEq,Prod.mk.injEq] at h;obtain⟨rfl,rfl⟩:=h;exact⟨[_],rfl,aeF,trivial⟩
 | .slice t, .slice none 0 0::l,cs,r,h=>by simp only[de,Option.some.injEq,Prod.mk.injEq] at h;obtain⟨rfl,rfl⟩:=h;exact⟨[_],rfl,⟨none,0,[],rfl,Nat.le_refl _,trivial,fun _=>rfl,fun j u hj=>by simp at hj⟩,trivial⟩
 | .ref t, .slice none 0 0::l,cs,r,h=>by simp only[de,Option.some.injEq,Prod.mk.injEq] at h;obtain⟨rfl,rfl⟩:=h;exact⟨[_],rfl,(show [_]=[_] from rfl),trivial⟩
 | .ptr t, .pointer none::l,cs,r,h=>by simp only[de,Option.some.injEq,Prod.mk.injEq] at h;obtain⟨rfl,rfl⟩:=h;exact⟨[_],rfl,(show [_]=[_] from rfl),trivial⟩
 | .mp t, .map none::l,cs,r,h=>by simp only[de,Option.some.injEq,Prod.mk.injEq] at h;obtain⟨rfl,rfl⟩:=h;exact⟨[_],rfl,(show [_]=[_] from rfl),trivial⟩
 | .qG t, .slice none 0 0::l,cs,r,h=>by simp only[de,Option.some.injEq,Prod.mk.injEq] at h;obtain⟨rfl,rfl⟩:=h;exact⟨[_],rfl,(show [_]=[_] from rfl),trivial⟩
 | .fn, .nilFunc::l,cs,r,h=>by simp only[de,Option.some.injEq,Prod.mk.injEq] at h;obtain⟨rfl,rfl⟩:=h;exact⟨[_],rfl,(show [_]=[_] from rfl),trivial⟩
end
open Go.RowKit Go.Lib
section
variable {T:dc}{α:Type}{Φ:cj T}{σ:AS}
def Q.val (Φ:cj T)(σ:AS):Q T α→Option α
 | .ret a=>some a
 | .fail=>none
 | .opt o q=>o.bind fun y=>(q y).val Φ σ
 | .gr b q=>bif b then q.val Φ σ else none
 | .ite b x y=>bif b then x.val Φ σ else y.val Φ σ
 | .row r q=>match look σ.rows r with
   |some x=>(q x).val Φ σ
   |none=>none
 | .len r q=>match look σ.rows r with
   |some x=>(q (List.length x.xs)).val Φ σ
   |none=>none
 | .box b q=>match look σ.boxes b with
   |some x=>(q x).val Φ σ
   |none=>none
 | .heap h q=>match σ.af[h]? with
   |some x=>(q x).val Φ σ
   |none=>none
 | .rH r q=>match look σ.rows r with
   |none=>q.val Φ σ
   |some _=>none
 | .rI b q=>match look σ.boxes b with
   |none=>q.val Φ σ
   |some _=>none
 | .call v x q=>(Φ v x).bind fun y=>(q y).val Φ σ
 | .all q=>(q σ).val Φ σ
 | .on ah q=>q.val Φ ah
theorem iL {a r:α}:(Q.ret (T:=T) a).val Φ σ=some r↔a=r:=by simp[Q.val]
theorem Ax {r:α}:(Q.fail (T:=T)).val Φ σ=some r↔False:=by simp[Q.val]
theorem cE {β:Type}{o:Option β}{k:β→Q T α}{r:α}:(Q.opt o k).val Φ σ=some r↔∃y,o=some y∧(k y).val Φ σ=some r:=by simp[Q.val,Option.bind_eq_some_iff]
theorem aD {b:Bool}{q:Q T α}{r:α}:(Q.gr b q).val Φ σ=some r↔b=true∧q.val Φ σ=some r:=by cases b<;>simp[Q.val]
theorem Ps {b:Bool}{x y:Q T α}{r:α}:(Q.ite b x y).val Φ σ=some r↔(b=true∧x.val Φ σ=some r)∨(b=false∧y.val Φ σ=some r):=by cases b<;>simp[Q.val]
theorem rJ {q:Nat}{k:Row→Q T α}{r:α}:(Q.row q k).val Φ σ=some r↔∃x,look σ.rows q=some x∧(k x).val Φ σ=some r:=by simp only[Q.val];cases look σ.rows q<;>simp
theorem TP {q:Nat}{k:Nat→Q T α}{r:α}:(Q.len q k).val Φ σ=some r↔∃x,look σ.rows q=some x∧(k x.xs.length).val Φ σ=some r:=by simp only[Q.val];cases look σ.rows q<;>simp
theorem EP {q:Nat}{k:BX→Q T α}{r:α}:(Q.box q k).val Φ σ=some r↔∃x,look σ.boxes q=some x∧(k x).val Φ σ=some r:=by simp only[Q.val];cases look σ.boxes q<;>simp
theorem gG {q:Nat}{k:aQ→Q T α}{r:α}:(Q.heap q k).val Φ σ=some r↔∃x,σ.af[q]? =some x∧(k x).val Φ σ=some r:=by simp only[Q.val];cases σ.af[q]? <;>simp
theorem zb {q:Nat}{k:Q T α}{r:α}:(Q.rH q k).val Φ σ=some r↔look σ.rows q=none∧k.val Φ σ=some r:=by simp only[Q.val];cases look σ.rows q<;>simp
theorem aab {q:Nat}{k:Q T α}{r:α}:(Q.rI q k).val Φ σ=some r↔look σ.boxes q=none∧k.val Φ σ=some r:=by simp only[Q.val];cases look σ.boxes q<;>simp
theorem Pt {v:Nat}{x:CS T v}{k:wN T v→Q T α}{r:α}:(Q.call v x k).val Φ σ=some r↔∃y,Φ v x=some y∧(k y).val Φ σ=some r:=by simp[Q.val,Option.bind_eq_some_iff]
theorem Ui {ah:AS}{q:Q T α}{r:α}:(Q.on ah q).val Φ σ=some r↔q.val Φ ah=some r:=by simp[Q.val]
theorem nY {k:AS→Q T α}{r:α}:(Q.all k).val Φ σ=some r↔(k σ).val Φ σ=some r:=by simp[Q.val]
theorem iJ {z:AV}{r:cP}:(pv (T:=T) z).val Φ σ=some r↔(z,Eff.nu [])=r:=by simp[pv,Q.val]
theorem df {t:Ty}{x:t.den}{r:cP}:(EE (T:=T) t x).val Φ σ=some r↔(AV.rv (.cv ⟨t,x⟩),Eff.nu [])=r:=by simp[EE,iJ]
theorem po {β:Type}{f:β→Q T cP}{o:Option β}{r:cP}:(kt f o).val Φ σ=some r↔∃y,o=some y∧(f y).val Φ σ=some r:=by cases o<;>simp[kt,Q.val]
theorem TQ {β:Type}{f:α→β}:∀{q:Q T α} {r:β},(q.map f).val Φ σ=some r↔∃y,q.val Φ σ=some y∧f y=r:=by
 intro q;induction q generalizing σ with
 |ret a=>intro r;simp[Q.map,Q.val]
 |fail=>intro r;simp[Q.map,Q.val]
 |opt o k ih=>intro r;simp only[Q.map,cE,ih];constructor
              ·rintro ⟨y,h1,z,h2,h3⟩;exact⟨z,⟨y,h1,h2⟩,h3⟩
              ·rintro ⟨z,⟨y,h1,h2⟩,h3⟩;exact⟨y,h1,z,h2,h3⟩
 |gr b k ih=>intro r;simp only[Q.map,aD,ih];constructor
             ·rintro ⟨h1,z,h2,h3⟩;exact⟨z,⟨h1,h2⟩,h3⟩
             ·rintro ⟨z,⟨h1,h2⟩,h3⟩;exact⟨h1,z,h2,h3⟩
 |ite b x y Ml JA=>intro r;cases b<;>simp only[Q.map,Q.val,cond_true,cond_false]
                   ·exact JA
                   ·exact Ml
 |row q k ih=>intro r;simp only[Q.map,rJ,ih];constructor
              ·rintro ⟨y,h1,z,h2,h3⟩;exact⟨z,⟨y,h1,h2⟩,h3⟩
              ·rintro ⟨z,⟨y,h1,h2⟩,h3⟩;exact⟨y,h1,z,h2,h3⟩
 |len q k ih=>intro r;simp only[Q.map,TP,ih];constructor
              ·rintro ⟨y,h1,z,h2,h3⟩;exact⟨z,⟨y,h1,h2⟩,h3⟩
              ·rintro ⟨z,⟨y,h1,h2⟩,h3⟩;exact⟨y,h1,z,h2,h3⟩
 |box q k ih=>intro r;simp only[Q.map,EP,ih];constructor
              ·rintro ⟨y,h1,z,h2,h3⟩;exact⟨z,⟨y,h1,h2⟩,h3⟩
              ·rintro ⟨z,⟨y,h1,h2⟩,h3⟩;exact⟨y,h1,z,h2,h3⟩
 |heap q k ih=>intro r;simp only[Q.map,gG,ih];constructor
               ·rintro ⟨y,h1,z,h2,h3⟩;exact⟨z,⟨y,h1,h2⟩,h3⟩
               ·rintro ⟨z,⟨y,h1,h2⟩,h3⟩;exact⟨y,h1,z,h2,h3⟩
 |rH b k ih=>intro r;simp only[Q.map,zb,ih];constructor
             ·rintro ⟨h1,z,h2,h3⟩;exact⟨z,⟨h1,h2⟩,h3⟩
             ·rintro ⟨z,⟨h1,h2⟩,h3⟩;exact⟨h1,z,h2,h3⟩
 |rI b k ih=>intro r;simp only[Q.map,aab,ih];constructor
             ·rintro ⟨h1,z,h2,h3⟩;exact⟨z,⟨h1,h2⟩,h3⟩
             ·rintro ⟨z,⟨h1,h2⟩,h3⟩;exact⟨h1,z,h2,h3⟩
 |call v x k ih=>intro r;simp only[Q.map,Pt,ih];constructor
                 ·rintro ⟨y,h1,z,h2,h3⟩;exact⟨z,⟨y,h1,h2⟩,h3⟩
                 ·rintro ⟨z,⟨y,h1,h2⟩,h3⟩;exact⟨y,h1,z,h2,h3⟩
 |all k ih=>intro r;simp only[Q.map,nY,ih]
 |on ah k ih=>intro r;simp only[Q.map,Ui,ih]
theorem aeG {R:Type}{k:nx→α→Option R}{y:R}:∀(q:Q T α) (c:nx),q.run Φ σ c k=some y→∃c' r,q.val Φ σ=some r∧k c' r=some y:=by
 intro q;induction q generalizing σ with
 |ret a=>intro c h;exact⟨c,a,rfl,h⟩
 |fail=>intro c h;cases h
 |opt o q ih=>intro c h;simp only[Q.run,Option.bind_eq_some_iff] at h;obtain⟨z,h1,h2⟩:=h;obtain⟨c',r,h3,h4⟩:=ih z c h2;exact⟨c',r,cE.2 ⟨z,h1,h3⟩,h4⟩
 |gr b q ih=>
  intro c h;cases b
  ·cases h
  ·exact ih c h
 |ite b x z Ml ihz=>
  intro c h;cases b
  ·exact ihz c h
  ·exact Ml c h
 |row q k ih=>intro c h;simp only[Q.run] at h;split at h
              ·rename_i x hx;obtain⟨c',r,h3,h4⟩:=ih x _ h;exact⟨c',r,rJ.2 ⟨x,hx,h3⟩,h4⟩
              ·cases h
 |len q k ih=>intro c h;simp only[Q.run] at h;split at h
              ·rename_i x hx;obtain⟨c',r,h3,h4⟩:=ih _ _ h;exact⟨c',r,TP.2 ⟨x,hx,h3⟩,h4⟩
              ·cases h
 |box q k ih=>intro c h;simp only[Q.run] at h;split at h
              ·rename_i x hx;obtain⟨c',r,h3,h4⟩:=ih x _ h;exact⟨c',r,EP.2 ⟨x,hx,h3⟩,h4⟩
              ·cases h
 |heap q k ih=>intro c h;simp only[Q.run] at h;split at h
               ·rename_i x hx;obtain⟨c',r,h3,h4⟩:=ih x _ h;exact⟨c',r,gG.2 ⟨x,hx,h3⟩,h4⟩
               ·cases h
 |rH q k ih=>intro c h;simp only[Q.run] at h;split at h
             ·rename_i hx;obtain⟨c',r,h3,h4⟩:=ih _ h;exact⟨c',r,zb.2 ⟨hx,h3⟩,h4⟩
             ·cases h
 |rI q k ih=>intro c h;simp only[Q.run] at h;split at h
             ·rename_i hx;obtain⟨c',r,h3,h4⟩:=ih _ h;exact⟨c',r,aab.2 ⟨hx,h3⟩,h4⟩
             ·cases h
 |call v x q ih=>intro c h;simp only[Q.run,Option.bind_eq_some_iff] at h;obtain⟨z,h1,h2⟩:=h;obtain⟨c',r,h3,h4⟩:=ih z c h2;exact⟨c',r,Pt.2 ⟨z,h1,h3⟩,h4⟩
 |all q ih=>intro c h;obtain⟨c',r,h3,h4⟩:=ih σ _ h;exact⟨c',r,nY.2 h3,h4⟩
 |on ah q ih=>intro c h;obtain⟨c',r,h3,h4⟩:=ih _ h;exact⟨c',r,Ui.2 h3,h4⟩
end
section
variable {P:Program}{Tb:dc}{T:List gZ}{E:Env}{σ:AS}{a:Act}{w w':World}{ν:Nm→Value}{O:Nat→Prop}{Φ:cj Tb}
theorem Jb (g j:Nat):(⟨g,0,none⟩:Addr).add j=⟨g,j,none⟩:=by unfold Addr.add;split<;>simp_all
theorem Xd (g i j:Nat):(⟨g,i,none⟩:Addr).add j=⟨g,i+j,none⟩:=by unfold Addr.add;split<;>simp_all
theorem zd {V:View}{Y u:Value}{x:AV}{i:IntKind}{n:Int}(h:ak V σ ν Y x u)(he:x= .rv (.cv ⟨.int i,n⟩)):u= .int i n:=by subst he;exact aix (V:=V) h
theorem Pu {V:View}{Y u:Value}{x:AV}{b:Bool}(h:ak V σ ν Y x u)(he:x= .rv (.cv ⟨.bool,b⟩)):u= .bool b:=by subst he;exact Xc (V:=V) h
theorem NY {V:View}{Y u:Value}{x:AV}{s:ByteArray}(h:ak V σ ν Y x u)(he:x= .rv (.cv ⟨.str,s⟩)):u= .string s:=by subst he;exact aiy (V:=V) h
theorem ze {V:View}{Y:Value}{i:IntKind}{n:Int}:ak V σ ν Y (.rv (.cv ⟨.int i,n⟩)) (.int i n):=aeE (V:=V)
theorem zf {V:View}{Y:Value}{b:Bool}:ak V σ ν Y (.rv (.cv ⟨.bool,b⟩)) (.bool b):=aax (V:=V)
theorem GH {V:View}{Y:Value}{s:ByteArray}:ak V σ ν Y (.rv (.cv ⟨.str,s⟩)) (.string s):=aeF (V:=V)
theorem Kh {V:View}{h n:Nat}{v:Value}(hr:cg V ⟨.ref h,n⟩ v):(n=0∧v= .slice none 0 0)∨(1≤n∧aij v∧V (.ref h n) v):=by
 cases n with
 |zero=>have: [v]=_:=hr;simp at this;exact .inl ⟨rfl,this⟩
 |succ m=>obtain⟨u,e,h1,h2⟩:=hr;simp at e;subst e;exact .inr ⟨by omega,h1,h2⟩
theorem Uj {V:View}{h n:Nat}{v:Value}(hr:cg V ⟨.ptr h,n⟩ v):(n=0∧v= .pointer none)∨(1≤n∧an5 v∧V (.ref h n) v):=by
 cases n with
 |zero=>have: [v]=_:=hr;simp at this;exact .inl ⟨rfl,this⟩
 |succ m=>obtain⟨u,e,h1,h2⟩:=hr;simp at e;subst e;exact .inr ⟨by omega,h1,h2⟩
theorem alQ {V:View}{h n:Nat}{v:Value}(hr:cg V ⟨.mp h,n⟩ v):(n=0∧v= .map none)∨(1≤n∧aqd v∧V (.ref h n) v):=by
 cases n with
 |zero=>have: [v]=_:=hr;simp at this;exact .inl ⟨rfl,this⟩
 |succ m=>obtain⟨u,e,h1,h2⟩:=hr;simp at e;subst e;exact .inr ⟨by omega,h1,h2⟩
theorem alR {V:View}{h n:Nat}{v:Value}(h0:1≤n)(h1:aij v)(h2:V (.ref h n) v):cg V ⟨.ref h,n⟩ v:=by
 cases n with
 |zero=>omega
 |succ m=>exact⟨v,rfl,h1,h2⟩
theorem alS {V:View}{h n:Nat}{v:Value}(h0:1≤n)(h1:an5 v)(h2:V (.ref h n) v):cg V ⟨.ptr h,n⟩ v:=by
 cases n with
 |zero=>omega
 |succ m=>exact⟨v,rfl,h1,h2⟩
theorem Uk {V:View}{t:Ty}{o:Option (List t.den)}{v:Value}(hr:cg V ⟨.qG t,o⟩ v):cg V ⟨.slice t,lst o⟩ v:=by
 cases o with
 |none=>have: [v]=_:=hr;simp at this;subst this;exact⟨none,0,[],rfl,Nat.le_refl _,trivial,fun _=>rfl,fun j u hj=>by simp at hj⟩
 |some xs=>obtain⟨ad,c,bG,h1,h2,h3,h4⟩:=hr;exact⟨some ad,c,bG,h1,h2,h3,(fun e=>by cases e),fun j u hj=>⟨ad,rfl,h4 j u hj⟩⟩
theorem Ul {V:View}{Y:Value}{x:AV}{u:Value}(h:ak V σ ν Y x u):ak V σ ν Y (co x) u:=by
 unfold co;split
 ·exact Uk h
 ·exact h
theorem ER {V:View}{v:Value}{row:Row}(h:ki V w v row):∃(A:Option Addr) (c:Nat),v= .slice A row.xs.length c∧row.xs.length≤c∧(A=none→c=0)∧∀ad,A=some ad→ad.off=0∧ad.spot=none:=by
 obtain⟨bG,⟨h1,h2⟩,h3⟩:=h;rcases h2 with ⟨h2,h4⟩ | ⟨g,cap,cur,h2,_,_,h4,_⟩
 ·exact⟨none,0,by rw[h2,h4],by rw[h4];exact Nat.le_refl _,fun _=>rfl,fun _ e=>by cases e⟩
 ·exact⟨some ⟨g,0,none⟩,cap,h2,h4,(fun e=>by cases e),fun ad e=>by cases e;exact⟨rfl,rfl⟩⟩
theorem Ww {e:TypeId}{size n:Nat}{v:Value}{xs:List Value}(h:w.ownsRow 0 e size v n xs){g:Nat}(hg:dw v=some g){j:Nat}{u:Value}(hj:xs[j]? =some u):w.cell? ⟨g,j,none⟩=some u:=by
 obtain⟨h1,h2⟩:=h;rcases h2 with ⟨rfl,_⟩ | ⟨g',cap,cur,rfl,_,h3,h4,h5,h6,h7⟩
 ·cases hg
 ·simp only[dw,Option.some.injEq] at hg;subst hg;rw[cell_of_row w _ _ cur e (0,0) h3];rw[←h7] at hj;simpa using Kf hj
theorem Q1 {V:View}{v:Value}{row:Row}(h:ki V w v row):
  ∃bG:List (List Value),aF (Rel V row.t) row.xs bG∧∀g,dw v=some g→∀(j:Nat) u,bG.flatten[j]? =some u→w.cell? ⟨g,j,none⟩=some u:=by
 obtain⟨bG,h1,h3⟩:=h;exact⟨bG,h3,fun g hg j u hj=>Ww h1 hg hj⟩
theorem aaz {V:View}{k:Nat}{v:Value}{row:Row}(h:BM V w k v row):
  ∃bG:List (List Value),aF (Rel V row.t) row.xs bG∧∀g,dw v=some g→∀(j:Nat) u,bG.flatten[j]? =some u→w.cell? ⟨g,j,none⟩=some u:=by
 match k,h with
 |0,⟨_,h⟩=>exact Q1 h
 |1,⟨g,cur,ys,x,h1,h2,h3,h4,h5⟩=>refine⟨[ys],by rw[h4];exact⟨h5,trivial⟩,fun g' hg j u hj=> ?_⟩;rw[h1] at hg;simp only[dw,Option.some.injEq] at hg;subst hg;rw[cell_of_row w _ _ cur _ (0,0) h2];subst h3;simpa using hj
theorem St.row (h:St E σ a w ν O){r:Nat}{row:Row}(hr:look σ.rows r=some row):ki (view E σ ν O w) w (ν (.row r)) row:=h.CF (.row r) (.row row) (by simp[AS.obj,hr])
theorem St.box (h:St E σ a w ν O){b:Nat}{x:BX}(hb:look σ.boxes b=some x):CZ (view E σ ν O w) σ ν w (ν (.box b)) x:=h.CF (.box b) (.box x) (by simp[AS.obj,hb])
theorem ac2 {af:List aQ}{h n:Nat}{hr:aQ}{l:List hr.t.den}(hh:af[h]? =some hr)(hn:1≤n)(hl:ag hr.xs n=some l):pj af h n=some (.hp hr.k ⟨hr.e,hr.t,l⟩):=by
 cases n with
 |zero=>omega
 |succ m=>
  simp only[ag] at hl;simp only[pj,hh];split at hl
  ·rename_i o ho;rw[ho,hl];rfl
  ·cases hl
theorem LR {α:Type}{xs:List (Option (List α))}{n:Nat}{l:List α}(hl:ag xs n=some l):n≤xs.length:=by
 cases n with
 |zero=>omega
 |succ m=>
  simp only[ag] at hl;split at hl
  ·rename_i o ho;exact(List.getElem?_eq_some_iff.1 ho).1
  ·cases hl
theorem St.hp (hst:St E σ a w ν O){h n:Nat}{hr:aQ}{l:List hr.t.den}(hh:σ.af[h]? =some hr)(hn:1≤n)(hl:ag hr.xs n=some l):BM (view E σ ν O w) w hr.k (ν (.hp h n)) ⟨hr.e,hr.t,l⟩:=
 hst.CF (.hp h n) (.hp hr.k ⟨hr.e,hr.t,l⟩) (ac2 hh hn hl)
def PV (P:Program)(o:Oper)(E:Env)(σ:AS)(a:Act)(w:World)(ν:Nm→Value)(O:Nat→Prop)(r:cP):Prop:=
 r.2= .nu []∧∃v w',(execOp a.eval o).run P w= .ok (.value v) w'∧Below w.heap.size w w'∧ak (view E σ ν O w') σ ν E.Y r.1 v
theorem PV.same {o:Oper}{z:AV}{r:cP}{v:Value}(hr:(z,Eff.nu [])=r)(h1:(execOp a.eval o).run P w= .ok (.value v) w)
  (h2:ak (view E σ ν O w) σ ν E.Y z v):PV P o E σ a w ν O r:=by subst hr;exact⟨rfl,v,w,h1,Below.refl _ _,h2⟩
theorem aiz (hE:aI E)(hT:jO P T)(h:St E σ a w ν O){t:TypeId}{x:AV}{u:Value}(hx:ak (view E σ ν O w) σ ν E.Y x u){r:cP}
  (he:(W5 (T:=Tb) T t x).val Φ σ=some r):r.2= .nu []∧∃v,(Instr.loadAt t u).run P w= .ok v w∧ak (view E σ ν O w) σ ν E.Y r.1 v:=by
 unfold W5 at he;split at he
 ·cases he
 ·rename_i tr hr;obtain⟨rfl,hr'⟩:=hT t tr hr;have fin:∀{cs:List CV} {vs:List Value} {ad:Addr},u= .pointer (some ad)→(∀(j:Nat) u,vs[j]? =some u→w.cell? (ad.add j)=some u)→aF (cg (view E σ ν O w)) cs vs→
    (kt pv (nW tr.ty cs)).val Φ σ=some r→r.2= .nu []∧∃v,(Instr.loadAt tr.id u).run P w= .ok v w∧ak (view E σ ν O w) σ ν E.Y r.1 v:=by
   intro cs vs ad hu hc hcs he;rw[po] at he;obtain⟨z,hz,he⟩:=he;rw[iJ] at he;subst he;obtain⟨v',h1,h2⟩:=aay (P:=P) hr' hc hcs hz (σ:=σ) (ν:=ν) (Y:=E.Y);exact⟨rfl,v',by simp only[Instr.loadAt,hu,Instr.sureAddr,Sem.run_bind,Sem.run_pure,Result.andThen_ok,h1],h2⟩
  have Wt:∀{t:Ty} {xs:List t.den} {bG:List (List Value)} {g i off:Nat} {z:t.den},aF (Rel (view E σ ν O w) t) xs bG→(∀(j:Nat) u,bG.flatten[j]? =some u→w.cell? ⟨g,j,none⟩=some u)→
    u= .pointer (some ⟨g,i*t.size+off,none⟩)→xs[i]? =some z→(kt pv (nW tr.ty ((flat t z).drop off))).val Φ σ=some r→
    r.2= .nu []∧∃v,(Instr.loadAt tr.id u).run P w= .ok v w∧ak (view E σ ν O w) σ ν E.Y r.1 v:=by
   intro t xs bG g i off z h1 h2 hu hz he;obtain⟨ys,h3,h4,h5⟩:=C1 h1 i z hz;refine fin hu (fun j u hj=> ?_) ((jK h4).drop off) he;rw[Xd,Nat.add_assoc];exact h2 _ u (h5 _ u (Kg hj))
  split at he
  ·rename_i b off;rw[EP] at he;obtain⟨bx,hbx,he⟩:=he;obtain⟨_,g,hg,hu⟩:=hx;obtain⟨g',e1,cS⟩:=h.box hbx;rw[hg] at e1;simp only[Value.pointer.injEq,Option.some.injEq,Addr.mk.injEq,and_true] at e1;subst e1;cases bx with
   |cells cs=>obtain⟨cur,e,hgc,hcs⟩:=cS;refine fin hu (vs:=cur.toList.drop off) (fun j u hj=> ?_) (hcs.drop off) he;rw[Xd,cell_of_row w _ _ cur e (0,0) hgc];simpa using Kg hj
   |own q=>
    obtain⟨e,hgc,hq⟩:=cS;simp only at he;split at he
    ·rename_i ut rK;rw[aD,iJ] at he;obtain⟨h0,rfl⟩:=he;have:=(beq_iff _ _).1 h0;subst this;refine⟨rfl,ν (.row q), ?_,rfl,hq⟩;have hc:w.cell? ⟨g,0,none⟩=some (ν (.row q)):=by rw[cell_of_row w _ _ _ e (0,0) hgc];rfl
     have ha:=LQ hr' w;rw[rK] at ha;simp[Instr.loadAt,hu,Instr.sureAddr,loadVar,ha,hc]
    ·cases he
   |nil=>cases he
  ·rename_i q sz i off;rw[rJ] at he;obtain⟨row,hrow,he⟩:=he;rw[cE] at he;obtain⟨z,hz,he⟩:=he;obtain⟨row',g,aiA,hg,rfl,hu⟩:=hx;rw[hrow] at aiA;obtain rfl:row=row':=by simpa using aiA
   obtain⟨bG,h1,h2⟩:=Q1 (h.row hrow);exact Wt h1 (fun j u hj=>h2 g hg j u hj) hu hz he
  ·rename_i cs;obtain⟨ad,vs,hu,h1,h2⟩:=hx;exact fin hu (fun j u hj=>za hE h.keep (h2 j u hj)) h1 he
  ·rename_i i n j off;simp only[gG,cE] at he;obtain⟨hr,hh,l,hl,z,hz,he⟩:=he;obtain⟨hr',g,hh',hn,_,hg,hu⟩:=hx;rw[hh] at hh';obtain rfl:hr=hr':=by simpa using hh'
   obtain⟨bG,h1,h2⟩:=aaz (h.hp hh hn hl);exact Wt h1 (fun j u hj=>h2 g hg j u hj) hu hz he
  ·rename_i i n;simp only[gG,cE] at he;obtain⟨hr,hh,l,hl,z,hz,he⟩:=he;rcases Uj hx with ⟨rfl,_⟩ | ⟨hn,⟨ad,rfl⟩,_,_,hu⟩
   ·simp[ag] at hl;subst hl;simp at hz
   ·have cS:=h.hp hh hn hl;obtain⟨bG,h1,h2⟩:=aaz cS;rw[←hu] at h2;have had:ad=⟨ad.block,0,none⟩:=by
     rw[←hu] at cS;generalize hr.k=k at cS
     match k,cS with
     |0,⟨⟨_,_,_,e⟩,_⟩=>cases e
     |1,⟨g,_,_,_,e,_⟩=>simp at e;rw[e]
    exact Wt (i:=0) (off:=0) h1 (fun j u hj=>h2 _ rfl j u hj) (by rw[Nat.zero_mul, ←had]) hz (by simpa using he)
  ·cases he
theorem Q2 {Y:Value}{V:View}{ty:TypeId}{x:AV}{u:Value}(hx:ak V σ ν Y x u){r:cP}
  (he:(Nb (T:=Tb) T ty x).val Φ σ=some r):r.2= .nu []∧ak V σ ν Y r.1 u:=by
 unfold Nb at he;split at he
 ·rename_i v;split at he
  ·split at he
   ·split at he
    ·rename_i vs;split at he
     ·rename_i cs hl;rw[iJ] at he;subst he;obtain⟨l1,e1,h1⟩:=jP (V:=V) hl;refine⟨rfl,vs.toList, ?_, ?_⟩
      ·have:u= .agg vs:=hx;simpa using this
      ·rw[e1,List.append_nil];exact h1
     ·cases he
    ·cases he
   ·rw[iJ] at he;subst he;exact⟨rfl,hx⟩
  ·cases he
 ·cases he
 ·rw[iJ] at he;subst he;exact⟨rfl,hx⟩
end
def aiB (P:Program)(T:dc):Prop:=∀t,T.eqs.any (Nat.beq t)=true→∀r u,km T.rows t=some r→r.ty= .st u→
 ∀(V:View) (x y:u.den) (vs us:List Value) (w:World) (op:BinOp) (ox oy:Operand),Rel V u x vs→Rel V u y us→
  (eqGuard op t ox oy (.agg vs.toArray) (.agg us.toArray)).run P w= .ok () w∧(Op.equal t (.agg vs.toArray) (.agg us.toArray)).run P w= .ok (CU u x y) w
section
variable {P:Program}{Tb:dc}{T:List gZ}{E:Env}{σ:AS}{a:Act}{w w':World}{ν:Nm→Value}{O:Nat→Prop}{Φ:cj Tb}{V:View}{Y:Value}
theorem ac3 {op:BinOp}{x y:Int}{b:Bool}(h:acU op x y=some b):(Op.intCmp op x y).run P w= .ok (.bool b) w:=by cases op<;>simp[acU] at h<;>subst h<;>simp[Op.intCmp]
theorem ac4 {op:BinOp}{x y:ByteArray}{b:Bool}(h:YD op x y=some b):(Op.stringOp op x y).run P w= .ok (.bool b) w:=by cases op<;>simp only[YD,Option.some.injEq,reduceCtorEq] at h<;>subst h<;>simp[Op.stringOp]
theorem alU {op:BinOp}{b:Bool}{r:cP}(he:(eqV (T:=Tb) op b).val Φ σ=some r):(op= .eql∧(AV.rv (.cv ⟨.bool,b⟩),Eff.nu [])=r)∨(op= .neq∧(AV.rv (.cv ⟨.bool, !b⟩),Eff.nu [])=r):=by
 unfold eqV at he;split at he
 ·rw[df] at he;exact .inl ⟨rfl,he⟩
 ·rw[df] at he;exact .inr ⟨rfl,he⟩
 ·cases he
theorem Um {op:BinOp}{t:TypeId}{u v:Value}{b:Bool}{r:cP}(ox oy:Operand)(hg:∀op,(eqGuard op t ox oy u v).run P w= .ok () w)(hb:(Op.equal t u v).run P w= .ok b w)
  (h1:binOp .eql t u v=(do pure (.bool (←Op.equal t u v)))) (h2:binOp .neq t u v=(do pure (.bool (!(←Op.equal t u v)))))
  (he:(eqV (T:=Tb) op b).val Φ σ=some r):r.2= .nu []∧∃z,(do eqGuard op t ox oy u v;binOp op t u v:Sem Value).run P w= .ok z w∧ak V σ ν Y r.1 z:=by
 rcases alU he with ⟨rfl,rfl⟩ | ⟨rfl,rfl⟩
 ·refine⟨rfl, .bool b, ?_,zf⟩;simp[Sem.run_bind,hg,h1,hb]
 ·refine⟨rfl, .bool (!b), ?_,zf⟩;simp[Sem.run_bind,hg,h2,hb]
theorem aaA {op:BinOp}{t:TypeId}{x y:AV}{u v:Value}(ox oy:Operand)(hx:ak V σ ν Y x u)(hy:ak V σ ν Y y v){r:cP}(he:(afR (T:=Tb) op x y).val Φ σ=some r):
  r.2= .nu []∧∃z,(do eqGuard op t ox oy u v;binOp op t u v:Sem Value).run P w= .ok z w∧ak V σ ν Y r.1 z:=by
 unfold afR at he;split at he
 ·rename_i i n j m;have ex:=zd hx rfl;have ey:=zd hy rfl;subst ex ey;have hg:eqGuard op t ox oy (.int i n) (.int j m)=pure ():=eqGuard_at_int ..;have fin:∀{k:IntKind} {q:Int},(AV.rv (.cv ⟨.int k,q⟩),Eff.nu [])=r→(binOp op t (.int i n) (.int j m)).run P w= .ok (.int k q) w→
    r.2= .nu []∧∃z,(do eqGuard op t ox oy (.int i n) (.int j m);binOp op t (.int i n) (.int j m):Sem Value).run P w= .ok z w∧ak V σ ν Y r.1 z:=fun e hrun=>by
   subst e;refine⟨rfl,_, ?_,ze⟩;rw[hg];simpa using hrun
  split at he
  ·rw[aD,df] at he;obtain⟨hc,he⟩:=he;have hc':¬m<0:=by simpa using hc
   exact fin he (by simp[binOp,Op.shift,hc',shl])
  ·rw[aD,df] at he;obtain⟨hc,he⟩:=he;have hc':¬m<0:=by simpa using hc
   exact fin he (by simp[binOp,Op.shift,hc',shr])
  ·rename_i hn1 hn2;split at he
   ·rename_i e;subst e;split at he
    ·rw[df] at he;exact fin he (by simp[binOp,Op.intArith])
    ·rw[df] at he;exact fin he (by simp[binOp,Op.intArith])
    ·rw[df] at he;exact fin he (by simp[binOp,Op.intArith])
    ·rw[aD,df] at he;obtain⟨hc,he⟩:=he;have hc':¬m=0:=by simpa using hc
     exact fin he (by simp[binOp,Op.intDiv,hc'])
    ·rw[aD,df] at he;obtain⟨hc,he⟩:=he;have hc':¬m=0:=by simpa using hc
     exact fin he (by simp[binOp,Op.intDiv,hc'])
    ·rw[df] at he;exact fin he (by simp[binOp,Op.intBits,bits])
    ·rw[df] at he;exact fin he (by simp[binOp,Op.intBits,bits])
    ·rw[df] at he;exact fin he (by simp[binOp,Op.intBits,bits])
    ·rw[df] at he;exact fin he (by simp[binOp,Op.intBits,bits])
    ·rw[po] at he;obtain⟨b,hb,he⟩:=he;rw[df] at he;subst he;refine⟨rfl, .bool b, ?_,zf⟩;rw[hg];have:=ac3 (P:=P) (w:=w) hb;cases op<;>first | (exfalso;simp_all;done) |simpa [binOp] using this
   ·cases he
 ·rename_i n m;have ex:=NY hx rfl;have ey:=NY hy rfl;subst ex ey;have hg:eqGuard op t ox oy (.string n) (.string m)=pure ():=eqGuard_at_string ..;split at he
  ·rw[aD,df] at he;obtain⟨hb,rfl⟩:=he;have hle:=Nat.le_of_ble_eq_true hb;refine⟨rfl, .string (n++m), ?_,GH⟩;rw[hg];have hn:¬(((n.size+m.size:Nat):Int)>IntKind.i64.max):=by rw[IntKind.max_i64];omega
   simp only[binOp,Op.stringOp,Sem.run_bind,Sem.run_pure,Result.andThen_ok,if_neg hn]
  ·rw[po] at he;obtain⟨b,hb,he⟩:=he;rw[df] at he;subst he;refine⟨rfl, .bool b, ?_,zf⟩;rw[hg];have:=ac4 (P:=P) (w:=w) hb;cases op<;>first | (simp[YD] at hb;done) |simpa [binOp] using this
 ·cases he
theorem aiC {op:BinOp}{t:TypeId}{x y:AV}{u v:Value}(ox oy:Operand)(ht:P.underlying t=some .bool)(hx:ak V σ ν Y x u)(hy:ak V σ ν Y y v){r:cP}(he:(afS (T:=Tb) op x y).val Φ σ=some r):
  r.2= .nu []∧∃z,(do eqGuard op t ox oy u v;binOp op t u v:Sem Value).run P w= .ok z w∧ak V σ ν Y r.1 z:=by
 unfold afS at he;split at he
 ·rename_i n m;have ex:=Pu hx rfl;have ey:=Pu hy rfl;subst ex ey;exact Um ox oy (fun op=>by rw[eqGuard_at_bool];rfl) (run_equalIn_bool w 9999 t n m ht) (by rfl) (by rfl) he
 ·cases he
theorem Pv (d:Nat){t:TypeId}{e:TypeId}(ht:P.underlying t=some (.slice e))(A:Option Addr)(n c:Nat):(Op.equalIn (d+1) t (.slice A n c) (.slice none 0 0)).run P w= .ok A.isNone w:=by cases A<;>simp[Op.equalIn,run_underlying ht]
theorem Tn (d:Nat){t:TypeId}{e:TypeId}(ht:P.underlying t=some (.pointer e))(A:Option Addr):(Op.equalIn (d+1) t (.pointer A) (.pointer none)).run P w= .ok A.isNone w:=by cases A<;>simp[Op.equalIn,run_underlying ht]
theorem Tp (d:Nat){t k e:TypeId}(ht:P.underlying t=some (.map k e))(A:Option Nat):(Op.equalIn (d+1) t (.map A) (.map none)).run P w= .ok A.isNone w:=by cases A<;>simp[Op.equalIn,run_underlying ht]
theorem Tq {t:TypeId}{e:TypeId}(ht:P.underlying t=some (.slice e))(A:Option Addr)(n c:Nat):(Op.equal t (.slice A n c) (.slice none 0 0)).run P w= .ok A.isNone w:=by exact Pv 9999 ht A n c
theorem Wx {t:TypeId}{e:TypeId}(ht:P.underlying t=some (.pointer e))(A:Option Addr):(Op.equal t (.pointer A) (.pointer none)).run P w= .ok A.isNone w:=by exact Tn 9999 ht A
theorem Wy {t k e:TypeId}(ht:P.underlying t=some (.map k e))(A:Option Nat):(Op.equal t (.map A) (.map none)).run P w= .ok A.isNone w:=by exact Tp 9999 ht A
theorem Un (n:Nat):Nat.beq n 0=decide (n=0):=by cases n<;>rfl
theorem aiD (hT:jO P T){tr:gZ}(htr:TOk P T tr){op:BinOp}{x y:AV}{u v:Value}(ox oy:Operand)(hx:ak V σ ν Y x u)(hy:ak V σ ν Y y v){r:cP}(he:(afT (T:=Tb) tr.ty op x y).val Φ σ=some r):
  r.2= .nu []∧∃z,(do eqGuard op tr.id ox oy u v;binOp op tr.id u v:Sem Value).run P w= .ok z w∧ak V σ ν Y r.1 z:=by
 unfold afT at he;have hd:=htr.desc;have sl:∀{A:Option Addr} {n c:Nat} {b:Bool},(∃e,P.underlying tr.id=some (.slice e))→u= .slice A n c→A.isNone=b→v= .slice none 0 0→(eqV (T:=Tb) op b).val Φ σ=some r→
   r.2= .nu []∧∃z,(do eqGuard op tr.id ox oy u v;binOp op tr.id u v:Sem Value).run P w= .ok z w∧ak V σ ν Y r.1 z:=by
  intro A n c b ⟨e,ht⟩ hu hb hv he;subst hu hv;exact Um ox oy (fun op=>by rw[eqGuard_at_slice];rfl) (by rw[Tq ht,hb]) (by rfl) (by rfl) he
 have pt:∀{A:Option Addr} {b:Bool},(∃e,P.underlying tr.id=some (.pointer e))→u= .pointer A→A.isNone=b→v= .pointer none→(eqV (T:=Tb) op b).val Φ σ=some r→
   r.2= .nu []∧∃z,(do eqGuard op tr.id ox oy u v;binOp op tr.id u v:Sem Value).run P w= .ok z w∧ak V σ ν Y r.1 z:=by
  intro A b ⟨e,ht⟩ hu hb hv he;subst hu hv;exact Um ox oy (fun op=>by rw[eqGuard_at_pointer];rfl) (by rw[Wx ht,hb]) (by rfl) (by rfl) he
 have mp:∀{A:Option Nat} {b:Bool},(∃k e,P.underlying tr.id=some (.map k e))→u= .map A→A.isNone=b→v= .map none→(eqV (T:=Tb) op b).val Φ σ=some r→
   r.2= .nu []∧∃z,(do eqGuard op tr.id ox oy u v;binOp op tr.id u v:Sem Value).run P w= .ok z w∧ak V σ ν Y r.1 z:=by
  intro A b ⟨k,e,ht⟩ hu hb hv he;subst hu hv;exact Um ox oy (fun op=>by rw[eqGuard_at_map];rfl) (by rw[Wy ht,hb]) (by rfl) (by rfl) he
 split at he
 ·rename_i ut h n rK;rw[rK] at hd;have hs:∃e,P.underlying tr.id=some (.slice e):=⟨_,hd.1⟩
  rcases Kh hx with ⟨rfl,hu⟩ | ⟨hn,⟨ad,m,c,hu⟩,_⟩
  ·exact sl hs hu rfl hy he
  ·refine sl hs hu ?_ hy he;rw[Un,decide_eq_false (by omega)];rfl
 ·rename_i ut h n rK;rw[rK] at hd;rcases Uj hx with ⟨rfl,hu⟩ | ⟨hn,⟨ad,hu⟩,_⟩
  ·exact pt hd hu rfl hy he
  ·refine pt hd hu ?_ hy he;rw[Un,decide_eq_false (by omega)];rfl
 ·rename_i ut h n rK;rw[rK] at hd;rcases alQ hx with ⟨rfl,hu⟩ | ⟨hn,⟨ad,hu⟩,_⟩
  ·exact mp hd hu rfl hy he
  ·refine mp hd hu ?_ hy he;rw[Un,decide_eq_false (by omega)];rfl
 ·rename_i ut t' o rK;rw[rK] at hd;have hs:∃e,P.underlying tr.id=some (.slice e):=⟨_,hd.1⟩
  cases o with
  |none=>have: [u]=_:=hx;simp at this;exact sl hs this rfl hy he
  |some xs=>obtain⟨ad,c,bG,h1,_⟩:=hx;simp at h1;exact sl hs h1 rfl hy he
 ·cases he
theorem aoe {op:UnOp}{x:AV}{u:Value}(hx:ak V σ ν Y x u){r:cP}
  (he:(match op,x with
  | .not, .rv (.cv ⟨.bool,b⟩)=>EE (T:=Tb) .bool (!b)
  | .neg, .rv (.cv ⟨.int i,a⟩)=>EE (.int i) (i.wrap (0 - a))
  |_,_=> .fail).val Φ σ=some r):r.2= .nu []∧∃z,(Op.unary op u).run P w= .ok z w∧ak V σ ν Y r.1 z:=by
 split at he
 ·have ex:=Pu hx rfl;rw[df] at he;subst he ex;exact⟨rfl,_,by simp[Op.unary],zf⟩
 ·have ex:=zd hx rfl;rw[df] at he;subst he ex;exact⟨rfl,_,by simp[Op.unary,Op.intArith],ze⟩
 ·cases he
theorem aiE (hT:jO P T){tr:gZ}(htr:TOk P T tr){x:AV}{u:Value}(h:St E σ a w ν O)(hx:ak (view E σ ν O w) σ ν E.Y x u){r:cP}(ty:TypeId)
  (he:(afU (T:=Tb) tr.ty x).val Φ σ=some r):
  r.2= .nu []∧∃z,(Builtin.len_ #[tr.id] ty #[u]).run P w= .ok z w∧ak (view E σ ν O w) σ ν E.Y r.1 z:=by
 have hc:=Ul hx;have hd:=htr.desc;unfold afU at he;have sl:∀{ut:Ty} {A:Option Addr} {n c m:Nat},tr.ty= .slice ut→u= .slice A n c→n=m→(AV.rv (.cv ⟨.int .i64,(m:Int)⟩),Eff.nu [])=r→r.2= .nu []∧∃z,(Builtin.len_ #[tr.id] ty #[u]).run P w= .ok z w∧ak (view E σ ν O w) σ ν E.Y r.1 z:=by intro ut A n c m rK hu hm he;rw[rK] at hd;subst hu hm he;exact⟨rfl, .int .i64 n,by simp[Builtin.len_,run_underlying hd.1,goInt],ze⟩
 split at he
 ·rename_i ut t' xs rK hb;rw[hb] at hc;rw[df] at he;obtain⟨A,cc,bG,ex,_⟩:=rX hc;exact sl rK ex rfl he
 ·rename_i s rK hb;rw[hb] at hc;rw[rK] at hd;rw[df] at he;have ex:=NY hc rfl;subst ex he;exact⟨rfl, .int .i64 s.size,by simp[Builtin.len_,run_underlying (show P.underlying tr.id=some .string from hd),goInt],ze⟩
 ·rename_i ut q rK hb;rw[hb] at hc;rw[TP] at he;obtain⟨row,hrow,he⟩:=he;rw[df] at he;obtain⟨A,cc,er,_⟩:=ER (h.row hrow);exact sl rK (by rw[hc.1,er]) rfl he
 ·rename_i ut rK hb;rw[hb] at hc;rw[df] at he;exact sl rK (show u= .slice none 0 0 from hc) rfl he
 ·rename_i ut i n rK hb;rw[hb] at hc;simp only[gG,cE] at he;obtain⟨hr,hh,l,hl,he⟩:=he;rw[df] at he;rcases Kh hc with ⟨rfl,hu⟩ | ⟨hn,YK,_,_,hu⟩
  ·simp only[ag,Option.some.injEq] at hl;subst hl;exact sl rK hu rfl he
  ·have cS:=h.hp hh hn hl;rw[←hu] at cS;generalize hr.k=k at cS
   match k,cS with
   |0,⟨_,hrow⟩=>obtain⟨A,cc,er,_⟩:=ER hrow;exact sl rK er rfl he
   |1,⟨g,_,_,_,e,_⟩=>obtain⟨_,_,_,e'⟩:=YK;rw[e] at e';cases e'
 ·cases he
end
section
variable {P:Program}{Tb:dc}{T:List gZ}{E:Env}{σ:AS}{a:Act}{w w':World}{ν:Nm→Value}{O:Nat→Prop}{Φ:cj Tb}{V:View}{Y:Value}
theorem LS {af:List aQ}{h:Nat}{hr:aQ}(e:af[h]? =some hr):hlen af h=hr.xs.length:=by unfold hlen;rw[e]
theorem Ki {af:List aQ}{h n:Nat}(h1:1≤n)(h2:n≤hlen af h):∃hr,af[h]? =some hr∧n≤hr.xs.length:=by
 unfold hlen at h2;cases hh:af[h]? with
 |none=>rw[hh] at h2;simp at h2;omega
 |some hr=>rw[hh] at h2;exact⟨hr,rfl,h2⟩
theorem YL (h:St E σ a w ν O){i n:Nat}{u:Value}(hx:cg (view E σ ν O w) ⟨.ptr i,n⟩ u)(hn:n≠0):∃hr g,σ.af[i]? =some hr∧1≤n∧n≤hr.xs.length∧dw (ν (.hp i n))=some g∧u= .pointer (some ⟨g,0,none⟩):=by
 rcases Uj hx with ⟨rfl,_⟩ | ⟨h1,⟨ad,hu⟩,h2,h3,h4⟩
 ·exact absurd rfl hn
 ·obtain⟨hr,h5,h6⟩:=Ki h2 h3;rcases h.nn i hr n h5 h1 h6 with ⟨_,g,m,c,e⟩ | ⟨_,g,e⟩
  ·rw[←h4,hu] at e;cases e
  ·exact⟨hr,g,h5,h1,h6,by rw[e];rfl,by rw[h4,e]⟩
theorem YM (h:St E σ a w ν O){x:AV}{u:Value}(hx:ak (view E σ ν O w) σ ν E.Y x u){r:cP}
  (he:(match x with
  | .rv (.cv ⟨.ptr h,n⟩)=>Q.gr (T:=Tb) (!(Nat.beq n 0)) (pv (.rv (.cv ⟨.ptr h,n⟩)))
  | .box b off=>pv (.box b off)
  | .Pj r sz i off=>pv (.Pj r sz i off)
  | .qA cs=>pv (.qA cs)
  | .hel h n i off=>pv (T:=Tb) (.hel h n i off)
  |_=> .fail).val Φ σ=some r):r.2= .nu []∧(∃ad,u= .pointer (some ad))∧ak (view E σ ν O w) σ ν E.Y r.1 u:=by
 split at he
 ·rename_i i n;rw[aD,iJ] at he;obtain⟨hn,rfl⟩:=he;have hn':n≠0:=fun e=>by rw[e] at hn;cases hn
  obtain⟨hr,g,_,_,_,_,e⟩:=YL h hx hn';exact⟨rfl,⟨_,e⟩,hx⟩
 ·rw[iJ] at he;subst he;obtain⟨_,g,_,e⟩:=hx;exact⟨rfl,⟨_,e⟩,⟨by assumption,g,by assumption,e⟩⟩
 ·rw[iJ] at he;subst he;obtain⟨row,g,e1,e2,e3,e4⟩:=hx;exact⟨rfl,⟨_,e4⟩,⟨row,g,e1,e2,e3,e4⟩⟩
 ·rw[iJ] at he;subst he;obtain⟨ad,vs,e1,e2⟩:=hx;exact⟨rfl,⟨_,e1⟩,⟨ad,vs,e1,e2⟩⟩
 ·rw[iJ] at he;subst he;obtain⟨hr,g,e1,e2,e3,e4,e5⟩:=hx;exact⟨rfl,⟨_,e5⟩,⟨hr,g,e1,e2,e3,e4,e5⟩⟩
 ·cases he
theorem aeH (h:St E σ a w ν O){x:AV}{u:Value}(hx:ak (view E σ ν O w) σ ν E.Y x u){off:Nat}{r:cP}
  (he:(match x with
   | .box b o=>pv (.box b (o+off))
   | .Pj q sz i o=>pv (.Pj q sz i (o+off))
   | .qA cs=>pv (.qA (cs.drop off))
   | .hel h n i o=>pv (.hel h n i (o+off))
   | .rv (.cv ⟨.ptr h,n⟩)=> .gr (!(Nat.beq n 0)) (pv (T:=Tb) (.hel h n 0 off))
   |_=> .fail).val Φ σ=some r):r.2= .nu []∧∃ad,u= .pointer (some ad)∧ak (view E σ ν O w) σ ν E.Y r.1 (.pointer (some (ad.add off))):=by
 split at he
 ·rw[iJ] at he;subst he;obtain⟨h1,g,h2,h3⟩:=hx;exact⟨rfl,_,h3,h1,g,h2,by rw[Xd]⟩
 ·rw[iJ] at he;subst he;obtain⟨row,g,e1,e2,e3,e4⟩:=hx;exact⟨rfl,_,e4,row,g,e1,e2,e3,by rw[Xd,Nat.add_assoc]⟩
 ·rw[iJ] at he;subst he;obtain⟨ad,vs,e1,e2,e3⟩:=hx;exact⟨rfl,_,e1,_,vs.drop off,rfl,e2.drop off,fun j u hj=>by rw[add_add];exact e3 _ u (Kg hj)⟩
 ·rw[iJ] at he;subst he;obtain⟨hr,g,e1,e2,e3,e4,e5⟩:=hx;exact⟨rfl,_,e5,hr,g,e1,e2,e3,e4,by rw[Xd,Nat.add_assoc]⟩
 ·rename_i i n;rw[aD,iJ] at he;obtain⟨hn,rfl⟩:=he;have hn':n≠0:=fun e=>by rw[e] at hn;cases hn
  obtain⟨hr,g,h1,h2,h3,h4,h5⟩:=YL h hx hn';exact⟨rfl,_,h5,hr,g,h1,h2,h3,h4,by rw[Jb,Nat.zero_mul,Nat.zero_add]⟩
 ·cases he
theorem ac5 (hT:jO P T)(h:St E σ a w ν O){s:TypeId}{x:AV}{u:Value}{f:Nat}(hx:ak (view E σ ν O w) σ ν E.Y x u){r:cP}(he:(QU (T:=Tb) T s x f).val Φ σ=some r):
  r.2= .nu []∧∃v,(Instr.fieldAt s u f).run P w= .ok v w∧ak (view E σ ν O w) σ ν E.Y r.1 v:=by
 unfold QU at he;split at he
 ·rename_i tr hr;obtain⟨rfl,hr'⟩:=hT s tr hr;rw[aD] at he;obtain⟨aiF,he⟩:=he;split at he
  ·rename_i off size hf;have hd:=hr'.desc;have asU:∃(fs:Array Field) (fd:Field) (j:TypeInfo),P.underlying tr.id=some (.struct fs)∧fs[f]? =some fd∧fd.offset=off∧P.info? fd.type=some j∧j.size≠0:=by
    cases rK:tr.ty with
    |st u=>
     rw[rK] at hd;rcases hd with ⟨_,fs,h1,_,h2⟩ | ⟨ha,n,e,j,h1,_⟩
     ·obtain⟨fd,j,h3,h4,h5,h6,h7,_⟩:=h2 f off size hf;exact⟨fs,fd,j,h1,h3,h4,h5,by rw[h6];exact h7⟩
     ·rw[ha] at aiF;cases aiF
    |_=>rw[hr'.rU (by rw[rK];simp)] at hf;simp at hf
   obtain⟨fs,fd,j,h1,h2,h3,h4,h5⟩:=asU;obtain⟨e1,ad,hu,cS⟩:=aeH h hx he;refine⟨e1,_, ?_,cS⟩;subst hu;simp[Instr.fieldAt,run_underlying h1,h2,Instr.sureAddr,fieldPlace,sizeOf,typeInfo,h4,h5,h3]
  ·cases he
 ·cases he
theorem TR (hT:jO P T){r:gZ}(hr:TOk P T r){u:Ty}(rK:r.ty= .slice u):
  P.underlying r.id=some (.slice r.elem)∧∃re,TOk P T re∧re.id=r.elem∧re.ty=u:=by
 have hd:=hr.desc;rw[rK] at hd;obtain⟨h1,re,h2,h3⟩:=hd;obtain⟨h4,h5⟩:=hT _ re h2;exact⟨h1,re,h5,h4,h3⟩
theorem ac6 (hT:jO P T)(h:St E σ a w ν O){t:TypeId}{x i:AV}{u v:Value}(hx:ak (view E σ ν O w) σ ν E.Y x u)(hi:ak (view E σ ν O w) σ ν E.Y i v)
  {r:cP} (he:(QT (T:=Tb) T t x i).val Φ σ=some r):
  r.2= .nu []∧∃z,(Instr.indexAt t u v).run P w= .ok z w∧ak (view E σ ν O w) σ ν E.Y r.1 z:=by
 unfold QT at he;split at he
 ·rename_i tr hr;obtain⟨rfl,hr'⟩:=hT t tr hr;split at he
  ·rename_i k n;have ei:=zd hi rfl;have hc:=Ul hx;have run:∀{ut:Ty} {ad:Addr} {m cc:Nat},tr.ty= .slice ut→u= .slice (some ad) m cc→0≤n→n<m→
     (Instr.indexAt tr.id u v).run P w= .ok (.pointer (some (ad.add (n.toNat*ut.size)))) w:=fun {ut ad m cc} rK hu h0 h1=>by
    obtain⟨hd,re,Ts,Wn,Uo⟩:=TR hT hr' rK;have hsz:(sizeOf tr.elem).run P w= .ok ut.size w:=by rw[←Wn, ←Uo];exact C2 Ts w
    simp[Instr.indexAt,ei,asIntOf,run_underlying hd,hu,h0,h1,hsz]
   split at he
   ·rename_i ut u' xs rK hb;rw[hb] at hc;simp only[aD,cE,iJ] at he;obtain⟨hsu,y,hy,rfl⟩:=he;have Wz:=(beq_iff _ _).1 hsu;obtain⟨h0,h1,h2⟩:=Uh hy;obtain⟨A,cc,bG,ex,hlen,hall,hnone,hcells⟩:=rX hc;cases A with
    |none=>have:=hnone rfl;omega
    |some ad=>
     obtain⟨ys,h3,h4,h5⟩:=C1 hall n.toNat y h2;refine⟨rfl,_,run rK ex h0 h1,_,ys,rfl,jK h4,fun j v hj=> ?_⟩;obtain⟨Q3,e,hv⟩:=hcells _ v (h5 j v hj);obtain rfl:ad=Q3:=by simpa using e
     rw[add_add,Wz];exact hv
   ·rename_i ut q rK hb;rw[hb] at hc;simp only[rJ,aD,cE,iJ] at he;obtain⟨row,hrow,hsu,y,hy,rfl⟩:=he;have Wz:=(beq_iff _ _).1 hsu;obtain⟨h0,h1,h2⟩:=Uh hy;obtain⟨A,cc,er,_,_,hA⟩:=ER (h.row hrow);cases A with
    |none=>
     obtain⟨bG,⟨h3,h4⟩,_⟩:=h.row hrow;rcases h4 with ⟨_,h6⟩ | ⟨g,cap,cur,h4,_⟩
     ·omega
     ·rw[er] at h4;cases h4
    |some ad=>obtain⟨hA1,hA2⟩:=hA ad rfl;refine⟨rfl,_,run rK (by rw[hc.1,er]) h0 h1,row,ad.block,hrow,by rw[er];rfl,rfl, ?_⟩;obtain⟨b,o,sp⟩:=ad;simp only at hA1 hA2;subst hA1 hA2;rw[Jb,Wz];rfl
   ·rename_i ut j m rK hb;rw[hb] at hc;simp only[gG,aD,cE,iJ] at he;obtain⟨hr,hh,hsu,l,hl,y,hy,rfl⟩:=he;have Wz:=(beq_iff _ _).1 hsu;obtain⟨h0,h1,h2⟩:=Uh hy;rcases Kh hc with ⟨rfl,_⟩ | ⟨hm,YK,_,hle,hu⟩
    ·simp[ag] at hl;subst hl;simp at h2
    ·have hle':m≤hr.xs.length:=by rw[LS hh] at hle;exact hle
     rcases h.nn j hr m hh hm hle' with ⟨hk,g,m',c',e⟩ | ⟨_,g,e⟩
     ·have cS:=h.hp hh hm hl;rw[hk] at cS;obtain⟨_,hrow⟩:=cS;obtain⟨A,cc,er,_⟩:=ER hrow;rw[e] at er;simp only[Value.slice.injEq] at er;obtain⟨rfl,rfl,rfl⟩:=er;exact⟨rfl,_,run rK (by rw[hu,e]) h0 h1,hr,g,hh,hm,hle',by rw[e];rfl,by rw[Jb,Wz];rfl⟩
     ·obtain⟨_,_,_,e'⟩:=YK;rw[hu,e] at e';cases e'
   ·rename_i ut rK;split at he
    ·rename_i m;rw[aD] at he;obtain⟨aiF,he⟩:=he;split at he
     ·rename_i off size hf;have hd:=hr'.desc;rw[rK] at hd;rcases hd with ⟨ha,fs,h1,_⟩ | ⟨_,len,e,j,h1,h2,h3,h4,h5⟩
      ·rw[ha] at aiF;cases aiF
      ·have hm:m<len∧off=m*j.size:=by rw[h3,List.getElem?_map] at hf;simp only[Option.map_eq_some_iff,Prod.mk.injEq] at hf;obtain⟨k',hk,h6,h7⟩:=hf;obtain⟨h8,h9⟩:=List.getElem?_eq_some_iff.1 hk;simp at h8 h9;exact⟨h8,by rw[←h6,h9]⟩
       have he':(match co x with
        | .box b o=>pv (.box b (o+off))
        | .Pj q sz i o=>pv (.Pj q sz i (o+off))
        | .qA cs=>pv (.qA (cs.drop off))
        | .hel h n i o=>pv (.hel h n i (o+off))
        | .rv (.cv ⟨.ptr h,n⟩)=> .gr (!(Nat.beq n 0)) (pv (T:=Tb) (.hel h n 0 off))
        |_=> .fail).val Φ σ=some r:=by
        revert he;cases co x with
        |rv z=>intro he;cases he
        |_=>exact id
       obtain⟨e1,ad,hu,cS⟩:=aeH h hc he';refine⟨e1,_, ?_,cS⟩;subst hu;have h0:(0:Int)≤Int.ofNat m:=by simp
       have h6:(Int.ofNat m:Int)<len:=by simp;exact hm.1
       simp only[Int.ofNat_eq_natCast] at ei h6 h0;simp[Instr.indexAt,ei,asIntOf,run_underlying h1,Instr.sureAddr,hm.1,sizeOf,typeInfo,h2,hm.2]
     ·cases he
    ·cases he
   ·cases he
  ·cases he
 ·cases he
end
section
variable {P:Program}{Tb:dc}{T:List gZ}{E:Env}{σ:AS}{a:Act}{w w':World}{ν:Nm→Value}{O:Nat→Prop}{Φ:cj Tb}{V:View}{Y:Value}{ah:AS}
theorem Kj {V:View}{k:IntKind}:∀{xs:List Int} {bG:List (List Value)},aF (Rel V (.int k)) xs bG→bG.flatten=xs.map (Value.int k)
 | [],[],_=>rfl
 |x::xs,y::ys,h=>by have h1:y=[Value.int k x]:=h.1;have h2:=Kj h.2;simp[h1,h2]
 | [],_::_,h=>h.elim
 |_::_,[],h=>h.elim
theorem aaB (xs:List Int):∀(s:ByteArray),(xs.foldl (fun r n=>r.push (UInt8.ofNat n.toNat)) s).data=s.data++(xs.map fun n=>UInt8.ofNat n.toNat).toArray:=by
 induction xs with
 |nil=>intro s;simp
 |cons x xs ih=>intro s;simp only[List.foldl_cons,ih,List.map_cons];show (s.data.push _)++_=_;apply Array.ext';simp
theorem aiG (xs:List Int):xs.foldl (fun r n=>r.push (UInt8.ofNat n.toNat)) ByteArray.empty=strOf xs:=by
 have h:=aaB xs ByteArray.empty;have h2:(ByteArray.empty).data= #[]:=rfl;rw[h2,Array.empty_append] at h;cases hh:xs.foldl (fun r n=>r.push (UInt8.ofNat n.toNat)) ByteArray.empty with
 |mk d=>rw[hh] at h;simp only at h;subst h;rfl
theorem Pw {xs:List Int}{A:Option Addr}{c:Nat}(hA:A=none→xs=[])(hc:∀ad,A=some ad→∀j u,(xs.map (Value.int .u8))[j]? =some u→w.cell? (ad.add j)=some u):
  (Conv.bytesToString (.slice A xs.length c)).run P w= .ok (.string (strOf xs)) w:=by
 cases A with
 |none=>rw[hA rfl];rfl
 |some ad=>have hl:=run_loadCells_list (P:=P) w ad (xs.map (Value.int .u8)) (hc ad rfl);rw[List.length_map] at hl;rw[run_bytesToString w ad xs.length c xs hl,aiG]
theorem af2 (hE:aI E)(hT:jO P T)(h:St E σ a w ν O){s d:TypeId}{x:AV}{u:Value}(hx:ak (view E σ ν O w) σ ν E.Y x u){r:cP}(he:(W6 (T:=Tb) T s d x).val Φ σ=some r):
  r.2= .nu []∧∃v w',(convert s d u).run P w= .ok v w'∧Below w.heap.size w w'∧ak (view E σ ν O w') σ ν E.Y r.1 v:=by
 unfold W6 at he;split at he
 ·rename_i rs rd hrs hrd;obtain⟨rfl,hs'⟩:=hT s rs hrs;obtain⟨rfl,Z9⟩:=hT d rd hrd;have hs:=hs'.desc;have hd:=Z9.desc;have same:∀{z:AV} {v:Value},(z,Eff.nu [])=r→(convert rs.id rd.id u).run P w= .ok v w→ak (view E σ ν O w) σ ν E.Y z v→
    r.2= .nu []∧∃v w',(convert rs.id rd.id u).run P w= .ok v w'∧Below w.heap.size w w'∧ak (view E σ ν O w') σ ν E.Y r.1 v:=fun e h1 h2=>by subst e;exact⟨rfl,_,w,h1,Below.refl _ _,h2⟩
  split at he
  ·rename_i k j i n YN YO;have ex:=zd hx rfl;rw[YN] at hs;rw[YO] at hd;rw[df] at he;refine same he ?_ ze;simp[convert,run_underlying (show P.underlying rs.id=some (.int _) from hs),run_underlying (show P.underlying rd.id=some (.int _) from hd),ex,Conv.intToInt]
  ·rename_i n YN YO;have ex:=NY hx rfl;rw[YN] at hs;rw[YO] at hd;rw[df] at he;refine same (v:= .string n) he ?_ GH;simp[convert,run_underlying (show P.underlying rs.id=some .string from hs),run_underlying (show P.underlying rd.id=some .string from hd),ex]
  ·rename_i xs YN YO;rw[YN] at hs;rw[YO] at hd;obtain⟨hs1,re,Ts,Uo⟩:=hs;obtain⟨Wn,aiH⟩:=hT _ re Ts;have aaC:=aiH.desc;rw[Uo] at aaC;have hue:P.underlying rs.elem=some (.int .u8):=by rw[←Wn];exact aaC
   rw[df] at he;obtain⟨A,cc,bG,ex,hlen,hall,hnone,hcells⟩:=rX hx;refine same (v:= .string (strOf xs)) he ?_ GH;have hb:=Pw (P:=P) (w:=w) (xs:=xs) (A:=A) (c:=cc) (fun e=>by
     have:=hnone e;cases xs with
     |nil=>rfl
     |cons y ys=>simp at hlen;omega) (fun ad e j u hj=>by
     rw[←Kj hall] at hj;obtain⟨Q3,e',hv⟩:=hcells j u hj;rw[e] at e';obtain rfl:ad=Q3:=by simpa using e'
     exact za hE h.keep hv)
   rw[ex];cases A with
   |none=>simp[convert,run_underlying hs1,run_underlying (show P.underlying rd.id=some .string from hd),run_underlying hue,hb]
   |some ad=>simp[convert,run_underlying hs1,run_underlying (show P.underlying rd.id=some .string from hd),run_underlying hue,hb]
  ·rename_i q YN YO;rw[YN] at hs;rw[YO] at hd;obtain⟨hs1,re,Ts,Uo⟩:=hs;obtain⟨Wn,aiH⟩:=hT _ re Ts;have aaC:=aiH.desc;rw[Uo] at aaC;have hue:P.underlying rs.elem=some (.int .u8):=by rw[←Wn];exact aaC
   rw[rJ] at he;obtain⟨row,hrow,he⟩:=he;split at he
   ·rename_i e xs;rw[df] at he;have hR:=h.row hrow;obtain⟨A,cc,er,hlen,hnone,hA⟩:=ER hR;obtain⟨bG,h1,h2⟩:=Q1 hR;refine same (v:= .string (strOf xs)) he ?_ GH;have hb:=Pw (P:=P) (w:=w) (xs:=xs) (A:=A) (c:=cc) (fun e=>by
      have:=hnone e;cases xs with
      |nil=>rfl
      |cons y ys=>simp at hlen;omega) (fun ad e j u hj=>by
      rw[←Kj h1] at hj;obtain⟨e1,e2⟩:=hA ad e;have:=h2 ad.block (by rw[er,e];rfl) j u hj;obtain⟨b,o,sp⟩:=ad;simp only at e1 e2 this;subst e1 e2;rw[Jb];exact this)
    rw[hx.1,er];cases A with
    |none=>simp[convert,run_underlying hs1,run_underlying (show P.underlying rd.id=some .string from hd),run_underlying hue,hb]
    |some ad=>simp[convert,run_underlying hs1,run_underlying (show P.underlying rd.id=some .string from hd),run_underlying hue,hb]
   ·cases he
  ·rename_i n YN YO;have ex:=NY hx rfl;rw[YN] at hs;rw[YO] at hd;obtain⟨hd1,re,Ts,Uo⟩:=hd;obtain⟨Wn,aiH⟩:=hT _ re Ts;have aaC:=aiH.desc;rw[Uo] at aaC;have hue:P.underlying rd.elem=some (.int .u8):=by rw[←Wn];exact aaC
   rw[aD,df] at he;obtain⟨hle,rfl⟩:=he;refine⟨rfl,_,bytesWorld w rd.elem n,by rw[ex];exact run_convert_string_bytes w rs.id rd.id rd.elem n (show P.underlying rs.id=some .string from hs) hd1 hue, ?_, ?_⟩
   ·refine⟨rfl,rfl,rfl,by rw[bytesWorld_size];omega,fun k hk=>bytesWorld_at_old w rd.elem n k hk⟩
   ·refine⟨some ⟨w.heap.size,0,none⟩,grownCap w n.size 0 rd.elem,(bytesOf n).map fun n=>[Value.int .u8 n], ?_, ?_, ?_,fun e=>(by cases e), ?_⟩
    ·have:List.length (bytesOf n)=n.size:=by simp[bytesOf]
     rw[this]
    ·have:List.length (bytesOf n)=n.size:=by simp[bytesOf]
     rw[this];exact grownCap_ge w n.size 0 rd.elem
    ·have:∀l:List Int,aF (Rel (view E σ ν O (bytesWorld w rd.elem n)) (.int .u8)) l (l.map fun n=>[Value.int .u8 n]):=by
      intro l;induction l with
      |nil=>trivial
      |cons y ys ih=>exact⟨rfl,ih⟩
     exact this _
    ·intro j v hj;have QQ:∀l:List Int,(l.map fun n=>[Value.int .u8 n]).flatten=l.map (Value.int .u8):=by
      intro l;induction l with
      |nil=>rfl
      |cons y ys ih=>simp[ih]
     rw[QQ] at hj;refine⟨_,rfl, .inr ⟨?_, ?_, ?_, ?_⟩⟩
     ·rw[Jb];exact h.keep.size
     ·rw[Jb];rintro ⟨m,hm⟩;have:=(h.Aw m _ hm).2.1;simp at this
     ·rw[Jb];intro ho;have:=(h.out.2 _ ho).1;simp at this
     ·rw[Jb];simp only[bytesOf,List.getElem?_map,List.map_map] at hj;cases hb:n.data.toList[j]? with
      |none=>simp[hb] at hj
      |some y=>
       have hlt:j<n.size:=by have:=(List.getElem?_eq_some_iff.1 hb).1;simpa using this
       rw[bytesWorld_cell w rd.elem n j hlt];simp[hb] at hj;simp[List.getD,hb, ←hj]
  ·cases he
 ·cases he
theorem Px {V:View}{t:Ty}:∀{xs:List t.den} {bG:List (List Value)} (n:Nat),aF (Rel V t) xs bG→(bG.drop n).flatten=bG.flatten.drop (n*t.size)
 |xs,bG,0,h=>by simp
 | [],[],n+1,h=>by simp
 |x::xs,y::bG,n+1,h=>by
  have:=Rel.length h.1;rw[List.drop_succ_cons,Px n h.2,List.flatten_cons,List.drop_append,Nat.succ_mul,this];have e:List.drop (n*t.size+t.size) y=[]:=by apply List.drop_eq_nil_of_le;omega
  rw[e,List.nil_append]
  congr 1;omega
 | [],_::_,_,h=>h.elim
 |_::_,[],_,h=>h.elim
theorem HV {V:View}{t:Ty}:∀{xs:List t.den} {bG:List (List Value)} (n:Nat),aF (Rel V t) xs bG→(bG.take n).flatten=bG.flatten.take (n*t.size)
 |xs,bG,0,h=>by simp
 | [],[],n+1,h=>by simp
 |x::xs,y::bG,n+1,h=>by
  have:=Rel.length h.1;rw[List.take_succ_cons,List.flatten_cons,HV n h.2,List.flatten_cons,List.take_append,Nat.succ_mul,this];have e:List.take (n*t.size+t.size) y=y:=by apply List.take_of_length_le;omega
  rw[e]
  congr 2;omega
 | [],_::_,_,h=>h.elim
 |_::_,[],_,h=>h.elim
theorem zg {n:Nat}{l h:Int}:dW n l h=true↔0≤l∧l≤h∧h≤n:=by simp[dW,and_assoc]
theorem Uq {α:Type}{xs:List α}{l h:Int}(hc:dW xs.length l h=true):(cut xs l h).length=h.toNat - l.toNat:=by obtain⟨h1,h2,h3⟩:=zg.1 hc;simp[cut];omega
theorem Ay {av:Operand→AV}(rL:∀x,ak V σ ν Y (av x) (a.eval x)){d:Int}{x:Option Operand}{n:Int}(he:jM av d x=some n):
  (x=none∧n=d)∨∃y k,x=some y∧a.eval y= .int k n:=by
 cases x with
 |none=>simp[jM] at he;exact .inl ⟨rfl,he.symm⟩
 |some y=>
  simp only[jM] at he;split at he
  ·rename_i k m hy;simp only[Option.some.injEq] at he;subst he;have:=rL y;rw[hy] at this;exact .inr ⟨y,_,rfl,zd this rfl⟩
  ·cases he
theorem vK {x:Value}{k:IntKind}{n:Int}{y:Nat}{code:BoundsCode}(hx:x= .int k n)(h0:0≤n)(h1:n≤y):
  (Instr.sliceBound x y code).run P w= .ok n.toNat w:=by
 subst hx;simp[Instr.sliceBound,asIntOf,h0,h1]
theorem Sg {av:Operand→AV}(rL:∀x,ak V σ ν Y (av x) (a.eval x)){s:Bool}{len cap:Nat}{lo hi:Option Operand}{l r:Int}(hl:jM av 0 lo=some l)(hh:jM av len hi=some r)
  (h0:0≤l) (h1:l≤r) (h2:r≤cap):
  (Instr.sliceBounds s len cap (lo.map a.eval) (hi.map a.eval) none).run P w= .ok (l.toNat,r.toNat,cap) w:=by
 rcases Ay rL hl with ⟨rfl,rfl⟩ | ⟨y,k,rfl,ey⟩<;>rcases Ay rL hh with ⟨rfl,rfl⟩ | ⟨z,k',rfl,ez⟩
 ·simp[Instr.sliceBounds]
 ·have hz:=fun c=>vK (P:=P) (w:=w) (code:=c) ez (by omega) h2;simp[Instr.sliceBounds,hz]
 ·have hy:=fun c=>vK (P:=P) (w:=w) (code:=c) (y:=len) ey h0 (by omega);simp[Instr.sliceBounds,hy]
 ·have hz:=fun c=>vK (P:=P) (w:=w) (code:=c) ez (by omega) h2;have hy:=fun c=>vK (P:=P) (w:=w) (code:=c) (y:=r.toNat) ey h0 (by omega);simp[Instr.sliceBounds,hz,hy]
theorem aeI {V:View}{t:Ty}{xs:List t.den}{A:Option Addr}{c:Nat}{bG:List (List Value)}(hlen:xs.length≤c)(hall:aF (Rel V t) xs bG)(hnone:A=none→c=0)
  (hcells:∀j u,bG.flatten[j]? =some u→∃ad,A=some ad∧V (ad.add j) u) {l r:Int} (hc:dW xs.length l r=true) {m:Nat} (hm:r.toNat≤m) (hmc:m≤c):
  cg V ⟨.slice t,cut xs l r⟩ (.slice (if m=l.toNat then A else A.map (·.add (l.toNat*t.size))) (r.toNat - l.toNat) (m - l.toNat)):=by
 obtain⟨h1,h2,h3⟩:=zg.1 hc;refine⟨_,_,(bG.take r.toNat).drop l.toNat,by rw[Uq hc],by rw[Uq hc];omega,(hall.take _).drop _, ?_, ?_⟩
 ·intro e;split at e
  ·have:=hnone e;omega
  ·have:A=none:=by simpa using e
   have:=hnone this;omega
 ·intro j u hj;rw[Px l.toNat (hall.take _),HV r.toNat hall] at hj;have h4:=Kf (Kg hj);obtain⟨ad,e,hv⟩:=hcells _ u h4;subst e;by_cases hml:m=l.toNat
  ·have hlt:=(List.getElem?_eq_some_iff.1 hj).1;have:r.toNat=l.toNat:=by omega
   simp[this] at hlt
  ·exact⟨ad.add (l.toNat*t.size),by simp[hml],by rw[add_add];exact hv⟩
theorem Ur (hT:jO P T){av:Operand→AV}(rL:∀x,ak V σ ν Y (av x) (a.eval x)){t:TypeId}{x:AV}{u:Value}(hx:ak V σ ν Y x u){lo hi mx:Option Operand}{r:cP}
  (he:(wP (T:=Tb) T av t x lo hi mx).val Φ ah=some r):
  r.2= .nu []∧∃v,(Instr.sliceAt t u (lo.map a.eval) (hi.map a.eval) (mx.map a.eval)).run P w= .ok v w∧ak V σ ν Y r.1 v:=by
 unfold wP at he;have hc:=Ul hx;split at he
 ·rename_i tr hr;obtain⟨rfl,hr'⟩:=hT t tr hr;have hd:=hr'.desc;split at he
  ·split at he
   ·rename_i s rK hb;rw[hb] at hc;rw[rK] at hd;have Z9:P.underlying tr.id=some .string:=hd;have ex:=NY hc rfl;split at he
    ·rename_i l r' hl hh;rw[aD,df] at he;obtain⟨hc,rfl⟩:=he;obtain⟨h1,h2,h3⟩:=zg.1 hc;have hb:=Sg (P:=P) (w:=w) (s:=false) rL hl hh h1 h2 h3;refine⟨rfl, .string (s.extract l.toNat r'.toNat), ?_,GH⟩;simp[Instr.sliceAt,Instr.slice,run_underlying Z9,ex,hb]
    ·cases he
   ·rename_i ut u' xs rK hb;rw[hb] at hc;obtain⟨hu,re,Ts,Wn,Uo⟩:=TR hT hr' rK;have hsz:(sizeOf tr.elem).run P w= .ok ut.size w:=by rw[←Wn, ←Uo];exact C2 Ts w
    obtain⟨A,cc,bG,ex,hlen,hall,hnone,hcells⟩:=rX hc;split at he
    ·rename_i l r' hl hh;rw[aD,df] at he;obtain⟨hc,rfl⟩:=he;rw[Bool.and_eq_true] at hc;obtain⟨hsu,hc⟩:=hc;have Wz:=(beq_iff _ _).1 hsu;obtain⟨h1,h2,h3⟩:=zg.1 hc;have hb:=Sg (P:=P) (w:=w) (s:=true) rL hl hh h1 h2 (show r'≤(cc:Int) by omega);refine⟨rfl,_, ?_,aeI (m:=cc) hlen hall hnone hcells hc (by omega) (Nat.le_refl _)⟩;simp[Instr.sliceAt,Instr.slice,run_underlying hu,ex,hb,hsz,Wz]
    ·cases he
   ·cases he
  ·rename_i mx;split at he
   ·rename_i ut u' xs rK hb;rw[hb] at hc;obtain⟨hu,re,Ts,Wn,Uo⟩:=TR hT hr' rK;have hsz:(sizeOf tr.elem).run P w= .ok ut.size w:=by rw[←Wn, ←Uo];exact C2 Ts w
    obtain⟨A,cc,bG,ex,hlen,hall,hnone,hcells⟩:=rX hc;split at he
    ·rename_i hx';split at he
     ·rename_i l r' m hl hh hm;rw[aD,df] at he;obtain⟨hc,rfl⟩:=he;simp only[Bool.and_eq_true,decide_eq_true_eq] at hc;obtain⟨⟨⟨hsu,hc⟩,hrm⟩,hml⟩:=hc;have Wz:=(beq_iff _ _).1 hsu;obtain⟨h1,h2,h3⟩:=zg.1 hc;obtain⟨_,k1,e1,ez⟩:=(Ay rL hh).resolve_left (by simp);obtain⟨_,k2,e2,em⟩:=(Ay rL hm).resolve_left (by simp);cases e1;cases e2;have hbm:=fun c=>vK (P:=P) (w:=w) (code:=c) (y:=cc) em (by omega) (by omega);have hbz:=fun c=>vK (P:=P) (w:=w) (code:=c) (y:=m.toNat) ez (by omega) (by omega);refine⟨rfl,_, ?_,aeI (m:=m.toNat) hlen hall hnone hcells hc (by omega) (by omega)⟩;rcases Ay rL hl with ⟨rfl,rfl⟩ | ⟨y,k,rfl,ey⟩
      ·simp[Instr.sliceAt,Instr.slice,Instr.sliceBounds,run_underlying hu,ex,hbm,hbz,hsz,Wz]
      ·have hby:=fun c=>vK (P:=P) (w:=w) (code:=c) (y:=r'.toNat) ey h1 (by omega);simp[Instr.sliceAt,Instr.slice,Instr.sliceBounds,run_underlying hu,ex,hbm,hbz,hby,hsz,Wz]
     ·cases he
    ·cases he
   ·cases he
 ·cases he
theorem Kk:∀(vs:List Value) (k off:Nat) (cells:Array Value),off+k+vs.length≤cells.size→
  ((vs.zipIdx k).foldl (fun cs (p:Value×Nat)=>cs.setIfInBounds (off+p.2) p.1) cells).toList=cells.toList.take (off+k)++vs++cells.toList.drop (off+k+vs.length)
 | [],k,off,cells,h=>by simp
 |v::vs,k,off,cells,h=>by
  simp only[List.length_cons] at h;rw[List.zipIdx_cons,List.foldl_cons,Kk vs (k+1) off _ (by simp;omega)];have:=list_seg_step cells.toList (off+k) v vs (by simp;omega);simp only[Array.toList_setIfInBounds];have e1:off+(k+1)=off+k+1:=by omega
  rw[e1,this]
  congr 2
theorem aaD {V:View}{rU:List (Nat×Nat)}{av:Operand→AV}(rL:∀x,ak V σ ν Y (av x) (a.eval x)):∀(parts:List (Nat×Operand)) (cs cs':List CV) (cells:Array Value),partsOf av rU parts cs=some cs'→aF (cg V) cs cells.toList→
  ∃cells',Instr.fill (rU.toArray[·]?) cells (parts.map fun(i,x)=>(i,a.eval x))=some cells'∧aF (cg V) cs' cells'.toList
 | [],cs,cs',cells,h,hr=>by simp only[partsOf,Option.some.injEq] at h;subst h;exact⟨cells,rfl,hr⟩
 | (i,x)::parts,cs,cs',cells,h,hr=>by
   simp only[partsOf] at h;have hlen:=hr.length;have go:∀(vs:List CV) (off size:Nat) (ws:List Value),rU[i]? =some (off,size)→(a.eval x).cells=ws.toArray→aF (cg V) vs ws→size=vs.length→off+vs.length≤cs.length→
     partsOf av rU parts (HP cs off vs)=some cs'→∃cells',Instr.fill (rU.toArray[·]?) cells (((i,x)::parts).map fun(i,x)=>(i,a.eval x))=some cells'∧aF (cg V) cs' cells'.toList:=by
    intro vs off size ws hf hc hvs hs hle hp;have hl2:=hvs.length;have hfo:=Kk ws 0 off cells (by simp at hlen;omega);obtain⟨cells',h1,h2⟩:=aaD rL parts (HP cs off vs) cs' (ws.toArray.zipIdx.foldl (fun cs (p:Value×Nat)=>cs.setIfInBounds (off+p.2) p.1) cells) hp (by
     have e:(ws.toArray.zipIdx.foldl (fun cs (p:Value×Nat)=>cs.setIfInBounds (off+p.2) p.1) cells).toList=cells.toList.take off++ws++cells.toList.drop (off+ws.length):=by rw[←Array.foldl_toList];simpa using hfo
     rw[e,HP,hl2];exact((hr.take off).append hvs).append (hr.drop _))
    refine⟨cells', ?_,h2⟩;have hc2:(a.eval x).cells.size=size:=by rw[hc];simp;omega
    have hb:¬off+size>cells.size:=by simp at hlen;omega
    simp only[List.map_cons,Instr.fill];rw[show rU.toArray[i]? =some (off,size) by simpa using hf];simp only[hc2,ne_eq,not_true_eq_false,false_or];rw[if_neg (by simpa [hc2] using hb)];rw[hc];exact h1
   split at h
   ·rename_i off size hf;have hx:=rL x;split at h
    ·rename_i c hc;rw[hc] at hx;cases hb:(Nat.beq size 1&&Nat.blt off cs.length) with
     |false=>simp[hb] at h
     |true=>simp only[hb,cond_true] at h;rw[Bool.and_eq_true] at hb;have h1:=(beq_iff _ _).1 hb.1;have h2:off+1≤cs.length:=Nat.le_of_ble_eq_true hb.2;exact go [c] off size [a.eval x] hf (HM hx) ⟨hx,trivial⟩ h1 h2 h
    ·rename_i vs hc;rw[hc] at hx;obtain⟨ws,e,hx⟩:=hx;cases hb:(Nat.beq size vs.length&&Nat.ble (off+vs.length) cs.length) with
     |false=>simp[hb] at h
     |true=>simp only[hb,cond_true] at h;rw[Bool.and_eq_true] at hb;have h1:=(beq_iff _ _).1 hb.1;have h2:=Nat.le_of_ble_eq_true hb.2;exact go vs off size ws hf (by rw[e];rfl) hx h1 h2 h
    ·cases h
   ·cases h
theorem Us {f g:Nat→Option (Nat×Nat)}:∀(l:List (Nat×Value)) (cells cells':Array Value),(∀i p,g i=some p→f i=some p)→Instr.fill g cells l=some cells'→Instr.fill f cells l=some cells'
 | [],_,_,_,h=>h
 | (i,v)::l,cells,cells',hfg,h=>by
   simp only[Instr.fill] at h ⊢;split at h
   ·cases h
   ·rename_i off size hg;rw[hfg i _ hg];simp only;split at h
    ·cases h
    ·rename_i hn;rw[if_neg hn];exact Us l _ _ hfg h
theorem Ut (hT:jO P T){av:Operand→AV}(rL:∀x,ak V σ ν Y (av x) (a.eval x)){t:TypeId}{parts:Array (Nat×Operand)}{r:cP}
  (he:(CW (T:=Tb) T av t parts.toList).val Φ ah=some r):
  r.2= .nu []∧∃v,(Instr.build t (parts.map fun(i,x)=>(i,a.eval x))).run P w= .ok v w∧ak V σ ν Y r.1 v:=by
 unfold CW at he;split at he
 ·rename_i tr hr;obtain⟨rfl,hr'⟩:=hT t tr hr;split at he
  ·rename_i u rK;simp only[po,iJ] at he;obtain⟨cs,hcs,rfl⟩:=he;have hd:=hr'.desc;rw[rK] at hd;obtain⟨i,zz,hi,hsz,_,hz,cS,_⟩:=hr'.info;have hz2:=jK (cS V);rw[rK] at hz2;obtain⟨cells',h1,h2⟩:=aaD (V:=V) rL parts.toList _ cs zz.cells hcs hz2;rcases hd with ⟨_,fs,hu,hm,_⟩ | ⟨_,n,e,j,hu,hj,hf,h0,_⟩
   ·have hb:P.built tr.id (parts.map fun(i,x)=>(i,a.eval x)).toList=some cells':=by simp only[Program.built,hi,hu,hz,hm,Array.toList_map];exact h1
    exact⟨rfl, .agg cells',run_build w tr.id _ _ hb,cells'.toList,by simp,h2⟩
   ·refine⟨rfl, .agg cells', ?_,cells'.toList,by simp,h2⟩;have h3:Instr.fill (fun i=>some (i*j.size,j.size)) zz.cells (parts.toList.map fun(i,x)=>(i,a.eval x))=some cells':=by refine Us _ _ _ (fun i p hp=> ?_) h1;rw[hf] at hp;simp only[List.getElem?_toArray,List.getElem?_map,Option.map_eq_some_iff] at hp;obtain⟨k,hk,rfl⟩:=hp;obtain⟨_,h9⟩:=List.getElem?_eq_some_iff.1 hk;simp at h9;rw[h9]
    simp[Instr.build,zeroValue,typeInfo,hi,hz,run_underlying hu,sizeOf,hj,h3]
  ·cases he
 ·cases he
theorem af3 (hT:jO P T){t:TypeId}{x i:AV}{u v:Value}(hx:ak V σ ν Y x u)(hi:ak V σ ν Y i v){r:cP}
  (he:(match km T t with
  |some r=>match r.ty,i,x with
   | .str, .rv (.cv ⟨.int _,n⟩), .rv (.cv ⟨.str,s⟩)=>Q.opt (T:=Tb) (Bi s n) fun b=>EE (.int .u8) b
   |_,_,_=> .fail
  |none=> .fail).val Φ ah=some r):r.2= .nu []∧∃z,(Instr.index t u v).run P w= .ok z w∧ak V σ ν Y r.1 z:=by
 split at he
 ·rename_i tr hr;obtain⟨rfl,hr'⟩:=hT t tr hr;split at he
  ·rename_i k n s rK;have ei:=zd hi rfl;have ex:=NY hx rfl;have hd:=hr'.desc;rw[rK] at hd;rw[cE] at he;obtain⟨b,hb,he⟩:=he;rw[df] at he;subst he;cases n with
   |negSucc m=>simp[Bi] at hb
   |ofNat m=>
    simp only[Bi,Option.map_eq_some_iff] at hb;obtain⟨u,hu,rfl⟩:=hb;refine⟨rfl, .int .u8 u.toNat, ?_,ze⟩;have h0:(0:Int)≤Int.ofNat m:=by simp
    simp[Instr.index,ei,ex,asIntOf,run_underlying (show P.underlying tr.id=some .string from hd),hu]
  ·cases he
 ·cases he
end
section
variable {P:Program}{E:Env}{σ ah:AS}{a:Act}{w w':World}{ν aN:Nm→Value}{O:Nat→Prop}{V V':View}{Y:Value}
theorem Uu {R S:RV→Value→Prop}{f:RV→RV}(hf:∀x v,R x v→S (f x) v):∀{xs:List RV} {ys:List Value},aF R xs ys→aF S (xs.map f) ys
 | [],[],_=>trivial
 |_::_,_::_,h=>⟨hf _ _ h.1,Uu hf h.2⟩
 | [],_::_,h=>h.elim
 |_::_,[],h=>h.elim
theorem C3 {α β:Type}{R S:α→β→Prop}:∀{xs:List α} {ys:List β},(∀x∈xs,∀y,R x y→S x y)→aF R xs ys→aF S xs ys
 | [],[],_,_=>trivial
 |x::xs,y::ys,hf,h=>⟨hf x (by simp) y h.1,C3 (fun z hz=>hf z (by simp[hz])) h.2⟩
 | [],_::_,_,h=>h.elim
 |_::_,[],_,h=>h.elim
theorem br {α:Type}{o:Option α}{x:α}(h:o=some x):o.isSome=true:=by simp[h]
theorem ak.keep (hV:∀a v,V a v→V' a v)(hh:HSub σ ν ah aN)(x:AV)(v:Value)
  (hr:∀r,x.gj r=true→∀row,look σ.rows r=some row→aN (.row r)=ν (.row r)∧∃row',look ah.rows r=some row'∧row'.t.size=row.t.size)
  (hb:∀b,x.mP b=true→(look σ.boxes b).isSome=true→aN (.box b)=ν (.box b)∧(look ah.boxes b).isSome=true) (h:ak V σ ν Y x v):ak V' ah aN Y x v:=by
 have rv:∀(y:RV) u,(∀r,y.yv r=true→∀row,look σ.rows r=some row→aN (.row r)=ν (.row r)∧∃row',look ah.rows r=some row'∧row'.t.size=row.t.size)→tp V σ ν y u→tp V' ah aN y u:=fun y u hy h=>by
  cases y with
  |cv c=>exact cg.mono hV c u h
  |agg cs=>obtain⟨vs,e,h⟩:=h;exact⟨vs,e,h.mono (cg.mono hV)⟩
  |own r=>obtain⟨row,hrow⟩:=Option.isSome_iff_exists.1 h.2;obtain⟨h1,row',h2,_⟩:=hy r (beq_refl r) row hrow;exact⟨by rw[h1];exact h.1,by rw[h2];rfl⟩
 have ba:∀b off u,((look σ.boxes b).isSome=true→aN (.box b)=ν (.box b)∧(look ah.boxes b).isSome=true)→CY σ ν b off u→CY ah aN b off u:=fun b off u hb h=>by obtain⟨h1,g,h2,h3⟩:=h;obtain⟨h4,h5⟩:=hb h1;exact⟨h5,g,by rw[h4];exact h2,h3⟩
 cases x with
 |rv x=>exact rv x v hr h
 |lit u=>exact h
 |box b off=>exact ba b off v (hb b (beq_refl b)) h
 |Pj r sz i off=>obtain⟨row,g,h1,h2,h3,h4⟩:=h;obtain⟨h5,row',h6,h7⟩:=hr r (beq_refl r) row h1;exact⟨row',g,h6,by rw[h5];exact h2,by rw[h7];exact h3,h4⟩
 |qA cs=>exact rW.mono hV h
 |hel i n j off=>obtain⟨hr,g,h1,h2,h3,h4,h5⟩:=h;obtain⟨hr',h6,h7,h8⟩:=hh.row i hr h1;exact⟨hr',g,h6,h2,Nat.le_trans h3 h8,by rw[hh.nm i n h2 (by rw[LS h1];exact h3)];exact h4,by rw[h7.t];exact h5⟩
 |fn f aX=>
  obtain⟨vs,h1,h2⟩:=h;refine⟨vs,h1,C3 (fun c hc u hu=> ?_) h2⟩;cases c with
  |box b=>exact ba b 0 u (hb b (List.any_eq_true.2 ⟨_,hc,beq_refl b⟩)) hu
  |qA cs=>exact rW.mono hV hu
 |Na=>exact h
 |tup l=>obtain⟨vs,h1,h2⟩:=h;exact⟨vs,h1,C3 (fun y hy u hu=>rv y u (fun r hyr=>hr r (List.any_eq_true.2 ⟨y,hy,hyr⟩)) hu) h2⟩
 |nil=>trivial
theorem Py {af:List aQ}{h n:Nat}{o:Obj}(ho:pj af h n=some o):∃k row,o= .hp k row:=by
 cases n with
 |zero=>cases ho
 |succ m=>
  simp only[pj] at ho;split at ho
  ·unfold I9 at ho;split at ho
   ·simp only[Option.some.injEq] at ho;exact⟨_,_,ho.symm⟩
   ·cases ho
  ·cases ho
theorem St.less (hE:aI E)(h:St E σ a w ν O){a':Act}(hrow:∀r row,look ah.rows r=some row→look σ.rows r=some row)(aoh:∀b,(look ah.boxes b).isSome=true→(look σ.boxes b).isSome=true)
  (hh:ah.af=σ.af) (htr:ah.trace=σ.trace) (hd:a'.defers=a.defers)
  (aqi:(∀key v,view E σ ν O w key v→view E ah ν O w key v)→∀b x,look ah.boxes b=some x→CZ (view E ah ν O w) ah ν w (ν (.box b)) x)
  (YK:(∀key v,view E σ ν O w key v→view E ah ν O w key v)→JC (ak (view E ah ν O w) ah ν E.Y) ah.tmps a'.tmps.toList E.XS):St E ah a' w ν O:=by
 have hown:∀m k,Own ah ν m k→Own σ ν m k:=fun m k hm=>by
  refine⟨?_,hm.2⟩;have h1:=hm.1;cases m with
  |row r=>simp only[AS.obj,Option.isSome_map] at h1 ⊢;obtain⟨row,e⟩:=Option.isSome_iff_exists.1 h1;exact br (hrow r row e)
  |box b=>simp only[AS.obj,Option.isSome_map] at h1 ⊢;exact aoh b h1
  |hp i n=>simp only[AS.obj,hh] at h1 ⊢;exact h1
 refine h.step hE (C:=fun _=>False) (Grow.refl _ _) (fun k hk=>hk.elim) (HSub.of_eq hh (fun _ _=>rfl)) (fun m k hm=> .inl ⟨m,hown m k hm,id⟩) (fun m k hm=>(h.Aw m k (hown m k hm)).2.1) (fun m m' k h1 h2=>h.inj m m' k (hown _ _ h1) (hown _ _ h2)) (fun m k hk=>h.new m k (hown _ _ hk)) htr hd (by rw[hh];exact h.nn) (fun i hr e=>by rw[hh];exact(h.ro i hr e).1) (fun hV m o ho=> ?_) YK;cases m with
 |row r=>simp only[AS.obj,Option.map_eq_some_iff] at ho;obtain⟨row,e,rfl⟩:=ho;exact ki.mono hV (fun _ _=>rfl) (h.row (hrow r row e))
 |box b=>simp only[AS.obj,Option.map_eq_some_iff] at ho;obtain⟨x,e,rfl⟩:=ho;exact aqi hV b x e
 |hp i n=>
  have ho':σ.obj (.hp i n)=some o:=by simp only[AS.obj,hh] at ho ⊢;exact ho
  obtain⟨k,row,rfl⟩:=Py ho';exact BM.mono hV (fun _ _=>rfl) (h.CF _ _ ho')
theorem ui {α:Type}{l:List (Nat×α)}{j k:Nat}{x:α}(h:look (del l j) k=some x):look l k=some x:=by
 rw[CX] at h;split at h
 ·cases h
 ·exact h
theorem St.freeze (hE:aI E)(h:St E σ a w ν O)(r:Nat):St E (σ.freeze r) a w ν O:=by
 unfold AS.freeze;cases hrow:look σ.rows r with
 |none=>exact h
 |some row=>
  show St E ({σ with tmps:=σ.tmps.map (AV.uX r ⟨.slice row.t,row.xs⟩),rows:=del σ.rows r,boxes:=J3 (BX.uX r ⟨.slice row.t,row.xs⟩) σ.boxes}:AS) a w ν O;generalize HW:({σ with tmps:=σ.tmps.map (AV.uX r ⟨.slice row.t,row.xs⟩),rows:=del σ.rows r,boxes:=J3 (BX.uX r ⟨.slice row.t,row.xs⟩) σ.boxes}:AS)=ah;have e1:ah.rows=del σ.rows r:=by rw[←HW]
  have e2:ah.boxes=J3 (BX.uX r ⟨.slice row.t,row.xs⟩) σ.boxes:=by rw[←HW]
  have e3:ah.af=σ.af:=by rw[←HW]
  have hne:∀k,k≠r→look ah.rows k=look σ.rows k:=fun k hk=>by rw[e1,CX,if_neg (Ne.symm hk)]
  have TS:(∀key v,view E σ ν O w key v→view E ah ν O w key v)→cg (view E ah ν O w) ⟨.slice row.t,row.xs⟩ (ν (.row r)):=fun hV=>by
   obtain⟨bG,⟨e4,e5⟩,hall⟩:=h.row hrow;rcases e5 with ⟨e5,e6⟩ | ⟨g,cap,cur,e5,_,hg,hn,hm,hcs,Jc⟩
   ·have hx:row.xs=[]:=List.eq_nil_of_length_eq_zero e6;rw[e5,hx];exact⟨none,0,[],rfl,Nat.le_refl _,trivial,fun _=>rfl,fun j u hj=>by simp at hj⟩
   ·have hb:=h.Aw (.row r) g ⟨by simp[AS.obj,hrow],by rw[e5];rfl⟩;rw[e5];refine⟨some ⟨g,0,none⟩,cap,bG,rfl,hn,hall.mono (Rel.mono hV _),(fun e=>by cases e),fun j u hj=>⟨_,rfl, ?_⟩⟩;have hcell:w.cell? ⟨g,j,none⟩=some u:=by rw[cell_of_row w g j cur row.e (0,0) hg];rw[←Jc] at hj;simpa using Kf hj
    rw[Jb];have hB:=(h.new (.row r) g ⟨by simp[AS.obj,hrow],by rw[e5];rfl⟩).resolve_right id
    ·refine .inr ⟨hB, ?_,hb.2.2,hcell⟩;rintro ⟨m,hm1,hm2⟩;have:m= .row r:=h.inj m (.row r) g ⟨by
      cases m with
      |row k=>simp only[AS.obj,Option.isSome_map] at hm1 ⊢;obtain⟨_,e⟩:=Option.isSome_iff_exists.1 hm1;rw[e1] at e;exact br (ui e)
      |box b=>simp only[AS.obj,Option.isSome_map,e2,i7] at hm1 ⊢;exact hm1
      |hp i n=>simp only[AS.obj,e3] at hm1 ⊢;exact hm1,hm2⟩ ⟨by simp[AS.obj,hrow],by rw[e5];rfl⟩
     subst this;simp[AS.obj,e1,CX] at hm1
  refine h.less hE (a':=a) (fun k row' h1=>ui (by rw[←e1];exact h1)) (fun b h1=>by rw[e2,i7,Option.isSome_map] at h1;exact h1) e3 (by rw[←HW]) rfl (fun hV b x hx=> ?_) (fun hV=> ?_)
  ·rw[e2,i7,Option.map_eq_some_iff] at hx;obtain⟨x0,hx0,rfl⟩:=hx;have hbr:=h.box hx0;obtain⟨g,hg1,hg2⟩:=hbr;refine⟨g,hg1, ?_⟩;cases x0 with
   |cells cs=>obtain⟨cur,e,h3,h4⟩:=hg2;exact⟨cur,e,h3,h4.mono (cg.mono hV)⟩
   |own k=>
    obtain⟨e,h3,h4⟩:=hg2;simp only[BX.uX];cases hk:Nat.beq k r with
    |true=>have:=(beq_iff _ _).1 hk;subst this;exact⟨_,e,h3,TS hV,trivial⟩
    |false=>exact⟨e,h3,by rw[hne k (tB.1 hk)];exact h4⟩
   |nil=>exact hg2
  ·have YK:ah.tmps=σ.tmps.map (AV.uX r ⟨.slice row.t,row.xs⟩):=by rw[←HW]
   rw[YK];refine LP (fun x v hx=> ?_) h.slots;have hrv:∀x v,tp (view E σ ν O w) σ ν x v→tp (view E ah ν O w) ah ν (x.uX r ⟨.slice row.t,row.xs⟩) v:=by
    intro x v hx;cases x with
    |cv c=>exact cg.mono hV c v hx
    |agg cs=>obtain⟨vs,h1,h2⟩:=hx;exact⟨vs,h1,h2.mono (cg.mono hV)⟩
    |own k=>
     obtain⟨h1,h2⟩:=hx;simp only[RV.uX];cases hk:Nat.beq k r with
     |true=>have:=(beq_iff _ _).1 hk;subst this;rw[h1];exact TS hV
     |false=>exact⟨h1,by rw[hne k (tB.1 hk)];exact h2⟩
   have hbk:∀b,(look ah.boxes b).isSome=(look σ.boxes b).isSome:=fun b=>by rw[e2,i7,Option.isSome_map]
   cases x with
   |rv x=>exact hrv x v hx
   |Pj k sz i off=>
    simp only[AV.uX];cases hk:Nat.beq k r with
    |true=>trivial
    |false=>obtain⟨row',g,h1,h2⟩:=hx;exact⟨row',g,by rw[hne k (tB.1 hk)];exact h1,h2⟩
   |tup l=>obtain⟨vs,h1,h2⟩:=hx;exact⟨vs,h1,Uu hrv h2⟩
   |lit u=>exact hx
   |box b off=>exact ak.keep hV (HSub.of_eq e3 (fun _ _=>rfl)) (.box b off) v (fun r hr=>by cases hr) (fun b _ hs=>⟨rfl,by rw[hbk b];exact hs⟩) hx
   |qA cs=>exact rW.mono hV hx
   |hel i n j off=>exact ak.keep hV (HSub.of_eq e3 (fun _ _=>rfl)) (.hel i n j off) v (fun r hr=>by cases hr) (fun b _ hs=>⟨rfl,by rw[hbk b];exact hs⟩) hx
   |fn f aX=>exact ak.keep hV (HSub.of_eq e3 (fun _ _=>rfl)) (.fn f aX) v (fun r hr=>by cases hr) (fun b _ hs=>⟨rfl,by rw[hbk b];exact hs⟩) hx
   |Na=>exact hx
   |nil=>trivial
theorem St.frz (hE:aI E)(h:St E σ a w ν O)(x:Operand):St E (σ.frz x) a w ν O:=by
 unfold AS.frz;split
 ·exact h.freeze hE _
 ·exact h
theorem St.wK (hE:aI E)(h:St E σ a w ν O):∀xs,St E (σ.wK xs) a w ν O:=by
 intro xs;induction xs generalizing σ with
 |nil=>exact h
 |cons x xs ih=>exact ih (h.frz hE x)
theorem HY (r k:Nat):look (σ.bz r).rows k=if r=k then none else look σ.rows k:=CX _ _ _
theorem pq (r k:Nat):look (σ.eV r).boxes k=if r=k then none else look σ.boxes k:=CX _ _ _
theorem aaF {w w':World}{r:Nat}{x:BX}{v:Value}(hV:∀a v,V a v→V' a v)(hr:∀k,k≠r→(look σ.rows k).isSome=true→aN (.row k)=ν (.row k)∧look ah.rows k=look σ.rows k)
  (hk:∀k,dw v=some k→w'.heap[k]? =w.heap[k]?) (h:CZ V σ ν w v x):CZ V' ah aN w' v (x.bz r):=by
 obtain⟨g,h1,h2⟩:=h;have hg:=hk g (by rw[h1];rfl);refine⟨g,h1, ?_⟩;unfold BX.bz;cases x with
 |cells cs=>obtain⟨cur,e,h3,h4⟩:=h2;exact⟨cur,e,by rw[hg];exact h3,h4.mono (cg.mono hV)⟩
 |own k=>
  obtain⟨e,h3,h4⟩:=h2;simp only[BX.gj];cases hb:Nat.beq r k with
  |true=>exact⟨_,e,by rw[hg];exact h3⟩
  |false=>have hne:=Ne.symm (tB.1 hb);obtain⟨i1,i2⟩:=hr k hne h4;exact⟨e,by rw[hg,i1];exact h3,by rw[i2];exact h4⟩
 |nil=>obtain⟨u,e,h3⟩:=h2;exact⟨u,e,by rw[hg];exact h3⟩
theorem aeJ {r:Nat}(hV:∀a v,V a v→V' a v)(hh:HSub σ ν ah aN)(hr:∀k,k≠r→(look σ.rows k).isSome=true→aN (.row k)=ν (.row k)∧look ah.rows k=look σ.rows k)
  (hb:∀b,(look σ.boxes b).isSome=true→aN (.box b)=ν (.box b)∧(look ah.boxes b).isSome=true) (x:AV) (v:Value)
  (h:ak V σ ν Y x v):ak V' ah aN Y (x.bz r) v:=by
 unfold AV.bz;cases hk:x.gj r with
 |true=>trivial
 |false=>exact h.keep hV hh x v (fun k hkk row hrow=>by
   obtain⟨i1,i2⟩:=hr k (fun e=>by rw[e,hk] at hkk;cases hkk) (br hrow);exact⟨i1,row,by rw[i2];exact hrow,rfl⟩) (fun b _=>hb b)
theorem St.bz (hE:aI E)(h:St E σ a w ν O)(r:Nat):St E (σ.bz r) a w ν O:=by
 have hne:∀k,k≠r→look (σ.bz r).rows k=look σ.rows k:=fun k hk=>by rw[HY,if_neg (Ne.symm hk)]
 have hbs:∀b,(look (σ.bz r).boxes b).isSome=(look σ.boxes b).isSome:=fun b=>by show (look (J3 _ _) b).isSome=_;rw[i7,Option.isSome_map]
 refine h.less hE (ah:=σ.bz r) (a':=a) (fun k row h1=>ui h1) (fun b h1=>by rw[←hbs];exact h1) rfl rfl rfl (fun hV b x hx=> ?_) (fun hV=>LP (aeJ (σ:=σ) (ah:=σ.bz r) hV (HSub.of_eq rfl (fun _ _=>rfl)) (fun k hk _=>⟨rfl,hne k hk⟩) (fun b hs=>⟨rfl,by rw[hbs];exact hs⟩)) h.slots);have hx':look (J3 (BX.bz r) σ.boxes) b=some x:=hx;rw[i7,Option.map_eq_some_iff] at hx';obtain⟨x0,hx0,rfl⟩:=hx';exact aaF hV (fun k hk _=>⟨rfl,hne k hk⟩) (fun _ _=>rfl) (h.box hx0)
theorem St.eV (hE:aI E)(h:St E σ a w ν O)(d:Nat):St E (σ.eV d) a w ν O:=by
 have hne:∀k,k≠d→look (σ.eV d).boxes k=look σ.boxes k:=fun k hk=>by rw[pq,if_neg (Ne.symm hk)]
 refine h.less hE (ah:=σ.eV d) (a':=a) (fun k row h1=>h1) (fun b h1=> ?_) rfl rfl rfl (fun hV b x hx=> ?_) (fun hV=>LP (fun x v hx=> ?_) h.slots)
 ·obtain⟨x,e⟩:=Option.isSome_iff_exists.1 h1;exact br (ui e)
 ·exact(h.box (ui hx)).mono hV (fun _ _=>rfl) (fun r _ hr=>⟨rfl,hr⟩)
 ·unfold AV.eV;cases hk:x.mP d with
  |true=>trivial
  |false=>exact ak.keep (σ:=σ) (ah:=σ.eV d) hV (HSub.of_eq rfl (fun _ _=>rfl)) x v (fun _ _ row hrow=>⟨rfl,row,hrow,rfl⟩) (fun b hb hs=>⟨rfl,by rw[hne b (fun e=>by rw[e,hk] at hb;cases hb)];exact hs⟩) hx
theorem St.kM (hE:aI E)(h:St E σ a w ν O):∀ds,St E (σ.kM ds) a w ν O:=by
 intro ds;induction ds generalizing σ with
 |nil=>exact h
 |cons d ds ih=>exact ih (h.eV hE d)
theorem St.share (hE:aI E)(h:St E σ a w ν O):∀(hs:List (Nat×Bool)),St E (σ.share hs) a w ν O:=by
 intro hs;induction hs generalizing σ with
 |nil=>exact h
 |cons p hs ih=>
  obtain⟨j,b⟩:=p;cases b
  ·exact ih h
  ·exact ih (h.frz hE _)
theorem St.forget (hE:aI E)(h:St E σ a w ν O)(hs:List (Nat×Bool)):St E (σ.forget hs) a w ν O:=by
 have h1:=h.share hE hs;unfold AS.forget;generalize σ.share hs=dL at h1;dsimp only;generalize hl:ail dL.tmps.l hs=l;generalize hbs:(dL.boxes.filter fun p=>l.any (fun q=>q.2.mP p.1)||dL.tmps.s.any fun q=>q.2.mP p.1)=bs;generalize hrs:(dL.rows.filter fun p=>(l.any fun q=>q.2.gj p.1)||(dL.tmps.s.any fun q=>q.2.gj p.1)||bs.any fun q=>q.2.gj p.1)=rs;have hbl:∀b,look bs b=if (l.any (fun q=>q.2.mP b)||dL.tmps.s.any fun q=>q.2.mP b) then look dL.boxes b else none:=fun b=>by rw[←hbs];exact Au dL.boxes (fun k=>l.any (fun q=>q.2.mP k)||dL.tmps.s.any fun q=>q.2.mP k) b
 have hrl:∀r,look rs r=if ((l.any fun q=>q.2.gj r)||(dL.tmps.s.any fun q=>q.2.gj r)||bs.any fun q=>q.2.gj r) then look dL.rows r else none:=fun r=>by rw[←hrs];exact Au dL.rows (fun k=>(l.any fun q=>q.2.gj k)||(dL.tmps.s.any fun q=>q.2.gj k)||bs.any fun q=>q.2.gj k) r
 refine h1.less hE (a':=a) (fun r row e=> ?_) (fun b e=> ?_) rfl rfl rfl (fun hV b x hx=> ?_) (fun hV=>⟨h1.slots.1,fun i x hx=> ?_,fun i x hx=> ?_⟩)
 ·have e':look rs r=some row:=e;rw[hrl] at e';split at e'
  ·exact e'
  ·cases e'
 ·have e':(look bs b).isSome=true:=e;rw[hbl] at e';split at e'
  ·exact e'
  ·cases e'
 ·have hx':look bs b=some x:=hx;have hm:=Av hx';rw[hbl] at hx';split at hx'
  ·refine(h1.box hx').mono hV (fun _ _=>rfl) (fun r e hr=>⟨rfl, ?_⟩);show (look rs r).isSome=true;have hk:(bs.any fun q=>q.2.gj r)=true:=List.any_eq_true.2 ⟨(b,x),hm,by rw[e];exact beq_refl r⟩;rw[hrl,if_pos (by rw[hk,Bool.or_true])];exact hr
  ·cases hx'
 ·have hx':look l i=some x:=hx;have hm:=Av hx';have hv:look dL.tmps.l i=some x:=by
   rw[←hl] at hx';unfold ail at hx';rw[Au dL.tmps.l (fun k=>hs.any fun p=>Nat.beq p.1 k) i] at hx';split at hx'
   ·exact hx'
   ·cases hx'
  refine ak.keep (σ:=dL) hV (HSub.of_eq (by rfl) (fun _ _=>rfl)) x _ (fun r hk row hrow=>⟨rfl,row, ?_,rfl⟩) (fun b hk hs=>⟨rfl, ?_⟩) (h1.slots.2.1 i x hv)
  ·show look rs r=_;rw[hrl,if_pos (by rw[show (l.any fun q=>q.2.gj r)=true from List.any_eq_true.2 ⟨(i,x),hm,hk⟩];rfl)];exact hrow
  ·show (look bs b).isSome=_;rw[hbl,if_pos (by rw[show (l.any fun q=>q.2.mP b)=true from List.any_eq_true.2 ⟨(i,x),hm,hk⟩];rfl)];exact hs
 ·have hx':look dL.tmps.s i=some x:=hx;have hm:=Av hx';refine ak.keep (σ:=dL) hV (HSub.of_eq (by rfl) (fun _ _=>rfl)) x _ (fun r hk row hrow=>⟨rfl,row, ?_,rfl⟩) (fun b hk hs=>⟨rfl, ?_⟩) (h1.slots.2.2 i x hx')
  ·show look rs r=_;rw[hrl,if_pos (by rw[show (dL.tmps.s.any fun q=>q.2.gj r)=true from List.any_eq_true.2 ⟨(i,x),hm,hk⟩];simp)];exact hrow
  ·show (look bs b).isSome=_;rw[hbl,if_pos (by rw[show (dL.tmps.s.any fun q=>q.2.mP b)=true from List.any_eq_true.2 ⟨(i,x),hm,hk⟩];simp)];exact hs
def uY (ν:Nm→Value)(d:Nat)(v:Value):Nm→Value
 | .row k=>if k=d then v else ν (.row k)
 |m=>ν m
def Q4 (ν:Nm→Value)(d:Nat)(v:Value):Nm→Value
 | .box k=>if k=d then v else ν (.box k)
 |m=>ν m
def Pz (ν:Nm→Value)(h n:Nat)(v:Value):Nm→Value
 | .hp i k=>if i=h∧k=n then v else ν (.hp i k)
 |m=>ν m
theorem YP {r:Nat}{k:Nat}(h:Own σ ν (.row r) k):(look σ.rows r).isSome=true:=by have:=h.1;simpa [AS.obj] using this
theorem YQ {r:Nat}{row:Row}{k:Nat}(h:look σ.rows r=some row)(hb:dw (ν (.row r))=some k):Own σ ν (.row r) k:=⟨by simp[AS.obj,h],hb⟩
def wT (r d:Nat):Nm→Nm
 | .row k=>if k=d then .row r else .row k
 |m=>m
theorem aiJ {r d:Nat}{m:Nm}(h:E.yq (wT r d m)):E.yq m:=by
 cases m with
 |row k=>simp only[wT] at h;split at h<;>exact absurd h Q0
 |_=>exact h
theorem St.rename (hE:aI E)(h:St E σ a w ν O){r d:Nat}(hd:look σ.rows d=none):∃aN,St E (σ.rename r d) a w aN O∧(∀m,(∀k,m≠ .row k)→aN m=ν m)∧((look σ.rows r).isSome=true→aN (.row d)=ν (.row r)∧(look (σ.rename r d).rows d).isSome=true):=by
 unfold AS.rename;cases hrow:look σ.rows r with
 |none=>exact⟨ν,h,fun _ _=>rfl,by simp⟩
 |some row=>
  have hrd:r≠d:=fun e=>by rw[e,hd] at hrow;cases hrow
  generalize HW:({σ with tmps:=σ.tmps.map (AV.ren r d),rows:=put (del σ.rows r) d row,boxes:=J3 (BX.ren r d) σ.boxes}:AS)=ah;have e1:ah.rows=put (del σ.rows r) d row:=by rw[←HW]
  have e2:ah.boxes=J3 (BX.ren r d) σ.boxes:=by rw[←HW]
  have e3:ah.af=σ.af:=by rw[←HW]
  have Si:∀k,look ah.rows k=if d=k then some row else if r=k then none else look σ.rows k:=fun k=>by rw[e1,aH,CX]
  have hd1:look ah.rows d=some row:=by rw[Si,if_pos rfl]
  have hν:∀m,(uY ν d (ν (.row r))) m=ν (wT r d m):=fun m=>by
   cases m with
   |row k=>simp only[uY,wT];split<;>rfl
   |_=>rfl
  have pj:∀m,(ah.obj m).isSome=true→(σ.obj (wT r d m)).isSome=true∧wT r d m≠ .row d∧m≠ .row r:=fun m hm=>by
   cases m with
   |row k=>
    simp only[AS.obj,Option.isSome_map,Si] at hm;simp only[wT];by_cases hk:d=k
    ·subst hk;rw[if_pos rfl];exact⟨by simp[AS.obj,hrow],fun e=>hrd (by injection e),fun e=>hrd (by injection e with e;exact e.symm)⟩
    ·rw[if_neg hk] at hm;rw[if_neg (Ne.symm hk)];split at hm
     ·cases hm
     ·rename_i hk2;exact⟨by simpa [AS.obj] using hm,fun e=>hk (by injection e with e;exact e.symm),fun e=>hk2 (by injection e with e;exact e.symm)⟩
   |box b=>simp only[AS.obj,Option.isSome_map,e2,i7] at hm;exact⟨by simpa [AS.obj,wT] using hm,fun e=>(by cases e),fun e=>(by cases e)⟩
   |hp i n=>simp only[AS.obj,e3] at hm;exact⟨by simpa [AS.obj,wT] using hm,fun e=>(by cases e),fun e=>(by cases e)⟩
  have hown:∀m k,Own ah (uY ν d (ν (.row r))) m k→Own σ ν (wT r d m) k:=fun m k hm=>⟨(pj m hm.1).1,by rw[←hν];exact hm.2⟩
  have aqj:∀m m',(ah.obj m).isSome=true→(ah.obj m').isSome=true→wT r d m=wT r d m'→m=m':=fun m m' h1 h2 he=>by
   have a1:=(pj m h1).2.2;have a2:=(pj m' h2).2.2;cases m with
   |row k=>
    cases m' with
    |row k'=>
     simp only[wT] at he;by_cases q1:k=d<;>by_cases q2:k'=d
     ·rw[q1,q2]
     ·rw[if_pos q1,if_neg q2] at he;injection he with he;exact absurd (by rw[he]) a2
     ·rw[if_neg q1,if_pos q2] at he;injection he with he;exact absurd (by rw[he]) a1
     ·rw[if_neg q1,if_neg q2] at he;exact he
    |box b=>simp only[wT] at he;split at he<;>cases he
    |hp i n=>simp only[wT] at he;split at he<;>cases he
   |box b=>cases m' with
    |row k'=>simp only[wT] at he;split at he<;>cases he
    |_=>exact he
   |hp i n=>cases m' with
    |row k'=>simp only[wT] at he;split at he<;>cases he
    |_=>exact he
  have Ja:∀k,k≠r→(look σ.rows k).isSome=true→uY ν d (ν (.row r)) (.row k)=ν (.row k)∧look ah.rows k=look σ.rows k:=fun k hk hs=>by
   have hkd:k≠d:=fun e=>by rw[e,hd] at hs;cases hs
   exact⟨by simp only[uY,if_neg hkd],by rw[Si,if_neg (Ne.symm hkd),if_neg (Ne.symm hk)]⟩
  have aiK:uY ν d (ν (.row r)) (.row d)=ν (.row r):=by simp only[uY,if_pos]
  refine⟨uY ν d (ν (.row r)), ?_,fun m hm=> ?_,fun _=>⟨aiK, ?_⟩⟩
  ·show St E ({σ with tmps:=σ.tmps.map (AV.ren r d),rows:=put (del σ.rows r) d row,boxes:=J3 (BX.ren r d) σ.boxes}:AS) a w _ O;rw[HW];refine h.step hE (C:=fun _=>False) (Grow.refl _ _) (fun k hk=>hk.elim) (HSub.of_eq e3 (fun _ _=>rfl)) (fun m k hm=> .inl ⟨_,hown m k hm,fun e=>aiJ e⟩) (fun m k hm=>(h.Aw _ k (hown m k hm)).2.1)
    (fun m m' k h1 h2=>aqj m m' h1.1 h2.1 (h.inj _ _ k (hown _ _ h1) (hown _ _ h2))) (fun m' k hk=> ?_) (by rw[←HW]) rfl (by rw[e3];exact h.nn) (fun i hr e=>by rw[e3];exact(h.ro i hr e).1) (fun hV m o ho=> ?_) (fun hV=> ?_)
   ·have h9:=h.new _ k (hown _ _ hk);refine h9.imp id (fun h10=> ?_);cases m' with
    |row q=>simp only[wT] at h10;split at h10<;>exact h10
    |box q=>trivial
    |hp i n=>simp only[wT] at h10;exact h10
   ·cases m with
    |row k=>
     simp only[AS.obj,Option.map_eq_some_iff] at ho;obtain⟨row',e,rfl⟩:=ho;rw[Si] at e;split at e
     ·rename_i hk;subst hk;obtain rfl:row=row':=by simpa using e
      rw[aiK];exact ki.mono hV (fun _ _=>rfl) (h.row hrow)
     ·rename_i hk;split at e
      ·cases e
      ·rename_i hk2;rw[(Ja k (Ne.symm hk2) (br e)).1];exact ki.mono hV (fun _ _=>rfl) (h.row e)
    |box b=>
     simp only[AS.obj,Option.map_eq_some_iff] at ho;obtain⟨x,e,rfl⟩:=ho;rw[e2,i7,Option.map_eq_some_iff] at e;obtain⟨x0,hx0,rfl⟩:=e;obtain⟨g,hg1,hg2⟩:=h.box hx0;refine⟨g,hg1, ?_⟩;cases x0 with
     |cells cs=>obtain⟨cur,e,h3,h4⟩:=hg2;exact⟨cur,e,h3,h4.mono (cg.mono hV)⟩
     |own k=>
      obtain⟨e,h3,h4⟩:=hg2;simp only[BX.ren];cases hk:Nat.beq k r with
      |true=>have:=(beq_iff _ _).1 hk;subst this;exact⟨e,by rw[cond_true,aiK];exact h3,by rw[cond_true,hd1];rfl⟩
      |false=>obtain⟨i1,i2⟩:=Ja k (tB.1 hk) h4;exact⟨e,by rw[cond_false,i1];exact h3,by rw[cond_false,i2];exact h4⟩
     |nil=>exact hg2
    |hp i n=>
     have ho':σ.obj (.hp i n)=some o:=by simp only[AS.obj,e3] at ho ⊢;exact ho
     obtain⟨k,row,rfl⟩:=Py ho';exact BM.mono hV (fun _ _=>rfl) (h.CF _ _ ho')
   ·have YK:ah.tmps=σ.tmps.map (AV.ren r d):=by rw[←HW]
    rw[YK];refine LP (fun x v hx=> ?_) h.slots;have hrv:∀x v,tp (view E σ ν O w) σ ν x v→tp (view E ah (uY ν d (ν (.row r))) O w) ah (uY ν d (ν (.row r))) (x.ren r d) v:=by
     intro x v hx;cases x with
     |cv c=>exact cg.mono hV c v hx
     |agg cs=>obtain⟨vs,h1,h2⟩:=hx;exact⟨vs,h1,h2.mono (cg.mono hV)⟩
     |own k=>
      obtain⟨h1,h2⟩:=hx;simp only[RV.ren];cases hk:Nat.beq k r with
      |true=>have:=(beq_iff _ _).1 hk;subst this;exact⟨by rw[cond_true,aiK];exact h1,by rw[cond_true,hd1];rfl⟩
      |false=>obtain⟨i1,i2⟩:=Ja k (tB.1 hk) h2;exact⟨by rw[cond_false,i1];exact h1,by rw[cond_false,i2];exact h2⟩
    have hba:∀b off v,CY σ ν b off v→CY ah (uY ν d (ν (.row r))) b off v:=fun b off v hb=>⟨by rw[e2,i7,Option.isSome_map];exact hb.1,hb.2⟩
    cases x with
    |rv x=>exact hrv x v hx
    |Pj k sz i off=>
     obtain⟨row',g,h1,h2,h3⟩:=hx;simp only[AV.ren];cases hk:Nat.beq k r with
     |true=>
      have:=(beq_iff _ _).1 hk;subst this;rw[hrow] at h1;obtain rfl:row=row':=by simpa using h1
      exact⟨row,g,by rw[cond_true];exact hd1,by rw[cond_true,aiK];exact h2,h3⟩
     |false=>obtain⟨i1,i2⟩:=Ja k (tB.1 hk) (br h1);exact⟨row',g,by rw[cond_false,i2];exact h1,by rw[cond_false,i1];exact h2,h3⟩
    |tup l=>obtain⟨vs,h1,h2⟩:=hx;exact⟨vs,h1,Uu hrv h2⟩
    |lit u=>exact hx
    |box b off=>exact hba b off v hx
    |qA cs=>exact rW.mono hV hx
    |hel i n j off=>obtain⟨hr',g,h1,h2⟩:=hx;exact⟨hr',g,by rw[e3];exact h1,h2⟩
    |fn f aX=>
     obtain⟨vs,h1,h2⟩:=hx;refine⟨vs,h1,h2.mono (fun c u hc=> ?_)⟩;cases c with
     |box b=>exact hba b 0 u hc
     |qA cs=>exact rW.mono hV hc
    |Na=>exact hx
    |nil=>trivial
  ·cases m with
   |row k=>exact absurd rfl (hm k)
   |_=>rfl
  ·show (look (put (del σ.rows r) d row) d).isSome=true;rw[aH,if_pos rfl];rfl
end
section
variable {P:Program}{E:Env}{σ ah:AS}{a:Act}{w w':World}{ν aN:Nm→Value}{O:Nat→Prop}{V V':View}{Y:Value}
theorem oz {d:Nat}{v:Value}:uY ν d v (.row d)=v:=by simp only[uY,if_pos]
theorem TT {d k:Nat}{v:Value}(h:k≠d):uY ν d v (.row k)=ν (.row k):=by simp only[uY,if_neg h]
theorem St.old (h:St E σ a w ν O){C:Nat→Prop}(hg:Grow C w w'){m:Nm}{o:Obj}(ho:σ.obj m=some o)(hc:∀k,dw (ν m)=some k→¬C k)(hV:∀key v,view E σ ν O w key v→V key v)
  (hr:∀r,o= .box (.own r)→(look σ.rows r).isSome=true→aN (.row r)=ν (.row r)∧(look ah.rows r).isSome=true):HU V ah aN w' (ν m) o:=
 (h.CF m o ho).mono hV (fun k hk=>hg.block k (h.Aw m k ⟨br ho,hk⟩).2.1 (hc k hk)) hr
theorem St.aeK (hE:aI E)(h:St E σ a w ν O){r d:Nat}{row':Row}{v':Value}(hd:look (σ.bz r).rows d=none)(hg:Grow (fun k=>Own σ ν (.row r) k) w w')
  (GG:∀k,dw v'=some k→Own σ ν (.row r) k∨(w.heap.size≤k∧k<w'.heap.size))
  (cS:(∀key v,view E σ ν O w key v→view E {(σ.bz r) with rows:=put (σ.bz r).rows d row'} (uY ν d v') O w' key v)→
   ki (view E {(σ.bz r) with rows:=put (σ.bz r).rows d row'} (uY ν d v') O w') w' v' row'):
  St E {(σ.bz r) with rows:=put (σ.bz r).rows d row'} a w' (uY ν d v') O:=by
 generalize HW:({(σ.bz r) with rows:=put (σ.bz r).rows d row'}:AS)=ah at cS;have e1:ah.rows=put (σ.bz r).rows d row':=by rw[←HW]
 have e2:ah.boxes=J3 (BX.bz r) σ.boxes:=by rw[←HW];rfl
 have e3:ah.af=σ.af:=by rw[←HW];rfl
 have Si:∀k,look ah.rows k=if d=k then some row' else if r=k then none else look σ.rows k:=fun k=>by rw[e1,aH,HY]
 have hdr:∀k,(look σ.rows k).isSome=true→k≠r→k≠d:=fun k hk hkr e=>by subst e;rw[HY,if_neg (Ne.symm hkr)] at hd;rw[hd] at hk;cases hk
 have hold:∀k,k≠r→(look σ.rows k).isSome=true→uY ν d v' (.row k)=ν (.row k)∧look ah.rows k=look σ.rows k:=fun k hkr hk=>
  ⟨TT (hdr k hk hkr),by rw[Si,if_neg (Ne.symm (hdr k hk hkr)),if_neg (Ne.symm hkr)]⟩
 -- what is owned
 have hown:∀m k,Own ah (uY ν d v') m k→(m= .row d∧(Own σ ν (.row r) k∨(w.heap.size≤k∧k<w'.heap.size)))∨(m≠ .row d∧m≠ .row r∧Own σ ν m k):=by
  intro m k hm;obtain⟨h1,h2⟩:=hm;cases m with
  |row q=>
   simp only[AS.obj,Option.isSome_map,Si] at h1;by_cases hq:d=q
   ·subst hq;rw[oz] at h2;exact .inl ⟨rfl,GG k h2⟩
   ·rw[if_neg hq] at h1;split at h1
    ·cases h1
    ·rename_i hqr;rw[TT (Ne.symm hq)] at h2;exact .inr ⟨fun e=>hq (by injection e with e;exact e.symm),fun e=>hqr (by injection e with e;exact e.symm),by simpa [AS.obj] using h1,h2⟩
  |box b=>simp only[AS.obj,Option.isSome_map,e2,i7] at h1;exact .inr ⟨fun e=>(by cases e),fun e=>(by cases e),by simpa [AS.obj] using h1,h2⟩
  |hp i n=>simp only[AS.obj,e3] at h1;exact .inr ⟨fun e=>(by cases e),fun e=>(by cases e),by simpa [AS.obj] using h1,h2⟩
 refine h.step hE hg (fun k hk=>⟨_,hk,Q0⟩) (HSub.of_eq e3 (fun _ _=>rfl)) (fun m k hm=> ?_) (fun m k hm=> ?_) (fun m m' k h1 h2=> ?_) (fun q k hk=> ?_) (by rw[←HW];rfl) rfl (by rw[e3];exact h.nn) (fun i hr e=>by rw[e3];exact(h.ro i hr e).1) (fun hV m o ho=> ?_) (fun hV=> ?_)
 ·rcases hown m k hm with ⟨_,h1 |h1⟩ | ⟨_,_,h1⟩
  ·exact .inl ⟨_,h1,fun e=>absurd e Q0⟩
  ·exact .inr h1.1
  ·exact .inl ⟨_,h1,id⟩
 ·rcases hown m k hm with ⟨_,h1 |h1⟩ | ⟨_,_,h1⟩
  ·exact Nat.lt_of_lt_of_le (h.Aw _ k h1).2.1 hg.size
  ·exact h1.2
  ·exact Nat.lt_of_lt_of_le (h.Aw _ k h1).2.1 hg.size
 ·rcases hown m k h1 with ⟨e,h3⟩ | ⟨n1,n2,h3⟩<;>rcases hown m' k h2 with ⟨e',h4⟩ | ⟨n1',n2',h4⟩
  ·rw[e,e']
  ·rcases h3 with h3 |h3
   ·exact absurd (h.inj _ _ k h4 h3) n2'
   ·exact absurd (h.Aw _ k h4).2.1 (by omega)
  ·rcases h4 with h4 |h4
   ·exact absurd (h.inj _ _ k h3 h4) n2
   ·exact absurd (h.Aw _ k h3).2.1 (by omega)
  ·exact h.inj _ _ k h3 h4
 ·rcases hown _ k hk with ⟨e,h1 |h1⟩ | ⟨_,_,h1⟩
  ·exact .inl ((h.new _ k h1).resolve_right id)
  ·exact .inl (Nat.le_trans h.keep.size h1.1)
  ·exact h.new _ k h1
 ·have TS:∀m',m'≠ .row r→(σ.obj m').isSome=true→∀k,dw (ν m')=some k→¬Own σ ν (.row r) k:=fun m' hne hs k hk ho=>hne (h.inj _ _ k ⟨hs,hk⟩ ho);cases m with
  |row q=>
   simp only[AS.obj,Option.map_eq_some_iff] at ho;obtain⟨aqk,e,rfl⟩:=ho;rw[Si] at e;split at e
   ·rename_i hq;subst hq;obtain rfl:row'=aqk:=by simpa using e
    rw[oz];exact cS (by rw[HW] at*;exact hV)
   ·split at e
    ·cases e
    ·rename_i hqr;rw[(hold q (Ne.symm hqr) (br e)).1];have ho:σ.obj (.row q)=some (.row aqk):=by simp[AS.obj,e]
     exact h.old hg ho (TS _ (fun e=>hqr (by injection e with e;exact e.symm)) (br ho)) hV (fun r' e=>by cases e)
  |box b=>
   simp only[AS.obj,Option.map_eq_some_iff] at ho;obtain⟨x,e,rfl⟩:=ho;rw[e2,i7,Option.map_eq_some_iff] at e;obtain⟨x0,hx0,rfl⟩:=e;have ho:σ.obj (.box b)=some (.box x0):=by simp[AS.obj,hx0]
   exact aaF (σ:=σ) (ν:=ν) (V:=view E σ ν O w) (w:=w) hV hold (fun k hk=>hg.block k (h.Aw _ k ⟨br ho,hk⟩).2.1 (TS _ (fun e=>by cases e) (br ho) k hk)) (h.box hx0)
  |hp i n=>
   have ho':σ.obj (.hp i n)=some o:=by simp only[AS.obj,e3] at ho ⊢;exact ho
   obtain⟨k,row,rfl⟩:=Py ho';exact h.old (aN:=uY ν d v') hg ho' (TS _ (fun e=>by cases e) (br ho')) hV (fun r' e=>by cases e)
 ·have:ah.tmps=σ.tmps.map (AV.bz r):=by rw[←HW];rfl
  rw[this];exact LP (aeJ (ν:=ν) (aN:=uY ν d v') hV (HSub.of_eq e3 (fun _ _=>rfl)) hold (fun b hs=>⟨rfl,by rw[e2,i7,Option.isSome_map];exact hs⟩)) h.slots
theorem St.aiL (hE:aI E)(h:St E σ a w ν O){m0 m1:Nm}{o0:Obj}{C:Nat→Prop}(hnr:¬E.yq m0∧¬E.yq m1)(hg:Grow C w w')(hC:∀k,C k→Own σ ν m1 k)
  (hs:HSub σ ν ah aN) (pj:∀m,m≠m0→m≠m1→ah.obj m=σ.obj m∧((σ.obj m).isSome=true→aN m=ν m)) (hm1:m1=m0∨ah.obj m1=none) (aiM:ah.obj m0=none∨ah.obj m0=some o0)
  (GG:∀k,(ah.obj m0).isSome=true→dw (aN m0)=some k→Own σ ν m0 k∨Own σ ν m1 k∨(w.heap.size≤k∧k<w'.heap.size)) (hold:∀k,E.Xa m1 k→E.Xa m0 k)
  (YR:∀r row,look σ.rows r=some row→aN (.row r)=ν (.row r)∧∃row',look ah.rows r=some row'∧row'.t.size=row.t.size)
  (ac7:∀b,(look σ.boxes b).isSome=true→aN (.box b)=ν (.box b)∧(look ah.boxes b).isSome=true)
  (htr:ah.trace=σ.trace) (htm:ah.tmps=σ.tmps) (hnn:∀(i:Nat) (hr:aQ) (n:Nat),ah.af[i]? =some hr→1≤n→n≤hr.xs.length→af0 hr.k (aN (.hp i n)))
  (hro:∀i hr,E.ro i=some hr→ah.af[i]? =some hr)
  (cS:(∀key v,view E σ ν O w key v→view E ah aN O w' key v)→ah.obj m0=some o0→HU (view E ah aN O w') ah aN w' (aN m0) o0):St E ah a w' aN O:=by
 have hown:∀m k,Own ah aN m k→(m=m0∧(Own σ ν m0 k∨Own σ ν m1 k∨(w.heap.size≤k∧k<w'.heap.size)))∨(m≠m0∧m≠m1∧Own σ ν m k):=fun m k hm=>by
  by_cases e:m=m0
  ·subst e;exact .inl ⟨rfl,GG k hm.1 hm.2⟩
  ·by_cases e1:m=m1
   ·subst e1;rcases hm1 with h1 |h1
    ·exact absurd h1 e
    ·have:=hm.1;rw[h1] at this;cases this
   ·obtain⟨h1,h2⟩:=pj m e e1;have h3:(σ.obj m).isSome=true:=by rw[←h1];exact hm.1
    exact .inr ⟨e,e1,h3,by rw[←h2 h3];exact hm.2⟩
 have hsub:Sub σ ν ah aN:={hs with rows:=YR,boxes:=ac7}
 refine h.step hE hg (fun k hk=>⟨_,hC k hk,hnr.2⟩) hs (fun m k hm=> ?_) (fun m k hm=> ?_) (fun m m' k h1 h2=> ?_) (fun q k hk=> ?_) htr rfl hnn hro (fun hV m o ho=> ?_) (fun hV=>by rw[htm];exact h.slots.mono (ak.mono hV hsub))
 ·rcases hown m k hm with ⟨_,h1 |h1 |h1⟩ | ⟨_,_,h1⟩
  ·exact .inl ⟨_,h1,fun e=>absurd e hnr.1⟩
  ·exact .inl ⟨_,h1,fun e=>absurd e hnr.2⟩
  ·exact .inr h1.1
  ·exact .inl ⟨_,h1,id⟩
 ·rcases hown m k hm with ⟨_,h1 |h1 |h1⟩ | ⟨_,_,h1⟩
  ·exact Nat.lt_of_lt_of_le (h.Aw _ k h1).2.1 hg.size
  ·exact Nat.lt_of_lt_of_le (h.Aw _ k h1).2.1 hg.size
  ·exact h1.2
  ·exact Nat.lt_of_lt_of_le (h.Aw _ k h1).2.1 hg.size
 ·have anp:∀m,m≠m0→m≠m1→Own σ ν m k→¬(Own σ ν m0 k∨Own σ ν m1 k∨(w.heap.size≤k∧k<w'.heap.size)):=fun m n0 n1 h3 h4=>by
   rcases h4 with h4 |h4 |h4
   ·exact n0 (h.inj _ _ k h3 h4)
   ·exact n1 (h.inj _ _ k h3 h4)
   ·exact absurd (h.Aw _ k h3).2.1 (by omega)
  rcases hown m k h1 with ⟨e,h3⟩ | ⟨n0,n1,h3⟩<;>rcases hown m' k h2 with ⟨e',h4⟩ | ⟨n0',n1',h4⟩
  ·rw[e,e']
  ·exact absurd h3 (anp m' n0' n1' h4)
  ·exact absurd h4 (anp m n0 n1 h3)
  ·exact h.inj _ _ k h3 h4
 ·rcases hown _ k hk with ⟨e',h1 |h1 |h1⟩ | ⟨_,_,h1⟩
  ·rw[e'];exact h.new _ k h1
  ·rw[e'];exact(h.new _ k h1).imp id (hold k)
  ·exact .inl (Nat.le_trans h.keep.size h1.1)
  ·exact h.new _ k h1
 ·by_cases e:m=m0
  ·subst e;rcases aiM with h0 |h0
   ·rw[h0] at ho;cases ho
   ·have ho':=ho;rw[h0] at ho;obtain rfl:o0=o:=by simpa using ho
    exact cS hV ho'
  ·by_cases e1:m=m1
   ·subst e1;rcases hm1 with h1 |h1
    ·exact absurd h1 e
    ·rw[h1] at ho;cases ho
   ·obtain⟨h1,h2⟩:=pj m e e1;rw[h1] at ho;rw[h2 (br ho)];exact h.old hg ho (fun k hk hc=>e1 (h.inj _ _ k ⟨br ho,hk⟩ (hC k hc))) hV (fun r _ hr=>hsub.J4 hr)
theorem St.fresh (hE:aI E)(h:St E σ a w ν O){m0:Nm}{o0:Obj}{C:Nat→Prop}(hnr:¬E.yq m0)(hg:Grow C w w')(hC:∀k,C k→Own σ ν m0 k)
  (hs:HSub σ ν ah aN) (pj:∀m,m≠m0→ah.obj m=σ.obj m∧((σ.obj m).isSome=true→aN m=ν m)) (aiM:ah.obj m0=some o0)
  (GG:∀k,dw (aN m0)=some k→Own σ ν m0 k∨(w.heap.size≤k∧k<w'.heap.size)) (hrow:∀r,m0= .row r→∀k,dw (aN m0)=some k→E.w0.heap.size≤k)
  (YR:∀r row,look σ.rows r=some row→aN (.row r)=ν (.row r)∧∃row',look ah.rows r=some row'∧row'.t.size=row.t.size)
  (ac7:∀b,(look σ.boxes b).isSome=true→aN (.box b)=ν (.box b)∧(look ah.boxes b).isSome=true)
  (htr:ah.trace=σ.trace) (htm:ah.tmps=σ.tmps) (hnn:∀(i:Nat) (hr:aQ) (n:Nat),ah.af[i]? =some hr→1≤n→n≤hr.xs.length→af0 hr.k (aN (.hp i n)))
  (hro:∀i hr,E.ro i=some hr→ah.af[i]? =some hr)
  (cS:(∀key v,view E σ ν O w key v→view E ah aN O w' key v)→HU (view E ah aN O w') ah aN w' (aN m0) o0):St E ah a w' aN O:=
 h.aiL hE ⟨hnr,hnr⟩ hg hC hs (fun m hm _=>pj m hm) (.inl rfl) (.inr aiM) (fun k _ hk=>(GG k hk).imp id .inr) (fun _ h=>h) YR ac7 htr htm hnn hro (fun hV _=>cS hV)
theorem Xe {m:Nm}{d:Nat}(h:m≠ .row d)(σ:AS)(rows:List (Nat×Row))(hr:∀k,k≠d→look rows k=look σ.rows k):({σ with rows:=rows}:AS).obj m=σ.obj m:=by
 cases m with
 |row k=>simp only[AS.obj];rw[hr k (fun e=>h (by rw[e]))]
 |_=>rfl
theorem Xf {m:Nm}{d:Nat}(h:m≠ .box d)(σ:AS)(boxes:List (Nat×BX))(hr:∀k,k≠d→look boxes k=look σ.boxes k):({σ with boxes:=boxes}:AS).obj m=σ.obj m:=by
 cases m with
 |box k=>simp only[AS.obj];rw[hr k (fun e=>h (by rw[e]))]
 |_=>rfl
theorem St.newRow (hE:aI E)(h:St E σ a w ν O){d:Nat}{row':Row}{v':Value}(hd:look σ.rows d=none)(hg:Below w.heap.size w w')
  (GG:∀k,dw v'=some k→w.heap.size≤k∧k<w'.heap.size)
  (cS:(∀key v,view E σ ν O w key v→view E {σ with rows:=put σ.rows d row'} (uY ν d v') O w' key v)→ki (view E {σ with rows:=put σ.rows d row'} (uY ν d v') O w') w' v' row'):
  St E {σ with rows:=put σ.rows d row'} a w' (uY ν d v') O:=by
 have hne:∀k,(look σ.rows k).isSome=true→k≠d:=fun k hk e=>by rw[e,hd] at hk;cases hk
 have hn0:∀k,¬Own σ ν (.row d) k:=fun k hk=>by have:=YP hk;rw[hd] at this;cases this
 refine h.fresh hE (m0:= .row d) (o0:= .row row') (C:=fun _=>False) Q0 (Grow.C0 hg) (fun k hk=>hk.elim) (HSub.of_eq rfl (fun _ _=>rfl)) (fun m hm=>⟨Xe hm σ _ (fun k hk=>by rw[aH,if_neg (Ne.symm hk)]),fun hs=> ?_⟩) (by simp[AS.obj,aH]) (fun k hk=> .inr (GG k (by rw[oz] at hk;exact hk))) (fun r e k hk=>Nat.le_trans h.keep.size (GG k (by rw[oz] at hk;exact hk)).1)
  (fun r row hr=>⟨TT (hne r (br hr)),row,by show look (put _ _ _) _=_;rw[aH,if_neg (Ne.symm (hne r (br hr)))];exact hr,rfl⟩) (fun b hb=>⟨rfl,hb⟩) rfl rfl h.nn (fun i hr e=>(h.ro i hr e).1) (fun hV=>by rw[oz];exact cS hV)
 cases m with
 |row k=>exact TT (fun e=>hm (by rw[e]))
 |_=>rfl
theorem St.setRow (hE:aI E)(h:St E σ a w ν O){q:Nat}{row row':Row}(hq:look σ.rows q=some row)(hsz:row'.t.size=row.t.size)(hg:Grow (fun k=>dw (ν (.row q))=some k) w w')
  (cS:(∀key v,view E σ ν O w key v→view E {σ with rows:=put σ.rows q row'} ν O w' key v)→ki (view E {σ with rows:=put σ.rows q row'} ν O w') w' (ν (.row q)) row'):
  St E {σ with rows:=put σ.rows q row'} a w' ν O:=by
 have ho:(σ.obj (.row q)).isSome=true:=by simp[AS.obj,hq]
 refine h.fresh hE (m0:= .row q) (o0:= .row row') Q0 hg (fun k hk=>⟨ho,hk⟩) (HSub.of_eq rfl (fun _ _=>rfl)) (fun m hm=>⟨Xe hm σ _ (fun k hk=>by rw[aH,if_neg (Ne.symm hk)]),fun _=>rfl⟩) (by simp[AS.obj,aH]) (fun k hk=> .inl ⟨ho,hk⟩) (fun r e k hk=>(h.new (.row q) k ⟨ho,hk⟩).resolve_right id)
  (fun r eg hr=>⟨rfl, ?_⟩) (fun b hb=>⟨rfl,hb⟩) rfl rfl h.nn (fun i hr e=>(h.ro i hr e).1) cS
 show ∃asW,look (put σ.rows q row') r=some asW∧_;rw[aH];by_cases e:q=r
 ·subst e;rw[hq] at hr;obtain rfl:row=eg:=by simpa using hr
  exact⟨row',by rw[if_pos rfl],hsz⟩
 ·exact⟨eg,by rw[if_neg e];exact hr,rfl⟩
theorem St.Bj (hE:aI E)(h:St E σ a w ν O){d:Nat}{x:BX}{o:Go.Obj}(hd:look σ.boxes d=none)
  (cS:(∀key v,view E σ ν O w key v→view E {σ with boxes:=put σ.boxes d x} (Q4 ν d (.pointer (some ⟨w.heap.size,0,none⟩))) O (w.alloc o) key v)→
   CZ (view E {σ with boxes:=put σ.boxes d x} (Q4 ν d (.pointer (some ⟨w.heap.size,0,none⟩))) O (w.alloc o)) {σ with boxes:=put σ.boxes d x} (Q4 ν d (.pointer (some ⟨w.heap.size,0,none⟩))) (w.alloc o) (.pointer (some ⟨w.heap.size,0,none⟩)) x):
  St E {σ with boxes:=put σ.boxes d x} a (w.alloc o) (Q4 ν d (.pointer (some ⟨w.heap.size,0,none⟩))) O:=by
 have hne:∀k,(look σ.boxes k).isSome=true→k≠d:=fun k hk e=>by rw[e,hd] at hk;cases hk
 have hb:Below w.heap.size w (w.alloc o):=⟨rfl,rfl,rfl,by simp,fun k hk=>heap_alloc_old w _ k hk⟩
 have hv:Q4 ν d (.pointer (some ⟨w.heap.size,0,none⟩)) (.box d)= .pointer (some ⟨w.heap.size,0,none⟩):=by simp only[Q4,if_pos]
 refine h.fresh hE (m0:= .box d) (o0:= .box x) (C:=fun _=>False) NW (Grow.C0 hb) (fun k hk=>hk.elim) (HSub.of_eq rfl (fun _ _=>rfl)) (fun m hm=>⟨Xf hm σ _ (fun k hk=>by rw[aH,if_neg (Ne.symm hk)]),fun hs=> ?_⟩) (by simp[AS.obj,aH]) (fun k hk=> .inr ?_) (fun r e=>by cases e)
  (fun r row hr=>⟨rfl,row,hr,rfl⟩) (fun b hb=>⟨by simp only[Q4,if_neg (hne b hb)],by show (look (put _ _ _) _).isSome=_;rw[aH,if_neg (Ne.symm (hne b hb))];exact hb⟩) rfl rfl h.nn (fun i hr e=>(h.ro i hr e).1) (fun hV=>by rw[hv];exact cS hV)
 ·cases m with
  |box k=>exact if_neg (fun e=>hm (by rw[e]))
  |_=>rfl
 ·rw[hv] at hk;simp only[dw,Option.some.injEq] at hk;subst hk;exact⟨Nat.le_refl _,by simp⟩
theorem St.ac8 (hE:aI E)(h:St E σ a w ν O){b:Nat}{x:BX}(hq:(look σ.boxes b).isSome=true)(hg:Grow (fun k=>dw (ν (.box b))=some k) w w')
  (cS:(∀key v,view E σ ν O w key v→view E {σ with boxes:=put σ.boxes b x} ν O w' key v)→CZ (view E {σ with boxes:=put σ.boxes b x} ν O w') {σ with boxes:=put σ.boxes b x} ν w' (ν (.box b)) x):
  St E {σ with boxes:=put σ.boxes b x} a w' ν O:=by
 have ho:(σ.obj (.box b)).isSome=true:=by simpa [AS.obj] using hq
 refine h.fresh hE (m0:= .box b) (o0:= .box x) NW hg (fun k hk=>⟨ho,hk⟩) (HSub.of_eq rfl (fun _ _=>rfl)) (fun m hm=>⟨Xf hm σ _ (fun k hk=>by rw[aH,if_neg (Ne.symm hk)]),fun _=>rfl⟩) (by simp[AS.obj,aH]) (fun k hk=> .inl ⟨ho,hk⟩) (fun r e=>by cases e)
  (fun r row hr=>⟨rfl,row,hr,rfl⟩) (fun k hk=>⟨rfl, ?_⟩) rfl rfl h.nn (fun i hr e=>(h.ro i hr e).1) cS
 show (look (put σ.boxes b x) k).isSome=true;rw[aH];split
 ·rfl
 ·exact hk
theorem St.anq (hE:aI E)(h:St E σ a w ν O){i n0 n1:Nat}{hr:aQ}{xs':List (Option (List hr.t.den))}{v0:Value}{C:Nat→Prop}
  (hh:σ.af[i]? =some hr) (hw:hr.w=true) (hn:1≤n0) (hlen:(n0=xs'.length∧xs'.length=hr.xs.length+1)∨(xs'.length=hr.xs.length∧v0=ν (.hp i n0)))
  (Uv:∀m:Nat,m+1≠n0→m+1≠n1→∀l,xs'[m]? =some (some l)↔hr.xs[m]? =some (some l)) (h1:n1=n0∨n1=0∨∀l,xs'[n1 - 1]? ≠some (some l))
  (hC:∀k,C k→Own σ ν (.hp i n1) k) (hg:Grow C w w') (hblk:∀k,dw v0=some k→Own σ ν (.hp i n0) k∨Own σ ν (.hp i n1) k∨(w.heap.size≤k∧k<w'.heap.size)) (hv0:af0 hr.k v0)
  (cS:(∀key v,view E σ ν O w key v→view E {σ with af:=σ.af.set i ⟨hr.e,hr.t,hr.k,hr.w,xs'⟩} (Pz ν i n0 v0) O w' key v)→∀l,xs'[n0 - 1]? =some (some l)→
   BM (view E {σ with af:=σ.af.set i ⟨hr.e,hr.t,hr.k,hr.w,xs'⟩} (Pz ν i n0 v0) O w') w' hr.k v0 ⟨hr.e,hr.t,l⟩):
  St E {σ with af:=σ.af.set i ⟨hr.e,hr.t,hr.k,hr.w,xs'⟩} a w' (Pz ν i n0 v0) O:=by
 have hlt:i<σ.af.length:=(List.getElem?_eq_some_iff.1 hh).1;have ef:∀j,(σ.af.set i ⟨hr.e,hr.t,hr.k,hr.w,xs'⟩)[j]? =if i=j then some ⟨hr.e,hr.t,hr.k,hr.w,xs'⟩ else σ.af[j]? :=fun j=>by
  rw[List.getElem?_set];split
  ·rename_i e;subst e;simp[hlt]
  ·rfl
 have hle:hr.xs.length≤xs'.length:=by rcases hlen with h2 |h2<;>omega
 have hu0:Pz ν i n0 v0 (.hp i n0)=v0:=by simp only[Pz,and_self,if_pos]
 have af5:∀j n,¬(j=i∧n=n0)→Pz ν i n0 v0 (.hp j n)=ν (.hp j n):=fun j n hj=>by simp only[Pz,if_neg hj]
 have hold:∀n,1≤n→n≤hr.xs.length→Pz ν i n0 v0 (.hp i n)=ν (.hp i n):=fun n h2 h3=>by
  by_cases e:n=n0
  ·subst e;rcases hlen with h4 |h4
   ·omega
   ·rw[hu0];exact h4.2
  ·exact af5 i n (fun h4=>e h4.2)
 have Xb:∀n,pj (σ.af.set i ⟨hr.e,hr.t,hr.k,hr.w,xs'⟩) i (n+1)=I9 hr.e hr.t hr.k xs'[n]? :=fun n=>by simp only[pj,ef,if_pos]
 have aoj:∀n,pj σ.af i (n+1)=I9 hr.e hr.t hr.k hr.xs[n]? :=fun n=>by simp only[pj,hh]
 have hsub:HSub σ ν {σ with af:=σ.af.set i ⟨hr.e,hr.t,hr.k,hr.w,xs'⟩} (Pz ν i n0 v0):=by
  refine⟨by simp,fun j Ja e=> ?_,fun j n h2 h3=> ?_⟩
  ·show ∃hr',(σ.af.set i ⟨hr.e,hr.t,hr.k,hr.w,xs'⟩)[j]? =some hr'∧_;rw[ef];by_cases ej:i=j
   ·subst ej;rw[hh] at e;obtain rfl:hr=Ja:=by simpa using e
    exact⟨_,if_pos rfl,⟨rfl,rfl,rfl,rfl⟩,hle⟩
   ·exact⟨Ja,by rw[if_neg ej];exact e,BN.refl _,Nat.le_refl _⟩
  ·by_cases ej:j=i
   ·subst ej;rw[LS hh] at h3;exact hold n h2 h3
   ·exact af5 j n (fun h4=>ej h4.1)
 have af6:∀n,¬E.yq (.hp i n):=fun n ⟨j,_,hr',e,e2⟩=>by
  injection e with e3 e4
  subst e3;obtain⟨h5,h6⟩:=h.ro i hr' e2;rw[hh] at h5;obtain rfl:hr=hr':=by simpa using h5
  rw[hw] at h6;cases h6
 refine h.aiL hE (m0:= .hp i n0) (m1:= .hp i n1) (o0:=(I9 hr.e hr.t hr.k xs'[n0 - 1]?).getD (.box .nil)) ⟨af6 _,af6 _⟩ hg hC hsub (fun m hm0 hm1=> ?_) ?_ ?_ (fun k _ hk=>hblk k (by rw[hu0] at hk;exact hk)) (fun _ h=>h)
  (fun r row hr'=>⟨rfl,row,hr',rfl⟩) (fun b hb=>⟨rfl,hb⟩) rfl rfl (fun j Ja n e h2 h3=> ?_) (fun j Ja e=> ?_) (fun hV hs=> ?_)
 ·cases m with
  |hp j n=>
   by_cases ej:j=i
   ·subst ej;have aql:n≠n0:=fun e=>hm0 (by rw[e]);have asX:n≠n1:=fun e=>hm1 (by rw[e]);refine⟨?_,fun _=>af5 j n (fun h4=>aql h4.2)⟩;cases n with
    |zero=>rfl
    |succ n=>
     simp only[AS.obj];rw[Xb,aoj];have hiff:=Uv n aql asX;cases hx:xs'[n]? with
     |none=>cases hy:hr.xs[n]? with
      |none=>rfl
      |some o=>cases o with
       |none=>rfl
       |some l=>have:=(hiff l).2 hy;rw[hx] at this;cases this
     |some o=>cases o with
      |none=>cases hy:hr.xs[n]? with
       |none=>rfl
       |some o=>cases o with
        |none=>rfl
        |some l=>have:=(hiff l).2 hy;rw[hx] at this;cases this
      |some l=>have:=(hiff l).1 hx;rw[this]
   ·refine⟨?_,fun _=>af5 j n (fun h4=>ej h4.1)⟩;simp only[AS.obj];cases n with
    |zero=>rfl
    |succ n=>simp only[pj,ef,if_neg (Ne.symm ej)]
  |_=>exact⟨rfl,fun _=>rfl⟩
 ·rcases h1 with h1 |h1 |h1
  ·exact .inl (by rw[h1])
  ·subst h1;exact .inr rfl
  ·by_cases hz:n1=0
   ·subst hz;exact .inr rfl
   ·right;simp only[AS.obj];obtain⟨q,rfl⟩:∃q,n1=q+1:=⟨n1 - 1,by omega⟩
    rw[Xb];simp only[Nat.add_sub_cancel] at h1;cases hx:xs'[q]? with
    |none=>rfl
    |some o=>cases o with
     |none=>rfl
     |some l=>exact absurd hx (h1 l)
 ·obtain⟨q,rfl⟩:∃q,n0=q+1:=⟨n0 - 1,by omega⟩
  simp only[AS.obj];rw[Xb];simp only[Nat.add_sub_cancel];cases hx:xs'[q]? with
  |none=>exact .inl rfl
  |some o=>cases o with
   |none=>exact .inl rfl
   |some l=>exact .inr rfl
 ·have e':(σ.af.set i ⟨hr.e,hr.t,hr.k,hr.w,xs'⟩)[j]? =some Ja:=e;rw[ef] at e';by_cases ej:i=j
  ·subst ej;rw[if_pos rfl] at e';obtain rfl:=(Option.some.inj e').symm;by_cases en:n=n0
   ·subst en;rw[hu0];exact hv0
   ·rw[af5 i n (fun h4=>en h4.2)];have h3':n≤xs'.length:=h3;exact h.nn i hr n hh h2 (by rcases hlen with h4 |h4<;>omega)
  ·rw[if_neg ej] at e';rw[af5 j n (fun h4=>ej h4.1.symm)];exact h.nn j Ja n e' h2 h3
 ·show (σ.af.set i ⟨hr.e,hr.t,hr.k,hr.w,xs'⟩)[j]? =some Ja;rw[ef];obtain⟨h2,h3⟩:=h.ro j Ja e;by_cases ej:i=j
  ·subst ej;rw[hh] at h2;obtain rfl:hr=Ja:=by simpa using h2
   rw[hw] at h3;cases h3
  ·rw[if_neg ej];exact h2
 ·rw[hu0];obtain⟨q,rfl⟩:∃q,n0=q+1:=⟨n0 - 1,by omega⟩
  have hs':=hs;simp only[AS.obj] at hs';rw[Xb] at hs';simp only[Nat.add_sub_cancel] at hs' ⊢;cases hx:xs'[q]? with
  |none=>rw[hx] at hs';cases hs'
  |some o=>cases o with
   |none=>rw[hx] at hs';cases hs'
   |some l=>exact cS hV l (by simpa using hx)
end
def yr (V:View):(t:Ty)→t.den→Value→Prop
 | .st t,x,v=>∃cs:List Value,v= .agg cs.toArray∧Rel V t x cs
 |t,x,v=>cg V ⟨t,x⟩ v
theorem yr.mono {V V':View}(h:∀a v,V a v→V' a v){t:Ty}{x:t.den}{v:Value}(hr:yr V t x v):yr V' t x v:=by
 cases t with
 |st t=>obtain⟨cs,h1,h2⟩:=hr;exact⟨cs,h1,Rel.mono h _ _ _ h2⟩
 |_=>exact cg.mono h _ _ hr
theorem yr.cells {V:View}{t:Ty}{x:t.den}{v:Value}(hr:yr V t x v):Rel V t x v.cells.toList:=by
 cases t with
 |st t=>obtain⟨cs,h1,h2⟩:=hr;subst h1;exact h2
 |_=>rw[HM hr];exact hr
section
variable {P:Program}{Tb:dc}{T:List gZ}{E:Env}{σ ah:AS}{a:Act}{w w':World}{ν aN:Nm→Value}{O:Nat→Prop}{Φ:cj Tb}{V:View}{Y:Value}
theorem ES {t:Ty}{c:CV}{x:t.den}(h:(dv t [c]).map (·.1)=some x):c=⟨t,x⟩:=by
 cases hu:dv t [c] with
 |none=>simp[hu] at h
 |some p=>obtain⟨y,r⟩:=p;simp[hu] at h;subst h;have:=cq hu;simp at this;exact this.1
theorem Xh {V V':View}{i:Nat}{t:Ty}{v:Value}(h:cg V ⟨.ref i,(0:Nat)⟩ v):Rel V' (.slice t) ([]:List t.den) [v]:=by have e: [v]=[.slice none 0 0]:=h;rw[e];exact⟨none,0,[],rfl,Nat.le_refl _,trivial,fun _=>rfl,fun j u hj=>by simp at hj⟩
theorem LU:∀{t:Ty} {l:List CV} {x:t.den} {r:List CV} {vs:List Value},snap [] t l=some (x,r)→aF (cg V) l vs→∃v1 v2,vs=v1++v2∧Rel V t x v1∧aF (cg V) r v2
 | .unit,l,x,r,vs,h,hr=>by simp only[snap,Option.some.injEq,Prod.mk.injEq] at h;obtain⟨_,rfl⟩:=h;exact⟨[],vs,rfl,rfl,hr⟩
 | .pair a b,l,x,r,vs,h,hr=>by
   simp only[snap] at h;split at h
   ·rename_i y l' h1;split at h
    ·rename_i z l'' h2;simp only[Option.some.injEq,Prod.mk.injEq] at h;obtain⟨rfl,rfl⟩:=h;obtain⟨v1,v2,rfl,r1,r2⟩:=LU h1 hr;obtain⟨v3,v4,rfl,r3,r4⟩:=LU h2 r2;exact⟨v1++v3,v4,by rw[List.append_assoc],⟨v1,v3,rfl,r1,r3⟩,r4⟩
    ·cases h
   ·cases h
 | .st t,l,x,r,vs,h,hr=>LU (t:=t) h hr
 | .slice t,l,x,r,vs,h,hr=>by
   have leaf:∀{l:List CV} {vs:List Value},dv (.slice t) l=some (x,r)→aF (cg V) l vs→∃v1 v2,vs=v1++v2∧Rel V (.slice t) x v1∧aF (cg V) r v2:=fun {l vs} h hr=>by
    rw[cq h] at hr;cases vs with
    |nil=>exact hr.elim
    |cons v vs=>exact⟨[v],vs,rfl,hr.1,hr.2⟩
   simp only[snap] at h;unfold HO at h;split at h
   ·rename_i i n l';cases vs with
    |nil=>exact hr.elim
    |cons v vs=>
     cases hb:Nat.beq n 0 with
     |false=>rw[hb] at h;simp at h
     |true=>rw[hb,cond_true] at h;simp only[Option.some.injEq,Prod.mk.injEq] at h;obtain⟨rfl,rfl⟩:=h;have:=(beq_iff _ _).1 hb;subst this;exact⟨[v],vs,rfl,Xh hr.1,hr.2⟩
   ·rename_i t' o l';cases vs with
    |nil=>exact hr.elim
    |cons v vs=>simp only[Option.map_eq_some_iff,Prod.mk.injEq] at h;obtain⟨⟨y,r'⟩,h1,h2,h3⟩:=h;simp only at h2 h3;subst h2 h3;have he:=cq h1;simp only[List.cons.injEq] at he;have h4:cg V ⟨.slice t',lst o⟩ v:=Uk hr.1;rw[he.1] at h4;exact⟨[v],vs,rfl,h4,hr.2⟩
   ·exact leaf h hr
 | .qG t,l,x,r,vs,h,hr=>by
   have leaf:∀{l:List CV} {vs:List Value},dv (.qG t) l=some (x,r)→aF (cg V) l vs→∃v1 v2,vs=v1++v2∧Rel V (.qG t) x v1∧aF (cg V) r v2:=fun {l vs} h hr=>by
    rw[cq h] at hr;cases vs with
    |nil=>exact hr.elim
    |cons v vs=>exact⟨[v],vs,rfl,hr.1,hr.2⟩
   simp only[snap] at h;unfold YA at h;split at h
   ·rename_i t' xs l';cases vs with
    |nil=>exact hr.elim
    |cons v vs=>
     cases xs with
     |nil=>cases h
     |cons x0 xs=>
      simp only[Option.map_eq_some_iff,Prod.mk.injEq] at h;obtain⟨⟨y,r'⟩,h1,h2,h3⟩:=h;simp only at h2 h3;subst h2 h3;have he:=cq h1;simp only[List.cons.injEq] at he;obtain⟨A,c,bG,e1,e2,e3,e4,e5⟩:=rX hr.1;have h4:cg V ⟨.qG t',(some (x0::xs):Option (List t'.den))⟩ v:=by
       cases A with
       |none=>have:=e4 rfl;simp at e2;omega
       |some ad=>
        refine⟨ad,c,bG,by rw[e1],e2,e3,fun j u hj=> ?_⟩;obtain⟨Q3,h5,h6⟩:=e5 j u hj;obtain rfl:ad=Q3:=by simpa using h5
        exact h6
      rw[he.1] at h4;exact⟨[v],vs,rfl,h4,hr.2⟩
   ·exact leaf h hr
 | .int k,l,x,r,vs,h,hr=>by
   simp only[snap] at h;rw[cq h] at hr;cases vs with
   |nil=>exact hr.elim
   |cons v vs=>exact⟨[v],vs,rfl,hr.1,hr.2⟩
 | .bool,l,x,r,vs,h,hr=>by
   simp only[snap] at h;rw[cq h] at hr;cases vs with
   |nil=>exact hr.elim
   |cons v vs=>exact⟨[v],vs,rfl,hr.1,hr.2⟩
 | .str,l,x,r,vs,h,hr=>by
   simp only[snap] at h;rw[cq h] at hr;cases vs with
   |nil=>exact hr.elim
   |cons v vs=>exact⟨[v],vs,rfl,hr.1,hr.2⟩
 | .ref k,l,x,r,vs,h,hr=>by
   have leaf:∀{l:List CV} {vs:List Value},dv (.ref k) l=some (x,r)→aF (cg V) l vs→∃v1 v2,vs=v1++v2∧Rel V (.ref k) x v1∧aF (cg V) r v2:=fun {l vs} h hr=>by
    rw[cq h] at hr;cases vs with
    |nil=>exact hr.elim
    |cons v vs=>exact⟨[v],vs,rfl,hr.1,hr.2⟩
   simp only[snap] at h;unfold YB at h;split at h
   ·rename_i h' n l';cases hc:Nat.beq k h' with
    |true=>rw[hc,cond_true] at h;exact leaf h hr
    |false=>
    rw[hc,cond_false] at h;cases hb:Nat.beq n 0 with
    |false=>rw[hb] at h;cases h
    |true=>
     rw[hb] at h;have e1:some ((0:Nat),l')=some (x,r):=h;simp only[Option.some.injEq,Prod.mk.injEq] at e1;obtain⟨rfl,rfl⟩:=e1;obtain rfl:n=0:=Nat.eq_of_beq_eq_true hb;cases vs with
     |nil=>exact hr.elim
     |cons v vs=>exact⟨[v],vs,rfl,(show [v]=[Value.slice none 0 0] from hr.1),hr.2⟩
   ·exact leaf h hr
 | .ptr k,l,x,r,vs,h,hr=>by
   simp only[snap] at h;rw[cq h] at hr;cases vs with
   |nil=>exact hr.elim
   |cons v vs=>exact⟨[v],vs,rfl,hr.1,hr.2⟩
 | .mp k,l,x,r,vs,h,hr=>by
   simp only[snap] at h;rw[cq h] at hr;cases vs with
   |nil=>exact hr.elim
   |cons v vs=>exact⟨[v],vs,rfl,hr.1,hr.2⟩
 | .fn,l,x,r,vs,h,hr=>by
   simp only[snap] at h;rw[cq h] at hr;cases vs with
   |nil=>exact hr.elim
   |cons v vs=>exact⟨[v],vs,rfl,hr.1,hr.2⟩
theorem HZ {t:Ty}{l:List CV}{x:t.den}{vs:List Value}(h:wO [] t l=some x)(hr:aF (cg V) l vs):Rel V t x vs:=by
 unfold wO at h;split at h
 ·rename_i y h1;simp only[Option.some.injEq] at h;subst h;obtain⟨v1,v2,rfl,h2,h3⟩:=LU h1 hr;cases v2 with
  |nil=>simpa using h2
  |cons _ _=>exact h3.elim
 ·cases h
theorem Ia {t:Ty}{av:AV}{x:t.den}{v:Value}(h:typed [] t av=some x)(hr:ak V σ ν Y av v):yr V t x v:=by
 have anr:∀{t:Ty} {x:t.den},(∀u,t≠ .st u)→Rel V t x [v]→yr V t x v:=fun {t x} hn h1=>by
  cases t with
  |st u=>exact absurd rfl (hn u)
  |_=>exact h1
 unfold typed at h;split at h
 ·rename_i cs;obtain⟨vs,h1,h2⟩:=hr;have:=HZ h h2;exact⟨vs,h1,this⟩
 ·rename_i t vs;split at h
  ·rename_i cs hl;obtain⟨l1,h1,h2⟩:=jP (V:=V) hl;refine⟨vs.toList, ?_,jL ?_⟩
   ·have:v= .agg vs:=hr;simpa using this
   ·rw[←rT h,h1,List.append_nil];exact h2
  ·cases h
 ·cases h
 ·rename_i c hn;exact anr (fun u e=>by subst e;exact hn u rfl) (HZ h (vs:=[v]) ⟨hr,trivial⟩)
 ·rename_i v' hn1 hn2;split at h
  ·rename_i c hl;obtain⟨l1,h1,h2⟩:=jP (V:=V) hl;have h3:v=v':=hr;rw[List.append_nil] at h1;subst h1;subst h3;have:=ES h;subst this;exact anr (fun u e=>by subst e;exact hn2 u rfl) h2.1
  ·cases h
 ·cases h
theorem Q5 {t:Ty}{av:AV}{cs:List CV}{v:Value}(h:cells t av=some cs)(hr:ak V σ ν Y av v):aF (cg V) cs v.cells.toList:=by
 unfold cells at h;split at h
 ·simp only[Option.some.injEq] at h;subst h;rw[HM hr];exact⟨hr,trivial⟩
 ·simp only[Option.some.injEq] at h;subst h;obtain⟨vs,h1,h2⟩:=hr;subst h1;exact h2
 ·split at h
  ·rename_i v' cs' hl;simp only[Option.some.injEq] at h;subst h;obtain⟨l1,h1,h2⟩:=jP (V:=V) hl;have h3:v=_:=hr;rw[h3,h1,List.append_nil];exact h2
  ·cases h
 ·cases h
theorem ET (r k:Nat):look (σ.freeze r).rows k=if r=k then none else look σ.rows k:=by
 unfold AS.freeze;cases hr:look σ.rows r with
 |none=>by_cases h:r=k
        ·subst h;simp[hr]
        ·simp[h]
 |some row=>exact CX _ _ _
def FW (r:Option Nat):Fence:={Fence.wide with round:=r}
def mv (P:Program)(o:Oper)(a:Act)(w:World)(K:Act→World→Prop):Prop:=
 ∀(r:Option Nat) (next:Act→World→Prop) (Q:Exit→Act→World→Prop),(∀a' w',K a' w'→next a' w')→o.wpIn (FW r) 0 P a w next Q
theorem cM {o:Oper}{K:Act→World→Prop}{v:Value}(hd:∀c,o.op≠ .defer c)(h:(execOp a.eval o).run P w= .ok (.value v) w')(hK:K (a.put o.dst v) w'):mv P o a w K:=fun r next Q hn=>by refine⟨fun _ _=>trivial, ?_⟩;rw[Oper.semAt_eq _ _ _ hd,h];exact hn _ _ hK
theorem Xi {o:Oper}{K:Act→World→Prop}(hd:∀c,o.op≠ .defer c)(h:(execOp a.eval o).run P w= .ok .skip w')(hK:K (a.put o.dst undef) w'):mv P o a w K:=fun r next Q hn=>by refine⟨fun _ _=>trivial, ?_⟩;rw[Oper.semAt_eq _ _ _ hd,h];exact hn _ _ hK
def To (E:Env)(ah:AS)(a':Act)(w':World):Prop:=∃aN O',St E ah a' w' aN O'
def bo (σ:AS)(d:Option Tmp)(r:cP):AS:=match r.2 with
 | .nu us=>(σ.app us).jX d r.1
 | .set ah=>ah.jX d r.1
theorem Xj {o:Oper}(hE:aI E)(hd:∀c,o.op≠ .defer c)(h:St E σ a w ν O){r:cP}(hr:r.2= .nu []){v:Value}(h1:(execOp a.eval o).run P w= .ok (.value v) w')(hb:Below w.heap.size w w')
  (h2:ak (view E σ ν O w') σ ν E.Y r.1 v):mv P o a w (To E (bo σ o.dst r)):=by
 refine cM hd h1 ⟨ν,O, ?_⟩;unfold bo;rw[hr];exact(h.grow hE hb).slot h2
theorem cN {o:Oper}(hE:aI E)(hd:∀c,o.op≠ .defer c)(h:St E σ a w ν O){r:cP}(hr:r.2= .nu []){v:Value}(h1:(execOp a.eval o).run P w= .ok (.value v) w)
  (h2:ak (view E σ ν O w) σ ν E.Y r.1 v):mv P o a w (To E (bo σ o.dst r)):=Xj hE hd h hr h1 (Below.refl _ _) h2
theorem Uw {V:View}{r:gZ}(hr:TOk P T r):∃i z,P.info? r.id=some i∧i.size=r.ty.size∧i.bytes=r.bytes∧i.zero=some z∧Rel V r.ty r.ty.zero z.cells.toList:=by obtain⟨i,z,h1,h2,h3,h4,h5,_⟩:=hr.info;exact⟨i,z,h1,h2,h3,h4,h5 V⟩
theorem wU {P:Program}{T:List gZ}{t:TypeId}{u:Ty}{e:TypeId}{bytes:Nat}(hT:jO P T)(h:iK T t=some (u,e,bytes)):
  ∃re,P.underlying t=some (.slice e)∧TOk P T re∧re.id=e∧re.ty=u∧re.bytes=bytes∧0<bytes:=by
 unfold iK at h;split at h
 ·rename_i r hr;obtain⟨rfl,hr'⟩:=hT t r hr;split at h
  ·rename_i u' rK;split at h
   ·rename_i re Ts;cases hb:Nat.blt 0 re.bytes with
    |false=>simp[hb] at h
    |true=>
     simp only[hb,cond_true,Option.some.injEq,Prod.mk.injEq] at h;obtain⟨rfl,rfl,rfl⟩:=h;obtain⟨h1,re',h2,h3,h4⟩:=TR hT hr' rK;have hd:=hr'.desc;rw[rK] at hd;obtain⟨_,re2,h5,h6⟩:=hd;rw[Ts] at h5;obtain rfl:re=re2:=by simpa using h5
     obtain⟨h7,h8⟩:=hT _ re Ts;exact⟨re,h1,h8,h7,h6,rfl,Nat.le_of_ble_eq_true hb⟩
   ·cases h
  ·cases h
 ·cases h
theorem NZ (s:Option Site)(u:Ty):(Nc s u).size=u.size:=by unfold Nc;split<;>rfl
theorem aaG {r:gZ}(hr:TOk P T r)(s:Option Site):∃i z,P.info? r.id=some i∧i.size=r.ty.size∧i.bytes=r.bytes∧i.zero=some z∧∀V,Rel V (Nc s r.ty) (Nc s r.ty).zero z.cells.toList:=by
 obtain⟨i,z,h1,h2,h3,h4,h5,_,h6⟩:=hr.info;refine⟨i,z,h1,h2,h3,h4,fun V=> ?_⟩;cases rK:r.ty with
 |slice v=>
  have hz:=h6 v rK;have h7:=h5 V;rw[rK] at h7;cases s with
  |none=>exact h7
  |some s=>cases s with
   |qG=>subst hz;show (Value.slice none 0 0).cells.toList=_;rfl
   |_=>exact h7
 |_=>
  have h7:=h5 V;rw[rK] at h7;cases s with
  |none=>exact h7
  |some s=>cases s<;>exact h7
end
section
variable {P:Program}{T:dc}{E:Env}{σ ah:AS}{a:Act}{w w':World}{ν aN:Nm→Value}{O:Nat→Prop}{Φ:cj T}{V:View}{Y:Value}
theorem oA (hE:aI E)(hG:NX E)(hT:jO P T.rows)(hQ:aiB P T)(h:St E σ a w ν O){o:Oper}{r:cP}
  (hop:(∃x,o.op= .move x)∨(∃c x y,o.op= .pick c x y)∨(∃x,o.op= .nilCheck x)∨(∃t x,o.op= .load t x)∨(∃b t x y u,o.op= .binOp b t x y u)∨(∃b t x,o.op= .unOp b t x)∨(∃s d x,o.op= .convert s d x)∨
   (∃s x f,o.op= .fieldAddr s x f)∨(∃t x i,o.op= .indexAddr t x i)∨(∃t x i,o.op= .index t x i)∨(∃x i,o.op= .extract x i))
  (he:(EN T σ.av σ.sites o).val Φ σ=some r):mv P o a w (To E (bo σ o.dst r)):=by
 have rL:=h.av hG;unfold EN at he;rcases hop with ⟨x,ho⟩ | ⟨c,x,y,ho⟩ | ⟨x,ho⟩ | ⟨t,x,ho⟩ | ⟨b,t,x,y,u,ho⟩ | ⟨b,t,x,ho⟩ | ⟨s,d,x,ho⟩ | ⟨s,x,f,ho⟩ | ⟨t,x,i,ho⟩ | ⟨t,x,i,ho⟩ | ⟨x,i,ho⟩<;>simp only[ho] at he
 ·obtain⟨h1,h2⟩:=Q2 (rL x) he;exact cN hE (by rw[ho];intro c e;cases e) h h1 (v:=a.eval x) (by simp[execOp,ho]) h2
 ·split at he
  ·rename_i t hc;have TS:=rL c;rw[hc] at TS;have ec:=Pu TS rfl;rw[Ps,iJ,iJ] at he;rcases he with ⟨rfl,rfl⟩ | ⟨rfl,rfl⟩
   ·exact cN hE (by rw[ho];intro c e;cases e) h rfl (v:=a.eval x) (by simp[execOp,ho,ec,asBool]) (rL x)
   ·exact cN hE (by rw[ho];intro c e;cases e) h rfl (v:=a.eval y) (by simp[execOp,ho,ec,asBool]) (rL y)
  ·cases he
 ·obtain⟨h1,⟨ad,h2⟩,h3⟩:=YM h (rL x) he;exact cN hE (by rw[ho];intro c e;cases e) h h1 (v:=a.eval x) (by simp[execOp,ho,h2]) h3
 ·obtain⟨h1,v,h2,h3⟩:=aiz (P:=P) hE hT h (rL x) he;exact cN hE (by rw[ho];intro c e;cases e) h h1 (v:=v) (by simp[execOp,ho,h2]) h3
 ·have done:∀v,(do eqGuard b t x y (a.eval x) (a.eval y);binOp b t (a.eval x) (a.eval y):Sem Value).run P w= .ok v w→(execOp a.eval o).run P w= .ok (.value v) w:=fun v hv=>by simp only[execOp,ho,Sem.run_bind,Sem.run_pure] at hv ⊢;rw[hv];rfl
  have fin:(r.2= .nu []∧∃z,(do eqGuard b t x y (a.eval x) (a.eval y);binOp b t (a.eval x) (a.eval y):Sem Value).run P w= .ok z w∧ak (view E σ ν O w) σ ν E.Y r.1 z)→mv P o a w (To E (bo σ o.dst r)):=
   fun⟨h1,z,h2,h3⟩=>cN hE (by rw[ho];intro c e;cases e) h h1 (done z h2) h3
  split at he
  ·rename_i tr hr;obtain⟨rfl,htr⟩:=hT t tr hr;have hd:=htr.desc;split at he
   ·rename_i rK;rw[rK] at hd;exact fin (aiC x y hd (rL x) (rL y) he)
   ·exact fin (aaA x y (rL x) (rL y) he)
   ·exact fin (aaA x y (rL x) (rL y) he)
   ·rename_i ut rK;rw[aD] at he;obtain⟨hq,he⟩:=he;unfold aim at he;split at he
    ·rename_i p q hp hq';rw[aD] at he;obtain⟨_,he⟩:=he;obtain⟨vs,ev,rv⟩:=Ia (t:= .st ut) hp (rL x);obtain⟨us,eu,ru⟩:=Ia (t:= .st ut) hq' (rL y);have hg:=fun op=>(hQ tr.id hq tr ut hr rK (view E σ ν O w) p q vs us w op x y rv ru).1;have hb:=(hQ tr.id hq tr ut hr rK (view E σ ν O w) p q vs us w .eql x y rv ru).2;refine fin ?_;rw[ev,eu];exact Um x y hg hb (by rfl) (by rfl) he
    ·cases he
   ·exact fin (aiD hT htr x y (rL x) (rL y) he)
  ·cases he
 ·obtain⟨h1,v,h2,h3⟩:=aoe (P:=P) (w:=w) (rL x) he;exact cN hE (by rw[ho];intro c e;cases e) h h1 (v:=v) (by simp[execOp,ho,h2]) h3
 ·obtain⟨h1,v,w',h2,hb,h3⟩:=af2 (P:=P) hE hT h (rL x) he;exact Xj hE (by rw[ho];intro c e;cases e) h h1 (v:=v) (by simp[execOp,ho,h2]) hb h3
 ·obtain⟨h1,v,h2,h3⟩:=ac5 (P:=P) hT h (rL x) he;exact cN hE (by rw[ho];intro c e;cases e) h h1 (v:=v) (by simp[execOp,ho,h2]) h3
 ·obtain⟨h1,v,h2,h3⟩:=ac6 (P:=P) hT h (rL x) (rL i) he;exact cN hE (by rw[ho];intro c e;cases e) h h1 (v:=v) (by simp[execOp,ho,h2]) h3
 ·obtain⟨h1,v,h2,h3⟩:=af3 (P:=P) (w:=w) hT (rL x) (rL i) he;exact cN hE (by rw[ho];intro c e;cases e) h h1 (v:=v) (by simp[execOp,ho,h2]) h3
 ·split at he
  ·rename_i l hx;have ex:=rL x;rw[hx] at ex;obtain⟨vs,ex,hvs⟩:=ex;rw[po] at he;obtain⟨y,hy,he⟩:=he;rw[iJ] at he;subst he;obtain⟨u,hu,hr⟩:=hvs.get i y hy;exact cN hE (by rw[ho];intro c e;cases e) h rfl (v:=u) (by simp[execOp,ho,ex,Instr.extract,hu]) hr
  ·cases he
theorem aok (hE:aI E)(hG:NX E)(hT:jO P T.rows)(h:St E σ a w ν O){o:Oper}{r:cP}{args:Array Operand}{ats:Array TypeId}(ho:o.op= .call {callee:= .builtin .len,args:=args,argTypes:=ats})
  (he:(EN T σ.av σ.sites o).val Φ σ=some r):mv P o a w (To E (bo σ o.dst r)):=by
 unfold EN at he;simp only[ho] at he;split at he
 ·rename_i x t hx ht;have hx':args= #[x]:=by cases args;simp at hx;subst hx;rfl
  have ht':ats= #[t]:=by cases ats;simp at ht;subst ht;rfl
  subst hx' ht';split at he
  ·rename_i tr hr;obtain⟨rfl,htr⟩:=hT t tr hr;obtain⟨h1,v,h2,h3⟩:=aiE (P:=P) hT htr h (h.av hG x) o.type he;exact cN hE (by rw[ho];intro c e;cases e) h h1 (v:=v) (by simp[execOp,ho,resolve,invoke,builtin,h2]) h3
  ·cases he
 ·cases he
theorem Xk (hE:aI E)(hG:NX E)(h:St E σ a w ν O){o:Oper}{r:cP}{b:Builtin}{args:Array Operand}{ats:Array TypeId}(hb:b= .max∨b= .min)(ho:o.op= .call {callee:= .builtin b,args:=args,argTypes:=ats})
  (he:(EN T σ.av σ.sites o).val Φ σ=some r):mv P o a w (To E (bo σ o.dst r)):=by
 unfold EN at he;have rL:=h.av hG;rcases hb with rfl |rfl<;>simp only[ho] at he
 all_goals
  split at he
  ·rename_i x y hx;have hx':args= #[x,y]:=by cases args;simp at hx;subst hx;rfl
   subst hx';split at he
   ·rename_i i n j m e1 e2;have hx:=rL x;rw[e1] at hx;have hy:=rL y;rw[e2] at hy;have ex:=zd hx rfl;have ey:=zd hy rfl;rw[df] at he;subst he;refine cN hE (by rw[ho];intro c e;cases e) h rfl (v:= .int i _) ?_ ze;simp[execOp,ho,resolve,invoke,builtin,Builtin.max_,Builtin.max2,Builtin.min_,Builtin.min2,ex,ey]
   ·cases he
  ·cases he
end
section
variable {P:Program}{T:dc}{E:Env}{σ ah:AS}{a:Act}{w w':World}{ν aN:Nm→Value}{O:Nat→Prop}{Φ:cj T}{V:View}{Y:Value}
theorem Ib {w:World}{B:Nat}{e:TypeId}{n:Nat}:w.ownsRow B e n (.slice none 0 0) 0 []:=World.ownsRow_nil w B e n
theorem PA (r b:Nat):(look (σ.freeze r).boxes b).isSome=(look σ.boxes b).isSome:=by
 unfold AS.freeze;cases look σ.rows r with
 |none=>rfl
 |some row=>show (look (J3 _ _) b).isSome=_;rw[i7,Option.isSome_map]
theorem St.renamed (hE:aI E)(h:St E σ a w ν O){r d:Nat}(hr:(look σ.rows r).isSome=true)(hne:r≠d):
  ∃aN,St E ((σ.freeze d).rename r d) a w aN O∧(∀m,(∀k,m≠ .row k)→aN m=ν m)∧aN (.row d)=ν (.row r)∧(look ((σ.freeze d).rename r d).rows d).isSome=true:=by
 have h1:=h.freeze hE d;obtain⟨aN,h2,h3,h4⟩:=h1.rename hE (r:=r) (d:=d) (by rw[ET,if_pos rfl]);obtain⟨h5,h6⟩:=h4 (by rw[ET,if_neg (Ne.symm hne)];exact hr);exact⟨aN,h2,h3,h5,h6⟩
theorem St.aiO (hE:aI E)(h:St E σ a w ν O)(d:Nat)(u:Ty)(e:TypeId):
  St E {(σ.freeze d) with rows:=put (σ.freeze d).rows d ⟨e,u,[]⟩} a w (uY ν d (.slice none 0 0)) O:=
 (h.freeze hE d).newRow hE (by rw[ET,if_pos rfl]) (Below.refl _ _) (fun k hk=>by cases hk) (fun _=>⟨[],Ib,trivial⟩)
theorem af7 (hE:aI E)(hG:NX E)(hT:jO P T.rows)(h:St E σ a w ν O){o:Oper}{r:cP}{x:Operand}(ho:o.op= .assign x)
  (he:(EN T σ.av σ.sites o).val Φ σ=some r):mv P o a w (To E (bo σ o.dst r)):=by
 have hrun:(execOp a.eval o).run P w= .ok (.value (a.eval x)) w:=by simp[execOp,ho]
 have hd:∀c,o.op≠ .defer c:=by rw[ho];intro c e;cases e
 have hx:=h.av hG x;unfold EN at he;simp only[ho] at he;split at he
 ·rename_i q d hq Q6;rw[hq] at hx;rw[nY,iL] at he;subst he;refine cM hd hrun ?_;simp only[bo,Q6];cases hb:Nat.beq q d with
  |true=>have:=(beq_iff _ _).1 hb;subst this;exact⟨ν,O,h.slot hx⟩
  |false=>obtain⟨aN,h2,_,h3,h4⟩:=h.renamed hE hx.2 (tB.1 hb);exact⟨aN,O,h2.slot ⟨by rw[h3];exact hx.1,h4⟩⟩
 ·rename_i d hl Q6;rw[hl] at hx;split at he
  ·rename_i h0 hh0;rw[iJ] at he;subst he;refine cN hE hd h rfl hrun ?_;have hx':a.eval x= .slice none 0 0:=hx;rw[hx'];exact(rfl: [Value.slice none 0 0]=[.slice none 0 0])
  split at he
  ·rename_i u e b hel;rw[nY,iL] at he;subst he;refine cM hd hrun ?_;simp only[bo,Q6];refine⟨_,O,(h.aiO hE d u e).slot ⟨?_, ?_⟩⟩
   ·rw[oz];exact hx
   ·show (look (put _ _ _) _).isSome=true;rw[aH,if_pos rfl];rfl
  ·obtain⟨h1,h2⟩:=Q2 hx he;exact cN hE hd h h1 hrun h2
 ·obtain⟨h1,h2⟩:=Q2 (Ul hx) he;exact cN hE hd h h1 hrun h2
theorem C4 {n:Nat}:∀{bG:List (List Value)} (i:Nat) (ys vs:List Value) (off:Nat),(∀l∈bG,l.length=n)→bG[i]? =some ys→off+vs.length≤n→
  (bG.set i (ys.take off++vs++ys.drop (off+vs.length))).flatten=bG.flatten.take (i*n+off)++vs++bG.flatten.drop (i*n+off+vs.length)
 | [],i,ys,vs,off,_,h,_=>by simp at h
 |l::bG,0,ys,vs,off,hl,h,hle=>by
  simp at h;subst h;have h1:=hl l (by simp);have e1:off - l.length=0:=by omega
  have e2:off+vs.length - l.length=0:=by omega
  simp[List.take_append,List.drop_append,e1,e2]
 |l::bG,i+1,ys,vs,off,hl,h,hle=>by
  have h1:=hl l (by simp);have ih:=C4 (bG:=bG) i ys vs off (fun l hl'=>hl l (by simp[hl'])) (by simpa using h) hle;have e1:(i+1)*n+off - l.length=i*n+off:=by rw[Nat.succ_mul];omega
  have e2:(i+1)*n+off+vs.length - l.length=i*n+off+vs.length:=by rw[Nat.succ_mul];omega
  have e3:List.take ((i+1)*n+off) l=l:=List.take_of_length_le (by rw[Nat.succ_mul];omega);have e4:List.drop ((i+1)*n+off+vs.length) l=[]:=List.drop_eq_nil_of_le (by rw[Nat.succ_mul];omega);simp only[List.append_assoc] at ih;simp[List.take_append,List.drop_append,e1,e2,e3,e4,ih]
theorem Ic {V:View}{t:Ty}:∀{xs:List t.den} {bG:List (List Value)},aF (Rel V t) xs bG→∀l∈bG,l.length=t.size
 | [],[],_,l,h=>by simp at h
 |x::xs,y::bG,h,l,hl=>by
  rcases List.mem_cons.1 hl with rfl |hl
  ·exact Rel.length h.1
  ·exact Ic h.2 l hl
 | [],_::_,h,_,_=>h.elim
 |_::_,[],h,_,_=>h.elim
theorem Xl {t:Ty}{y y':t.den}{off:Nat}{vs:List CV}{ys us:List Value}(h:aeB t y off vs=some y')(hy:Rel V t y ys)(hv:aF (cg V) vs us):
  Rel V t y' (ys.take off++us++ys.drop (off+us.length)):=by
 have hl:=hv.length;refine HZ h ?_;rw[HP,hl];exact(((jK hy).take off).append hv).append ((jK hy).drop _)
theorem af8 {vs:List CV}{us:List Value}(h:aF (cg V) vs us):∀u∈us,u.oneCell'=true:=fun u hu=>by obtain⟨j,hj⟩:=List.getElem?_of_mem hu;obtain⟨c,_,hc⟩:=h.get' j u hj;exact T8 hc
theorem GI (hT:jO P T.rows){tr:gZ}(hr:TOk P T.rows tr){u v:Value}{vs:List CV}(hv:aF (cg V) vs v.cells.toList)(hl:vs.length=tr.ty.size){g off:Nat}{cur:Array Value}{e:TypeId}
  (hu:u= .pointer (some ⟨g,off,none⟩)) (hg:w.heap[g]? =some (.cells cur e (0,0))) (hle:off+vs.length≤cur.size):
  (Instr.storeAt tr.id u v).run P w= .ok () (w.setRow g (cur.toList.take off++v.cells.toList++cur.toList.drop (off+vs.length)).toArray):=by
 have hlen:v.cells.toList.length=vs.length:=hv.length.symm;have aaH:v.cells.size=vs.length:=by simpa using hlen
 have hst:=run_storeCells_at P g off e v.cells.toList 0 cur w hg (by rw[hlen];simpa using hle) (af8 hv);rw[hlen] at hst;simp only[Nat.add_zero] at hst;simp[Instr.storeAt,hu,Instr.sureAddr,storeVar,C2 hr,aaH,hl,hst]
theorem aeL {t:Ty}{xs:List t.den}{i:Nat}{z z':t.den}{n cap:Nat}{e:TypeId}{off:Nat}{vs:List CV}{us:List Value}{g:Nat}{cur:Array Value}{V':View}{bG:List (List Value)}
  (hV:∀a v,V a v→V' a v) (hl:bG.flatten.length=xs.length*t.size) (hcap:xs.length≤cap) (asY:cap≤maxLen) (hcs:cur.size=cap*t.size) (Jc:cur.toList.take (xs.length*t.size)=bG.flatten) (hg:w.heap[g]? =some (.cells cur e (0,0)))
  (hall:aF (Rel V t) xs bG) (hz:xs[i]? =some z) (hf:aeB t z off vs=some z') (hv:aF (cg V) vs us) (hle:off+vs.length≤t.size):
  off+i*t.size+vs.length≤cur.size∧∃Ux,(w.setRow g (cur.toList.take (i*t.size+off)++us++cur.toList.drop (i*t.size+off+vs.length)).toArray).ownsRow 0 e t.size (.slice (some ⟨g,0,none⟩) (xs.set i z').length cap) (xs.set i z').length Ux.flatten∧aF (Rel V' t) (xs.set i z') Ux:=by
 have hlen:=hv.length;obtain⟨ys,hy1,hy2,hy3⟩:=C1 hall i z hz;have hilt:i<xs.length:=(List.getElem?_eq_some_iff.1 hz).1;have hmul:i*t.size+t.size≤xs.length*t.size:=by rw[←Nat.succ_mul];exact Nat.mul_le_mul_right _ hilt
 have auQ:xs.length*t.size≤cur.size:=by rw[hcs];exact Nat.mul_le_mul_right _ hcap
 have GG:=setRow_heap w g cur (cur.toList.take (i*t.size+off)++us++cur.toList.drop (i*t.size+off+vs.length)).toArray e (0,0) hg;have hsp:=C4 (bG:=bG) i ys us off (Ic hall) hy1 (by rw[←hlen];exact hle);have aqm:=Xl hf hy2 hv;refine⟨by omega,bG.set i (ys.take off++us++ys.drop (off+us.length)),⟨?_, .inr ⟨g,cap,_,by simp,Nat.zero_le _,GG,by simpa using hcap,asY, ?_, ?_⟩⟩,(hall.mono (Rel.mono hV _)).set (Rel.mono hV _ _ _ aqm)⟩
 ·rw[hsp];simp[hl, ←hlen];omega
 ·simp[←hlen];omega
 ·rw[hsp, ←Jc];simp only[List.length_set];have e5:i*t.size+off≤xs.length*t.size:=by omega
  rw[List.take_append,List.take_append,List.take_take,List.take_take];rw[Nat.min_eq_right e5,Nat.min_eq_left e5];rw[List.drop_take]
  congr 1
  ·congr 1
   rw[List.take_of_length_le];simp[←hlen];omega
  ·rw[←hlen]
   congr 1
   simp[←hlen];omega
end
section
variable {P:Program}{T:dc}{E:Env}{σ ah:AS}{a:Act}{w w':World}{ν aN:Nm→Value}{O:Nat→Prop}{Φ:cj T}{V:View}{Y:Value}
theorem sX {C:Nat→Prop}{w:World}{g:Nat}{cs:Array Value}(hg:C g):Grow C w (w.setRow g cs):=
 ⟨rfl,rfl,rfl,by simp,fun k _ hk=>setRow_other w g k _ (fun e=>hk (e ▸ hg))⟩
theorem aiP {α:Type}{xs:List (Option (List α))}{n:Nat}{l l':List α}(hn:1≤n)(hle:n≤xs.length)(h:(ef xs n l)[n - 1]? =some (some l')):l'=l:=by
 cases n with
 |zero=>omega
 |succ m=>simp only[ef,Nat.add_sub_cancel] at h;rw[List.getElem?_set_self (by omega)] at h;simpa using h.symm
theorem ac9 {α:Type}{xs:List (Option (List α))}{n m:Nat}{l:List α}(h:m+1≠n):(ef xs n l)[m]? =xs[m]? :=by
 cases n with
 |zero=>rfl
 |succ k=>simp only[ef];rw[List.getElem?_set_ne (by omega)]
theorem aaI {α:Type}{xs:List (Option (List α))}{n:Nat}{l:List α}:(ef xs n l).length=xs.length:=by
 cases n with
 |zero=>rfl
 |succ k=>simp[ef]
theorem St.aiQ (hE:aI E)(h:St E σ a w ν O){i n g:Nat}{hr:aQ}{l l':List hr.t.den}(hh:σ.af[i]? =some hr)(hw:hr.w=true)(hn:1≤n)(hl:ag hr.xs n=some l)(hg:dw (ν (.hp i n))=some g)(hgr:Grow (fun k=>k=g) w w')
  (cS:∀V',(∀key v,view E σ ν O w key v→V' key v)→BM V' w' hr.k (ν (.hp i n)) ⟨hr.e,hr.t,l'⟩):
  St E {σ with af:=σ.af.set i ⟨hr.e,hr.t,hr.k,hr.w,ef hr.xs n l'⟩} a w' (Pz ν i n (ν (.hp i n))) O:=by
 have hle:=LR hl;have hob:(σ.obj (.hp i n)).isSome=true:=br (ac2 hh hn hl);refine h.anq hE (n0:=n) (n1:=n) (C:=fun k=>dw (ν (.hp i n))=some k) hh hw hn (.inr ⟨aaI,rfl⟩) (fun m h1 _ l=>by rw[ac9 h1]) (.inl rfl) (fun k hk=>⟨hob,hk⟩) (hgr.mono (fun k _ e=>by rw[e];exact hg)) (fun k hk=> .inl ⟨hob,hk⟩) (h.nn i hr n hh hn hle) (fun hV l2 h2=> ?_);have:=aiP hn hle h2;subst this;exact cS _ hV
theorem aeM (hE:aI E)(hT:jO P T.rows)(h:St E σ a w ν O){tr:gZ}(htr:TOk P T.rows tr){i n j off g:Nat}{hr:aQ}{u v:Value}{vs:List CV}(hh:σ.af[i]? =some hr)(hn:1≤n)(hg:dw (ν (.hp i n))=some g)
  (hu:u= .pointer (some ⟨g,j*hr.t.size+off,none⟩)) (hv:aF (cg (view E σ ν O w)) vs v.cells.toList) (hl:vs.length=tr.ty.size) {r:cP} (he:(QV (T:=T) i n j off vs).val Φ σ=some r):
  ∃us w',r=(.nil, .nu us)∧(Instr.storeAt tr.id u v).run P w= .ok () w'∧∃aN,St E (σ.app us) a w' aN O:=by
 unfold QV at he;rw[gG] at he;obtain⟨hr',e1,he⟩:=he;rw[hh] at e1;obtain rfl:hr=hr':=by simpa using e1
 rw[cE] at he;obtain⟨l,hl1,he⟩:=he;rw[cE] at he;obtain⟨y,hy,he⟩:=he;rw[cE] at he;obtain⟨y',hf,he⟩:=he;rw[aD,iL] at he;obtain⟨hb,he⟩:=he;simp only[Bool.and_eq_true] at hb;obtain⟨hw,hle⟩:=hb;have hle:=Nat.le_of_ble_eq_true hle;subst he;have cS:=h.hp hh hn hl1;obtain⟨k,hk⟩:∃k,hr.k=k:=⟨_,rfl⟩
 rw[hk] at cS
 match k,hk,cS with
 |0,hk,⟨hs,bG,⟨e1,e2⟩,hall⟩=>
  dsimp only at e1 e2 hall;rcases e2 with ⟨e2,e3⟩ | ⟨g',cap,cur,e2,_,hgg,hn1,hm,hcs,Jc⟩
  ·have:l=[]:=List.eq_nil_of_length_eq_zero e3;rw[this] at hy;simp at hy
  ·have:g'=g:=by rw[e2] at hg;simpa [dw] using hg
   subst this;have hln:v.cells.toList.length=vs.length:=hv.length.symm;obtain⟨q1,Ux,q2,q3⟩:=aeL (n:=0) (V':=view E σ ν O w) (fun _ _ h=>h) e1 hn1 hm hcs Jc hgg hall hy hf hv hle;have hrun:=GI hT htr hv hl hu hgg (by omega);refine⟨_,_,rfl,hrun,_,h.aiQ (l':=l.set j y') hE hh hw hn hl1 hg (sX rfl) (fun V' hV=> ?_)⟩;rw[hk];refine⟨hs,Ux, ?_,q3.mono (Rel.mono hV _)⟩;rw[e2];simpa using q2
 |1,hk,⟨g',cur,ys,x,e1,e2,e3,e4,e5⟩=>
  dsimp only at e2 x e4 e5;have:g'=g:=by rw[e1] at hg;simpa [dw] using hg
  subst this;subst e4;cases j with
  |succ j=>simp at hy
  |zero=>
   obtain rfl:x=y:=by simpa using hy
   have Uy:cur.size=hr.t.size:=by have:=Rel.length e5;rw[←e3] at this;simpa using this
   have hrun:=GI (w:=w) hT htr hv hl hu e2 (by rw[Nat.zero_mul];omega);have TV:=Xl hf e5 hv;have GG:=setRow_heap w g' cur (cur.toList.take (0*hr.t.size+off)++v.cells.toList++cur.toList.drop (0*hr.t.size+off+vs.length)).toArray hr.e (0,0) e2;refine⟨_,_,rfl,hrun,_,h.aiQ (l':=[x].set 0 y') hE hh hw hn hl1 hg (sX rfl) (fun V' hV=> ?_)⟩;rw[hk];refine⟨g',_,_,y',e1,GG,rfl,rfl, ?_⟩;have hlen:vs.length=v.cells.toList.length:=hv.length;rw[e3];simp only[Nat.zero_mul,Nat.zero_add];rw[hlen];exact Rel.mono hV _ _ _ TV
theorem aeO (hE:aI E)(hT:jO P T.rows)(h:St E σ a w ν O){tr:gZ}(htr:TOk P T.rows tr){x:AV}{u v:Value}{vs:List CV}(hx:ak (view E σ ν O w) σ ν E.Y x u)(hv:aF (cg (view E σ ν O w)) vs v.cells.toList)(hl:vs.length=tr.ty.size){r:cP}
  (he:(J6 (T:=T) x vs).val Φ σ=some r):
  ∃us w',r=(.nil, .nu us)∧(Instr.storeAt tr.id u v).run P w= .ok () w'∧∃aN,St E (σ.app us) a w' aN O:=by
 have hlen:vs.length=v.cells.toList.length:=hv.length;unfold J6 at he;split at he
 ·rename_i b off;obtain⟨hbs,g,Tt,hu⟩:=hx;rw[EP] at he;obtain⟨bx,hb,he⟩:=he;obtain⟨g',hg',hbr⟩:=h.box hb;obtain rfl:g=g':=by rw[Tt] at hg';simpa using hg'
  have one:∀(cur:Array Value) (e:TypeId),w.heap[g]? =some (.cells cur e (0,0))→cur.size=1→(Q.gr (T:=T) (Nat.beq off 0&&Nat.beq vs.length 1) (.ret ((.nil, .nu [.box b (.cells vs)]):cP))).val Φ σ=some r→
    ∃us w',r=(.nil, .nu us)∧(Instr.storeAt tr.id u v).run P w= .ok () w'∧∃aN,St E (σ.app us) a w' aN O:=fun cur e hg h1 he=>by
   rw[aD,iL] at he;obtain⟨hc,rfl⟩:=he;simp only[Bool.and_eq_true,beq_iff] at hc;obtain⟨rfl,hc⟩:=hc;have hrun:=GI hT htr hv hl hu hg (by omega);have GG:=setRow_heap w g cur (cur.toList.take 0++v.cells.toList++cur.toList.drop (0+vs.length)).toArray e (0,0) hg;refine⟨_,_,rfl,hrun,ν,h.ac8 hE hbs (sX (by rw[Tt];rfl)) (fun hV=>⟨g,Tt,_,e,GG, ?_⟩)⟩;have hd:cur.toList.drop (0+vs.length)=[]:=List.drop_eq_nil_of_le (by simp;omega);have he':(cur.toList.take 0++v.cells.toList++cur.toList.drop (0+vs.length)).toArray.toList=v.cells.toList:=by rw[hd];simp
   rw[he'];exact hv.mono (cg.mono hV)
  split at he
  ·rename_i cs;obtain⟨cur,e,hg,cS⟩:=hbr;rw[aD,iL] at he;obtain⟨hc,rfl⟩:=he;have hc:=Nat.le_of_ble_eq_true hc;have Uy:cs.length=cur.size:=by simpa using cS.length
   have hrun:=GI hT htr hv hl hu hg (by omega);have GG:=setRow_heap w g cur (cur.toList.take off++v.cells.toList++cur.toList.drop (off+vs.length)).toArray e (0,0) hg;refine⟨_,_,rfl,hrun,ν,h.ac8 hE hbs (sX (by rw[Tt];rfl)) (fun hV=>⟨g,Tt,_,e,GG, ?_⟩)⟩;simp only[HP];exact(((cS.mono (cg.mono hV)).take off).append (hv.mono (cg.mono hV))).append ((cS.mono (cg.mono hV)).drop _)
  ·rename_i hnc;cases bx with
   |cells cs=>exact absurd rfl (hnc cs)
   |own q=>obtain⟨e,hg,_⟩:=hbr;exact one _ e hg rfl he
   |nil=>obtain⟨u0,e,hg⟩:=hbr;exact one _ e hg rfl he
 ·rename_i q sz i off;obtain⟨row,g,hrow,hgq,rfl,hu⟩:=hx;rw[rJ] at he;obtain⟨row',e1,he⟩:=he;rw[hrow] at e1;obtain rfl:row=row':=by simpa using e1
  rw[cE] at he;obtain⟨y,hy,he⟩:=he;rw[cE] at he;obtain⟨y',hf,he⟩:=he;rw[aD,iL] at he;obtain⟨hle,rfl⟩:=he;have hle:=Nat.le_of_ble_eq_true hle;obtain⟨bG,⟨e1,e2⟩,hall⟩:=h.row hrow;rcases e2 with ⟨e2,e3⟩ | ⟨g',cap,cur,e2,_,hg,hn,hm,hcs,Jc⟩
  ·have:row.xs=[]:=List.eq_nil_of_length_eq_zero e3;rw[this] at hy;simp at hy
  ·have:g'=g:=by rw[e2] at hgq;simpa [dw] using hgq
   subst this;obtain⟨q1,Ux,q2,q3⟩:=aeL (n:=0) (V':=view E σ ν O w) (fun _ _ h=>h) e1 hn hm hcs Jc hg hall hy hf hv hle;have hrun:=GI hT htr hv hl hu hg (by omega);refine⟨_,_,rfl,hrun,ν,h.setRow hE (row':=⟨row.e,row.t,row.xs.set i y'⟩) hrow rfl (sX hgq) (fun hV=>⟨Ux, ?_,q3.mono (Rel.mono hV _)⟩)⟩;rw[e2];simpa using q2
 ·rename_i i n j off;obtain⟨hr,g,h1,h2,h3,h4,h5⟩:=hx;exact aeM hE hT h htr h1 h2 h4 h5 hv hl he
 ·rename_i i n;by_cases hn:n=0
  ·subst hn;unfold QV at he;rw[gG] at he;obtain⟨hr',e1,he⟩:=he;rw[cE] at he;obtain⟨l,hl1,he⟩:=he;rw[cE] at he;obtain⟨y,hy,he⟩:=he;simp only[ag,Option.some.injEq] at hl1;subst hl1;simp at hy
  ·obtain⟨hr,g,h1,h2,h3,h4,h5⟩:=YL h hx hn;exact aeM (j:=0) (off:=0) hE hT h htr h1 h2 h4 (by rw[h5,Nat.zero_mul]) hv hl he
 ·cases he
theorem YS (hT:jO P T.rows){tr:gZ}(htr:TOk P T.rows tr)(h1:tr.ty.size=1){g:Nat}{cur:Array Value}{e:TypeId}{v:Value}(hv:v.oneCell'=true)(hg:w.heap[g]? =some (.cells cur e (0,0)))(hc:cur.size=1):
  (Instr.storeAt tr.id (.pointer (some ⟨g,0,none⟩)) v).run P w= .ok () (w.setRow g #[v]):=by
 have Uy:v.cells= #[v]:=by cases v<;>first |rfl |cases hv
 have hst:=run_storeCells_at P g 0 e [v] 0 cur w hg (by simp;omega) (by simpa using hv);have hd:cur.toList.drop 1=[]:=List.drop_eq_nil_of_le (by simp;omega);simp only[Nat.add_zero,List.take_zero,List.nil_append,List.length_singleton,Nat.zero_add,hd,List.append_nil] at hst;simp[Instr.storeAt,Instr.sureAddr,storeVar,C2 htr,Uy,h1,hst]
theorem Q7 (hE:aI E)(hT:jO P T.rows)(h:St E σ a w ν O){tr:gZ}(htr:TOk P T.rows tr)(h1:tr.ty.size=1){b q:Nat}{u v:Value}(hb:CY σ ν b 0 u){bx:BX}(hbx:look σ.boxes b=some bx)(hone:bx.one=true)(hq:(look σ.rows q).isSome=true)(hv:v=ν (.row q)):
  ∃w',(Instr.storeAt tr.id u v).run P w= .ok () w'∧St E {σ with boxes:=put σ.boxes b (.own q)} a w' ν O:=by
 obtain⟨hbs,g,Tt,rfl⟩:=hb;obtain⟨g',hg',hbr⟩:=h.box hbx;obtain rfl:g=g':=by rw[Tt] at hg';simpa using hg'
 obtain⟨row,hrow⟩:=Option.isSome_iff_exists.1 hq;obtain⟨A,c,hA,_⟩:=ER (h.row hrow);have aqn:v.oneCell'=true:=by rw[hv,hA];rfl
 have:∃cur e,w.heap[g]? =some (.cells cur e (0,0))∧cur.size=1:=by
  cases bx with
  |cells cs=>obtain⟨cur,e,h2,h3⟩:=hbr;exact⟨cur,e,h2,by rw[BX.one,beq_iff] at hone;have:=h3.length;rw[hone] at this;simpa using this.symm⟩
  |own k=>obtain⟨e,h2,_⟩:=hbr;exact⟨_,e,h2,rfl⟩
  |nil=>obtain⟨u0,e,h2⟩:=hbr;exact⟨_,e,h2,rfl⟩
 obtain⟨cur,e,hg,hc⟩:=this;have hrun:=YS hT htr h1 aqn hg hc;refine⟨_,hrun,h.ac8 hE hbs (sX (by rw[Tt];rfl)) (fun hV=>⟨g,Tt,e, ?_,hq⟩)⟩;rw[←hv];exact setRow_heap w g cur #[v] e (0,0) hg
theorem Kl {d b:Nat}{bx:BX}(hb:look σ.boxes b=some bx)(h1:bx.one=true):∃bx',look (σ.freeze d).boxes b=some bx'∧bx'.one=true:=by
 unfold AS.freeze;cases look σ.rows d with
 |none=>exact⟨bx,hb,h1⟩
 |some row=>
  refine⟨bx.uX d ⟨.slice row.t,row.xs⟩,by show look (J3 _ _) b=_;rw[i7,hb];rfl, ?_⟩;cases bx with
  |own q=>simp only[BX.uX];cases Nat.beq q d<;>rfl
  |cells cs=>exact h1
  |nil=>rfl
theorem Uz {r d b:Nat}{bx:BX}(hb:look σ.boxes b=some bx)(h1:bx.one=true):∃bx',look (σ.rename r d).boxes b=some bx'∧bx'.one=true:=by
 unfold AS.rename;cases look σ.rows r with
 |none=>exact⟨bx,hb,h1⟩
 |some row=>
  refine⟨bx.ren r d,by show look (J3 _ _) b=_;rw[i7,hb];rfl, ?_⟩;cases bx with
  |own q=>rfl
  |cells cs=>exact h1
  |nil=>rfl
theorem aiR (hE:aI E)(hG:NX E)(hT:jO P T.rows)(h:St E σ a w ν O){o:Oper}{r:cP}{t:TypeId}{x v:Operand}(ho:o.op= .store t x v)
  (he:(EN T σ.av σ.sites o).val Φ σ=some r):mv P o a w (To E (bo σ o.dst r)):=by
 have hd:∀c,o.op≠ .defer c:=by rw[ho];intro c e;cases e
 have hx:=h.av hG x;have hv:=h.av hG v;have fin:∀{w':World} {ah:AS},r=(.nil, .set ah)→(Instr.storeAt t (a.eval x) (a.eval v)).run P w= .ok () w'→(∃aN,St E ah a w' aN O)→mv P o a w (To E (bo σ o.dst r)):=fun {w' ah} e hrun ⟨aN,hs⟩=>by subst e;exact Xi hd (by simp[execOp,ho,hrun]) ⟨aN,O,hs.slot trivial⟩
 unfold EN at he;simp only[ho] at he;split at he
 ·rename_i tr hr;obtain⟨rfl,htr⟩:=hT t tr hr;split at he
  ·rename_i q b e1 e2;rw[e1] at hv;rw[e2] at hx;rw[EP] at he;obtain⟨bx,hbx,he⟩:=he;rw[aD,nY] at he;obtain⟨hc,he⟩:=he;simp only[Bool.and_eq_true,beq_iff] at hc;obtain⟨h1,h2⟩:=hc;cases hb:Nat.beq q b with
   |true=>have:=(beq_iff _ _).1 hb;subst this;rw[hb,cond_true,iL] at he;obtain⟨w',hrun,hs⟩:=Q7 hE hT h htr h2 hx hbx h1 hv.2 hv.1;exact fin he.symm hrun ⟨ν,hs⟩
   |false=>
    rw[hb,cond_false,iL] at he;obtain⟨aN,s1,s2,s3,s4⟩:=h.renamed hE hv.2 (tB.1 hb);obtain⟨bx1,alY,h11⟩:=Kl (d:=b) hbx h1;obtain⟨bx2,aqp,h12⟩:=Uz (r:=q) (d:=b) alY h11;obtain⟨w',hrun,hs⟩:=Q7 (u:=a.eval x) (v:=a.eval v) hE hT s1 htr h2 (by
     obtain⟨g1,g,g2,g3⟩:=hx;exact⟨br aqp,g,(s2 _ (fun k e=>by cases e)).trans g2,g3⟩) aqp h12 s4 (by rw[s3];exact hv.1)
    exact fin he.symm hrun ⟨aN,hs⟩
  ·rename_i q hnb e1;rw[nY,TQ] at he;obtain⟨y,he,rfl⟩:=he;rw[Ui,po] at he;obtain⟨vs,hvs,he⟩:=he;rw[aD] at he;obtain⟨hl,he⟩:=he;have s1:=h.freeze hE q;obtain⟨us,w',rfl,hrun,aN,hs⟩:=aeO hE hT s1 htr (s1.av hG x) (Q5 hvs (s1.av hG v)) ((beq_iff _ _).1 hl) he;exact fin rfl hrun ⟨aN,hs⟩
  ·rename_i b e1 e2;rw[e1] at hv;rw[e2] at hx;split at he
   ·rename_i u e bytes hel;rw[EP] at he;obtain⟨bx,hbx,he⟩:=he;rw[aD,nY,iL] at he;obtain⟨h1,he⟩:=he;have h2:tr.ty.size=1:=by
     unfold iK at hel;rw[hr] at hel;dsimp only at hel;split at hel
     ·rename_i u' hu;rw[hu];rfl
     ·cases hel
    have s1:=h.aiO hE b u e;obtain⟨bx1,alY,h11⟩:=Kl (d:=b) hbx h1;obtain⟨w',hrun,hs⟩:=Q7 (u:=a.eval x) (v:=a.eval v) (q:=b) hE hT s1 htr h2 (by
     obtain⟨g1,g,g2,g3⟩:=hx;exact⟨br alY,g,g2,g3⟩) alY h11 (by show (look (put _ _ _) _).isSome=true;rw[aH,if_pos rfl];rfl) (by rw[oz];exact hv)
    exact fin he.symm hrun ⟨_,hs⟩
   ·cases he
  ·rw[po] at he;obtain⟨vs,hvs,he⟩:=he;rw[aD] at he;obtain⟨hl,he⟩:=he;obtain⟨us,w',rfl,hrun,aN,hs⟩:=aeO hE hT h htr hx (Q5 hvs hv) ((beq_iff _ _).1 hl) he;exact Xi hd (by simp[execOp,ho,hrun]) ⟨aN,O,hs.slot trivial⟩
 ·cases he
end
def EU (P:Program)(T:dc):Prop:=∀(i:Nat) (ht:HT),T.af[i]? =some ht→∃(j:TypeInfo) (z:Value),P.info? ht.e=some j∧j.size=ht.t.size∧j.zero=some z∧∀V,Rel V ht.t ht.t.zero z.cells.toList
section
variable {P:Program}{T:dc}{E:Env}{σ ah:AS}{a:Act}{w w':World}{ν aN:Nm→Value}{O:Nat→Prop}{Φ:cj T}{V:View}{Y:Value}
theorem pr {α:Type}{xs:List (Option (List α))}{n:Nat}:(cw xs n).length=xs.length:=by cases n<;>simp[cw]
theorem aaJ {α:Type}{xs:List (Option (List α))}{n m:Nat}(h:m+1≠n):(cw xs n)[m]? =xs[m]? :=by
 cases n with
 |zero=>rfl
 |succ k=>simp only[cw];rw[List.getElem?_set_ne (by omega)]
theorem ada {α:Type}{xs:List (Option (List α))}{n:Nat}(hn:1≤n)(l:List α):(cw xs n)[n - 1]? ≠some (some l):=by
 cases n with
 |zero=>omega
 |succ k=>
  simp only[cw,Nat.add_sub_cancel];intro h;rw[List.getElem?_set] at h;split at h
  ·split at h<;>cases h
  ·rename_i h1;exact h1 rfl
theorem St.ans (hE:aI E)(h:St E σ a w ν O){i n1:Nat}{hr:aQ}{l':List hr.t.den}{v0:Value}{C:Nat→Prop}(hh:σ.af[i]? =some hr)(hw:hr.w=true)(hn1:n1≤hr.xs.length)
  (hC:∀k,C k→Own σ ν (.hp i n1) k) (hg:Grow C w w') (hblk:∀k,dw v0=some k→Own σ ν (.hp i n1) k∨(w.heap.size≤k∧k<w'.heap.size)) (hv0:af0 hr.k v0)
  (cS:∀V',(∀key v,view E σ ν O w key v→V' key v)→BM V' w' hr.k v0 ⟨hr.e,hr.t,l'⟩):
  St E {σ with af:=σ.af.set i ⟨hr.e,hr.t,hr.k,hr.w,cw hr.xs n1++[some l']⟩} a w' (Pz ν i (hr.xs.length+1) v0) O∧
   view E {σ with af:=σ.af.set i ⟨hr.e,hr.t,hr.k,hr.w,cw hr.xs n1++[some l']⟩} (Pz ν i (hr.xs.length+1) v0) O w' (.ref i (hr.xs.length+1)) v0:=by
 have hlt:i<σ.af.length:=(List.getElem?_eq_some_iff.1 hh).1;have hl:(cw hr.xs n1++[some l']).length=hr.xs.length+1:=by simp[pr]
 refine⟨h.anq hE (n0:=hr.xs.length+1) (n1:=n1) (C:=C) hh hw (by omega) (.inl ⟨hl.symm,hl⟩) (fun m h1 h2 l=> ?_) ?_ hC hg (fun k hk=> .inr (hblk k hk)) hv0 (fun hV l2 h2=> ?_), ?_⟩
 ·rcases Nat.lt_trichotomy m hr.xs.length with h3 |h3 |h3
  ·rw[List.getElem?_append_left (by rw[pr];exact h3),aaJ h2]
  ·omega
  ·rw[List.getElem?_eq_none (by omega),List.getElem?_eq_none (by omega)]
 ·by_cases h0:n1=0
  ·exact .inr (.inl h0)
  ·refine .inr (.inr fun l=> ?_);rw[List.getElem?_append_left (by rw[pr];omega)];exact ada (by omega) l
 ·rw[Nat.add_sub_cancel,List.getElem?_append_right (by rw[pr];exact Nat.le_refl _),pr] at h2;simp only[Nat.sub_self,List.getElem?_cons_zero,Option.some.injEq] at h2;subst h2;exact cS _ hV
 ·refine⟨by omega, ?_,by simp only[Pz,and_self,if_pos]⟩;show hr.xs.length+1≤hlen (σ.af.set i _) i;unfold hlen;rw[List.getElem?_set_self hlt];simp[pr]
theorem aeP (hE:aI E)(h:St E σ a w ν O){i:Nat}{hr:aQ}{x:hr.t.den}{cur:Array Value}(hh:σ.af[i]? =some hr)(hx:Rel (view E σ ν O w) hr.t x cur.toList){r:cP}(he:(NT (T:=T) i hr x).val Φ σ=some r):
  ∃us n,r=(.rv (.cv ⟨.ptr i,n⟩), .nu us)∧∃aN,St E (σ.app us) a (w.alloc (.cells cur hr.e)) aN O∧cg (view E (σ.app us) aN O (w.alloc (.cells cur hr.e))) ⟨.ptr i,n⟩ (.pointer (some ⟨w.heap.size,0,none⟩)):=by
 unfold NT at he;rw[aD,iL] at he;obtain⟨hc,rfl⟩:=he;simp only[Bool.and_eq_true,beq_iff] at hc;obtain⟨hw,hk⟩:=hc;obtain⟨h1,h2⟩:=h.ans hE (n1:=0) (l':=[x]) (v0:= .pointer (some ⟨w.heap.size,0,none⟩)) (w':=w.alloc (.cells cur hr.e)) (C:=fun _=>False) hh hw (Nat.zero_le _) (fun _ hk=>hk.elim)
  (Grow.C0 ⟨rfl,rfl,rfl,by simp,fun k hk=>heap_alloc_old w _ k hk⟩) (fun k hk=>by simp only[dw,Option.some.injEq] at hk;subst hk;exact .inr ⟨Nat.le_refl _,by simp⟩) (.inr ⟨hk,_,rfl⟩)
  (fun V' hV=>by rw[hk];exact⟨w.heap.size,cur,_,x,rfl,heap_alloc_new w _,rfl,rfl,Rel.mono hV _ _ _ hx⟩)
 exact⟨_,_,rfl,_,h1,alS (by omega) ⟨_,rfl⟩ h2⟩
theorem Q8 {i:Nat}{hr:aQ}(hH:EU P T)(h:aam T i hr=true)(hi:i<T.af.length):∃(j:TypeInfo) (z:Value),P.info? hr.e=some j∧j.size=hr.t.size∧j.zero=some z∧∀V,Rel V hr.t hr.t.zero z.cells.toList:=by
 simp only[aam,Bool.and_eq_true,beq_iff,decide_eq_true_eq] at h;have e:T.af[i]? =some (T.ht i):=by unfold dc.ht;rw[List.getElem?_eq_getElem hi];rfl
 obtain⟨j,z,h1,h2,h3,h4⟩:=hH i _ e;obtain⟨⟨e1,_⟩,e2⟩:=h;rw[e1,e2];exact⟨j,z,h1,h2,h3,h4⟩
theorem aeQ (hE:aI E)(h:St E σ a w ν O){d:Option Tmp}{cs:List CV}{cur:Array Value}{e:TypeId}(hx:aF (cg (view E σ ν O w)) cs cur.toList){r:cP}(he:(Bj (T:=T) d (.cells cs)).val Φ σ=some r):
  ∃b us,r=(.box b 0, .nu us)∧∃aN,St E (σ.app us) a (w.alloc (.cells cur e)) aN O∧CY (σ.app us) aN b 0 (.pointer (some ⟨w.heap.size,0,none⟩)):=by
 unfold Bj at he;split at he
 ·rename_i d;rw[aab,iL] at he;obtain⟨hd,rfl⟩:=he;refine⟨_,_,rfl,_,h.Bj hE hd (fun hV=>⟨w.heap.size,rfl,cur,e,heap_alloc_new w _,hx.mono (cg.mono hV)⟩), ?_,w.heap.size,by simp only[Q4,if_pos],rfl⟩;show (look (put _ _ _) _).isSome=true;rw[aH,if_pos rfl];rfl
 ·cases he
theorem aiS (hE:aI E)(hG:NX E)(hT:jO P T.rows)(hH:EU P T)(hl:σ.af.length=T.af.length)(h:St E σ a w ν O){o:Oper}{r:cP}{t:TypeId}(ho:o.op= .alloc t)
  (he:(EN T σ.av σ.sites o).val Φ σ=some r):mv P o a w (To E (bo σ o.dst r)):=by
 have hd:∀c,o.op≠ .defer c:=by rw[ho];intro c e;cases e
 unfold EN at he;simp only[ho] at he;split at he
 ·rename_i tr hr;obtain⟨rfl,htr⟩:=hT t tr hr;obtain⟨i,z,h1,h2,h3,h4,h5⟩:=Uw (V:=view E σ ν O w) htr;have hrun:(execOp a.eval o).run P w= .ok (.value (.pointer (some ⟨w.heap.size,0,none⟩))) (w.alloc (.cells z.cells tr.id)):=by simp[execOp,ho,Instr.alloc,zeroValue,typeInfo,h1,h4,newVar,Go.newRow]
  split at he
  ·rename_i k hk;rw[gG] at he;obtain⟨Pe,hh,he⟩:=he;rw[aD] at he;obtain⟨hc,he⟩:=he;simp only[Bool.and_eq_true,beq_iff] at hc;obtain⟨e1,hc⟩:=hc;obtain⟨j,z',j1,j2,j3,j4⟩:=Q8 hH hc (by rw[←hl];exact(List.getElem?_eq_some_iff.1 hh).1);rw[e1,h1] at j1;obtain rfl:i=j:=by simpa using j1
   rw[h4] at j3;obtain rfl:z=z':=by simpa using j3
   obtain⟨us,n,rfl,aN,hs,hv⟩:=aeP hE h (cur:=z.cells) hh (j4 _) he;rw[e1] at hs hv;exact cM hd hrun ⟨aN,O,hs.slot hv⟩
  ·split at he
   ·rename_i u0 u e b d rK hel Q6;rw[aab,zb,iL] at he;obtain⟨f1,f2,rfl⟩:=he;have hz:z= .slice none 0 0:=by
     obtain⟨i',z',k1,_,_,k4,_,_,k5⟩:=htr.info;rw[h1] at k1;obtain rfl:i=i':=by simpa using k1
     rw[h4] at k4;obtain rfl:z=z':=by simpa using k4
     exact k5 _ rK
    have s1:=h.newRow hE (d:=d) (row':=⟨e,u,[]⟩) (v':= .slice none 0 0) f2 (Below.refl _ _) (fun k hk=>by cases hk) (fun _=>⟨[],Ib,trivial⟩);have hrow:(look (put σ.rows d (⟨e,u,[]⟩:Row)) d).isSome=true:=by rw[aH,if_pos rfl];rfl
    have s2:=s1.Bj hE (d:=d) (x:= .own d) (o:= .cells z.cells tr.id) f1 (fun hV=>⟨w.heap.size,rfl,tr.id,by rw[hz];simp only[Q4,uY,if_pos];exact heap_alloc_new w _,hrow⟩);refine cM hd hrun ⟨Q4 (uY ν d (.slice none 0 0)) d (.pointer (some ⟨w.heap.size,0,none⟩)),O, ?_⟩;simp only[bo,Q6];refine s2.slot (x:= .box d 0) ⟨?_,w.heap.size,by simp only[Q4,if_pos],rfl⟩;show (look (put _ _ _) _).isSome=true;rw[aH,if_pos rfl];rfl
   ·obtain⟨b,us,rfl,aN,hs,hv⟩:=aeQ hE h (cur:=z.cells) (e:=tr.id) (jK h5) he;exact cM hd hrun ⟨aN,O,hs.slot (x:= .box b 0) hv⟩
 ·cases he
theorem alZ (f:AV→AV)(hf:f .nil= .nil)(s:gh)(t:Nat):nth (s.map f) t=f (nth s t):=by
 unfold nth;show (match look (Wr f s.l) t with |some x=>x |none=> .nil)=_;rw[LO];cases look s.l t with
 |none=>exact hf.symm
 |some x=>rfl
theorem aol (f:AV→AV)(hf:f .nil= .nil)(hc:∀v,f (ofConst v)=ofConst v)(hF:∀g,f (.fn g [])= .fn g [])(s:gh)(x:Operand):(s.map f).av x=f (s.av x):=by
 cases x with
 |tmp t=>exact alZ f hf s t
 |const v=>exact(hc v).symm
 |func g=>exact(hF g).symm
 |global g=>
  show (match look (Wr f s.s) (gk g) with |some x=>x |none=> .nil)=f (match look s.s (gk g) with |some x=>x |none=> .nil);rw[LO];cases look s.s (gk g) with
  |none=>exact hf.symm
  |some x=>rfl
theorem YT (r:Nat)(c:CV)(v:Value):(ofConst v).uX r c=ofConst v:=by cases v<;>rfl
theorem LV {q:Nat}{row:Row}(hq:look σ.rows q=some row)(x:Operand):(σ.freeze q).av x=(σ.av x).uX q ⟨.slice row.t,row.xs⟩:=by unfold AS.freeze;rw[hq];exact aol _ rfl (YT q _) (fun _=>rfl) σ.tmps x
theorem aom (hE:aI E)(hG:NX E)(hT:jO P T.rows)(h:St E σ a w ν O){o:Oper}{r:cP}{t:TypeId}{v:Operand}(ho:o.op= .box t v)
  (he:(EN T σ.av σ.sites o).val Φ σ=some r):mv P o a w (To E (bo σ o.dst r)):=by
 have hd:∀c,o.op≠ .defer c:=by rw[ho];intro c e;cases e
 have hv:=h.av hG v;have hrun:(execOp a.eval o).run P w= .ok (.value (.pointer (some ⟨w.heap.size,0,none⟩))) (w.alloc (.cells (a.eval v).cells t)):=by simp[execOp,ho,Instr.box,newVar,Go.newRow]
 unfold EN at he;simp only[ho] at he;split at he
 ·rename_i tr hr;obtain⟨rfl,htr⟩:=hT t tr hr;split at he
  ·rename_i q hq;rw[rJ] at he;obtain⟨row,hrow,he⟩:=he;rw[nY] at he;split at he
   ·rename_i d Q6;split at he
    ·rename_i hbd;rw[iL] at he;subst he;have s1:=h.freeze hE q;have YU:=s1.av hG v;rw[LV hrow,hq] at YU;simp only[AV.uX,RV.uX,beq_refl,cond_true] at YU;have hb1:look (σ.freeze q).boxes d=none:=by
      have:=PA (σ:=σ) q d;rw[hbd] at this;cases hl:look (σ.freeze q).boxes d with
      |none=>rfl
      |some x=>rw[hl] at this;cases this
     have s2:=s1.Bj hE (d:=d) (x:= .cells [⟨.slice row.t,row.xs⟩]) (o:= .cells (a.eval v).cells tr.id) hb1 (fun hV=>⟨w.heap.size,rfl,_,tr.id,heap_alloc_new w _,by
      have e2:(a.eval v).cells.toList=[a.eval v]:=by rw[HM YU]
      rw[e2];exact⟨cg.mono hV _ _ YU,trivial⟩⟩)
     refine cM hd hrun ⟨Q4 ν d (.pointer (some ⟨w.heap.size,0,none⟩)),O, ?_⟩;simp only[bo,Q6];refine s2.slot (x:= .box d 0) ⟨?_,w.heap.size,by simp only[Q4,if_pos],rfl⟩;show (look (put _ _ _) _).isSome=true;rw[aH,if_pos rfl];rfl
    ·cases he
   ·cases he
  ·rw[po] at he;obtain⟨vs,hvs,he⟩:=he;rw[aD] at he;obtain⟨hl,he⟩:=he;have TS:=Q5 hvs hv;split at he
   ·rename_i k hk;rw[gG] at he;obtain⟨Pe,hh,he⟩:=he;rw[aD,cE] at he;obtain⟨hc,x,hx,he⟩:=he;have e1:=(beq_iff _ _).1 hc;obtain⟨us,n,rfl,aN,hs,hv⟩:=aeP hE h (cur:=(a.eval v).cells) hh (HZ hx TS) he;rw[e1] at hs hv;exact cM hd hrun ⟨aN,O,hs.slot hv⟩
   ·obtain⟨b,us,rfl,aN,hs,hv⟩:=aeQ hE h (cur:=(a.eval v).cells) (e:=tr.id) TS he;exact cM hd hrun ⟨aN,O,hs.slot (x:= .box b 0) hv⟩
 ·cases he
theorem aiU (hE:aI E)(hG:NX E)(hT:jO P T.rows)(h:St E σ a w ν O){o:Oper}{r:cP}{t:TypeId}{parts:Array (Nat×Operand)}(ho:o.op= .build t parts)
  (he:(EN T σ.av σ.sites o).val Φ σ=some r):mv P o a w (To E (bo σ o.dst r)):=by
 have hd:∀c,o.op≠ .defer c:=by rw[ho];intro c e;cases e
 unfold EN at he;simp only[ho] at he;cases hb:(List.map (fun x=>x.2) parts.toList).any fun x=>yv (σ.av x) with
 |true=>rw[hb,cond_true,nY,TQ] at he;obtain⟨y,he,rfl⟩:=he;have s1:=h.wK hE (parts.toList.map (·.2));obtain⟨e1,v,h2,h3⟩:=Ut (P:=P) (w:=w) hT (s1.av hG) he;exact cM hd (v:=v) (by simp[execOp,ho,h2]) ⟨ν,O,s1.slot h3⟩
 |false=>rw[hb,cond_false] at he;obtain⟨e1,v,h2,h3⟩:=Ut (P:=P) (w:=w) hT (h.av hG) he;exact cN hE hd h e1 (v:=v) (by simp[execOp,ho,h2]) h3
theorem aaK (rL:∀x,ak V σ ν Y (σ.av x) (a.eval x)):∀{xs:List Operand} {aX:List I5},mO (fun x=>match σ.av x with
   | .box b 0=>some (I5.box b)
   | .qA cs=>some (.qA cs)
   |_=>none) xs=some aX→aF (tC V σ ν) aX (xs.map a.eval)
 | [],aX,h=>by simp only[mO,Option.some.injEq] at h;subst h;trivial
 |x::xs,aX,h=>by
  simp only[mO] at h;split at h
  ·rename_i y hy;split at h
   ·rename_i l hl;simp only[Option.some.injEq] at h;subst h;refine⟨?_,aaK rL hl⟩;have hx:=rL x;split at hy
    ·rename_i b e;simp only[Option.some.injEq] at hy;subst hy;rw[e] at hx;exact hx
    ·rename_i cs e;simp only[Option.some.injEq] at hy;subst hy;rw[e] at hx;exact hx
    ·cases hy
   ·cases h
  ·cases h
theorem aaL (hE:aI E)(hG:NX E)(h:St E σ a w ν O){o:Oper}{r:cP}{f:Fn}{first captured:Array Operand}(ho:o.op= .makeFunc f first captured)
  (he:(EN T σ.av σ.sites o).val Φ σ=some r):mv P o a w (To E (bo σ o.dst r)):=by
 have hd:∀c,o.op≠ .defer c:=by rw[ho];intro c e;cases e
 unfold EN at he;simp only[ho] at he;split at he<;>first | (rename_i e;cases e;done) |skip
 all_goals try (cases he;done)
 rename_i f' fst' cap' e;cases e;split at he
 ·rename_i hf;have hf':first= #[]:=by cases first;simp at hf;subst hf;rfl
  subst hf';rw[po] at he;obtain⟨aX,hc,he⟩:=he;rw[iJ] at he;subst he;refine cN hE hd h rfl (v:= .func (.func f') #[] (captured.map a.eval)) (by simp[execOp,ho,Instr.makeFunc]) ⟨(captured.toList.map a.eval),(by rw[←Array.toList_map]),aaK (h.av hG) hc⟩
 ·cases he
end
end Go.Abs
