/- YtofjebmoebhiiaaGreatDoorUe: a part of the proof (Q, PA, PS ..). No condition. -/
import Derived.Test.YtofjebmoebhiiaaGreatDoorUd
import Derived.IntWalk
import Derived.Laws.Bits64
set_option linter.unusedVariables false
set_option linter.unusedSimpArgs false
set_option maxRecDepth 100000
set_option exponentiation.threshold 2000
namespace Go.Proofs.YtofjebmoebhiiaaGreatDoor.Ev
open Go.Abs
noncomputable section
def Em (w:Nat):ae slices_SortFunc:=fun x hp=>agR x hp
theorem Nh (w:Nat):Em w=slices_SortFunc:=funext fun x=>funext fun hp=>(Hb T B lf 50 ((x,()),hp)).symm
def C7 (w:Nat):ae rO:=fun s=>bif aB 16 2 0 s.length then some s else none
theorem HZ (w:Nat):C7 w=rO:=funext fun s=>(Hb T B lf 84 s).symm
def vp (w:Nat):ae eU:=fun s c=>bif decide (0≤c)&&decide (c<256) then some (UC c 0 s.data.toList) else none
theorem E9 (w:Nat):vp w=eU:=funext fun s=>funext fun c=>(Hb T B lf 165 (s,c)).symm
def vq:=xw cH fun w x=>sj x
theorem Fa:∀w,vq w=cH:=mkLe fun _=>(x3 C6)
def wX:=iu iI fun w=>wU (vq w)
theorem Gc:∀w,wX w=iI:=bl fun w=>by rw[Fa w];exact(x2 Gb)
def tt:=xw bC fun w x=>gh x
theorem DG:∀w,tt w=bC:=mkLe fun _=>(x3 jF)
def vr:=iu cq fun w=>nz (tt w)
theorem Fb:∀w,vr w=cq:=bl fun w=>by rw[DG w];exact(x2 tp)
def Ia:=xw jd fun w x=>Ed x
theorem P3:∀w,Ia w=jd:=mkLe fun _=>(x3 MY)
def JQ:=iu vQ fun w=>JD (Ia w)
theorem RF:∀w,JQ w=vQ:=bl fun w=>by rw[P3 w];exact(x1 RC)
def Bl:=xw eE fun w x=>pZ x
theorem JR:∀w,Bl w=eE:=mkLe fun _=>(x2 wQ)
def uO:=iu ef fun w=>uN (Bl w)
theorem Bm:∀w,uO w=ef:=bl fun w=>by rw[JR w];exact(x1 Bh)
def En:=xw eN fun w x=>mJ x
theorem Ni:∀w,En w=eN:=mkLe fun _=>(x3 q6)
def rV:=iu aV fun w=>yE (En w)
theorem Eo:∀w,rV w=aV:=bl fun w=>by rw[Ni w];exact(x2 Eg)
def Bn:=xw dk fun w x=>kR x
theorem JS:∀w,Bn w=dk:=mkLe fun _=>(x2 oo)
def oX:=iu bJ fun w=>uv (Bn w)
theorem sT:∀w,oX w=bJ:=bl fun w=>by rw[JS w];exact(x1 AZ)
def Ma:=xw jM fun w x=>tJ x
theorem TD:∀w,Ma w=jM:=mkLe fun _=>(x2 yq)
def wY:=iu mf fun w=>Hh (Ma w)
theorem y8:∀w,wY w=mf:=bl fun w=>by rw[TD w];exact(x1 L6)
def Ib:=xw gG fun w x=>qu x
theorem P4:∀w,Ib w=gG:=mkLe fun _=>(x5 uc)
def C8:=iu lH fun w=>Ck (Ib w) (wY w)
theorem Ic:∀w,C8 w=lH:=bl fun w=>by rw[P4 w];rw[y8 w];exact(x2 HS)
def Ie:=iu s6 fun w=>Ai
theorem P5:∀w,Ie w=s6:=bl fun _=>(x2 FG)
def Ig:=iu s7 fun w=>Aj
theorem P6:∀w,Ig w=s7:=bl fun _=>(x3 FH)
def V7:=xw uX fun w x=>D6 x
theorem aa7:∀w,V7 w=uX:=mkLe fun _=>(x5 Hj)
def JT:=iu yk fun w=>TB (V7 w)
theorem KJ:∀w,JT w=yk:=bl fun w=>by rw[aa7 w];exact(x1 V6)
def yF:=iu iK fun w=>yw
theorem Ep:∀w,yF w=iK:=bl fun _=>(x1 D8)
def AF:=iu jO fun w=>Av (yF w) (JT w)
theorem Ge:∀w,AF w=jO:=bl fun w=>by rw[Ep w,KJ w];exact(x1 FX)
def Er:=xw (dD,eO,dE,dF) fun w x=>(mG x.2.1 x.2.2.1,mH x.2.1 x.1,sy x.2.2.1 x.2.2.2,sA x.2.2.2)
theorem Nj:∀w,Er w=(dD,eO,dE,dF):=mkLe fun w=>by exact Prod.ext (x6 qR) (Prod.ext (x8 qS) (Prod.ext (x3 zu) ((x3 zv))))
def Gf:=iu mY fun w=>yx (Er w).1
theorem OH:∀w,Gf w=mY:=bl fun w=>by rw[Nj w];exact(x1 D9)
def wZ:=iu ki fun w=>Ot
theorem Mb:∀w,wZ w=ki:=bl fun _=>(x1 UG)
def Bo:=xw dm fun w x=>k9 x (rV w)
theorem JU:∀w,Bo w=dm:=mkLe fun w=>by rw[Eo w];exact(x4 oJ)
def uP:=iu fA fun w=>uI (Bo w)
theorem Bp:∀w,uP w=fA:=bl fun w=>by rw[JU w];exact(x3 Bc)
def xM:=xw cu fun w x=>iZ x
theorem Hu:∀w,xM w=cu:=mkLe fun _=>(x4 mv)
def zN:=iu il fun w=>q7 (xM w)
theorem IF:∀w,zN w=il:=bl fun w=>by rw[Hu w];exact(x2 xH)
def Q2:=xw nJ fun w x=>yY x
theorem Xe:∀w,Q2 w=nJ:=mkLe fun _=>(x3 Cw)
def Nk:=iu zq fun w=>MP (Q2 w)
theorem Q3:∀w,Nk w=zq:=bl fun w=>by rw[Xe w];exact(x2 QY)
def OI:=xw lJ fun w x=>Cx x
theorem UK:∀w,OI w=lJ:=mkLe fun _=>(x2 HV)
def Q4:=iu FD fun w=>Jw (OI w)
theorem Xf:∀w,Q4 w=FD:=bl fun w=>by rw[UK w];exact(x2 Ow)
def Q5:=xw qM fun w x=>jR x
theorem Xh:∀w,Q5 w=qM:=mkLe fun _=>(x3 kn)
def TE:=iu FE fun w=>MQ (Q5 w)
theorem Zn:∀w,TE w=FE:=bl fun w=>by rw[Xh w];exact(x1 QZ)
def Q6:=xw nK fun w x=>yZ x
theorem Xi:∀w,Q6 w=nK:=mkLe fun _=>(x1 Cz)
def C9:=iu mZ fun w=>MR (Q6 w)
theorem Es:∀w,C9 w=mZ:=bl fun w=>by rw[Xi w];exact(x1 Q0)
def P7:=iu Hc fun w=>PX (wY w)
theorem TF:∀w,P7 w=Hc:=bl fun w=>by rw[y8 w];exact(x1 Tz)
def qx:=iu ed fun w=>wa
theorem uQ:∀w,qx w=ed:=bl fun _=>(x2 Co)
def Da:=xw fh fun w x=>iP x (C8 w)
theorem Ls:∀w,Da w=fh:=mkLe fun w=>by rw[Ic w];exact(x4 kI)
def Et:=iu o9 fun w=>vX (Da w)
theorem Nl:∀w,Et w=o9:=bl fun w=>by rw[Ls w];exact(x2 Cm)
def Bq:=xw (dp,dq) fun w x=>(kU x.1 x.2,kV x.2)
theorem JV:∀w,Bq w=(dp,dq):=mkLe fun w=>by exact Prod.ext (x2 oB) ((x2 oC))
def Db:=iu fF fun w=>uy (Bq w).1
theorem Lt:∀w,Db w=fF:=bl fun w=>by rw[JV w];exact(x1 A4)
def Br:=xw cD fun w x=>kO x
theorem JW:∀w,Br w=cD:=mkLe fun _=>(x2 oh)
def Dc:=iu j6 fun w=>um (Br w)
theorem Lu:∀w,Dc w=j6:=bl fun w=>by rw[JW w];exact(x1 AU)
def Dd:=xw dO fun w x=>lT x
theorem Lv:∀w,Dd w=dO:=mkLe fun _=>(x3 pz)
def qy:=iu c9 fun w=>wu (Dd w)
theorem uR:∀w,qy w=c9:=bl fun w=>by rw[Lv w];exact(x2 CK)
def De:=xw dP fun w x=>lU x
theorem Lw:∀w,De w=dP:=mkLe fun _=>(x1 pA)
def ja:=iu bg fun w=>wx (De w)
theorem kA:∀w,ja w=bg:=bl fun w=>by rw[Lw w];exact(x1 CL)
def Bs:=iu iW fun w=>sE (vp w)
theorem JX:∀w,Bs w=iW:=bl fun w=>by rw[E9 w];exact(x2 zx)
def OJ:=xw lK fun w x=>wc x
theorem UL:∀w,OJ w=lK:=mkLe fun _=>(x5 Ax)
def JY:=iu uZ fun w=>Jz (OJ w)
theorem OK:∀w,JY w=uZ:=bl fun w=>by rw[UL w];exact(x2 Oy)
def Bt:=xw eI fun w x=>xz x
theorem JZ:∀w,Bt w=eI:=mkLe fun _=>(x4 Hi)
def Df:=iu nb fun w=>Cq (Bt w) (qx w)
theorem Lx:∀w,Df w=nb:=bl fun w=>by rw[JZ w];rw[uQ w];exact(x3 K4)
def Ih:=iu s9 fun w=>Ao
theorem P8:∀w,Ih w=s9:=bl fun _=>(x2 FP)
def sU:=iu eQ fun w=>sJ
theorem zO:∀w,sU w=eQ:=bl fun _=>(x1 zE)
def vt:=iu gY fun w=>nk
theorem Fc:∀w,vt w=gY:=bl fun _=>(x2 ti)
def Mc:=xw jQ fun w x=>tL x
theorem TG:∀w,Mc w=jQ:=mkLe fun _=>(x6 yA)
def OL:=iu yn fun w=>Hm (Mc w)
theorem UM:∀w,OL w=yn:=bl fun w=>by rw[TG w];exact(x2 L8)
def Dg:=xw dQ fun w x=>cW x
theorem Ly:∀w,Dg w=dQ:=mkLe fun _=>(x3 dy)
def Eu:=iu pa fun w=>vZ (Dg w)
theorem Nn:∀w,Eu w=pa:=bl fun w=>by rw[Ly w];exact(x2 Cn)
def tu:=xw bD fun w x=>gd x (ja w)
theorem DH:∀w,tu w=bD:=mkLe fun w=>by rw[kA w];exact(x5 jA)
def nC:=iu aW fun w=>nu (tu w)
theorem tv:∀w,nC w=aW:=bl fun w=>by rw[DH w];exact(x2 tk)
def Bu:=xw dv fun w x=>po x
theorem J0:∀w,Bu w=dv:=mkLe fun _=>(x2 we)
def Dh:=iu im fun w=>uh (Bu w)
theorem Lz:∀w,Dh w=im:=bl fun w=>by rw[J0 w];exact(x1 AR)
def Ew:=xw eR fun w x=>jo x
theorem No:∀w,Ew w=eR:=mkLe fun _=>(x5 lV)
def Gg:=iu iM fun w=>yD (Ew w)
theorem OM:∀w,Gg w=iM:=bl fun w=>by rw[No w];exact(x2 Ee)
def Ey:=iu pb fun w=>D4
theorem Np:∀w,Ey w=pb:=bl fun _=>(x1 MJ)
def zP:=xw dR fun w x=>vV x
theorem IG:∀w,zP w=dR:=mkLe fun _=>(x3 FL)
def Bv:=iu lM fun w=>AM (zP w)
theorem J1:∀w,Bv w=lM:=bl fun w=>by rw[IG w];exact(x1 Js)
def Di:=iu nf fun w=>Cd
theorem LA:∀w,Di w=nf:=bl fun _=>(x1 K2)
def xN:=xw (dw,dx) fun w x=>(u5 x.2,u6 x.2 x.1)
theorem Hv:∀w,xN w=(dw,dx):=mkLe fun w=>by exact Prod.ext (x4 EY) ((x7 EZ))
def zQ:=iu km fun w=>zr (xN w).1
theorem IH:∀w,zQ w=km:=bl fun w=>by rw[Hv w];exact(x1 Iv)
def vu:=xw bR fun w x=>gU x
theorem Fe:∀w,vu w=bR:=mkLe fun _=>(x4 kz)
def oY:=iu aC fun w=>oW (vu w)
theorem Gh:∀w,oY w=aC:=bl fun w=>by rw[Fe w];exact(x2 vo)
def vv:=xw bT fun w x=>gS x (Ie w)
theorem Ff:∀w,vv w=bT:=mkLe fun w=>by rw[P5 w];exact(x4 ko)
def w6:=iu iN fun w=>nX (vv w)
theorem Gi:∀w,w6 w=iN:=bl fun w=>by rw[Ff w];exact(x2 u7)
def vw:=xw bU fun w x=>gT x (Ig w)
theorem Fg:∀w,vw w=bU:=mkLe fun w=>by rw[P6 w];exact(x8 kp)
def w7:=iu iO fun w=>nY (vw w)
theorem Gj:∀w,w7 w=iO:=bl fun w=>by rw[Fg w];exact(x2 u9)
def zS:=xw cP fun w x=>jB x (zN w)
theorem II:∀w,zS w=cP:=mkLe fun w=>by rw[IF w];exact(x3 nv)
def mP:=iu bK fun w=>sK (zS w)
theorem zU:∀w,mP w=bK:=bl fun w=>by rw[II w];exact(x1 zG)
def tM:=iu fQ fun w=>Ar (Nk w)
theorem yI:∀w,tM w=fQ:=bl fun w=>by rw[Q3 w];exact(x2 FT)
def Hw:=iu s8 fun w=>MM (P7 w) (qx w)
theorem J2:∀w,Hw w=s8:=bl fun w=>by rw[TF w,uQ w];exact(x2 QV)
def zV:=xw cR fun w x=>jx x (ja w)
theorem IJ:∀w,zV w=cR:=mkLe fun w=>by rw[kA w];exact(x4 np)
def eJ:=iu ao fun w=>sG (zV w)
theorem fJ:∀w,eJ w=ao:=bl fun w=>by rw[IJ w];exact(x1 zA)
def Dj:=xw dL fun w x=>lR x
theorem LB:∀w,Dj w=dL:=mkLe fun _=>(x3 py)
def eS:=iu al fun w=>wo (Dj w) (ja w)
theorem ir:∀w,eS w=al:=bl fun w=>by rw[LB w];rw[kA w];exact(x2 CI)
def Ez:=iu o8 fun w=>wg (Bs w)
theorem Nq:∀w,Ez w=o8:=bl fun w=>by rw[JX w];exact(x2 CG)
def BK:=iu jf fun w=>Hl (C9 w)
theorem Fh:∀w,BK w=jf:=bl fun w=>by rw[Es w];exact(x2 L7)
def zX:=iu kj fun w=>zt (Df w)
theorem IK:∀w,zX w=kj:=bl fun w=>by rw[Lx w];exact(x2 Ix)
def J3:=xw iL fun w x=>rT x
theorem RG:∀w,J3 w=iL:=mkLe fun _=>(x4 vY)
def Md:=iu uY fun w=>E0 (J3 w) (Ih w) (Eu w)
theorem TH:∀w,Md w=uY:=bl fun w=>by rw[RG w];rw[P8 w,Nn w];exact(x4 Ju)
def rl:=xw (cU,cV) fun w x=>(jy x.1 (eS w),jz x.2 (eS w))
theorem IL:∀w,rl w=(cU,cV):=mkLe fun w=>by rw[ir w];exact Prod.ext (x2 nq) ((x2 nr))
def jr:=iu bL fun w=>sH (rl w).1 (rl w).2
theorem lX:∀w,jr w=bL:=bl fun w=>by rw[IL w];exact(x1 zD)
def EA:=iu jg fun w=>wq (sU w)
theorem Nr:∀w,EA w=jg:=bl fun w=>by rw[zO w];exact(x1 CJ)
def Bw:=xw dr fun w x=>kP x
theorem J4:∀w,Bw w=dr:=mkLe fun _=>(x3 oi)
def oZ:=iu df fun w=>uo (Bw w) (sU w)
theorem sV:∀w,oZ w=df:=bl fun w=>by rw[J4 w];rw[zO w];exact(x1 AW)
def vx:=iu gX fun w=>nj (vt w)
theorem Fi:∀w,vx w=gX:=bl fun w=>by rw[Fc w];exact(x2 th)
def Q7:=xw (eP,jP,gH,lL) fun w x=>(y3 x.2.1 (JY w),y5 x.2.2.1 x.2.1,y6 x.2.2.1 x.2.2.2 x.1,y7 x.2.2.2 x.1)
theorem Xj:∀w,Q7 w=(eP,jP,gH,lL):=mkLe fun w=>by rw[OK w];exact Prod.ext (x6 CC) (Prod.ext (x8 CD) (Prod.ext (x10 CE) ((x11 CF))))
def TI:=iu FF fun w=>MS (Q7 w).1 (OL w) (C9 w)
theorem Zo:∀w,TI w=FF:=bl fun w=>by rw[Xj w];rw[UM w,Es w];exact(x2 Q1)
def xO:=iu gD fun w=>pC (eJ w) (eS w)
theorem Hx:∀w,xO w=gD:=bl fun w=>by rw[fJ w,ir w];exact(x1 wA)
def Gk:=iu nc fun w=>yz (Dh w)
theorem ON:∀w,Gk w=nc:=bl fun w=>by rw[Lz w];exact(x1 Eb)
def w8:=iu gI fun w=>wB (oZ w) (jr w) (eJ w) (Gg w) (eS w) (qy w) (nC w)
theorem Dk:∀w,w8 w=gI:=bl fun w=>by rw[sV w,lX w,fJ w,OM w,ir w,uR w,tv w];exact(x2 CM)
def tw:=iu eo fun w=>mn (w6 w)
theorem DI:∀w,tw w=eo:=bl fun w=>by rw[Gi w];exact(x2 sg)
def tz:=iu eA fun w=>mo (w7 w)
theorem DJ:∀w,tz w=eA:=bl fun w=>by rw[Gj w];exact(x2 sh)
def Gl:=iu iJ fun w=>yt (AF w) (JT w) (tM w) (Gf w)
theorem OO:∀w,Gl w=iJ:=bl fun w=>by rw[Ge w,KJ w,yI w,OH w];exact(x1 D5)
def qe:=iu bu fun w=>pr (eJ w) (eS w)
theorem w9:∀w,qe w=bu:=bl fun w=>by rw[fJ w,ir w];exact(x1 wm)
def Me:=iu uW fun w=>E7 (Ez w)
theorem TJ:∀w,Me w=uW:=bl fun w=>by rw[Nq w];exact(x2 JB)
def Ii:=iu ph fun w=>Au (BK w)
theorem P9:∀w,Ii w=ph:=bl fun w=>by rw[Fh w];exact(x1 FV)
def Ns:=iu B9 fun w=>Tx (P7 w) (qx w) (zX w)
theorem Q8:∀w,Ns w=B9:=bl fun w=>by rw[TF w,uQ w,IK w];exact(x2 Zl)
def xa:=iu je fun w=>Hg (Et w) (Hw w) (Md w)
theorem Fj:∀w,xa w=je:=bl fun w=>by rw[Nl w,J2 w,TH w];exact(x4 L5)
def EB:=iu lC fun w=>wC (oX w) (EA w)
theorem Nt:∀w,EB w=lC:=bl fun w=>by rw[sT w,Nr w];exact(x1 CN)
def lY:=iu bN fun w=>qV (eJ w) (qy w)
theorem qf:∀w,lY w=bN:=bl fun w=>by rw[fJ w,uR w];exact(x2 xB)
def By:=xw (bw,dn,cC) fun w x=>(kK x.2.1 x.2.2,kL x.2.1 x.1,kN x.2.2 (eS w))
theorem J5:∀w,By w=(bw,dn,cC):=mkLe fun w=>by rw[ir w];exact Prod.ext (x6 oa) (Prod.ext (x7 oc) ((x4 od)))
def Dl:=iu fB fun w=>uk (By w).1 (oZ w) (jr w) (eJ w)
theorem LC:∀w,Dl w=fB:=bl fun w=>by rw[J5 w];rw[sV w,lX w,fJ w];exact(x2 AT)
def Gm:=xw (de,fC) fun w x=>(nV x.2 (BK w),nW x.2 x.1)
theorem OP:∀w,Gm w=(de,fC):=mkLe fun w=>by rw[Fh w];exact Prod.ext (x10 sB) ((x16 sC))
def Ij:=iu pk fun w=>Aw (Gm w).1
theorem Qa:∀w,Ij w=pk:=bl fun w=>by rw[OP w];exact(x2 FY)
def Bz:=iu iT fun w=>sD (vx w)
theorem J6:∀w,Bz w=iT:=bl fun w=>by rw[Fi w];exact(x2 zw)
def Q9:=iu yl fun w=>Jx (Nk w) (JY w) (C9 w) (TI w)
theorem Xk:∀w,Q9 w=yl:=bl fun w=>by rw[Q3 w,OK w,Es w,Zo w];exact(x2 Ox)
def Gn:=iu na fun w=>yy (Gk w)
theorem OQ:∀w,Gn w=na:=bl fun w=>by rw[ON w];exact(x1 Ea)
def Dm:=iu j7 fun w=>uq (qe w) (w8 w)
theorem LD:∀w,Dm w=j7:=bl fun w=>by rw[w9 w,Dk w];exact(x2 AX)
def xb:=xw (cX,bA,cY,cZ) fun w x=>(tb x.1 x.2.1 (Ey w) (Bv w),tc x.2.2.1 x.2.1 x.2.2.2 (C7 w) (wZ w),td x.2.2.1,te x.2.2.2 x.2.1 (Ns w) (Hw w) (xa w) (wZ w))
theorem Gp:∀w,xb w=(cX,bA,cY,cZ):=mkLe fun w=>by rw[Np w,J1 w,HZ w,Mb w,Q8 w,J2 w,Fj w];exact Prod.ext (x11 DC) (Prod.ext (x11 DD) (Prod.ext (x7 DE) ((x14 DF))))
def xP:=iu jn fun w=>xy (xb w).1
theorem Hy:∀w,xP w=jn:=bl fun w=>by rw[Gp w];exact(x2 Hf)
def vy:=xw (cI,bp,cJ,cK) fun w x=>(rZ x.1 x.2.1 (Di w) (zQ w),sc x.2.2.1 x.2.1 x.2.2.2 (C7 w) (wZ w),se x.2.2.1,sf x.2.2.2 x.2.1 (Ns w) (Hw w) (xa w) (wZ w))
theorem Fk:∀w,vy w=(cI,bp,cJ,cK):=mkLe fun w=>by rw[LA w,IH w,HZ w,Mb w,Q8 w,J2 w,Fj w];exact Prod.ext (x11 Cg) (Prod.ext (x11 Ch) (Prod.ext (x7 Ci) ((x14 Cj))))
def o5:=iu dS fun w=>vW (vy w).1
theorem vz:∀w,o5 w=dS:=bl fun w=>by rw[Fk w];exact(x2 FN)
def Ik:=iu jL fun w=>Ap (Ii w)
theorem Qb:∀w,Ik w=jL:=bl fun w=>by rw[P9 w];exact(x1 FQ)
def zY:=iu bb fun w=>qZ (oX w) (lY w) (Dl w)
theorem IM:∀w,zY w=bb:=bl fun w=>by rw[sT w,qf w,LC w];exact(x2 xF)
def J7:=xw (mX,fe) fun w x=>(yo x.2 (xa w),lN x.2 (xa w))
theorem RH:∀w,J7 w=(mX,fe):=mkLe fun w=>by rw[Fj w];exact Prod.ext (x6 D3) ((x6 nR))
def Mf:=iu uV fun w=>EX (J7 w).1
theorem TK:∀w,Mf w=uV:=bl fun w=>by rw[RH w];exact(x2 Jr)
def Il:=iu pf fun w=>Aq (AF w) (Ij w) (tM w)
theorem Qc:∀w,Il w=pf:=bl fun w=>by rw[Ge w,Qa w,yI w];exact(x2 FR)
def Ra:=xw (jN,nI) fun w x=>(yV x.2 (BK w),yW x.2 x.1)
theorem Xl:∀w,Ra w=(jN,nI):=mkLe fun w=>by rw[Fh w];exact Prod.ext (x6 Cu) ((x10 Cv))
def TL:=iu FC fun w=>MO (Ra w).1 (Bz w)
theorem Zp:∀w,TL w=FC:=bl fun w=>by rw[Xl w];rw[J6 w];exact(x1 QW)
def Gq:=xw eg fun w x=>ud x (TE w) (Q4 w) (JT w) (Q9 w) (C9 w)
theorem OR:∀w,Gq w=eg:=mkLe fun w=>by rw[Zn w,Xf w,KJ w,Xk w,Es w];exact(x4 AQ)
def Im:=iu pg fun w=>As (Gq w)
theorem Qd:∀w,Im w=pg:=bl fun w=>by rw[OR w];exact(x2 FU)
def xc:=xw (bk,cj,aH) fun w x=>(iy x.2.1 x.2.2 (ja w),mu x.2.1 x.1 (qy w) (nC w),iA x.2.2 (eS w) (Dm w) (w8 w))
theorem Gr:∀w,xc w=(bk,cj,aH):=mkLe fun w=>by rw[kA w,uR w,tv w,ir w,LD w,Dk w];exact Prod.ext (x8 lv) (Prod.ext (x9 si) ((x6 lx)))
def qg:=iu du fun w=>pB (xc w).1 (oZ w) (jr w) (eJ w) (ja w)
theorem xd:∀w,qg w=du:=bl fun w=>by rw[Gr w];rw[sV w,lX w,fJ w,kA w];exact(x2 wz)
def y9:=iu eM fun w=>yU (Me w) (TL w) (JT w) (yF w) (tM w) (Im w)
theorem Dn:∀w,y9 w=eM:=bl fun w=>by rw[TJ w,Zp w,KJ w,Ep w,yI w,Qd w];exact(x1 Ct)
def OS:=iu Ca fun w=>Hn (y9 w) (Gn w)
theorem UN:∀w,OS w=Ca:=bl fun w=>by rw[Dn w,OQ w];exact(x1 L9)
def xQ:=xw cw fun w x=>ns x (qg w)
theorem Hz:∀w,xQ w=cw:=mkLe fun w=>by rw[xd w];exact(x2 tj)
def rm:=iu dN fun w=>qW (xQ w) (xO w)
theorem xR:∀w,rm w=dN:=bl fun w=>by rw[Hz w];rw[Hx w];exact(x2 xD)
def Mg:=iu uU fun w=>E6 (OS w)
theorem TM:∀w,Mg w=uU:=bl fun w=>by rw[UN w];exact(x1 JA)
def Io:=iu pj fun w=>AB (oX w) (Dc w) (lY w) (rm w)
theorem Qe:∀w,Io w=pj:=bl fun w=>by rw[sT w,Lu w,qf w,xR w];exact(x1 F4)
def zZ:=iu kl fun w=>zF (lY w) (qe w) (rm w) (qg w)
theorem IN:∀w,zZ w=kl:=bl fun w=>by rw[qf w,w9 w,xR w,xd w];exact(x2 Iz)
def J8:=xw dJ fun w x=>rR x (y9 w) (Mg w) (C8 w) (tw w) (tz w) (Mf w) (Il w)
theorem RI:∀w,J8 w=dJ:=mkLe fun w=>by rw[Dn w,TM w,Ic w,DI w,DJ w,TK w,Qc w];exact(x9 vS)
def za:=iu gF fun w=>EW (J8 w) (wY w)
theorem Dp:∀w,za w=gF:=bl fun w=>by rw[RI w];rw[y8 w];exact(x1 Jq)
def Dq:=iu dd fun w=>ur (EB w) (Io w)
theorem LF:∀w,Dq w=dd:=bl fun w=>by rw[Nt w,Qe w];exact(x1 AY)
def xS:=iu gz fun w=>xG (jr w) (zZ w)
theorem HA:∀w,xS w=gz:=bl fun w=>by rw[lX w,IN w];exact(x2 Hr)
def EC:=iu lB fun w=>wN (Db w) (Dq w) (uP w)
theorem Nu:∀w,EC w=lB:=bl fun w=>by rw[Lt w,LF w,Bp w];exact(x2 C0)
def Ip:=iu ta fun w=>HR (za w) (xP w)
theorem Qf:∀w,Ip w=ta:=bl fun w=>by rw[Dp w,Hy w];exact(x2 PU)
def Gs:=iu qN fun w=>FM (za w) (o5 w)
theorem OT:∀w,Gs w=qN:=bl fun w=>by rw[Dp w,vz w];exact(x2 Oo)
def Mh:=xw (mc,me,s0,fU,qJ) fun w x=>(HO x.1 x.2.1 (y9 w) (Ik w) (Gl w),HP x.2.2.1,HQ x.2.2.2.1 x.2.1,FI x.2.2.2.1 x.2.2.2.2,FJ x.2.2.2.1)
theorem TN:∀w,Mh w=(mc,me,s0,fU,qJ):=mkLe fun w=>by rw[Dn w,Qb w,OO w];exact Prod.ext (x10 PO) (Prod.ext (x9 PQ) (Prod.ext (x12 PR) (Prod.ext (x13 Oh) ((x10 Oi)))))
def HB:=iu tV fun w=>Oj (Mh w).1 (za w)
theorem Mi:∀w,HB w=tV:=bl fun w=>by rw[TN w];rw[Dp w];exact(x1 UF)
def Gt:=iu qK fun w=>FK (Ip w)
theorem OU:∀w,Gt w=qK:=bl fun w=>by rw[Qf w];exact(x1 Ol)
def Mj:=iu zp fun w=>L4 (Gs w)
theorem TO:∀w,Mj w=zp:=bl fun w=>by rw[OT w];exact(x1 Tw)
def BA:=xw eD fun w x=>xx x (Em w)
theorem J9:∀w,BA w=eD:=mkLe fun w=>by rw[Nh w];exact(x10 Hd)
def Dr:=iu mV fun w=>Cc (BA w) (HB w) (o5 w)
theorem LG:∀w,Dr w=mV:=bl fun w=>by rw[J9 w];rw[Mi w,vz w];exact(x1 K1)
def BB:=xw (cB,dj) fun w x=>(kY x.2 (EC w) (mP w),kZ x.2 x.1 (uP w) (zY w))
theorem Ka:∀w,BB w=(cB,dj):=mkLe fun w=>by rw[Nu w,zU w,Bp w,IM w];exact Prod.ext (x2 oF) ((x4 oG))
def Dt:=iu jZ fun w=>uH (BB w).1
theorem LH:∀w,Dt w=jZ:=bl fun w=>by rw[Ka w];exact(x1 Ba)
def Gu:=xw (mW,fu,ie,cN,dC,eL) fun w x=>(uK x.2.1 (mP w),oN x.2.2.1 x.2.2.2.1 (oY w),uM x.2.2.1 x.2.1 (rV w),mL x.2.2.2.2.1 (mP w),mM x.2.2.2.2.2 x.2.2.2.1 (oY w),mO x.2.2.2.2.2 x.2.2.2.2.1 (rV w))
theorem OV:∀w,Gu w=(mW,fu,ie,cN,dC,eL):=mkLe fun w=>by rw[zU w,Gh w,Eo w];exact Prod.ext (x7 Bf) (Prod.ext (x11 sR) (Prod.ext (x12 Bg) (Prod.ext (x9 ra) (Prod.ext (x12 rb) ((x13 rf))))))
def Iq:=iu jK fun w=>AE (Gu w).1 (uO w) (Dt w)
theorem Qg:∀w,Iq w=jK:=bl fun w=>by rw[OV w];rw[Bm w,LH w];exact(x2 F9)
def z6:=iu kh fun w=>zy (Iq w)
theorem IP:∀w,z6 w=kh:=bl fun w=>by rw[Qg w];exact Iy.symm
def Nv:=iu ft fun w=>CH (z6 w) (Gt w) (Mj w) (Dr w) (HB w) (wX w) (JQ w) (vr w)
theorem LI:∀w,Nv w=ft:=bl fun w=>by rw[IP w,OU w,TO w,LG w,Mi w,Gc w,RF w,Fb w];exact K7.symm
end
end Go.Proofs.YtofjebmoebhiiaaGreatDoor.Ev
namespace Go.Abs
theorem z7 {a b:Int}(h:a<b):decide (a<b)=true:=decide_eq_true h
theorem xT {a b:Int}(h:¬a<b):decide (a<b)=false:=decide_eq_false h
theorem amV {a b:Int}(h:a≤b):decide (a≤b)=true:=decide_eq_true h
theorem agX {a b:Int}(h:¬a≤b):decide (a≤b)=false:=decide_eq_false h
theorem agY {a b:Int}(h:a>b):decide (a>b)=true:=decide_eq_true h
theorem aj2 {a b:Int}(h:¬a>b):decide (a>b)=false:=decide_eq_false h
theorem acX {a b:Int}(h:a≥b):decide (a≥b)=true:=decide_eq_true h
theorem Zq {a b:Int}(h:¬a≥b):decide (a≥b)=false:=decide_eq_false h
theorem acY {a b:Int}(h:a=b):(a==b)=true:=beq_iff_eq.2 h
theorem Kb {a b:Int}(h:¬a=b):(a==b)=false:=by simpa using h
theorem agZ {a b:Int}(h:¬a=b):(a != b)=true:=by simpa [bne] using h
theorem ag0 {a b:Int}(h:a=b):(a != b)=false:=by simp[bne,h]
theorem rq {xs:List Int}{i:Int}(h0:0≤i)(h:i<xs.length):idx xs i=some (xs.getD i.toNat 0):=by
 obtain⟨n,rfl⟩:=Int.eq_ofNat_of_zero_le h0
 show xs[n]? =_
 have:n<xs.length:=by omega
 simp[List.getD,this]
theorem TP {xs:List Int}{k:Nat}(h:k<xs.length):xs[k]? =some (xs.getD k 0):=by simp[List.getD,h]
theorem acZ {α:Type}(d:α){xs:List α}{i:Int}(h0:0≤i)(h:i<xs.length):idx xs i=some (xs.getD i.toNat d):=by
 obtain⟨n,rfl⟩:=Int.eq_ofNat_of_zero_le h0
 show xs[n]? =_
 have:n<xs.length:=by omega
 simp[List.getD,this]
theorem RZ {b s n m:Nat}(h0:0<s)(h:(n+m)*b≤140737488355328):aB b s n m=true:=by
 unfold aB
 rw[Bool.and_eq_true]
 exact⟨Nat.ble_eq_true_of_le h0,Nat.ble_eq_true_of_le h⟩
theorem OW {b:Nat}{l c:Int}(h0:0≤l)(h1:l≤c)(h2:(b:Int)*c≤140737488355328):gL b l c=true:=by
 unfold gL
 simp[h0,h1,h2]
theorem ac0 {n:Nat}{l h:Int}(h0:0≤l)(h1:l≤h)(h2:h≤n):c7 n l h=true:=by
 unfold c7
 simp[h0,h1,h2]
theorem amW {a b:Nat}(h:a≤b):Nat.ble a b=true:=Nat.ble_eq_true_of_le h
def val (B:Int):List Int→Int
 | []=>0
 |x::xs=>x+B*val B xs
def gZ (B:Int)(d:List Int):Prop:=∀x∈d,0≤x∧x<B
theorem gZ.nil {B:Int}:gZ B []:=fun x h=>by cases h
theorem gZ.cons {B x:Int}{d:List Int}(h0:0≤x)(h1:x<B)(h:gZ B d):gZ B (x::d):=fun y hy=>by
 rcases List.mem_cons.1 hy with rfl |hy
 ·exact⟨h0,h1⟩
 ·exact h y hy
theorem gZ.head {B x:Int}{d:List Int}(h:gZ B (x::d)):0≤x∧x<B:=h x (by simp)
theorem gZ.tail {B x:Int}{d:List Int}(h:gZ B (x::d)):gZ B d:=fun y hy=>h y (by simp[hy])
theorem gZ.append {B:Int}{d e:List Int}(h1:gZ B d)(h2:gZ B e):gZ B (d++e):=fun y hy=>by
 rcases List.mem_append.1 hy with hy |hy
 ·exact h1 y hy
 ·exact h2 y hy
theorem gZ.left {B:Int}{d e:List Int}(h:gZ B (d++e)):gZ B d:=fun y hy=>h y (by simp[hy])
theorem gZ.right {B:Int}{d e:List Int}(h:gZ B (d++e)):gZ B e:=fun y hy=>h y (by simp[hy])
theorem gZ.drop {B:Int}{d:List Int}(h:gZ B d)(k:Nat):gZ B (d.drop k):=fun y hy=>h y (List.mem_of_mem_drop hy)
theorem gZ.take {B:Int}{d:List Int}(h:gZ B d)(k:Nat):gZ B (d.take k):=fun y hy=>h y (List.mem_of_mem_take hy)
theorem gZ.getD {B:Int}{d:List Int}(h:gZ B d)(hB:0<B)(k:Nat):0≤d.getD k 0∧d.getD k 0<B:=by
 by_cases hk:k<d.length
 ·have:d.getD k 0=d[k]:=by simp[List.getD,hk]
  rw[this];exact h _ (List.getElem_mem hk)
 ·have:d.getD k 0=0:=by
   have h':d[k]? =none:=List.getElem?_eq_none (by omega)
   simp[List.getD,h']
  rw[this];exact⟨by omega,hB⟩
theorem gZ.replicate {B:Int}(hB:0<B)(n:Nat):gZ B (List.replicate n 0):=fun y hy=>by
 obtain⟨_,rfl⟩:=List.mem_replicate.1 hy
 exact⟨by omega,hB⟩
theorem gZ.set {B x:Int}{d:List Int}(h:gZ B d)(h0:0≤x)(h1:x<B)(k:Nat):gZ B (d.set k x):=fun y hy=>by
 rcases List.mem_or_eq_of_mem_set hy with hy |rfl
 ·exact h y hy
 ·exact⟨h0,h1⟩
theorem kB {B:Int}(hB:0≤B):∀{d:List Int},gZ B d→0≤val B d
 | [],_=>by simp[val]
 |x::d,h=>by
  have h1:=h.head.1
  have h2:=kB hB h.tail
  have:=Int.mul_nonneg hB h2
  simp only[val];omega
theorem fj (B:Int):∀(d e:List Int),val B (d++e)=val B d+B^d.length*val B e
 | [],e=>by simp[val]
 |x::d,e=>by
  simp only[List.cons_append,val,fj B d e,List.length_cons,Int.pow_succ,Int.mul_add]
  rw[←Int.mul_assoc,Int.mul_comm B (B^d.length)]
  omega
theorem Mk (B:Int)(n:Nat):val B (List.replicate n 0)=0:=by
 induction n with
 |zero=>rfl
 |succ n ih=>rw[List.replicate_succ,val,ih];simp
theorem AG {B:Int}(hB:0<B):∀{d:List Int},gZ B d→val B d<B^d.length
 | [],_=>by simp[val]
 |x::d,h=>by
  have h1:=h.head.2
  have h2:=AG hB h.tail
  have h3:B*(val B d+1)≤B*B^d.length:=Int.mul_le_mul_of_nonneg_left (by omega) (by omega)
  simp only[val,List.length_cons,Int.pow_succ]
  rw[Int.mul_comm (B^d.length) B]
  rw[Int.mul_add] at h3
  omega
def nD:List Int→List Int
 | []=>[]
 |x::xs=>match nD xs with
  | []=>if x=0 then [] else [x]
  |y::ys=>x::y::ys
theorem z8:∀d:List Int,nD (d++[0])=nD d
 | []=>rfl
 |x::d=>by simp only[List.cons_append,nD,z8 d]
theorem Du {y:Int}(hy:y≠0):∀d:List Int,nD (d++[y])=d++[y]
 | []=>by simp[nD,hy]
 |x::d=>by
  simp only[List.cons_append,nD,Du hy d]
  cases d<;>rfl
theorem BL:∀d:List Int,(nD d).length≤d.length
 | []=>Nat.le_refl _
 |x::d=>by
  have:=BL d
  simp only[nD]
  split
  ·split<;>simp
  ·rename_i y ys h
   rw[h] at this
   simp at this ⊢;omega
def Ul (B:Nat)(n:Nat):List Int:=if h:n=0∨B≤1 then [] else ((n % B:Nat):Int)::Ul B (n / B)
termination_by n
decreasing_by exact Nat.div_lt_self (by omega) (by omega)
theorem dY (B:Nat):Ul B 0=[]:=by rw[Ul];simp
theorem zb {B n:Nat}(hB:1<B)(hn:0<n):Ul B n=((n % B:Nat):Int)::Ul B (n / B):=by
 rw[Ul,dif_neg (by omega)]
theorem mw {B n:Nat}(hB:1<B):Ul B n=[]↔n=0:=by
 constructor
 ·intro h
  by_cases hn:n=0
  ·exact hn
  ·rw[zb hB (by omega)] at h;cases h
 ·rintro rfl;exact dY B
theorem Xm {B:Nat}(hB:1<B):∀n,gZ B (Ul B n):=by
 intro n
 induction n using Nat.strongRecOn with
 |ind n ih=>
  by_cases hn:n=0
  ·subst hn;rw[dY];exact gZ.nil
  ·rw[zb hB (by omega)]
   have:=Nat.mod_lt n (show B>0 by omega)
   exact gZ.cons (by omega) (by omega) (ih _ (Nat.div_lt_self (by omega) hB))
theorem Xn {B:Nat}(hB:1<B):∀n,val B (Ul B n)=n:=by
 intro n
 induction n using Nat.strongRecOn with
 |ind n ih=>
  by_cases hn:n=0
  ·subst hn;rw[dY];rfl
  ·rw[zb hB (by omega),val,ih _ (Nat.div_lt_self (by omega) hB)]
   have:=Nat.mod_add_div n B
   omega
theorem Gv {B:Nat}(hB:1<B):∀d:List Int,gZ B d→nD d=Ul B (val B d).toNat
 | [],_=>by simp[nD,val,dY]
 |x::d,h=>by
  have ih:=Gv hB d h.tail
  have hx:=h.head
  have hv:=kB (B:=B) (by omega) h.tail
  obtain⟨v,hv'⟩:=Int.eq_ofNat_of_zero_le hv
  obtain⟨a,rfl⟩:=Int.eq_ofNat_of_zero_le hx.1
  have hab:a<B:=by omega
  simp only[nD,val,hv']
  rw[hv'] at ih
  have e:((a:Int)+(B:Int)*(v:Int)).toNat=a+B*v:=by
   rw[←Int.natCast_mul, ←Int.natCast_add];exact Int.toNat_natCast _
  rw[e]
  simp only[Int.toNat_natCast] at ih
  by_cases hv0:v=0
  ·subst hv0
   rw[dY] at ih
   rw[ih]
   simp only
   by_cases ha:a=0
   ·subst ha;simp[dY]
   ·rw[zb hB (by omega)]
    have h1:(a+B*0) % B=a:=by simp[Nat.mod_eq_of_lt hab]
    have h2:(a+B*0) / B=0:=by simp[Nat.div_eq_of_lt hab]
    rw[h1,h2,dY,if_neg (by omega)]
  ·have hpos:0<a+B*v:=by
    have:0<B*v:=Nat.mul_pos (by omega) (by omega)
    omega
   rw[zb hB hpos]
   have h1:(a+B*v) % B=a:=by rw[Nat.add_mul_mod_self_left,Nat.mod_eq_of_lt hab]
   have h2:(a+B*v) / B=v:=by rw[Nat.add_mul_div_left _ _ (by omega:0<B),Nat.div_eq_of_lt hab];omega
   rw[h1,h2,ih]
   have hne:Ul B v≠ []:=fun e=>hv0 ((mw hB).1 e)
   split
   ·rename_i e;exact absurd e hne
   ·rename_i y ys e;rw[e]
theorem aa8 {B:Nat}(hB:1<B){d:List Int}(h:gZ B d)(ht:nD d=d):d=Ul B (val B d).toNat:=by
 rw[←Gv hB d h,ht]
theorem OX {B:Nat}(hB:1<B)(n:Nat):nD (Ul B n)=Ul B n:=by
 rw[Gv hB _ (Xm hB n),Xn hB];rfl
theorem aM {B:Nat}(hB:1<B):∀(k n:Nat),(Ul B n).length≤k↔n<B^k
 |0,n=>by
  rw[Nat.pow_zero]
  constructor
  ·intro h
   have:=(mw (n:=n) hB).1 (List.length_eq_zero_iff.1 (Nat.le_zero.1 h))
   omega
  ·intro h
   have:n=0:=by omega
   subst this;simp[dY]
 |k+1,n=>by
  by_cases hn:n=0
  ·subst hn
   simp only[dY,List.length_nil]
   exact⟨fun _=>Nat.pow_pos (by omega),fun _=>by omega⟩
  ·rw[zb hB (by omega),List.length_cons]
   have:=aM hB k (n / B)
   rw[Nat.pow_succ, ←Nat.div_lt_iff_lt_mul (by omega)]
   omega
theorem fR {B:Nat}(hB:1<B)(k n:Nat):k<(Ul B n).length↔B^k≤n:=by
 have:=aM hB k n
 omega
theorem Rb {B:Nat}(hB:1<B){n:Nat}:∀{d:List Int} {y:Int},Ul B n=d++[y]→y≠0:=by
 intro d y h hy
 subst hy
 have h1:=OX hB n
 rw[h,z8] at h1
 have h2:=BL d
 rw[h1] at h2
 simp at h2
 omega
theorem rW (l:List Int)(k j:Nat):(l.drop k).getD j 0=l.getD (k+j) 0:=by simp[List.getD,List.getElem?_drop]
theorem drop_eq {l:List Int}{k:Nat}(h:k<l.length):l.drop k=l.getD k 0::l.drop (k+1):=by
 rw[List.drop_eq_getElem_cons h]
 simp[List.getD,h]
theorem drop_nil {l:List Int}{k:Nat}(h:l.length≤k):l.drop k=[]:=List.drop_eq_nil_of_le h
theorem getD_none {l:List Int}{k:Nat}(h:l.length≤k):l.getD k 0=0:=by
 have h':l[k]? =none:=List.getElem?_eq_none (by omega)
 simp[List.getD,h']
theorem amX {α:Type}(d:List α)(h:Int):cut d 0 h=d.take h.toNat:=by simp[cut]
end Go.Abs
namespace Go.Abs
theorem bP {a b:Int}(h:0≤a):a.tmod b=a % b:=Int.tmod_eq_emod_of_nonneg h
theorem mQ {a b:Int}(h:0≤a):a.tdiv b=a / b:=Int.tdiv_eq_ediv_of_nonneg h
theorem dA {l:List Int}{k:Nat}(h:k<l.length):l.take (k+1)=l.take k++[l.getD k 0]:=by
 rw[List.take_add_one]
 simp[List.getD,h]
def qA (x y:Int):Int:=if x<y then -1 else if y<x then 1 else 0
theorem tN {x y:Int}(h:x<y):qA x y= -1:=by unfold qA;rw[if_pos h]
theorem xe {x y:Int}(h:y<x):qA x y=1:=by unfold qA;rw[if_neg (by omega),if_pos h]
theorem KK {x y:Int}(h:x=y):qA x y=0:=by unfold qA;rw[if_neg (by omega),if_neg (by omega)]
theorem Nw {x y:Int}:qA x y<0↔x<y:=by
 unfold qA
 by_cases h1:x<y
 ·rw[if_pos h1];omega
 ·rw[if_neg h1];split<;>omega
theorem Xo {B:Int}(hB:0<B){d e:List Int}{x y:Int}(hd:gZ B d)(he:gZ B e)(hl:d.length=e.length)(h:x<y):val B (d++[x])<val B (e++[y]):=by
 rw[fj,fj]
 have h1:=AG hB hd
 have h2:=kB (by omega) he
 rw[hl] at h1 ⊢
 have h3:B^e.length*(x+1)≤B^e.length*y:=Int.mul_le_mul_of_nonneg_left (by omega) (Int.pow_nonneg (by omega))
 rw[Int.mul_add] at h3
 simp only[val]
 simp only[Int.mul_zero,Int.add_zero] at*
 omega
end Go.Abs
namespace Go.Abs
section
variable {α β:Type}{x y:α}{a b:Int}
theorem cT (x y:α):(bif true then x else y)=x:=(cond_true x y).trans (Eq.refl x)
theorem cF (x y:α):(bif false then x else y)=y:=(cond_false x y).trans (Eq.refl y)
theorem bS (z:α)(f:α→Option β):(some z).bind f=f z:=(Option.bind_some z f).trans (Eq.refl _)
theorem c_t {c:Bool}(h:c=true):(bif c then x else y)=x:=by rw[h];exact cT _ _
theorem c_f {c:Bool}(h:c=false):(bif c then x else y)=y:=by rw[h];exact cF _ _
theorem ak (h:a<b):(bif decide (a<b) then x else y)=x:=c_t (z7 h)
theorem ai (h:¬a<b):(bif decide (a<b) then x else y)=y:=c_f (xT h)
theorem Ml (h:a≤b):(bif decide (a≤b) then x else y)=x:=c_t (amV h)
theorem TQ (h:¬a≤b):(bif decide (a≤b) then x else y)=y:=c_f (agX h)
theorem cy (h:a>b):(bif decide (a>b) then x else y)=x:=c_t (agY h)
theorem cM (h:¬a>b):(bif decide (a>b) then x else y)=y:=c_f (aj2 h)
theorem tA (h:a≥b):(bif decide (a≥b) then x else y)=x:=c_t (acX h)
theorem sk (h:¬a≥b):(bif decide (a≥b) then x else y)=y:=c_f (Zq h)
theorem sm (h:a=b):(bif a==b then x else y)=x:=c_t (acY h)
theorem jT (h:¬a=b):(bif a==b then x else y)=y:=c_f (Kb h)
theorem lZ (h:¬a=b):(bif !(a==b) then x else y)=x:=c_t (by rw[Kb h];exact Eq.refl _)
theorem BC (h:¬a=b):(bif a != b then x else y)=x:=c_t (agZ h)
theorem nE (h:a=b):(bif a != b then x else y)=y:=c_f (ag0 h)
theorem iQ {p s n m:Nat}(h0:0<s)(h:(n+m)*p≤140737488355328):(bif aB p s n m then x else y)=x:=c_t (RZ h0 h)
theorem Kc {p:Nat}{l c:Int}(h0:0≤l)(h1:l≤c)(h2:(p:Int)*c≤140737488355328):(bif gL p l c then x else y)=x:=c_t (OW h0 h1 h2)
theorem Gw {n:Nat}{l h:Int}(h0:0≤l)(h1:l≤h)(h2:h≤n):(bif c7 n l h then x else y)=x:=c_t (ac0 h0 h1 h2)
theorem ao0 {m n:Nat}(h:m≤n):(bif Nat.ble m n then x else y)=x:=c_t (amW h)
theorem fk {xs:List Int}{i:Int}{f:Int→Option β}(h0:0≤i)(h:i<xs.length):(idx xs i).bind f=f (xs.getD i.toNat 0):=by rw[rq h0 h];exact bS _ _
theorem xm {xs:List Int}{k:Nat}{f:Int→Option β}(h:k<xs.length):(xs[k]?).bind f=f (xs.getD k 0):=by rw[TP h];exact bS _ _
end
end Go.Abs
namespace Go.Abs
theorem aX (s:ByteArray):(bytesOf s).length=s.size:=by
 rw[bytesOf,List.length_map,Array.length_toList];rfl
theorem my (s:ByteArray):gZ 256 (bytesOf s):=fun x hx=>by
 simp only[bytesOf,List.mem_map] at hx
 obtain⟨b,_,rfl⟩:=hx
 have:=b.toNat_lt
 omega
theorem zc (s:ByteArray)(i:Int):Af s i=idx (bytesOf s) i:=by
 cases i with
 |ofNat n=>
  show (s[n]?).map _=(bytesOf s)[n]?
  simp only[bytesOf,List.getElem?_map,Array.getElem?_toList]
  rfl
 |negSucc n=>rfl
theorem tO (s:ByteArray)(l h:Nat):bytesOf (s.extract l h)=((bytesOf s).take h).drop l:=by
 simp only[bytesOf,ByteArray.data_extract,Array.toList_extract,List.extract_eq_take_drop]
 rw[←List.map_take, ←List.map_drop,List.drop_take]
theorem ry {s t:ByteArray}(h:bytesOf s=bytesOf t):s=t:=by
 apply ByteArray.ext
 apply Array.ext'
 refine(List.map_inj_right fun a b hab=> ?_).1 h
 have h2:a.toNat=b.toNat:=Int.ofNat.inj hab
 exact UInt8.toNat_inj.1 h2
theorem tB {xs:List Int}(h:gZ 256 xs):bytesOf (strOf xs)=xs:=by
 simp only[bytesOf,strOf,List.map_map]
 conv=>rhs;rw[←List.map_id xs]
 apply List.map_congr_left
 intro x hx
 have:=h x hx
 simp only[Function.comp,id,UInt8.toNat_ofNat']
 omega
theorem UO (s:ByteArray):strOf (bytesOf s)=s:=ry (tB (my s))
theorem Zr (s:ByteArray):∀(n i:Nat) (r:List UInt8),s.size - i=n→ByteArray.toList.loop s i r=r.reverse++s.data.toList.drop i:=by
 intro n
 induction n with
 |zero=>
  intro i r h
  rw[ByteArray.toList.loop,if_neg (by omega)]
  rw[List.drop_eq_nil_of_le (by simp;exact(show s.data.size≤i by have:= @ByteArray.size_data s;omega))];simp
 |succ n ih=>
  intro i r h
  have hi:i<s.size:=by omega
  have hi':i<s.data.toList.length:=by simp;exact(show i<s.data.size by have:= @ByteArray.size_data s;omega)
  rw[ByteArray.toList.loop,if_pos hi,ih (i+1) _ (by omega)]
  rw[List.drop_eq_getElem_cons hi']
  simp
  have:s.get! i=s.data[i]'(by simpa using hi'):=by
   simp only[ByteArray.get!]
   exact getElem!_pos _ _ _
  exact this
theorem toList_eq (s:ByteArray):s.toList=s.data.toList:=by
 rw[ByteArray.toList,Zr s _ 0 [] rfl];simp
theorem Xp (s t:ByteArray):(s.toList==t.toList)=decide (bytesOf s=bytesOf t):=by
 rw[toList_eq,toList_eq]
 by_cases h:s=t
 ·subst h;simp
 ·have h1:¬bytesOf s=bytesOf t:=fun e=>h (ry e)
  have h2:¬s.data.toList=t.data.toList:=fun e=>h (ByteArray.ext (Array.ext' e))
  rw[decide_eq_false h1]
  simpa using h2
theorem TR (s t:ByteArray):(s.toList==t.toList)=decide (s=t):=by
 rw[Xp]
 exact decide_eq_decide.2 ⟨ry,fun h=>by rw[h]⟩
theorem UP:bytesOf ByteArray.empty=[]:=rfl
end Go.Abs
namespace Go.Abs
abbrev dX (n:Nat):List Int:=Ul 10 n
abbrev VX (d:List Int):Int:=val 10 d
abbrev DX (d:List Int):Prop:=gZ 10 d
theorem HC (n:Nat):DX (dX n):=Xm (B:=10) (by omega) n
theorem Kd (n:Nat):VX (dX n)=n:=Xn (B:=10) (by omega) n
theorem TS {d:List Int}(h:DX d):nD d=dX (VX d).toNat:=Gv (B:=10) (by omega) d h
theorem KL {d:List Int}(h:DX d):0≤VX d:=kB (by omega) h
theorem HD (n:Nat):((10^n:Nat):Int)=(10:Int)^n:=by
 rw[Int.natCast_pow];rfl
theorem OY {k n:Nat}(h:k≤n):(10:Int)^k≤10^n:=by
 have h1:=Nat.pow_le_pow_right (show 10>0 by omega) h
 rw[←HD, ←HD]
 exact Int.ofNat_le.2 h1
def GJ (d:List Int):List Int:=d.map (· +48)
def kC (n:Nat):List Int:=if n=0 then [48] else (GJ (dX n)).reverse
def rX (z:Int):List Int:=(if z<0 then [45] else [])++kC z.natAbs
def gJ (z:Int):ByteArray:=strOf (rX z)
theorem rz (n:Nat):∀c∈kC n,48≤c∧c≤57:=by
 intro c hc
 unfold kC at hc
 split at hc
 ·simp at hc;omega
 ·rw[List.mem_reverse] at hc
  obtain⟨y,hy,rfl⟩:=List.mem_map.1 hc
  have:=HC n y hy
  omega
theorem aa9 (z:Int):gZ 256 (rX z):=fun c hc=>by
 unfold rX at hc
 rcases List.mem_append.1 hc with h |h
 ·split at h
  ·simp at h;omega
  ·cases h
 ·have:=rz _ c h
  omega
theorem dZ (z:Int):bytesOf (gJ z)=rX z:=tB (aa9 z)
theorem Xq (n:Nat):kC n≠ []:=by
 unfold kC
 split
 ·simp
 ·rename_i h
  intro e
  have h1:GJ (dX n)=[]:=by simpa using e
  have h2:dX n=[]:=by simpa [GJ] using h1
  exact h ((mw (B:=10) (by omega)).1 h2)
theorem rA (n:Nat):(kC n).length=max 1 (dX n).length:=by
 unfold kC
 split
 ·rename_i h;subst h;rw[dX,dY];rfl
 ·rename_i h
  have:(dX n).length≠0:=fun e=>h ((mw (B:=10) (by omega)).1 (List.length_eq_zero_iff.1 e))
  simp[GJ];omega
theorem aeA (n:Nat):(kC n).head?=some 48↔n=0:=by
 unfold kC
 split
 ·rename_i h;simp[h]
 ·rename_i h
  have hne:dX n≠ []:=fun e=>h ((mw (B:=10) (by omega)).1 e)
  constructor
  ·intro e
   exfalso
   rw[List.head?_reverse] at e
   have h1:dX n=(dX n).dropLast++[(dX n).getLast hne]:=(List.dropLast_concat_getLast hne).symm
   have h2:=Rb (B:=10) (by omega) h1
   rw[GJ,List.getLast?_map,List.getLast?_eq_some_getLast hne] at e
   simp at e
   omega
  ·intro e;exact absurd e h
def js (l:List Int):Int:=l.foldl (fun x c=>10*x+(c - 48)) 0
theorem KM:∀(l:List Int) (x:Int),l.foldl (fun x c=>10*x+(c - 48)) x=x*10^l.length+js l
 | [],x=>by simp[js]
 |c::l,x=>by
  simp only[List.foldl_cons,js]
  rw[KM l (10*x+(c - 48)),KM l (10*0+(c - 48)),List.length_cons,Int.pow_succ,Int.add_mul]
  have e1:10*x*10^l.length=x*(10^l.length*10):=by rw[Int.mul_comm 10 x,Int.mul_assoc,Int.mul_comm 10]
  rw[e1];simp only[Int.mul_zero,Int.zero_add];omega
theorem ED (l m:List Int):js (l++m)=js l*10^m.length+js m:=by
 rw[js,List.foldl_append,KM]
 rfl
theorem yJ:∀(d:List Int),js (GJ d).reverse=VX d
 | []=>rfl
 |x::d=>by
  simp only[GJ,List.map_cons,List.reverse_cons]
  rw[ED]
  have:=yJ d
  rw[GJ] at this
  rw[this]
  simp[js,VX,val];omega
theorem Gx (n:Nat):js (kC n)=n:=by
 unfold kC
 split
 ·rename_i h;subst h;rfl
 ·rw[yJ,Kd]
theorem Aa:∀(l:List Int),(∀c∈l,48≤c∧c≤57)→0≤js l∧js l<10^l.length
 | [],_=>by simp[js]
 |c::l,h=>by
  have h1:=h c (by simp)
  have h2:=Aa l (fun x hx=>h x (by simp[hx]))
  have h3:js (c::l)=(c - 48)*10^l.length+js l:=by
   have:=KM l (10*0+(c - 48))
   simpa [js] using this
  rw[h3,List.length_cons,Int.pow_succ]
  have hp:(0:Int)<10^l.length:=Int.pow_pos (by omega)
  have h4:0≤(c - 48)*10^l.length:=Int.mul_nonneg (by omega) (by omega)
  have h5:(c - 48)*10^l.length≤9*10^l.length:=Int.mul_le_mul_of_nonneg_right (by omega) (by omega)
  omega
def R1 (c:Int):Bool:=decide (48≤c)&&decide (c≤57)
theorem zd (c:Int):R1 c=true↔48≤c∧c≤57:=by simp[R1]
theorem aeB {l:List Int}(h:∀c∈l,48≤c∧c≤57)(hne:l≠ [])(h0:l.head?=some 48→l=[48]):l=kC (js l).toNat:=by
 by_cases hz:l.head?=some 48
 ·rw[h0 hz];rfl
 · -- LS digits from LS lowest one on
   have hD:DX (l.map (· - 48)).reverse:=fun x hx=>by
    rw[List.mem_reverse] at hx
    obtain⟨c,hc,rfl⟩:=List.mem_map.1 hx
    have:=h c hc
    omega
   have amY:GJ (l.map (· - 48)).reverse=l.reverse:=by
    simp only[GJ, ←List.map_reverse,List.map_map]
    conv=>rhs;rw[←List.map_id l.reverse]
    apply List.map_congr_left
    intro c _
    simp only[Function.comp,id];omega
   have hv:VX (l.map (· - 48)).reverse=js l:=by rw[←yJ,amY,List.reverse_reverse]
   have amZ:nD (l.map (· - 48)).reverse=(l.map (· - 48)).reverse:=by
    cases l with
    |nil=>exact absurd rfl hne
    |cons c l=>
     simp only[List.map_cons,List.reverse_cons]
     exact Du (fun e=>hz (by simp;omega)) _
   have hu:=aa8 (B:=10) (by omega) hD amZ
   rw[show val ((10:Nat):Int) (l.map (· - 48)).reverse=js l from hv] at hu
   have hnz:(js l).toNat≠0:=fun e=>by
    rw[e,dY] at hu
    exact hne (by simpa using hu)
   unfold kC
   rw[if_neg hnz,dX, ←hu,amY,List.reverse_reverse]
theorem Zs {m n:Nat}(h:kC m=kC n):m=n:=by
 have h1:=Gx m
 rw[h,Gx n] at h1
 omega
theorem ag2 {x y:Int}(h:rX x=rX y):x=y:=by
 unfold rX at h
 have key:∀(m n:Nat),([45]:List Int)++kC m≠ []++kC n:=fun m n e=>by
  have:(45:Int)∈kC n:=by
   rw[List.nil_append] at e
   rw[←e];simp
  have:=rz n _ this
  omega
 split at h<;>split at h
 ·have:=Zs (List.append_cancel_left h);omega
 ·exact absurd h (key _ _)
 ·exact absurd h.symm (key _ _)
 ·have:=Zs (List.append_cancel_left h);omega
theorem aiT {x y:Int}(h:gJ x=gJ y):x=y:=ag2 (by rw[←dZ, ←dZ,h])
theorem aba {x y:Int}:gJ x=gJ y↔x=y:=⟨aiT,fun h=>by rw[h]⟩
def jb (l:List Int):Bool:=l.head?==some 45
def bo (l:List Int):List Int:=if l.head?=some 45 then l.tail else l
def gi (l:List Int):Bool:=
 (bo l).all R1&& !((bo l).isEmpty)&&(!((bo l).head?==some 48)||((bo l).length==1&& !(jb l)))
def numOf (l:List Int):Int:=if jb l then -js (bo l) else js (bo l)
theorem Rc (z:Int):gi (rX z)=true∧numOf (rX z)=z:=by
 have hr:=rz z.natAbs
 have hne:=Xq z.natAbs
 have hh:=aeA z.natAbs
 by_cases h:z<0
 ·have hb:bo (rX z)=kC z.natAbs:=by simp[bo,rX,h]
  have hm:jb (rX z)=true:=by simp[jb,rX,h]
  have hz:¬(kC z.natAbs).head?=some 48:=fun e=>by have:=hh.1 e;omega
  refine⟨?_, ?_⟩
  ·unfold gi
   rw[hb,hm]
   have h1:(kC z.natAbs).all R1=true:=List.all_eq_true.2 fun c hc=>(zd c).2 (hr c hc)
   have h2:(kC z.natAbs).isEmpty=false:=by simpa using hne
   have h3:((kC z.natAbs).head?==some 48)=false:=by simpa using hz
   rw[h1,h2,h3];rfl
  ·unfold numOf
   rw[hb,hm,Gx];simp;omega
 ·have hb':(rX z).head?≠some 45:=by
   simp only[rX,h,if_false,List.nil_append]
   intro e
   have:(45:Int)∈kC z.natAbs:=List.mem_of_mem_head? (by rw[e];rfl)
   have:=hr _ this
   omega
  have hb:bo (rX z)=kC z.natAbs:=by
   unfold bo;rw[if_neg hb'];simp[rX,h]
  have hm:jb (rX z)=false:=by simpa [jb] using hb'
  refine⟨?_, ?_⟩
  ·unfold gi
   rw[hb,hm]
   have h1:(kC z.natAbs).all R1=true:=List.all_eq_true.2 fun c hc=>(zd c).2 (hr c hc)
   have h2:(kC z.natAbs).isEmpty=false:=by simpa using hne
   rw[h1,h2]
   by_cases h3:(kC z.natAbs).head?=some 48
   ·have:z.natAbs=0:=hh.1 h3
    rw[this];rfl
   ·have h4:((kC z.natAbs).head?==some 48)=false:=by simpa using h3
    rw[h4];rfl
  ·unfold numOf
   rw[hb,hm,Gx];simp;omega
theorem TT {l:List Int}(h:gi l=true):l=rX (numOf l):=by
 unfold gi at h
 simp only[Bool.and_eq_true,Bool.or_eq_true,Bool.not_eq_true',List.isEmpty_eq_false_iff] at h
 obtain⟨⟨h1,h2⟩,h3⟩:=h
 have hr:∀c∈bo l,48≤c∧c≤57:=fun c hc=>(zd c).1 (List.all_eq_true.1 h1 c hc)
 have h0:(bo l).head?=some 48→bo l=[48]∧jb l=false:=fun e=>by
  rcases h3 with h3 |h3
  ·rw[e] at h3;cases h3
  ·refine⟨?_,h3.2⟩
   cases hb:bo l with
   |nil=>exact absurd hb h2
   |cons c r=>
    rw[hb] at e h3
    simp at e h3
    rw[e,h3.1]
 have hn:=aeB hr h2 (fun e=>(h0 e).1)
 have hb:=Aa _ hr
 by_cases hm:l.head?=some 45
 ·have hm':jb l=true:=by simpa [jb] using hm
  have hnz:js (bo l)≠0:=fun e=>by
   rw[e] at hn
   have:(bo l).head?=some 48:=by rw[hn];rfl
   have:=(h0 this).2
   rw[hm'] at this;cases this
  have hl:l=45::bo l:=by
   cases l with
   |nil=>cases hm
   |cons c r=>simp at hm;subst hm;simp[bo]
  unfold numOf rX
  rw[if_pos hm',if_pos (by omega)]
  conv=>lhs;rw[hl,hn]
  have:(-js (bo l)).natAbs=(js (bo l)).toNat:=by omega
  rw[this];rfl
 ·have hm':jb l=false:=by simpa [jb] using hm
  have hl:bo l=l:=by unfold bo;rw[if_neg hm]
  unfold numOf rX
  rw[hm',hl]
  rw[hl] at hn hb
  simp only[Bool.false_eq_true,if_false]
  rw[if_neg (by omega),List.nil_append]
  have:(js l).natAbs=(js l).toNat:=by omega
  rw[this];exact hn
def nd (z:Int):Nat:=(kC z.natAbs).length
theorem ka (z:Int)(k:Nat)(hk:1≤k):nd z≤k↔z.natAbs<10^k:=by
 unfold nd
 rw[rA]
 have:=aM (B:=10) (by omega) k z.natAbs
 simp only[dX]
 rw[←this]
 omega
theorem TV (z:Int):nd (-z)=nd z:=by unfold nd;rw[Int.natAbs_neg]
theorem Zt (z:Int):(gJ z).size=nd z+(if z<0 then 1 else 0):=by
 rw[←aX,dZ]
 unfold rX nd
 split<;>simp<;>omega
end Go.Abs
namespace Go.Proofs.YtofjebmoebhiiaaGreatDoor.Ev
open Go.Abs Go.IntWalk
abbrev VU (d:List Int):Int:=val 1000000000 d
abbrev DU (d:List Int):Prop:=gZ 1000000000 d
abbrev dU (n:Nat):List Int:=Ul 1000000000 n
theorem IQ (n:Nat):DU (dU n):=Xm (B:=1000000000) (by omega) n
theorem Ke (n:Nat):VU (dU n)=n:=Xn (B:=1000000000) (by omega) n
theorem ac1 {d:List Int}(h:DU d):nD d=dU (VU d).toNat:=Gv (B:=1000000000) (by omega) d h
theorem yK {d:List Int}(h:DU d):0≤VU d:=kB (by omega) h
def W (z:Int):Bool×List Int×Unit:=(decide (z<0),dU z.natAbs,())
theorem aeC:∀(n:Nat) (d:List Int),d.length=n→n≤1000000000000000→nK d=some (nD d):=by
 intro n
 induction n with
 |zero=>
  intro d hd hn
  have:d=[]:=List.length_eq_zero_iff.1 hd
  subst this
  rw[Cz,yZ];rfl
 |succ n ih=>
  intro d hd hn
  obtain⟨d',y,rfl⟩:∃d' y,d=d'++[y]:=by
   have hne:d≠ []:=fun e=>by rw[e] at hd;cases hd
   exact⟨d.dropLast,d.getLast hne,(List.dropLast_concat_getLast hne).symm⟩
  have hl:d'.length=n:=by simpa using hd
  have hy:(d'++[y]).getD d'.length 0=y:=by simp[List.getD]
  have ht:(d'++[y]).take d'.length=d':=by simp
  rw[Cz,yZ]
  simp only[List.length_append,List.length_cons,List.length_nil]
  simp (disch:=omega) only[i64_in,agY,cond_true,ac0,amX]
  rw[rq (by omega) (by simp;omega)]
  have e:(((d'.length+(0+1):Nat):Int) - 1).toNat=d'.length:=by omega
  rw[e,hy,ht]
  simp only[Option.bind_some]
  by_cases h0:y=0
  ·subst h0
   rw[z8,ih d' hl (by omega)];rfl
  ·rw[Kb h0,Du h0];rfl
theorem EE {d:List Int}(h:d.length≤1000000000000000):mZ d=some (nD d):=by
 rw[Q0,MR];exact aeC _ d rfl h
theorem ze {neg:Bool}{d:List Int}(hd:DU d)(h:d.length≤1000000000000000):jf neg d=some (W (bif neg then -VU d else VU d)):=by
 rw[L7,Hl,EE h,ac1 hd]
 have hv:=yK hd
 obtain⟨v,hv'⟩:=Int.eq_ofNat_of_zero_le hv
 rw[hv']
 simp only[Option.bind_some,Int.toNat_natCast]
 have hl:(0<(dU v).length)↔0<v:=by
  have:=fR (B:=1000000000) (by omega) 0 v
  rw[Nat.pow_zero] at this
  exact this
 cases neg with
 |true=>
  have e:decide (((dU v).length:Int)>0)=decide (-(v:Int)<0):=decide_eq_decide.2 ⟨fun h=>by have:=hl.1 (by omega);omega,fun h=>by have:=hl.2 (by omega);omega⟩
  simp only[cond_true,W,Int.natAbs_neg,Int.natAbs_natCast,e]
 |false=>
  simp only[cond_false,W,Int.natAbs_natCast]
  rw[xT (by omega)]
theorem aeD {a b:List Int}(ha:DU a)(hb:DU b)(hl:a.length=b.length)(hl':a.length≤1000000000000):∀(k:Nat),k≤a.length→
  nJ a b ((k:Int) - 1)=some (qA (VU (a.take k)) (VU (b.take k))):=by
 intro k
 induction k with
 |zero=>
  intro hk
  rw[Cw,yY]
  simp (disch:=omega) only[Zq,cond_false]
  simp[qA]
 |succ k ih=>
  intro hk
  rw[Cw,yY]
  have e:((k+1:Nat):Int) - 1=k:=by omega
  rw[e,dA (show k<a.length by omega),dA (show k<b.length by omega)]
  simp (disch:=omega) only[acX,cond_true,rq,Option.bind_some,Int.toNat_natCast,i64_in]
  have hta:(a.take k).length=(b.take k).length:=by simp;omega
  by_cases h:a.getD k 0=b.getD k 0
  ·rw[ag0 h,ih (by omega)]
   simp only[cond_false,VU,fj,hta,h]
   generalize (1000000000:Int)^(b.take k).length*val 1000000000 [b.getD k 0]=z
   by_cases h1:val 1000000000 (a.take k)<val 1000000000 (b.take k)
   ·rw[tN h1,tN (by omega)]
   ·by_cases h2:val 1000000000 (b.take k)<val 1000000000 (a.take k)
    ·rw[xe h2,xe (by omega)]
    ·rw[KK (by omega),KK (by omega)]
  ·rw[agZ h]
   simp only[cond_true]
   by_cases h1:a.getD k 0<b.getD k 0
   ·rw[z7 h1]
    rw[tN (Xo (by omega) (ha.take k) (hb.take k) hta h1)]
    rfl
   ·rw[xT h1]
    rw[xe (Xo (by omega) (hb.take k) (ha.take k) hta.symm (by omega))]
    rfl
theorem Kf {m n:Nat}(hm:(dU m).length≤1000000000000)(hn:(dU n).length≤1000000000000):zq (dU m) (dU n)=some (qA m n):=by
 rw[QY,MP]
 by_cases h:(dU m).length=(dU n).length
 ·have:=aeD (IQ m) (IQ n) h hm (dU m).length (Nat.le_refl _)
  rw[ag0 (by omega)]
  simp (disch:=omega) only[cond_false,i64_in]
  rw[this,h,List.take_length]
  rw[←h,List.take_length,Ke,Ke]
 ·rw[agZ (by omega)]
  have l1:=(aM (B:=1000000000) (by omega) (dU m).length m).1 (Nat.le_refl _)
  have l2:=(aM (B:=1000000000) (by omega) (dU n).length n).1 (Nat.le_refl _)
  simp only[cond_true]
  by_cases h1:(dU m).length<(dU n).length
  ·rw[z7 (by omega)]
   have:=(fR (B:=1000000000) (by omega) (dU m).length n).1 h1
   rw[tN (by omega)];rfl
  ·rw[xT (by omega)]
   have:=(fR (B:=1000000000) (by omega) (dU n).length m).1 (show (dU n).length<(dU m).length by omega)
   rw[xe (by omega)];rfl
theorem ag3 {m n:Nat}(h:m≤n):(dU m).length≤(dU n).length:=by
 have l2:=(aM (B:=1000000000) (by omega) (dU n).length n).1 (Nat.le_refl _)
 exact(aM (B:=1000000000) (by omega) (dU n).length m).2 (by omega)
end Go.Proofs.YtofjebmoebhiiaaGreatDoor.Ev
namespace Go.Proofs.YtofjebmoebhiiaaGreatDoor.Ev
open Go.Abs Go.IntWalk
def Ln (z:Int):Nat:=(dU z.natAbs).length
theorem Gy (z:Int)(k:Nat):Ln z≤k↔z.natAbs<1000000000^k:=aM (B:=1000000000) (by omega) k z.natAbs
theorem ac2 (z:Int):z.natAbs<1000000000^Ln z:=(Gy z _).1 (Nat.le_refl _)
theorem aiU {x y:Int}(h:x.natAbs≤y.natAbs):Ln x≤Ln y:=ag3 h
theorem ag4 (x y:Int):Ln (x*y)≤Ln x+Ln y:=by
 rw[Gy,Int.natAbs_mul,Nat.pow_add]
 have h1:=ac2 x
 have h2:=ac2 y
 exact Nat.mul_lt_mul'' h1 h2
theorem xf (z:Int):((W z).1,((W z).2.1,()))=W z:=rfl
theorem W_1 (z:Int):(W z).1=decide (z<0):=rfl
theorem W_2 (z:Int):(W z).2.1=dU z.natAbs:=rfl
theorem o6 (z:Int):(dU z.natAbs).length=Ln z:=rfl
theorem Qh {x:Int}(hx:Ln x≤100000000000):ph (W x)=some (W (-x)):=by
 rw[FV,Au]
 simp only[W_1,W_2]
 rw[ze (IQ _) (show (dU x.natAbs).length≤_ by rw[o6];omega),Ke]
 by_cases h:x<0
 ·rw[z7 h]
  have:(bif !true then -(x.natAbs:Int) else (x.natAbs:Int))= -x:=by simp only[Bool.not_true,cond_false];omega
  rw[this];rfl
 ·rw[xT h]
  have:(bif !false then -(x.natAbs:Int) else (x.natAbs:Int))= -x:=by simp only[Bool.not_false,cond_true];omega
  rw[this];rfl
theorem ag5 (x:Int):((W x).2.1.length:Int)=(Ln x:Int):=rfl
theorem Ab (x:Int):Ln x=0↔x=0:=by
 have:=Gy x 0
 rw[Nat.pow_zero] at this
 omega
def abb (x:Int):Int:=if x<0 then -1 else if 0<x then 1 else 0
theorem xg (x:Int):iK (W x)=some (abb x):=by
 rw[D8,yw,ag5,W_1]
 have h0:=Ab x
 unfold abb
 by_cases hz:x=0
 ·rw[acY (by omega)];simp[hz]
 ·rw[Kb (by omega)]
  simp only[cond_false]
  by_cases h:x<0
  ·rw[z7 h,if_pos h];rfl
  ·rw[xT h,if_neg h,if_pos (by omega)];rfl
theorem kb {x y:Int}(hx:Ln x≤100000000000)(hy:Ln y≤100000000000):fQ (W x) (W y)=some (qA x y):=by
 rw[FT,Ar]
 simp only[W_1,W_2]
 rw[Kf (show (dU x.natAbs).length≤_ by rw[o6];omega) (show (dU y.natAbs).length≤_ by rw[o6];omega),
  Kf (show (dU y.natAbs).length≤_ by rw[o6];omega) (show (dU x.natAbs).length≤_ by rw[o6];omega)]
 simp only[Option.bind_some]
 by_cases h1:x<0<;>by_cases h2:y<0
 ·rw[z7 h1,z7 h2]
  simp only[beq_self_eq_true,Bool.not_true,cond_false,cond_true,Option.some.injEq]
  unfold qA
  by_cases h3:x<y
  ·rw[if_pos h3,if_pos (by omega)]
  ·rw[if_neg h3,if_neg (by omega)]
   by_cases h4:y<x
   ·rw[if_pos h4,if_pos (by omega)]
   ·rw[if_neg h4,if_neg (by omega)]
 ·rw[z7 h1,xT h2,tN (x:=x) (y:=y) (by omega)];rfl
 ·rw[xT h1,z7 h2,xe (x:=x) (y:=y) (by omega)];rfl
 ·rw[xT h1,xT h2]
  simp only[beq_self_eq_true,Bool.not_true,cond_false,Option.some.injEq]
  unfold qA
  by_cases h3:x<y
  ·rw[if_pos h3,if_pos (by omega)]
  ·rw[if_neg h3,if_neg (by omega)]
   by_cases h4:y<x
   ·rw[if_pos h4,if_pos (by omega)]
   ·rw[if_neg h4,if_neg (by omega)]
theorem ac3 (neg:Bool)(t:Bool)(t2:List Int):∀(n:Nat) (u:Nat) (d:List Int),u<1000000000^n→u<18446744073709551616→d.length+n≤1000→uX u neg d t t2=some (neg,(d++dU u,())):=by
 intro n
 induction n with
 |zero=>
  intro u d hu hu' hd
  have:u=0:=by rw[Nat.pow_zero] at hu;omega
  subst this
  rw[Hj,D6]
  simp[dU,dY]
 |succ n ih=>
  intro u d hu hu' hd
  rw[Hj,D6]
  by_cases h0:u=0
  ·subst h0;simp[dU,dY]
  ·have ht:([(u:Int) % 1000000000]:List Int).length=1:=rfl
   simp (disch:=omega) only[agY,cond_true,bP,u32_in,u64_quo,ht,RZ]
   have e1:((u:Int) / 1000000000)=((u / 1000000000:Nat):Int):=by omega
   have e2:((u:Int) % 1000000000)=((u % 1000000000:Nat):Int):=by omega
   rw[Nat.pow_succ] at hu
   rw[e1,e2,ih (u / 1000000000) _ (by omega) (by omega) (by simp;omega)]
   rw[show dU u=_ from zb (B:=1000000000) (by omega) (by omega)]
   simp
theorem V8 {n:Int}(h0: -9223372036854775808≤n)(h1:n≤9223372036854775807):yk n=some (W n):=by
 rw[V6,TB]
 by_cases h:n<0
 ·have e1:IntKind.wrap .u64 n=n+18446744073709551616:=by rw[IntKind.wrap_u64];omega
  have e2:IntKind.wrap .u64 (0 - (n+18446744073709551616))=(n.natAbs:Int):=by rw[IntKind.wrap_u64];omega
  rw[z7 h,e1,e2,ac3 _ _ _ 3 n.natAbs [] (by omega) (by omega) (by simp)]
  simp[W,h]
 ·have e1:IntKind.wrap .u64 n=(n.natAbs:Int):=by rw[IntKind.wrap_u64];omega
  rw[xT h,e1,ac3 _ _ _ 3 n.natAbs [] (by omega) (by omega) (by simp)]
  simp[W,h]
end Go.Proofs.YtofjebmoebhiiaaGreatDoor.Ev
namespace Go.Abs
theorem Dw {l:List Int}{n:Nat}{v:Int}(h:n<l.length):(l.set n v).take (n+1)=l.take n++[v]:=by
 rw[dA (by simpa using h),List.take_set_of_le (Nat.le_refl n)]
 simp[List.getD,h]
theorem set_drop {l:List Int}{n:Nat}{v:Int}:(l.set n v).drop (n+1)=l.drop (n+1):=by
 rw[List.drop_set_of_lt (by omega)]
theorem TW (l:List Int)(k:Nat):l=l.take k++l.drop k:=(List.take_append_drop k l).symm
theorem Kg (n j:Nat):(List.replicate n (0:Int)).getD j 0=0:=by
 by_cases h:j<n
 ·simp only[List.getD,List.getElem?_replicate,if_pos h];rfl
 ·exact getD_none (by simp;omega)
theorem aeE {x y:Int}(hx:0≤x∧x<1000000000)(hy:0≤y∧y<1000000000):0≤x*y∧x*y≤999999998000000001:=by
 have h1:=Int.mul_nonneg hx.1 hy.1
 have h2:x*y≤999999999*y:=Int.mul_le_mul_of_nonneg_right (by omega) hy.1
 exact⟨h1,by omega⟩
end Go.Abs
namespace Go.Proofs.YtofjebmoebhiiaaGreatDoor.Ev
open Go.Abs Go.IntWalk
def amL:List Int→Int→List Int→Int→List Int
 | [],x,o::os,c=>c::os
 | [],x,[],c=>[]
 |y::ys,x,o::os,c=>(x*y+o+c) % 1000000000::amL ys x os ((x*y+o+c) / 1000000000)
 |y::ys,x,[],c=>[]
def mlL:List Int→List Int→List Int→List Int
 | [],b,o=>o
 |x::xs,b,o=>match amL b x o 0 with
  | []=>[]
  |h::t=>h::mlL xs b t
theorem Nx:∀(b:List Int) (x:Int) (o:List Int) (c:Int),b.length<o.length→(amL b x o c).length=o.length
 | [],x,[],c,h=>by simp at h
 | [],x,o::os,c,h=>by simp[amL]
 |y::ys,x,[],c,h=>by simp at h
 |y::ys,x,o::os,c,h=>by simp only[amL,List.length_cons];rw[Nx ys x os _ (by simpa using h)]
theorem Xr:∀(b:List Int) (x:Int) (o:List Int) (c:Int),b.length<o.length→DU b→DU o→0≤x∧x<1000000000→0≤c∧c<1000000000→o.getD b.length 0=0→
  VU (amL b x o c)=VU o+x*VU b+c∧DU (amL b x o c)∧(amL b x o c).drop (b.length+1)=o.drop (b.length+1)
 | [],x,[],c,h,hb,ho,hx,hc,hz=>by simp at h
 | [],x,o::os,c,h,hb,ho,hx,hc,hz=>by
   have:o=0:=by simpa using hz
   subst this
   simp only[amL]
   exact⟨by simp[VU,val];omega,gZ.cons hc.1 hc.2 ho.tail,by simp⟩
 |y::ys,x,[],c,h,hb,ho,hx,hc,hz=>by simp at h
 |y::ys,x,o::os,c,h,hb,ho,hx,hc,hz=>by
  have hy:=hb.head
  have hoo:=ho.head
  have hm:=aeE hx hy
  obtain⟨e1,e2,e3⟩:=Xr ys x os ((x*y+o+c) / 1000000000) (by simpa using h) hb.tail ho.tail hx (by omega) (by simpa using hz)
  simp only[amL]
  refine⟨?_,gZ.cons (by omega) (by omega) e2,by simpa using e3⟩
  simp only[VU,val] at e1 ⊢
  have e4:x*(y+1000000000*val 1000000000 ys)=x*y+1000000000*(x*val 1000000000 ys):=by rw[Int.mul_add,Int.mul_left_comm]
  rw[e1,e4]
  omega
theorem ac5:∀(a b o:List Int),o.length=a.length+b.length→DU a→DU b→DU o→(∀j,b.length≤j→o.getD j 0=0)→
  VU (mlL a b o)=VU o+VU a*VU b∧DU (mlL a b o)∧(mlL a b o).length=o.length
 | [],b,o,hl,ha,hb,ho,hz=>by simp[mlL,VU,val];exact ho
 |x::xs,b,o,hl,ha,hb,ho,hz=>by
  have hlt:b.length<o.length:=by simp at hl;omega
  obtain⟨e1,e2,e3⟩:=Xr b x o 0 hlt hb ho ha.head ⟨by omega,by omega⟩ (hz _ (Nat.le_refl _))
  have e4:=Nx b x o 0 hlt
  simp only[mlL]
  split
  ·rename_i e;rw[e] at e4;simp at e4;omega
  ·rename_i h t e
   rw[e] at e1 e2 e3 e4
   obtain⟨f1,f2,f3⟩:=ac5 xs b t (by simp at hl e4;omega) ha.tail hb e2.tail (fun j hj=>by
    have h5:(h::t).drop (b.length+1)=t.drop b.length:=rfl
    have h6:t.getD j 0=(t.drop b.length).getD (j - b.length) 0:=by rw[rW];congr 1;omega
    rw[h6, ←h5,e3,rW]
    exact hz _ (by omega))
   refine⟨?_,gZ.cons e2.head.1 e2.head.2 f2,by simp[f3] at e4 ⊢;omega⟩
   simp only[VU,val] at e1 f1 ⊢
   rw[f1,Int.add_mul,Int.mul_assoc]
   omega
theorem aeF {a b:List Int}{sa sb:Bool}{t8:List Int}{t7:Bool}{x:Int}{i:Nat}(hb:DU b)(hx:0≤x∧x<1000000000)(hi:i<a.length)(hl:a.length≤1000000000000)(hl':b.length≤1000000000000):
  ∀(m k:Nat) (c:Int) (out:List Int),m+k=b.length→out.length=a.length+b.length→DU out→0≤c∧c<1000000000→
  fC i x c a a.length i b b.length k out sa a sb b t7 t8=de a a.length (i+1) (out.take (i+k)++amL (b.drop k) x (out.drop (i+k)) c) sa a sb b t7 t8:=by
 intro m
 induction m with
 |zero=>
  intro k c out hk ho hd hc
  have hk':k=b.length:=by omega
  subst hk'
  rw[sC,nW]
  simp (disch:=omega) only[xT,cond_false,i64_in,u32_in]
  rw[rq (by omega) (by omega),TP (show ((i:Int)+b.length).toNat<out.length by omega)]
  have e:((i:Int)+b.length).toNat=i+b.length:=by omega
  simp only[Option.bind_some,e]
  rw[drop_nil (Nat.le_refl _),drop_eq (show i+b.length<out.length by omega)]
  simp only[amL]
  congr 1
  conv=>lhs;rw[TW (out.set (i+b.length) c) (i+b.length+1)]
  rw[Dw (by omega),set_drop]
  simp
 |succ m ih=>
  intro k c out hk ho hd hc
  have hy:=hb.getD (by omega) k
  have hoo:=hd.getD (by omega) (i+k)
  have hm:=aeE hx hy
  rw[sC,nW]
  have e:((i:Int)+k).toNat=i+k:=by omega
  simp (disch:=omega) only[z7,cond_true,i64_in,rq,TP,Option.bind_some,u64_in,Int.toNat_natCast,e]
  simp (disch:=omega) only[u64_in,u64_quo,bP,u32_in]
  have tS:=fun c out=>ih (k+1) c out (by omega)
  simp only[Int.natCast_add,Int.natCast_one] at tS
  rw[tS _ _ (by simp[ho]) (hd.set (by omega) (by omega) _) (by omega)]
  congr 1
  rw[drop_eq (show k<b.length by omega),drop_eq (show i+k<out.length by omega)]
  simp only[amL]
  rw[show i+(k+1)=i+k+1 by omega,Dw (by omega),set_drop]
  have e2:c+(x*b.getD k 0+out.getD (i+k) 0)=x*b.getD k 0+out.getD (i+k) 0+c:=by omega
  rw[e2]
  simp
theorem aeG {a b:List Int}{sa sb:Bool}{t8:List Int}{t7:Bool}(ha:DU a)(hb:DU b)(hl:a.length≤1000000000000)(hl':b.length≤1000000000000):
  ∀(m i:Nat) (out:List Int),m+i=a.length→out.length=a.length+b.length→DU out→(∀j,b.length≤j→(out.drop i).getD j 0=0)→
  de a a.length i out sa a sb b t7 t8=jf (!(sa==sb)) (out.take i++mlL (a.drop i) b (out.drop i)):=by
 intro m
 induction m with
 |zero=>
  intro i out hi ho hd hz
  have hi':i=a.length:=by omega
  rw[sB,nV]
  simp (disch:=omega) only[xT,cond_false,drop_nil,mlL,List.take_append_drop]
  cases jf (!(sa==sb)) out<;>rfl
 |succ m ih=>
  intro i out hi ho hd hz
  have hx:=ha.getD (by omega) i
  rw[sB,nV]
  simp (disch:=omega) only[z7,cond_true,rq,Option.bind_some,Int.toNat_natCast]
  have hI:=aeF (a:=a) (sa:=sa) (sb:=sb) (t7:=t7) (t8:=t8) (i:=i) hb hx (by omega) hl hl' b.length 0 0 out (by omega) ho hd ⟨by omega,by omega⟩
  simp only[Int.natCast_zero] at hI
  rw[hI]
  have hlen:(out.drop (i+0)).length=a.length - i+b.length:=by simp;omega
  have hlt:b.length<(out.drop (i+0)).length:=by omega
  obtain⟨e1,e2,e3⟩:=Xr b (a.getD i 0) (out.drop (i+0)) 0 hlt hb (hd.drop _) hx ⟨by omega,by omega⟩ (hz _ (Nat.le_refl _))
  have e4:=Nx b (a.getD i 0) (out.drop (i+0)) 0 hlt
  have tS:=fun out=>ih (i+1) out (by omega)
  simp only[Int.natCast_add,Int.natCast_one] at tS
  rw[drop_eq (show i<a.length by omega)]
  simp only[mlL,List.drop_zero,Nat.add_zero,Int.natCast_zero] at*
  cases hA:amL b (a.getD i 0) (out.drop i) 0 with
  |nil=>rw[hA] at e4;simp at e4;omega
  |cons h t=>
   rw[hA] at e2 e3 e4
   have htl:(out.take i).length=i:=by simp;omega
   have h7:(out.take i++h::t).drop (i+1)=t:=by
    rw[List.drop_append,htl]
    have:(out.take i).drop (i+1)=[]:=drop_nil (by omega)
    rw[this];simp
   have h8:(out.take i++h::t).take (i+1)=out.take i++[h]:=by
    rw[List.take_append,htl]
    have:(out.take i).take (i+1)=out.take i:=List.take_of_length_le (by omega)
    rw[this];simp
   rw[tS _ (by simp[ho] at e4 ⊢;omega) ((hd.take _).append e2) (fun j hj=>by
    rw[h7]
    have h5:(h::t).drop (b.length+1)=t.drop b.length:=rfl
    have h6:t.getD j 0=(t.drop b.length).getD (j - b.length) 0:=by rw[rW];congr 1;omega
    rw[h6, ←h5,e3,rW]
    exact hz _ (by omega)),h7,h8]
   simp
theorem Gz {x y:Int}(hx:Ln x≤100000000000)(hy:Ln y≤100000000000):pk (W x) (W y)=some (W (x*y)):=by
 rw[FY,Aw]
 simp only[W_1,W_2,o6]
 simp (disch:=omega) only[i64_in,OW,cond_true]
 have ao1:(((Ln x:Nat):Int)+(Ln y:Nat)).toNat=Ln x+Ln y:=by omega
 rw[ao1]
 have ha:=IQ x.natAbs
 have hb:=IQ y.natAbs
 have h1:=aeG (sa:=decide (x<0)) (sb:=decide (y<0)) (t7:=false) (t8:=[]) ha hb (by rw[o6];omega) (by rw[o6];omega) (Ln x) 0 (List.replicate (Ln x+Ln y) 0) (by rw[o6];omega)
  (by rw[List.length_replicate,o6,o6]) (gZ.replicate (by omega) _) (fun j hj=>by
   rw[rW]
   exact Kg _ _)
 rw[o6] at h1
 have h2:de (dU x.natAbs) (Ln x) 0 (List.replicate (Ln x+Ln y) 0) (decide (x<0)) (dU x.natAbs) (decide (y<0)) (dU y.natAbs) false []=_:=h1
 rw[h2]
 obtain⟨e1,e2,e3⟩:=ac5 (dU x.natAbs) (dU y.natAbs) (List.replicate (Ln x+Ln y) 0) (by rw[List.length_replicate,o6,o6]) ha hb (gZ.replicate (by omega) _) (fun j hj=>by
   exact Kg _ _)
 simp only[List.take_zero,List.nil_append,List.drop_zero]
 rw[ze e2 (by rw[e3,List.length_replicate];omega),e1,Ke,Ke]
 simp only[VU,Mk,Int.zero_add]
 have key:(bif !(decide (x<0)==decide (y<0)) then -((x.natAbs:Int)*(y.natAbs:Int)) else ((x.natAbs:Int)*(y.natAbs:Int)))=x*y:=by
  by_cases h1:x<0<;>by_cases h2:y<0
  ·rw[z7 h1,z7 h2]
   have e1:(x.natAbs:Int)= -x:=by omega
   have e2:(y.natAbs:Int)= -y:=by omega
   rw[e1,e2];simp[Int.neg_mul,Int.mul_neg]
  ·rw[z7 h1,xT h2]
   have e1:(x.natAbs:Int)= -x:=by omega
   have e2:(y.natAbs:Int)=y:=by omega
   rw[e1,e2];simp[Int.neg_mul,Int.mul_neg]
  ·rw[xT h1,z7 h2]
   have e1:(x.natAbs:Int)=x:=by omega
   have e2:(y.natAbs:Int)= -y:=by omega
   rw[e1,e2];simp[Int.neg_mul,Int.mul_neg]
  ·rw[xT h1,xT h2]
   have e1:(x.natAbs:Int)=x:=by omega
   have e2:(y.natAbs:Int)=y:=by omega
   rw[e1,e2];simp[Int.neg_mul,Int.mul_neg]
 rw[key]
def RJ:List Int→Int→Int→List Int
 | [],k,c=>[c]
 |x::xs,k,c=>(c+x*k) % 1000000000::RJ xs k ((c+x*k) / 1000000000)
theorem Xs:∀(a:List Int) (k c:Int),DU a→0≤k∧k<1000000000→0≤c∧c<1000000000→VU (RJ a k c)=VU a*k+c∧DU (RJ a k c)∧(RJ a k c).length=a.length+1
 | [],k,c,ha,hk,hc=>by
   simp only[RJ]
   exact⟨by simp[VU,val],gZ.cons hc.1 hc.2 gZ.nil,rfl⟩
 |x::xs,k,c,ha,hk,hc=>by
  have hm:=aeE ha.head hk
  obtain⟨e1,e2,e3⟩:=Xs xs k ((c+x*k) / 1000000000) ha.tail hk (by omega)
  simp only[RJ]
  refine⟨?_,gZ.cons (by omega) (by omega) e2,by simp[e3]⟩
  simp only[VU,val] at e1 ⊢
  rw[e1,Int.add_mul,Int.mul_assoc]
  omega
theorem Zu {a:List Int}{k:Int}(ha:DU a)(hk:0≤k∧k<1000000000)(hl:a.length≤1000000000000):∀(m i:Nat) (c:Int) (out:List Int),m+i=a.length→out.length=i→0≤c∧c<1000000000→
  jQ k c a a.length i out=some (out++RJ (a.drop i) k c):=by
 intro m
 induction m with
 |zero=>
  intro i c out hi ho hc
  rw[yA,tL]
  simp (disch:=omega) only[xT,cond_false,RZ,cond_true,drop_nil,RJ,u32_in]
 |succ m ih=>
  intro i c out hi ho hc
  have hx:=ha.getD (by omega) i
  have hm:=aeE hx hk
  rw[yA,tL]
  simp (disch:=omega) only[z7,cond_true,rq,Option.bind_some,Int.toNat_natCast,u64_in]
  simp (disch:=omega) only[u64_in,bP,u64_quo,RZ,cond_true,i64_in,u32_in]
  have tS:=fun c out=>ih (i+1) c out (by omega)
  simp only[Int.natCast_add,Int.natCast_one] at tS
  rw[tS _ _ (by simp;omega) (by omega),drop_eq (show i<a.length by omega)]
  simp[RJ]
theorem Mm {a:List Int}{k:Int}(ha:DU a)(hk:0≤k∧k<1000000000)(hl:a.length≤1000000000000):yn a k=some (RJ a k 0):=by
 rw[L8,Hm]
 simp (disch:=omega) only[i64_in,OW,cond_true]
 have:=Zu ha hk hl a.length 0 0 [] (by omega) rfl ⟨by omega,by omega⟩
 simpa using this
def DK (b:Int):List Int→List Int×Int
 | []=>([],0)
 |x::xs=>((((DK b xs).2*1000000000+x) / b)::(DK b xs).1,((DK b xs).2*1000000000+x) % b)
theorem OZ {b:Int}(hb:0<b∧b<1000000000):∀(a:List Int),DU a→VU a=VU (DK b a).1*b+(DK b a).2∧0≤(DK b a).2∧(DK b a).2<b∧DU (DK b a).1∧(DK b a).1.length=a.length
 | [],ha=>⟨by simp[DK,VU,val],by simp[DK],by simp[DK];omega,gZ.nil,rfl⟩
 |x::xs,ha=>by
  have hx:=ha.head
  obtain⟨e1,e2,e3,e4,e5⟩:=OZ hb xs ha.tail
  have hd:=Int.mul_ediv_add_emod ((DK b xs).2*1000000000+x) b
  have hlt:=Int.emod_lt_of_pos ((DK b xs).2*1000000000+x) hb.1
  have hnn:=Int.emod_nonneg ((DK b xs).2*1000000000+x) (show b≠0 by omega)
  have hq0:0≤((DK b xs).2*1000000000+x) / b:=Int.ediv_nonneg (by omega) (by omega)
  have hq1:((DK b xs).2*1000000000+x) / b<1000000000:=Int.ediv_lt_of_lt_mul hb.1 (by omega)
  simp only[DK]
  refine⟨?_,hnn,hlt,gZ.cons hq0 hq1 e4,by simp[e5]⟩
  simp only[VU,val] at e1 ⊢
  have e7:(((DK b xs).2*1000000000+x) / b+1000000000*val 1000000000 (DK b xs).1)*b=b*(((DK b xs).2*1000000000+x) / b)+1000000000*(val 1000000000 (DK b xs).1*b):=by
   rw[Int.add_mul,Int.mul_assoc,Int.mul_comm (_ / b) b]
  rw[e1,e7]
  omega
theorem abc {a:List Int}{b:Int}(ha:DU a)(hb:0<b∧b<1000000000)(hl:a.length≤1000000000000):∀(k:Nat) (out:List Int),k≤a.length→out.length=a.length→out.drop k=(DK b (a.drop k)).1→
  lK a b (DK b (a.drop k)).2 ((k:Int) - 1) out=some (DK b a):=by
 intro k
 induction k with
 |zero=>
  intro out hk ho hd
  rw[Ax,wc]
  obtain⟨e1,e2,e3,e4,e5⟩:=OZ hb a ha
  simp only[List.drop_zero] at hd ⊢
  simp (disch:=omega) only[Zq,cond_false,u32_in]
  rw[hd]
 |succ k ih=>
  intro out hk ho hd
  obtain⟨e1,e2,e3,e4,e5⟩:=OZ hb (a.drop (k+1)) (ha.drop _)
  have hx:=ha.getD (by omega) k
  have hq0:0≤((DK b (a.drop (k+1))).2*1000000000+a.getD k 0) / b:=Int.ediv_nonneg (by omega) (by omega)
  have hq1:((DK b (a.drop (k+1))).2*1000000000+a.getD k 0) / b<1000000000:=Int.ediv_lt_of_lt_mul hb.1 (by omega)
  rw[Ax,wc]
  have e:((k+1:Nat):Int) - 1=k:=by omega
  rw[e]
  simp (disch:=omega) only[acX,cond_true,rq,TP,Option.bind_some,Int.toNat_natCast,u64_in]
  simp (disch:=omega) only[u64_in,u64_quo,bP,Kb,cond_false,u32_in,i64_in]
  have h1:DK b (a.drop k)=((((DK b (a.drop (k+1))).2*1000000000+a.getD k 0) / b)::(DK b (a.drop (k+1))).1,((DK b (a.drop (k+1))).2*1000000000+a.getD k 0) % b):=by
   rw[drop_eq (show k<a.length by omega)];rfl
  have h2:=ih (out.set k (((DK b (a.drop (k+1))).2*1000000000+a.getD k 0) / b)) (by omega) (by simpa using ho) (by
   rw[h1,drop_eq (by simp;omega),set_drop,hd]
   simp[List.getD,show k<out.length by omega])
  rw[h1] at h2
  exact h2
theorem O0 {a:List Int}{b:Int}(ha:DU a)(hb:0<b∧b<1000000000)(hl:a.length≤1000000000000):uZ a b=some (DK b a):=by
 rw[Oy,Jz]
 simp (disch:=omega) only[i64_in,OW,cond_true,Int.toNat_natCast]
 have:=abc ha hb hl a.length (List.replicate a.length 0) (Nat.le_refl _) (by simp) (by rw[drop_nil (Nat.le_refl _),drop_nil (by simp)];rfl)
 rw[drop_nil (Nat.le_refl _)] at this
 exact this
end Go.Proofs.YtofjebmoebhiiaaGreatDoor.Ev
namespace Go.Abs
section
variable {P V R vl wl v1 v2 u1 u2 u3 g rest:Int}
theorem ag6 (hP:0<P)(hvl:vl<P)(hwl:0≤wl)(hV:V=vl+P*(v2+1000000000*v1))(hR:R=wl+P*(u3+1000000000*(u2+1000000000*u1)))
  (h2:v2<1000000000) (h3:0≤u3) (h4:0≤u2) (hlt:R<V*1000000000):u1≤v1:=by
 by_cases h:u1≤v1
 ·exact h
 ·exfalso
  have e1:P*(v1+1)≤P*u1:=Int.mul_le_mul_of_nonneg_left (by omega) (by omega)
  have e2:P*(v2+1)≤P*1000000000:=Int.mul_le_mul_of_nonneg_left (by omega) (by omega)
  have e3:0≤P*u3:=Int.mul_nonneg (by omega) h3
  have e4:0≤P*u2:=Int.mul_nonneg (by omega) h4
  simp only[Int.mul_add,Int.mul_one,Int.mul_left_comm P 1000000000] at hV hR e1 e2
  omega
theorem ald (hP:0<P)(hV0:0<V)(hvl:0≤vl)(hwl:wl<P)(hV:V=vl+P*(v2+1000000000*v1))(hR:R=wl+P*(u3+1000000000*(u2+1000000000*u1)))
  (hg:0≤g) (ht:u1*1000000000+u2=g*v1+rest) (hlt:R<V*1000000000) (h:g≥1000000000∨g*v2>rest*1000000000+u3):R<g*V:=by
 rcases h with h |h
 ·have e1:V*1000000000≤V*g:=Int.mul_le_mul_of_nonneg_left h (by omega)
  rw[Int.mul_comm V g] at e1
  omega
 ·have e1:0≤g*vl:=Int.mul_nonneg hg hvl
  have e2:P*(rest*1000000000+u3+1)≤P*(g*v2):=Int.mul_le_mul_of_nonneg_left (by omega) (by omega)
  have e3:P*(u1*1000000000+u2)=P*(g*v1+rest):=by rw[ht]
  have e4:g*V=g*vl+(P*(g*v2)+1000000000*(P*(g*v1))):=by
   rw[hV,Int.mul_add,Int.mul_left_comm g P,Int.mul_add g,Int.mul_left_comm g 1000000000,Int.mul_add P,Int.mul_left_comm P 1000000000]
  simp only[Int.mul_add,Int.mul_one, ←Int.mul_assoc,Int.mul_left_comm P 1000000000] at e2 e3 hR e4
  simp only[Int.mul_assoc,Int.mul_comm _ (1000000000:Int),Int.mul_left_comm _ (1000000000:Int)] at e2 e3 hR e4 ⊢
  omega
theorem aiW {G:Int}(hP:0<P)(hvl:0≤vl)(hwl:wl<P)(hV:V=vl+P*(v2+1000000000*v1))(hR:R=wl+P*(u3+1000000000*(u2+1000000000*u1)))
  (Ux:0≤v2) (hu3:u3<1000000000) (hG:0≤G) (ht:u1*1000000000+u2+1≤G*v1):R<G*V:=by
 have h2:=Int.mul_le_mul_of_nonneg_left ht (show (0:Int)≤P by omega)
 have h3:0≤G*vl:=Int.mul_nonneg hG hvl
 have h4:0≤P*(G*v2):=Int.mul_nonneg (by omega) (Int.mul_nonneg hG Ux)
 have h5:G*V=G*vl+(P*(G*v2)+1000000000*(P*(G*v1))):=by
  rw[hV,Int.mul_add,Int.mul_left_comm G P,Int.mul_add G,Int.mul_left_comm G 1000000000,Int.mul_add P,Int.mul_left_comm P 1000000000]
 have h6:P*(u3+1)≤P*1000000000:=Int.mul_le_mul_of_nonneg_left (by omega) (by omega)
 simp only[Int.mul_add,Int.mul_one, ←Int.mul_assoc,Int.mul_left_comm P 1000000000] at h2 h6 h4 hR h5
 simp only[Int.mul_assoc,Int.mul_comm _ (1000000000:Int),Int.mul_left_comm _ (1000000000:Int)] at h2 h6 h4 hR h5 ⊢
 omega
theorem ag7 (hP:0<P)(WQ:1≤v1)(Ux:0≤v2)(Zv:0≤vl)(hvl:vl<P)(hwl:0≤wl)(hV:V=vl+P*(v2+1000000000*v1))(hR:R=wl+P*(u3+1000000000*(u2+1000000000*u1)))
  (hg:0≤g) (hg':g≤999999999) (ht:u1*1000000000+u2=g*v1+rest) (h:g*v2≤rest*1000000000+u3):g*V<R+V:=by
 have e1:g*vl≤999999999*vl:=Int.mul_le_mul_of_nonneg_right hg' Zv
 have e2:P*(g*v2)≤P*(rest*1000000000+u3):=Int.mul_le_mul_of_nonneg_left h (by omega)
 have e3:P*(u1*1000000000+u2)=P*(g*v1+rest):=by rw[ht]
 have e4:g*V=g*vl+(P*(g*v2)+1000000000*(P*(g*v1))):=by
  rw[hV,Int.mul_add,Int.mul_left_comm g P,Int.mul_add g,Int.mul_left_comm g 1000000000,Int.mul_add P,Int.mul_left_comm P 1000000000]
 have e5:P*1≤P*v1:=Int.mul_le_mul_of_nonneg_left WQ (by omega)
 have e6:0≤P*v2:=Int.mul_nonneg (by omega) Ux
 simp only[Int.mul_add,Int.mul_one, ←Int.mul_assoc,Int.mul_left_comm P 1000000000] at e2 e3 hR e4 hV e5
 simp only[Int.mul_assoc,Int.mul_comm _ (1000000000:Int),Int.mul_left_comm _ (1000000000:Int)] at e2 e3 hR e4 hV ⊢
 omega
end
def Qi (g:Int):List Int→List Int→Int→List Int×Int
 |us,[],b=>(us,b)
 | [],_::_,b=>([],b)
 |u::us,v::vs,b=>
  if u - b - g*v % 1000000000<0 then
   if u - b - g*v % 1000000000+1000000000<0 then
    ((u - b - g*v % 1000000000+2000000000)::(Qi g us vs (g*v / 1000000000+2)).1,(Qi g us vs (g*v / 1000000000+2)).2)
   else ((u - b - g*v % 1000000000+1000000000)::(Qi g us vs (g*v / 1000000000+1)).1,(Qi g us vs (g*v / 1000000000+1)).2)
  else ((u - b - g*v % 1000000000)::(Qi g us vs (g*v / 1000000000)).1,(Qi g us vs (g*v / 1000000000)).2)
def Xt:List Int→List Int→Int→List Int×Int
 |us,[],c=>(us,c)
 | [],_::_,c=>([],c)
 |u::us,v::vs,c=>((u+v+c) % 1000000000::(Xt us vs ((u+v+c) / 1000000000)).1,(Xt us vs ((u+v+c) / 1000000000)).2)
theorem Zw {g:Int}(hg:0≤g∧g<1000000000):∀(us vs:List Int) (hs:List Int) (b:Int),us.length=vs.length→gZ 1000000000 us→gZ 1000000000 vs→0≤b∧b≤1000000000→
  ∃r b',Qi g (us++hs) vs b=(r++hs,b')∧val 1000000000 us - b - g*val 1000000000 vs=val 1000000000 r - 1000000000^vs.length*b'∧gZ 1000000000 r∧r.length=us.length∧0≤b'∧b'≤1000000000
 | [],[],hs,b,hl,hu,hv,hb=>⟨[],b,by simp[Qi],by simp[val],gZ.nil,rfl,hb⟩
 | [],_::_,hs,b,hl,hu,hv,hb=>by simp at hl
 |_::_,[],hs,b,hl,hu,hv,hb=>by simp at hl
 |u::us,v::vs,hs,b,hl,hu,hv,hb=>by
  have h1:=hu.head
  have h2:=hv.head
  have hm:=aeE hg h2
  have ih:=fun b' hb'=>Zw hg us vs hs b' (by simpa using hl) hu.tail hv.tail hb'
  have fin:∀(y c b':Int) (r:List Int),u - b - g*v=y - 1000000000*c→0≤y∧y<1000000000→
    val 1000000000 us - c - g*val 1000000000 vs=val 1000000000 r - 1000000000^vs.length*b'→
    val 1000000000 (u::us) - b - g*val 1000000000 (v::vs)=val 1000000000 (y::r) - 1000000000^(v::vs).length*b':=fun y c b' r e1 hy e2=>by
   simp only[val,List.length_cons,Int.pow_succ]
   have e3:g*(v+1000000000*val 1000000000 vs)=g*v+1000000000*(g*val 1000000000 vs):=by rw[Int.mul_add,Int.mul_left_comm]
   have e4:(1000000000:Int)^vs.length*1000000000*b'=1000000000*(1000000000^vs.length*b'):=by rw[Int.mul_comm ((1000000000:Int)^vs.length),Int.mul_assoc]
   rw[e3,e4]
   omega
  simp only[List.cons_append,Qi]
  split
  ·split
   ·obtain⟨r,b',e1,e2,e3,e4,e5⟩:=ih (g*v / 1000000000+2) (by omega)
    refine⟨(u - b - g*v % 1000000000+2000000000)::r,b',by rw[e1];rfl,fin _ _ _ _ (by omega) (by omega) e2,gZ.cons (by omega) (by omega) e3,by simp[e4],e5⟩
   ·obtain⟨r,b',e1,e2,e3,e4,e5⟩:=ih (g*v / 1000000000+1) (by omega)
    refine⟨(u - b - g*v % 1000000000+1000000000)::r,b',by rw[e1];rfl,fin _ _ _ _ (by omega) (by omega) e2,gZ.cons (by omega) (by omega) e3,by simp[e4],e5⟩
  ·obtain⟨r,b',e1,e2,e3,e4,e5⟩:=ih (g*v / 1000000000) (by omega)
   refine⟨(u - b - g*v % 1000000000)::r,b',by rw[e1];rfl,fin _ _ _ _ (by omega) (by omega) e2,gZ.cons (by omega) (by omega) e3,by simp[e4],e5⟩
theorem Zx:∀(us vs:List Int) (hs:List Int) (c:Int),us.length=vs.length→gZ 1000000000 us→gZ 1000000000 vs→0≤c∧c≤1→
  ∃r c',Xt (us++hs) vs c=(r++hs,c')∧val 1000000000 us+val 1000000000 vs+c=val 1000000000 r+1000000000^vs.length*c'∧gZ 1000000000 r∧r.length=us.length∧0≤c'∧c'≤1
 | [],[],hs,c,hl,hu,hv,hc=>⟨[],c,by simp[Xt],by simp[val],gZ.nil,rfl,hc⟩
 | [],_::_,hs,c,hl,hu,hv,hc=>by simp at hl
 |_::_,[],hs,c,hl,hu,hv,hc=>by simp at hl
 |u::us,v::vs,hs,c,hl,hu,hv,hc=>by
  have h1:=hu.head
  have h2:=hv.head
  obtain⟨r,c',e1,e2,e3,e4,e5⟩:=Zx us vs hs ((u+v+c) / 1000000000) (by simpa using hl) hu.tail hv.tail (by omega)
  refine⟨(u+v+c) % 1000000000::r,c',by simp only[List.cons_append,Xt];rw[e1], ?_,gZ.cons (by omega) (by omega) e3,by simp[e4],e5⟩
  simp only[val,List.length_cons,Int.pow_succ]
  have e6:(1000000000:Int)^vs.length*1000000000*c'=1000000000*(1000000000^vs.length*c'):=by rw[Int.mul_comm ((1000000000:Int)^vs.length),Int.mul_assoc]
  rw[e6]
  omega
end Go.Abs
namespace Go.Proofs.YtofjebmoebhiiaaGreatDoor.Ev
open Go.Abs Go.IntWalk
section
variable {k:Int}{v:List Int}{n j:Nat}{q u:List Int}
theorem Xu {P V R vl wl v1 v2 u1 u2 u3:Int}(hP:0<P)(Zv:0≤vl)(hvl:vl<P)(aeH:0≤wl)(hwl:wl<P)(hV:V=vl+P*(v2+1000000000*v1))(hR:R=wl+P*(u3+1000000000*(u2+1000000000*u1)))
  (WQ:500000000≤v1∧v1<1000000000) (Ux:0≤v2∧v2<1000000000) (hu1:0≤u1∧u1<1000000000) (hu2:0≤u2∧u2<1000000000) (hu3:0≤u3∧u3<1000000000) (hlt:R<V*1000000000)
  (hn:2≤n) (hvn:v.length=n) (hun:j+n<u.length) (hul:u.length≤1000000000000)
  (gv1:v.getD (n - 1) 0=v1) (gv2:v.getD (n - 2) 0=v2) (gu3:u.getD (j+n - 2) 0=u3):∀(g:Nat) (rest:Int),u1*1000000000+u2=g*v1+rest→0≤rest→rest<1000000000→R<(g+1)*V→
  ∃g':Int,0≤g'∧g'≤999999999∧R<(g'+1)*V∧g'*V<R+V∧jP k v n j g rest q u=gH k v n j g' 0 n 0 q u:=by
 have ao5:=ag6 hP hvl aeH hV hR Ux.2 hu3.1 hu2.1 hlt
 have Zy:0<V:=by
  have e5:P*1≤P*v1:=Int.mul_le_mul_of_nonneg_left (by omega) (by omega)
  have e6:0≤P*v2:=Int.mul_nonneg (by omega) Ux.1
  simp only[Int.mul_add,Int.mul_one,Int.mul_left_comm P 1000000000] at hV e5
  omega
 have hR0:0≤R:=by
  have e3:0≤P*(u3+1000000000*(u2+1000000000*u1)):=Int.mul_nonneg (by omega) (by omega)
  omega
 intro g
 induction g with
 |zero=>
  intro rest ht h0 h1 hb
  have hz:(0:Int)*v2≤rest*1000000000+u3:=by rw[Int.zero_mul];omega
  refine⟨0,by omega,by omega,by simpa using hb,by simp;omega, ?_⟩
  rw[CD,y5]
  have e1:((n:Int) - 2).toNat=n - 2:=by omega
  have e2:((j:Int)+n - 2).toNat=j+n - 2:=by omega
  simp (disch:=omega) only[Zq,cond_false,i64_in,rq,TP,Option.bind_some,e1,e2,gv2,gu3,Int.natCast_zero,Int.zero_mul,u64_in,aj2]
 |succ g ih=>
  intro rest ht h0 h1 hb
  have hgb:(g:Int)+1≤1000000001:=by
   -- g v1 is at most LS two top digits
   have h5:(g+1:Nat)*v1≤v1*1000000000+999999999:=by
    have:u1*1000000000≤v1*1000000000:=by omega
    omega
   by_cases hc:(g:Int)+1≤1000000001
   ·exact hc
   ·have h6:(1000000002:Int)*v1≤(g+1:Nat)*v1:=Int.mul_le_mul_of_nonneg_right (by omega) (by omega)
    omega
  have e1:((n:Int) - 2).toNat=n - 2:=by omega
  have e1':((n:Int) - 1).toNat=n - 1:=by omega
  have e2:((j:Int)+n - 2).toNat=j+n - 2:=by omega
  have egc:((g+1:Nat):Int)=(g:Int)+1:=by omega
  have ale:(g:Int)+1 - 1=g:=by omega
  rw[egc] at ht hb ⊢
  have aqh:0≤((g:Int)+1)*v2∧((g:Int)+1)*v2≤1000000001*999999999:=by
   refine⟨Int.mul_nonneg (by omega) Ux.1, ?_⟩
   have h7:((g:Int)+1)*v2≤1000000001*v2:=Int.mul_le_mul_of_nonneg_right hgb Ux.1
   omega
  have am1:((g:Int)+1≥1000000000∨((g:Int)+1)*v2>rest*1000000000+u3)→R<((g:Int)+1)*V:=
   ald hP Zy Zv hwl hV hR (by omega) ht hlt
  -- one step down
  have Zz:R<((g:Int)+1)*V→∃g':Int,0≤g'∧g'≤999999999∧R<(g'+1)*V∧g'*V<R+V∧
    (bif decide (rest+v1≥1000000000) then gH k v n j g 0 n 0 q u else jP k v n j g (rest+v1) q u)=gH k v n j g' 0 n 0 q u:=fun hR'=>by
   have ht':u1*1000000000+u2=g*v1+(rest+v1):=by rw[ht,Int.add_mul];omega
   by_cases hbr:rest+v1≥1000000000
   ·have hg9:(g:Int)≤999999999:=by
     by_cases hc:(g:Int)≤999999999
     ·exact hc
     ·exfalso
      have h6:(1000000000:Int)*v1≤(g:Int)*v1:=Int.mul_le_mul_of_nonneg_right (by omega) (by omega)
      have:u1*1000000000≤v1*1000000000:=by omega
      omega
    have hle:(g:Int)*v2≤(rest+v1)*1000000000+u3:=by
     have h7:(g:Int)*v2≤999999999*v2:=Int.mul_le_mul_of_nonneg_right hg9 Ux.1
     omega
    refine⟨g,by omega,hg9,hR',ag7 hP (by omega) Ux.1 Zv hvl aeH hV hR (by omega) hg9 ht' hle, ?_⟩
    rw[acX hbr,cond_true]
   ·obtain⟨g',h1',h2',h3',h4',h5'⟩:=ih (rest+v1) ht' (by omega) (by omega) hR'
    refine⟨g',h1',h2',h3',h4', ?_⟩
    rw[Zq hbr,cond_false];exact h5'
  rw[CD,y5]
  by_cases hge:(g:Int)+1≥1000000000
  ·obtain⟨g',h1',h2',h3',h4',h5'⟩:=Zz (am1 (.inl hge))
   refine⟨g',h1',h2',h3',h4', ?_⟩
   rw[←h5',tA hge]
   simp (disch:=omega) only[i64_in,fk,e1',gv1,u64_in,ale]
  ·by_cases hgt:((g:Int)+1)*v2>rest*1000000000+u3
   ·obtain⟨g',h1',h2',h3',h4',h5'⟩:=Zz (am1 (.inr hgt))
    refine⟨g',h1',h2',h3',h4', ?_⟩
    rw[←h5',sk hge]
    simp (disch:=omega) only[i64_in,fk,xm,e1,e1',e2,gv1,gv2,gu3,u64_in,ale,cy]
   ·refine⟨(g:Int)+1,by omega,by omega,hb,ag7 hP (by omega) Ux.1 Zv hvl aeH hV hR (by omega) (by omega) ht (by omega), ?_⟩
    rw[sk hge]
    simp (disch:=omega) only[i64_in,fk,xm,e1,e1',e2,gv1,gv2,gu3,u64_in,ale,cM]
end
end Go.Proofs.YtofjebmoebhiiaaGreatDoor.Ev
namespace Go.Abs
theorem aeI {l:List Int}{m:Nat}(h:m+2<l.length):val 1000000000 (l.take (m+3))=val 1000000000 (l.take m)+1000000000^m*(l.getD m 0+1000000000*(l.getD (m+1) 0+1000000000*l.getD (m+2) 0)):=by
 rw[dA (show m+2<l.length by omega),dA (show m+1<l.length by omega),dA (show m<l.length by omega),List.append_assoc,List.append_assoc,fj]
 have:(l.take m).length=m:=by simp;omega
 rw[this]
 simp[val]
theorem aeJ {l:List Int}{m:Nat}(h:m+1<l.length):val 1000000000 (l.take (m+2))=val 1000000000 (l.take m)+1000000000^m*(l.getD m 0+1000000000*l.getD (m+1) 0):=by
 rw[dA (show m+1<l.length by omega),dA (show m<l.length by omega),List.append_assoc,fj]
 have:(l.take m).length=m:=by simp;omega
 rw[this]
 simp[val]
end Go.Abs
namespace Go.Proofs.YtofjebmoebhiiaaGreatDoor.Ev
open Go.Abs Go.IntWalk
section
variable {k:Int}{v:List Int}{n j:Nat}
theorem Xv {g:Int}(hg:0≤g∧g<1000000000)(hv:DU v)(hvn:v.length=n):∀(m i:Nat) (b:Int) (u q:List Int),m+i=n→0≤b∧b≤1000000000→DU u→j+n<u.length→u.length≤1000000000000→
  gH k v n j g b n i q u=gH k v n j g (Qi g (u.drop (j+i)) (v.drop i) b).2 n n q (u.take (j+i)++(Qi g (u.drop (j+i)) (v.drop i) b).1):=by
 intro m
 induction m with
 |zero=>
  intro i b u q hi hb hu hju hul
  have:i=n:=by omega
  subst this
  have h1:v.drop i=[]:=drop_nil (by omega)
  have h2:∀(us:List Int),Qi g us [] b=(us,b):=fun us=>by cases us<;>rfl
  rw[h1,h2]
  simp only[List.take_append_drop]
 |succ m ih=>
  intro i b u q hi hb hu hju hul
  have hx:=hu.getD (by omega) (j+i)
  have hy:=hv.getD (by omega) i
  have hm:=aeE hg hy
  have e1:((i:Int)+(j:Int)).toNat=j+i:=by omega
  rw[CE,y6]
  have tS:=fun b u q=>ih (i+1) b u q (by omega)
  simp only[Int.natCast_add,Int.natCast_one] at tS
  simp (disch:=omega) only[ak,i64_in,fk,xm,e1,Int.toNat_natCast]
  simp (disch:=omega) only[i64_in,bP,mQ]
  rw[drop_eq (show i<v.length by omega),drop_eq (show j+i<u.length by omega)]
  simp only[Qi]
  by_cases h1:u.getD (j+i) 0 - b - g*v.getD i 0 % 1000000000<0
  ·rw[ak h1,if_pos h1]
   by_cases h2:u.getD (j+i) 0 - b - g*v.getD i 0 % 1000000000+1000000000<0
   ·rw[if_pos h2]
    simp (disch:=omega) only[i64_in,ak,fk,xm,e1,u32_in]
    rw[tS _ _ _ (by omega) (hu.set (by omega) (by omega) _) (by simpa using hju) (by simpa using hul)]
    rw[show j+(i+1)=j+i+1 by omega,Dw (by omega),set_drop]
    have e2:g*v.getD i 0 / 1000000000+1+1=g*v.getD i 0 / 1000000000+2:=by omega
    have e3:u.getD (j+i) 0 - b - g*v.getD i 0 % 1000000000+1000000000+1000000000=u.getD (j+i) 0 - b - g*v.getD i 0 % 1000000000+2000000000:=by omega
    rw[e2,e3]
    simp only[List.append_assoc,List.singleton_append]
   ·rw[if_neg h2]
    simp (disch:=omega) only[i64_in,ai,fk,xm,e1,u32_in]
    rw[tS _ _ _ (by omega) (hu.set (by omega) (by omega) _) (by simpa using hju) (by simpa using hul)]
    rw[show j+(i+1)=j+i+1 by omega,Dw (by omega),set_drop]
    simp only[List.append_assoc,List.singleton_append]
  ·rw[ai h1,if_neg h1]
   simp (disch:=omega) only[i64_in,ai,fk,xm,e1,u32_in]
   rw[tS _ _ _ (by omega) (hu.set (by omega) (by omega) _) (by simpa using hju) (by simpa using hul)]
   rw[show j+(i+1)=j+i+1 by omega,Dw (by omega),set_drop]
   simp only[List.append_assoc,List.singleton_append]
theorem Xw {g x:Int}(hv:DU v)(hvn:v.length=n):∀(m i:Nat) (c:Int) (u q:List Int),m+i=n→0≤c∧c≤1→DU u→j+n<u.length→u.length≤1000000000000→
  lL k v n j g x c n i q u=lL k v n j g x (Xt (u.drop (j+i)) (v.drop i) c).2 n n q (u.take (j+i)++(Xt (u.drop (j+i)) (v.drop i) c).1):=by
 intro m
 induction m with
 |zero=>
  intro i b u q hi hb hu hju hul
  have:i=n:=by omega
  subst this
  have h1:v.drop i=[]:=drop_nil (by omega)
  have h2:∀(us:List Int),Xt us [] b=(us,b):=fun us=>by cases us<;>rfl
  rw[h1,h2]
  simp only[List.take_append_drop]
 |succ m ih=>
  intro i c u q hi hc hu hju hul
  have hx:=hu.getD (by omega) (j+i)
  have hy:=hv.getD (by omega) i
  have e1:((i:Int)+(j:Int)).toNat=j+i:=by omega
  rw[CF,y7]
  have tS:=fun b u q=>ih (i+1) b u q (by omega)
  simp only[Int.natCast_add,Int.natCast_one] at tS
  simp (disch:=omega) only[ak,i64_in,fk,xm,e1,Int.toNat_natCast,u32_in]
  simp (disch:=omega) only[u32_in,bP,mQ]
  rw[drop_eq (show i<v.length by omega),drop_eq (show j+i<u.length by omega)]
  simp only[Xt]
  rw[tS _ _ _ (by omega) (hu.set (by omega) (by omega) _) (by simpa using hju) (by simpa using hul)]
  rw[show j+(i+1)=j+i+1 by omega,Dw (by omega),set_drop]
  simp only[List.append_assoc,List.singleton_append]
set_option maxHeartbeats 2000000 in
theorem aeK (hv:DU v)(hvn:v.length=n)(hn:2≤n)(WQ:500000000≤v.getD (n - 1) 0){u q:List Int}(hu:DU u)(hju:j+n<u.length)(hul:u.length≤1000000000000)(hq:j<q.length)(hql:q.length≤1000000000000)
  (hlt:VU ((u.drop j).take (n+1))<VU v*1000000000):
  ∃u',eP k v n j q u=eP k v n ((j:Int) - 1) (q.set j (VU ((u.drop j).take (n+1)) / VU v)) u'∧u'.length=u.length∧DU u'∧u'.take j=u.take j∧VU ((u'.drop j).take n)=VU ((u.drop j).take (n+1)) % VU v:=by
 obtain⟨m,rfl⟩:∃m,n=m+2:=⟨n - 2,by omega⟩
 -- LS digits
 have hdl:(u.drop j).length=u.length - j:=by simp
 have hR:=aeI (l:=u.drop j) (m:=m) (by rw[hdl];omega)
 have hV:=aeJ (l:=v) (m:=m) (by omega)
 rw[show v.take (m+2)=v from List.take_of_length_le (by omega)] at hV
 simp only[rW] at hR
 have hP:(0:Int)<1000000000^m:=Int.pow_pos (by omega)
 have aeH:=kB (B:=1000000000) (by omega) ((hu.drop j).take m)
 have hwl:=AG (B:=1000000000) (by omega) ((hu.drop j).take m)
 have Zv:=kB (B:=1000000000) (by omega) (hv.take m)
 have hvl:=AG (B:=1000000000) (by omega) (hv.take m)
 rw[show ((u.drop j).take m).length=m by rw[List.length_take,hdl];omega] at hwl
 rw[show (v.take m).length=m by rw[List.length_take];omega] at hvl
 have b1:=hv.getD (by omega) (m+1)
 have b2:=hv.getD (by omega) m
 have c1:=hu.getD (by omega) (j+(m+2))
 have c2:=hu.getD (by omega) (j+(m+1))
 have c3:=hu.getD (by omega) (j+m)
 have ao8:500000000≤v.getD (m+1) 0:=WQ
 have ao5:=ag6 hP hvl aeH hV hR b2.2 c3.1 c2.1 hlt
 have Zy:0<VU v:=by
  have e5:(1000000000:Int)^m*1≤1000000000^m*v.getD (m+1) 0:=Int.mul_le_mul_of_nonneg_left (by omega) (by omega)
  have e6:0≤(1000000000:Int)^m*v.getD m 0:=Int.mul_nonneg (by omega) b2.1
  have hV':VU v=_:=hV
  simp only[Int.mul_add,Int.mul_one,Int.mul_left_comm ((1000000000:Int)^m) 1000000000] at hV' e5
  omega
 -- LS first am2
 have am3:0≤u.getD (j+(m+2)) 0*1000000000+u.getD (j+(m+1)) 0:=by omega
 obtain⟨g0,hg0⟩:∃g0:Nat,(u.getD (j+(m+2)) 0*1000000000+u.getD (j+(m+1)) 0) / v.getD (m+1) 0=g0:=Int.eq_ofNat_of_zero_le (Int.ediv_nonneg am3 (by omega))
 have hdm:=Int.mul_ediv_add_emod (u.getD (j+(m+2)) 0*1000000000+u.getD (j+(m+1)) 0) (v.getD (m+1) 0)
 have hr0:=Int.emod_nonneg (u.getD (j+(m+2)) 0*1000000000+u.getD (j+(m+1)) 0) (show v.getD (m+1) 0≠0 by omega)
 have Pp:=Int.emod_lt_of_pos (u.getD (j+(m+2)) 0*1000000000+u.getD (j+(m+1)) 0) (show 0<v.getD (m+1) 0 by omega)
 rw[hg0,Int.mul_comm] at hdm
 have alf:val 1000000000 (List.take (m+3) (List.drop j u))<((g0:Int)+1)*VU v:=by
  -- LS two top digits are less ao9 (g0+1) v1
  refine aiW hP Zv hwl hV hR b2.1 c3.2 (by omega) ?_
  rw[Int.add_mul];omega
 obtain⟨g,hg1,hg2,hg3,hg4,hL1⟩:=Xu (k:=k) (q:=q) hP Zv hvl aeH hwl hV hR ⟨ao8,b1.2⟩ b2 c1 c2 c3 hlt hn hvn hju hul rfl rfl rfl g0 _ hdm.symm hr0 (by omega) alf
 change VU ((u.drop j).take (m+2+1))<(g+1)*VU v at hg3
 change g*VU v<VU ((u.drop j).take (m+2+1))+VU v at hg4
 -- LS walk as far as LS ZA
 have hgb:(g0:Int)≤1000000001:=by
  by_cases hc:(g0:Int)≤1000000001
  ·exact hc
  ·exfalso
   have h6:(1000000002:Int)*v.getD (m+1) 0≤(g0:Int)*v.getD (m+1) 0:=Int.mul_le_mul_of_nonneg_right (by omega) (by omega)
   omega
 have w1:eP k v ((m+2:Nat):Int) j q u=jP k v ((m+2:Nat):Int) j g0 ((u.getD (j+(m+2)) 0*1000000000+u.getD (j+(m+1)) 0) % v.getD (m+1) 0) q u:=by
  rw[CC,y3]
  have e1:((j:Int)+((m+2:Nat):Int)).toNat=j+(m+2):=by omega
  have e2:((j:Int)+((m+2:Nat):Int) - 1).toNat=j+(m+1):=by omega
  have e3:(((m+2:Nat):Int) - 1).toNat=m+1:=by omega
  simp (disch:=omega) only[tA,i64_in,fk,xm,e1,e2,e3,u64_in,jT,lZ]
  simp (disch:=omega) only[u64_in,jT,lZ,bP,mQ,hg0]
 -- LS ZA
 have X4:((u.drop j).take (m+2)).length=v.length:=by rw[List.length_take,hdl];omega
 have am4:u.drop j=(u.drop j).take (m+2)++(u.getD (j+(m+2)) 0::u.drop (j+(m+2)+1)):=by
  conv=>lhs;rw[TW (u.drop j) (m+2)]
  rw[List.drop_drop,drop_eq (show j+(m+2)<u.length by omega)]
 obtain⟨r,b',hs1,hs2,hs3,hs4,hs5⟩:=Zw (g:=g) ⟨hg1,by omega⟩ ((u.drop j).take (m+2)) v (u.getD (j+(m+2)) 0::u.drop (j+(m+2)+1)) 0 X4 ((hu.drop j).take _) hv ⟨by omega,by omega⟩
 have w2:=Xv (k:=k) (j:=j) (g:=g) ⟨hg1,by omega⟩ hv hvn (m+2) 0 0 u q (by omega) ⟨by omega,by omega⟩ hu hju hul
 simp only[Nat.add_zero,List.drop_zero,Int.natCast_zero] at w2
 rw[am4,hs1] at w2
 have hRw:VU ((u.drop j).take (m+2+1))=VU ((u.drop j).take (m+2))+1000000000^(m+2)*u.getD (j+(m+2)) 0:=by
  rw[dA (show m+2<(u.drop j).length by rw[hdl];omega),VU,fj,rW,X4,hvn]
  simp[val]
 have aj5:=AG (B:=1000000000) (by omega) hs3
 have am6:=kB (B:=1000000000) (by omega) hs3
 have aj6:=AG (B:=1000000000) (by omega) hv
 rw[hs4,X4,hvn] at aj5
 rw[hvn] at aj6 hs2
 change VU ((u.drop j).take (m+2)) - 0 - g*VU v=VU r - 1000000000^(m+2)*b' at hs2
 change VU r<_ at aj5
 change 0≤VU r at am6
 change VU v<_ at aj6
 have hjl:(u.take j).length=j:=by simp;omega
 have hu1:DU (u.take j++(r++u.getD (j+(m+2)) 0::u.drop (j+(m+2)+1))):=(hu.take j).append (hs3.append (gZ.cons c1.1 c1.2 (hu.drop _)))
 have am7:(u.take j++(r++u.getD (j+(m+2)) 0::u.drop (j+(m+2)+1))).length=u.length:=by
  simp[hs4,X4,hvn];omega
 have hx1:(u.take j++(r++u.getD (j+(m+2)) 0::u.drop (j+(m+2)+1))).getD (j+(m+2)) 0=u.getD (j+(m+2)) 0:=by
  have hrl:r.length=m+2:=by rw[hs4,X4,hvn]
  rw[List.getD,List.getElem?_append_right (by omega),List.getElem?_append_right (by omega)]
  simp[hjl,hrl]
 have gK:∀(r:List Int) (y:Int),r.length=m+2→(u.take j++(r++u.getD (j+(m+2)) 0::u.drop (j+(m+2)+1))).set (j+(m+2)) y=u.take j++(r++y::u.drop (j+(m+2)+1)):=fun r y hrl=>by
  rw[List.set_append_right _ _ (by omega),List.set_append_right _ _ (by omega)]
  simp[hjl,hrl]
 have hdt:∀(r:List Int) (y:Int),r.length=m+2→((u.take j++(r++y::u.drop (j+(m+2)+1))).drop j).take (m+2)=r:=fun r y hrl=>by
  have h1:(u.take j++(r++y::u.drop (j+(m+2)+1))).drop j=r++y::u.drop (j+(m+2)+1):=List.drop_left' hjl
  rw[h1];exact List.take_left' hrl
 have htk:∀(l:List Int),(u.take j++l).take j=u.take j:=fun l=>List.take_left' hjl
 have e1:((j:Int)+((m+2:Nat):Int)).toNat=j+(m+2):=by omega
 have hPn:(0:Int)<1000000000^(m+2):=Int.pow_pos (by omega)
 have Uk:VU ((u.drop j).take (m+2+1)) - g*VU v=VU r+1000000000^(m+2)*(u.getD (j+(m+2)) 0 - b'):=by
  rw[hRw,Int.mul_sub]
  omega
 rw[w1,hL1,w2,CE,y6]
 by_cases hneg:u.getD (j+(m+2)) 0 - b'<0
 · -- one too many
   have am8:VU ((u.drop j).take (m+2+1))<g*VU v:=by
    have h1:(1000000000:Int)^(m+2)*(u.getD (j+(m+2)) 0 - b'+1)≤1000000000^(m+2)*0:=Int.mul_le_mul_of_nonneg_left (by omega) (by omega)
    rw[Int.mul_add,Int.mul_zero,Int.mul_one] at h1
    omega
   have aqm:1≤g:=by
    by_cases hc:1≤g
    ·exact hc
    ·exfalso
     have:g=0:=by omega
     subst this
     have:=yK ((hu.drop j).take (m+2+1))
     rw[Int.zero_mul] at am8
     omega
   have hq:VU ((u.drop j).take (m+2+1)) / VU v=g - 1∧VU ((u.drop j).take (m+2+1)) % VU v=VU ((u.drop j).take (m+2+1)) - (g - 1)*VU v:=by
    have h1:(g - 1)*VU v=g*VU v - VU v:=by rw[Int.sub_mul,Int.one_mul]
    have h2:VU ((u.drop j).take (m+2+1))=(VU ((u.drop j).take (m+2+1)) - (g - 1)*VU v)+VU v*(g - 1):=by rw[Int.mul_comm (VU v)];omega
    have h3:0≤VU ((u.drop j).take (m+2+1)) - (g - 1)*VU v:=by rw[h1];omega
    have h4:VU ((u.drop j).take (m+2+1)) - (g - 1)*VU v<VU v:=by rw[h1];omega
    constructor
    ·rw[h2,Int.add_mul_ediv_left _ _ (by omega),Int.ediv_eq_zero_of_lt h3 h4];omega
    ·conv=>lhs;rw[h2]
     rw[Int.add_mul_emod_self_left,Int.emod_eq_of_lt h3 h4]
   obtain⟨r2,cc,ha1,ha2,ha3,ha4,ha5⟩:=Zx r v (u.getD (j+(m+2)) 0::u.drop (j+(m+2)+1)) 0 (by rw[hs4,X4]) hs3 hv ⟨by omega,by omega⟩
   have w3:=Xw (k:=k) (j:=j) (g:=g - 1) (x:=u.getD (j+(m+2)) 0 - b') hv hvn (m+2) 0 0 _ q (by omega) ⟨by omega,by omega⟩ hu1 (by rw[am7];exact hju) (by rw[am7];exact hul)
   have hdj:(u.take j++(r++u.getD (j+(m+2)) 0::u.drop (j+(m+2)+1))).drop j=r++u.getD (j+(m+2)) 0::u.drop (j+(m+2)+1):=List.drop_left' hjl
   simp only[Nat.add_zero,List.drop_zero,Int.natCast_zero] at w3
   rw[hdj,ha1,htk] at w3
   have aha:r2.length=m+2:=by rw[ha4,hs4,X4,hvn]
   have hu2:DU (u.take j++(r2++u.getD (j+(m+2)) 0::u.drop (j+(m+2)+1))):=(hu.take j).append (ha3.append (gZ.cons c1.1 c1.2 (hu.drop _)))
   have ar1:(u.take j++(r2++u.getD (j+(m+2)) 0::u.drop (j+(m+2)+1))).length=u.length:=by
    simp[aha];omega
   refine⟨u.take j++(r2++0::u.drop (j+(m+2)+1)), ?_,by simp[aha];omega,(hu.take j).append (ha3.append (gZ.cons (by omega) (by omega) (hu.drop _))),htk _, ?_⟩
   ·simp (disch:=omega) only[ai,i64_in,fk,xm,e1,hx1]
    simp (disch:=omega) only[ak,i64_in,u64_in]
    rw[w3,CF,y7,hq.1]
    simp (disch:=omega) only[ai,i64_in,fk,xm,e1,u32_in,gK r2 0 aha,Int.toNat_natCast]
   ·rw[hdt r2 0 aha,hq.2]
    -- LS carry takes LS missing unit
    have ahb:=AG (B:=1000000000) (by omega) ha3
    have alg:=kB (B:=1000000000) (by omega) ha3
    rw[aha] at ahb
    rw[hvn] at ha2
    change VU r+VU v+0=VU r2+1000000000^(m+2)*cc at ha2
    change VU r2<_ at ahb
    change 0≤VU r2 at alg
    have h1:VU ((u.drop j).take (m+2+1)) - (g - 1)*VU v=VU r2+1000000000^(m+2)*(u.getD (j+(m+2)) 0 - b'+cc):=by
     rw[Int.sub_mul,Int.one_mul,Int.mul_add]
     omega
    have h3:0≤VU ((u.drop j).take (m+2+1)) - (g - 1)*VU v:=by rw[Int.sub_mul,Int.one_mul];omega
    have h4:VU ((u.drop j).take (m+2+1)) - (g - 1)*VU v<VU v:=by rw[Int.sub_mul,Int.one_mul];omega
    have h5:u.getD (j+(m+2)) 0 - b'+cc=0:=by
     by_cases hp:u.getD (j+(m+2)) 0 - b'+cc≥1
     ·exfalso
      have:=Int.mul_le_mul_of_nonneg_left hp (show (0:Int)≤1000000000^(m+2) by omega)
      rw[Int.mul_one] at this
      omega
     ·by_cases hm:u.getD (j+(m+2)) 0 - b'+cc≤ -1
      ·exfalso
       have:=Int.mul_le_mul_of_nonneg_left hm (show (0:Int)≤1000000000^(m+2) by omega)
       rw[Int.mul_neg,Int.mul_one] at this
       omega
      ·omega
    rw[h1,h5];simp
 · -- ar2 right
   have aqn:g*VU v≤VU ((u.drop j).take (m+2+1)):=by
    have h1:(0:Int)≤1000000000^(m+2)*(u.getD (j+(m+2)) 0 - b'):=Int.mul_nonneg (by omega) (by omega)
    omega
   have h3:VU ((u.drop j).take (m+2+1)) - g*VU v<VU v:=by
    have:((g:Int)+1)*VU v=g*VU v+VU v:=by rw[Int.add_mul,Int.one_mul]
    rw[this] at hg3
    omega
   have hq:VU ((u.drop j).take (m+2+1)) / VU v=g∧VU ((u.drop j).take (m+2+1)) % VU v=VU ((u.drop j).take (m+2+1)) - g*VU v:=by
    have h2:VU ((u.drop j).take (m+2+1))=(VU ((u.drop j).take (m+2+1)) - g*VU v)+VU v*g:=by rw[Int.mul_comm (VU v)];omega
    constructor
    ·rw[h2,Int.add_mul_ediv_left _ _ (by omega),Int.ediv_eq_zero_of_lt (by omega) h3];omega
    ·conv=>lhs;rw[h2]
     rw[Int.add_mul_emod_self_left,Int.emod_eq_of_lt (by omega) h3]
   have hrl:r.length=m+2:=by rw[hs4,X4,hvn]
   have h5:u.getD (j+(m+2)) 0 - b'=0:=by
    by_cases hp:u.getD (j+(m+2)) 0 - b'≥1
    ·exfalso
     have:=Int.mul_le_mul_of_nonneg_left hp (show (0:Int)≤1000000000^(m+2) by omega)
     rw[Int.mul_one] at this
     omega
    ·omega
   refine⟨u.take j++(r++0::u.drop (j+(m+2)+1)), ?_,by simp[hrl];omega,(hu.take j).append (hs3.append (gZ.cons (by omega) (by omega) (hu.drop _))),htk _, ?_⟩
   ·rw[hq.1]
    simp (disch:=omega) only[ai,i64_in,fk,xm,e1,hx1]
    simp (disch:=omega) only[ai,i64_in,fk,xm,e1,u32_in,gK r 0 hrl,Int.toNat_natCast]
   ·rw[hdt r 0 hrl,hq.2,Uk,h5];simp
end
end Go.Proofs.YtofjebmoebhiiaaGreatDoor.Ev
namespace Go.Abs
theorem GA (l:List Int){m:Nat}(h:m<l.length):val 1000000000 (l.take (m+1))=val 1000000000 (l.take m)+1000000000^m*l.getD m 0:=by
 rw[dA h,fj]
 have:(l.take m).length=m:=by simp;omega
 rw[this]
 simp[val]
theorem aeL {b k:Int}(hb:1≤b)(hb':b<1000000000)(hk:k=1000000000 / (b+1)):1≤k∧k*(b+1)≤1000000000∧500000000≤k*b∧k≤500000000:=by
 have h1:=Int.mul_ediv_add_emod 1000000000 (b+1)
 have h2:=Int.emod_nonneg 1000000000 (show b+1≠0 by omega)
 have h3:=Int.emod_lt_of_pos 1000000000 (show 0<b+1 by omega)
 rw[←hk,Int.mul_comm] at h1
 have hk1:1≤k:=by
  by_cases hc:1≤k
  ·exact hc
  ·exfalso
   have:k*(b+1)≤0*(b+1):=Int.mul_le_mul_of_nonneg_right (by omega) (by omega)
   rw[Int.zero_mul] at this
   omega
 have e1:k*(b+1)=k*b+k:=by rw[Int.mul_add,Int.mul_one]
 have e5:k*2≤k*(b+1):=Int.mul_le_mul_of_nonneg_left (by omega) (by omega)
 refine⟨hk1,by omega, ?_,by omega⟩
 by_cases hk2:k=1
 ·subst hk2;omega
 ·have e2:0≤(k - 2)*(b+1 - 2):=Int.mul_nonneg (by omega) (by omega)
  have e3:(k - 2)*(b+1 - 2)=k*b - k - 2*b+2:=by
   rw[show b+1 - 2=b - 1 by omega,Int.sub_mul,Int.mul_sub,Int.mul_sub]
   omega
  omega
end Go.Abs
namespace Go.Proofs.YtofjebmoebhiiaaGreatDoor.Ev
open Go.Abs Go.IntWalk
section
variable {k:Int}{v:List Int}{n:Nat}
theorem abd (hv:DU v)(hvn:v.length=n)(hn:2≤n)(WQ:500000000≤v.getD (n - 1) 0):∀(J:Nat) (q u:List Int),DU q→DU u→J≤q.length→J+n≤u.length→u.length≤1000000000000→q.length≤1000000000000→VU ((u.drop J).take n)<VU v→
  ∃q' u',eP k v n ((J:Int) - 1) q u=eP k v n (-1) q' u'∧q'.length=q.length∧DU q'∧u'.length=u.length∧DU u'∧q'.drop J=q.drop J∧
   VU (u.take J)+1000000000^J*VU ((u.drop J).take n)=VU v*VU (q'.take J)+VU (u'.take n)∧VU (u'.take n)<VU v:=by
 intro J
 induction J with
 |zero=>
  intro q u hq hu h1 h2 h3 h4 hx
  refine⟨q,u,rfl,rfl,hq,rfl,hu,rfl, ?_,by simpa using hx⟩
  simp[VU,val]
 |succ J ih=>
  intro q u hq hu h1 h2 h3 h4 hx
  have hw:(u.drop J).take (n+1)=u.getD J 0::(u.drop (J+1)).take n:=by
   rw[drop_eq (show J<u.length by omega),List.take_succ_cons]
  have hd:=hu.getD (by omega) J
  have hRv:VU ((u.drop J).take (n+1))=u.getD J 0+1000000000*VU ((u.drop (J+1)).take n):=by rw[hw];rfl
  have hXn:=yK ((hu.drop (J+1)).take n)
  have apb:VU ((u.drop J).take (n+1))<VU v*1000000000:=by rw[hRv];omega
  obtain⟨u1,s1,s2,s3,s4,s5⟩:=aeK (k:=k) hv hvn hn WQ hu (show J+n<u.length by omega) h3 (show J<q.length by omega) h4 apb
  have Zy:0<VU v:=by omega
  have apc:0≤VU ((u.drop J).take (n+1)):=by omega
  have q0:0≤VU ((u.drop J).take (n+1)) / VU v:=Int.ediv_nonneg apc (by omega)
  have q1:VU ((u.drop J).take (n+1)) / VU v<1000000000:=Int.ediv_lt_of_lt_mul Zy (by rw[Int.mul_comm];omega)
  obtain⟨q',u',t1,t2,t3,t4,t5,t6,t7,t8⟩:=ih (q.set J (VU ((u.drop J).take (n+1)) / VU v)) u1 (hq.set q0 q1 _) s3 (by simp;omega) (by omega) (by omega) (by simpa using h4) (by rw[s5];exact Int.emod_lt_of_pos _ Zy)
  have hJq:J<q'.length:=by rw[t2];simp;omega
  have hqJ:q'.getD J 0=VU ((u.drop J).take (n+1)) / VU v:=by
   have e:(q'.drop J).getD 0 0=((q.set J (VU ((u.drop J).take (n+1)) / VU v)).drop J).getD 0 0:=by rw[t6]
   rw[rW,rW,Nat.add_zero] at e
   rw[e]
   simp[List.getD,show J<q.length by omega]
  refine⟨q',u', ?_,by rw[t2];simp,t3,by rw[t4,s2],t5, ?_, ?_,t8⟩
  ·rw[show ((J+1:Nat):Int) - 1=J by omega,s1,t1]
  ·have e:(q'.drop J).drop 1=((q.set J (VU ((u.drop J).take (n+1)) / VU v)).drop J).drop 1:=by rw[t6]
   rw[List.drop_drop,List.drop_drop,set_drop] at e
   exact e
  ·have e1:=GA u (show J<u.length by omega)
   have e2:=GA q' hJq
   have e3:=Int.mul_ediv_add_emod (VU ((u.drop J).take (n+1))) (VU v)
   rw[s4,s5] at t7
   rw[hqJ] at e2
   change VU (u.take (J+1))=VU (u.take J)+1000000000^J*u.getD J 0 at e1
   change VU (q'.take (J+1))=VU (q'.take J)+1000000000^J*(VU ((u.drop J).take (n+1)) / VU v) at e2
   have e4:(1000000000:Int)^J*VU ((u.drop J).take (n+1))=1000000000^J*u.getD J 0+1000000000^(J+1)*VU ((u.drop (J+1)).take n):=by
    rw[hRv,Int.mul_add,Int.pow_succ,Int.mul_assoc]
   have e5:VU v*VU (q'.take (J+1))=VU v*VU (q'.take J)+1000000000^J*(VU v*(VU ((u.drop J).take (n+1)) / VU v)):=by
    rw[e2,Int.mul_add,Int.mul_left_comm]
   have e6:(1000000000:Int)^J*VU ((u.drop J).take (n+1))=1000000000^J*(VU v*(VU ((u.drop J).take (n+1)) / VU v))+1000000000^J*(VU ((u.drop J).take (n+1)) % VU v):=by
    rw[←Int.mul_add,e3]
   omega
end
theorem V9 {N:Nat}{n:Nat}(hl:(dU N).length=n+1){x:Int}(h:x*1000000000^n≤N):x≤(dU N).getD n 0:=by
 have h1:=GA (dU N) (show n<(dU N).length by omega)
 rw[List.take_of_length_le (by omega)] at h1
 have h2:=AG (B:=1000000000) (by omega) ((IQ N).take n)
 rw[show ((dU N).take n).length=n by rw[List.length_take];omega] at h2
 have h3:=Ke N
 rw[VU] at h3
 by_cases hc:x≤(dU N).getD n 0
 ·exact hc
 ·exfalso
  have h4:(1000000000:Int)^n*((dU N).getD n 0+1)≤1000000000^n*x:=Int.mul_le_mul_of_nonneg_left (by omega) (Int.pow_nonneg (by omega))
  rw[Int.mul_add,Int.mul_one,Int.mul_comm _ x] at h4
  omega
theorem ofNat_pow (n:Nat):((1000000000^n:Nat):Int)=(1000000000:Int)^n:=by
 rw[Int.natCast_pow];rfl
theorem ZB {A B:Nat}(hl:(dU A).length≤100000000000)(hB:2≤(dU B).length)(hAB:B≤A):
  ∃q r,FF (dU A) (dU B)=some (q,r)∧DU q∧DU r∧VU q=((A / B:Nat):Int)∧VU r=((A % B:Nat):Int)∧q.length≤(dU A).length∧r.length≤(dU A).length:=by
 obtain⟨n,hn⟩:∃n,(dU B).length=n+1:=⟨(dU B).length - 1,by omega⟩
 have am9:0<B:=by
  by_cases h:B=0
  ·subst h;rw[show dU 0=[] from dY _] at hB;simp at hB
  ·omega
 have ar6:=ag3 hAB
 have hdA:=IQ A
 have hdB:=IQ B
 -- LS top digit of LS aiX
 have anb:(1000000000^n:Nat)≤B:=(fR (B:=1000000000) (by omega) n B).1 (show n<(dU B).length by omega)
 have ht1:1≤(dU B).getD n 0:=V9 hn (by rw[Int.one_mul, ←ofNat_pow];omega)
 have ht2:=hdB.getD (by omega) n
 obtain⟨k,hk⟩:∃k,k=(1000000000:Int) / ((dU B).getD n 0+1):=⟨_,rfl⟩
 obtain⟨hk1,hk2,hk3,hk4⟩:=aeL ht1 ht2.2 hk
 obtain⟨K,rfl⟩:=Int.eq_ofNat_of_zero_le (show 0≤k by omega)
 -- LS scaled numbers
 obtain⟨u1,u2,u3⟩:=Xs (dU A) K 0 hdA ⟨by omega,by omega⟩ ⟨by omega,by omega⟩
 obtain⟨w1,w2,w3⟩:=Xs (dU B) K 0 hdB ⟨by omega,by omega⟩ ⟨by omega,by omega⟩
 rw[Ke,Int.add_zero] at u1 w1
 have hv:nD (RJ (dU B) K 0)=dU (B*K):=by
  rw[ac1 w2,w1, ←Int.natCast_mul,Int.toNat_natCast]
 -- its length
 have aiY:=GA (dU B) (show n<(dU B).length by omega)
 rw[List.take_of_length_le (by omega)] at aiY
 have anc:=AG (B:=1000000000) (by omega) (hdB.take n)
 have aqq:=kB (B:=1000000000) (by omega) (hdB.take n)
 rw[show ((dU B).take n).length=n by rw[List.length_take];omega] at anc
 have hVB:=Ke B
 rw[VU] at hVB
 have hPn:(0:Int)<1000000000^n:=Int.pow_pos (by omega)
 have hBK:B*K<1000000000^(n+1):=by
  have h1:(B:Int)*K≤(1000000000^n*((dU B).getD n 0+1) - 1)*K:=Int.mul_le_mul_of_nonneg_right (by rw[Int.mul_add,Int.mul_one];omega) (by omega)
  have h2:(1000000000:Int)^n*(K*((dU B).getD n 0+1))≤1000000000^n*1000000000:=Int.mul_le_mul_of_nonneg_left hk2 (by omega)
  rw[Int.sub_mul,Int.one_mul,Int.mul_assoc,Int.mul_comm ((dU B).getD n 0+1) (K:Int)] at h1
  have h3:=ofNat_pow (n+1)
  rw[Int.pow_succ] at h3
  have h4:((B*K:Nat):Int)=(B:Int)*K:=Int.natCast_mul _ _
  omega
 have apd:1000000000^n≤B*K:=Nat.le_trans anb (Nat.le_mul_of_pos_right _ (by omega))
 have hvl:(dU (B*K)).length=n+1:=by
  have h1:=(aM (B:=1000000000) (by omega) (n+1) (B*K)).2 hBK
  have h2:=(fR (B:=1000000000) (by omega) n (B*K)).2 apd
  show (Ul 1000000000 (B*K)).length=n+1
  omega
 have WQ:500000000≤(dU (B*K)).getD (n+1 - 1) 0:=by
  refine V9 (N:=B*K) hvl ?_
  have h1:(K*(dU B).getD n 0)*1000000000^n≤(B:Int)*K:=by
   have h2:1000000000^n*(dU B).getD n 0*K≤(B:Int)*K:=Int.mul_le_mul_of_nonneg_right (by omega) (by omega)
   rw[Int.mul_comm (K*_),Int.mul_comm (K:Int), ←Int.mul_assoc]
   exact h2
  have h3:500000000*(1000000000:Int)^n≤(K*(dU B).getD n 0)*1000000000^n:=Int.mul_le_mul_of_nonneg_right hk3 (by omega)
  rw[Int.natCast_mul]
  omega
 have hvD:=IQ (B*K)
 have hVv:VU (dU (B*K))=(B:Int)*K:=by rw[Ke,Int.natCast_mul]
 -- LS loop
 have hul:(RJ (dU A) K 0).length=(dU A).length+1:=u3
 obtain⟨J,hJ⟩:∃J,(dU A).length+1=J+(n+1):=⟨(dU A).length - n,by omega⟩
 have hstart:VU (((RJ (dU A) K 0).drop J).take (n+1))<VU (dU (B*K)):=by
  rw[List.take_of_length_le (by rw[List.length_drop];omega),hVv]
  have h1:=fj 1000000000 ((RJ (dU A) K 0).take J) ((RJ (dU A) K 0).drop J)
  rw[List.take_append_drop,show ((RJ (dU A) K 0).take J).length=J by rw[List.length_take];omega] at h1
  have h2:=yK (u2.take J)
  have h3:=u1
  rw[VU] at h3 h2
  -- a<U^la
  have h4:A<1000000000^(dU A).length:=(aM (B:=1000000000) (by omega) _ A).1 (Nat.le_refl _)
  rw[show (dU A).length=J+n by omega,Nat.pow_add] at h4
  have h5:((1000000000^J*1000000000^n:Nat):Int)=(1000000000:Int)^J*1000000000^n:=by rw[Int.natCast_mul,ofNat_pow,ofNat_pow]
  have hPJ:(0:Int)<1000000000^J:=Int.pow_pos (by omega)
  have h6:(A:Int)*K<(1000000000^J*1000000000^n)*K:=Int.mul_lt_mul_of_pos_right (by omega) (by omega)
  have h7:(1000000000:Int)^n*K≤(B:Int)*K:=Int.mul_le_mul_of_nonneg_right (by rw[←ofNat_pow];omega) (by omega)
  have h8:(1000000000:Int)^J*val 1000000000 ((RJ (dU A) K 0).drop J)<1000000000^J*(1000000000^n*K):=by
   rw[←Int.mul_assoc];omega
  have h9:=Int.lt_of_mul_lt_mul_left h8 (by omega)
  show val 1000000000 ((RJ (dU A) K 0).drop J)<_
  omega
 obtain⟨q',u',t1,t2,t3,t4,t5,t6,t7,t8⟩:=abd (k:=K) hvD hvl (by omega) WQ J (List.replicate J 0) (RJ (dU A) K 0) (gZ.replicate (by omega) _) u2 (by simp) (by omega) (by omega) (by simp;omega) hstart
 rw[List.length_replicate] at t2
 have htq:q'.take J=q':=List.take_of_length_le (by omega)
 rw[htq,hVv] at t7
 have hU0:VU ((RJ (dU A) K 0).take J)+1000000000^J*VU (((RJ (dU A) K 0).drop J).take (n+1))=(A:Int)*K:=by
  rw[List.take_of_length_le (l:=(RJ (dU A) K 0).drop J) (by rw[List.length_drop];omega), ←u1]
  have h1:=fj 1000000000 ((RJ (dU A) K 0).take J) ((RJ (dU A) K 0).drop J)
  rw[List.take_append_drop,show ((RJ (dU A) K 0).take J).length=J by rw[List.length_take];omega] at h1
  exact h1.symm
 rw[hU0] at t7
 -- LS rest is ane
 have hsu:=t5.take (n+1)
 have hshort:=O0 (b:=(K:Int)) hsu ⟨by omega,by omega⟩ (by rw[List.length_take];omega)
 obtain⟨s1,s2,s3,s4,s5⟩:=OZ (b:=(K:Int)) ⟨by omega,by omega⟩ _ hsu
 have hQ0:=yK t3
 have hr0:=yK s4
 have aqr:(0:Int)<K:=by omega
 -- A=B q+r
 have hAq:(A:Int)=B*VU q'+VU (DK K (u'.take (n+1))).1:=by
  have h1:((A:Int) - B*VU q' - VU (DK K (u'.take (n+1))).1)*K=(DK K (u'.take (n+1))).2:=by
   rw[Int.sub_mul,Int.sub_mul]
   have:(B:Int)*VU q'*K=B*K*VU q':=by rw[Int.mul_assoc,Int.mul_comm (VU q'), ←Int.mul_assoc]
   rw[this]
   omega
  have h2:(A:Int) - B*VU q' - VU (DK K (u'.take (n+1))).1=0:=by
   by_cases hp:(A:Int) - B*VU q' - VU (DK K (u'.take (n+1))).1≥1
   ·exfalso
    have:=Int.mul_le_mul_of_nonneg_right hp (show (0:Int)≤K by omega)
    rw[Int.one_mul] at this
    omega
   ·by_cases hm:(A:Int) - B*VU q' - VU (DK K (u'.take (n+1))).1≤ -1
    ·exfalso
     have:=Int.mul_le_mul_of_nonneg_right hm (show (0:Int)≤K by omega)
     rw[Int.neg_mul,Int.one_mul] at this
     omega
    ·omega
  omega
 have hrB:VU (DK K (u'.take (n+1))).1<B:=by
  have h1:VU (DK K (u'.take (n+1))).1*K<(B:Int)*K:=by rw[hVv] at t8;omega
  exact Int.lt_of_mul_lt_mul_right h1 (by omega)
 obtain⟨Q,hQ⟩:=Int.eq_ofNat_of_zero_le hQ0
 obtain⟨r,hr⟩:=Int.eq_ofNat_of_zero_le hr0
 rw[hQ,hr] at hAq
 rw[hr] at hrB
 have hAN:A=B*Q+r:=by
  have:((B*Q+r:Nat):Int)=(B:Int)*Q+r:=by rw[Int.natCast_add,Int.natCast_mul]
  omega
 have hq1:A / B=Q:=by rw[hAN,Nat.mul_add_div am9,Nat.div_eq_of_lt (by omega)];omega
 have Pp:A % B=r:=by rw[hAN,Nat.mul_add_mod,Nat.mod_eq_of_lt (by omega)]
 refine⟨q',(DK K (u'.take (n+1))).1, ?_,t3,s4,by rw[hQ,hq1],by rw[hr,Pp],by omega,by rw[s5,List.length_take];omega⟩
 -- LS walk
 rw[Q1,MS]
 have e1:(((dU B).length:Int) - 1).toNat=n:=by omega
 simp (disch:=omega) only[i64_in,fk,e1,u64_in,jT,lZ,mQ]
 rw[←hk]
 simp (disch:=omega) only[u64_in,u32_in]
 rw[Mm hdA ⟨by omega,by omega⟩ (by omega),bS,Mm hdB ⟨by omega,by omega⟩ (by omega),bS,EE (by omega),bS,hv]
 simp (disch:=omega) only[i64_in,Kc,hul,hvl]
 have e2:((((dU A).length+1:Nat):Int) - ((n+1:Nat):Int)).toNat=J:=by omega
 have e3:(((dU A).length+1:Nat):Int) - ((n+1:Nat):Int) - 1=(J:Int) - 1:=by omega
 rw[e2,e3,t1,CC,y3]
 simp (disch:=omega) only[sk,Gw,Int.toNat_natCast]
 rw[hshort,bS]
end Go.Proofs.YtofjebmoebhiiaaGreatDoor.Ev
namespace Go.Proofs.YtofjebmoebhiiaaGreatDoor.Ev
open Go.Abs Go.IntWalk
theorem Xx {A B:Nat}(hl:(dU A).length≤100000000000)(hl':(dU B).length≤100000000000)(hB:0<B):
  ∃q r,yl (dU A) (dU B)=some (q,r)∧DU q∧DU r∧VU q=((A / B:Nat):Int)∧VU r=((A % B:Nat):Int)∧q.length≤1000000000000∧r.length≤1000000000000:=by
 rw[Ox,Jx,Kf (by omega) (by omega),bS]
 by_cases h:A<B
 ·rw[tN (by omega),ak (by omega)]
  refine⟨[],dU A,rfl,gZ.nil,IQ A, ?_, ?_,by simp,by omega⟩
  ·rw[Nat.div_eq_of_lt h];rfl
  ·rw[Nat.mod_eq_of_lt h,Ke]
 ·have hc:¬qA (A:Int) B<0:=by unfold qA;rw[if_neg (by omega)];split<;>omega
  rw[ai hc]
  by_cases h1:(dU B).length=1
  ·rw[sm (by omega)]
   have hd:=(IQ B).getD (by omega) 0
   have hBv:(dU B).getD 0 0=B:=by
    have h2:=Ke B
    cases hb:dU B with
    |nil=>rw[hb] at h1;simp at h1
    |cons x xs=>
     rw[hb] at h1 h2
     have:xs=[]:=by simpa using h1
     subst this
     simpa [VU,val] using h2
   rw[hBv] at hd
   obtain⟨s1,s2,s3,s4,s5⟩:=OZ (b:=(B:Int)) ⟨by omega,hd.2⟩ (dU A) (IQ A)
   have ht:nD [(DK (B:Int) (dU A)).2]=dU (DK (B:Int) (dU A)).2.toNat:=by
    have:DU [(DK (B:Int) (dU A)).2]:=gZ.cons s2 (by omega) gZ.nil
    rw[ac1 this]
    simp[VU,val]
   simp (disch:=omega) only[fk,Int.toNat_zero,hBv]
   rw[O0 (IQ A) ⟨by omega,hd.2⟩ (by omega),bS,EE (by simp),bS,ht]
   obtain⟨r,hr⟩:=Int.eq_ofNat_of_zero_le s2
   obtain⟨Q,hQ⟩:=Int.eq_ofNat_of_zero_le (yK s4)
   rw[Ke,hQ,hr] at s1
   rw[hr] at s3
   have hAN:A=B*Q+r:=by
    have:((B*Q+r:Nat):Int)=(B:Int)*Q+r:=by rw[Int.natCast_add,Int.natCast_mul]
    rw[Int.mul_comm] at s1
    omega
   have hq1:A / B=Q:=by rw[hAN,Nat.mul_add_div hB,Nat.div_eq_of_lt (by omega)];omega
   have Pp:A % B=r:=by rw[hAN,Nat.mul_add_mod,Nat.mod_eq_of_lt (by omega)]
   refine⟨_,_,rfl,s4,IQ _,by rw[hQ,hq1],by rw[Ke,hr,Pp];rfl,by omega, ?_⟩
   rw[hr,Int.toNat_natCast]
   have:=(aM (B:=1000000000) (by omega) 1 r).2 (by omega)
   show (Ul 1000000000 r).length≤_
   omega
  ·rw[jT (by omega)]
   have hne:(dU B).length≠0:=fun e=>by
    have:=(mw (B:=1000000000) (n:=B) (by omega)).1 (List.length_eq_zero_iff.1 e)
    omega
   obtain⟨q,r,e1,e2,e3,e4,e5,e6,e7⟩:=ZB (A:=A) (B:=B) hl (by omega) (by omega)
   rw[e1,bS]
   exact⟨q,r,rfl,e2,e3,e4,e5,by omega,by omega⟩
theorem abe:∀(y x:Nat),lJ x y=some ((Nat.gcd x y:Nat):Int):=by
 intro y
 induction y using Nat.strongRecOn with
 |ind y ih=>
  intro x
  rw[HV,Cx]
  by_cases h:y=0
  ·subst h;rw[cM (by omega),Nat.gcd_zero_right]
  ·have e:(x:Int).tmod y=((x % y:Nat):Int):=by rw[bP (by omega),Int.natCast_emod]
   rw[cy (by omega),lZ (by omega),e,ih _ (Nat.mod_lt _ (by omega)),Nat.gcd_comm y, ←Nat.gcd_rec,Nat.gcd_comm]
theorem Wa {d:List Int}(hd:DU d)(hl:d.length≤2):FE d=some (VU d):=by
 rw[QZ,MQ]
 match d,hd,hl with
 | [],hd,hl=>
   simp (disch:=omega) only[List.length_nil,i64_in]
   rw[kn,jR,sk (by omega)];rfl
 | [x],hd,hl=>
   have hx:=hd.head
   simp only[List.length_singleton]
   rw[i64_in _ (by omega),kn,jR,tA (by omega),fk (by omega) (by simp)]
   have e:([x]:List Int).getD (((1:Nat):Int) - 1).toNat 0=x:=rfl
   rw[e]
   simp (disch:=omega) only[i64_in]
   rw[kn,jR,sk (by omega)]
   simp[VU,val]
 | [x,y],hd,hl=>
   have hx:=hd.head
   have hy:=hd.tail.head
   simp only[List.length_cons,List.length_nil]
   rw[i64_in _ (by omega),kn,jR,tA (by omega),fk (by omega) (by simp)]
   have e:([x,y]:List Int).getD (((0+1+1:Nat):Int) - 1).toNat 0=y:=rfl
   rw[e]
   simp (disch:=omega) only[i64_in]
   rw[kn,jR,tA (by omega),fk (by omega) (by simp)]
   have e:([x,y]:List Int).getD (((0+1+1:Nat):Int) - 1 - 1).toNat 0=x:=rfl
   rw[e]
   simp (disch:=omega) only[i64_in]
   rw[kn,jR,sk (by omega)]
   simp[VU,val]
   omega
 |_::_::_::_,hd,hl=>simp at hl
theorem ahc {t:Bool}{t2:List Int}:∀(B A:Nat),(dU A).length≤10000000000→(dU B).length≤10000000000→eg (dU A) (dU B) t t2=some (W ((Nat.gcd A B:Nat):Int)):=by
 intro B
 induction B using Nat.strongRecOn with
 |ind B ih=>
  intro A hA hB
  rw[AQ,ud]
  by_cases h:B=0
  ·subst h
   rw[show dU 0=[] from dY _,cM (by simp),Nat.gcd_zero_right]
   simp[W]
  ·have hne:(dU B).length≠0:=fun e=>by
    have:=(mw (B:=1000000000) (n:=B) (by omega)).1 (List.length_eq_zero_iff.1 e)
    omega
   rw[cy (by omega)]
   -- LS step by a alV
   have Zz:(yl (dU A) (dU B)).bind (fun r6=>(mZ r6.2).bind fun r7=>eg (dU B) r7 t t2)=some (W ((Nat.gcd A B:Nat):Int)):=by
    obtain⟨q,r,e1,e2,e3,e4,e5,e6,e7⟩:=Xx (A:=A) (B:=B) (by omega) (by omega) (by omega)
    have hmod:=Nat.mod_lt A (show B>0 by omega)
    have hm:=ag3 (show A % B≤B by omega)
    rw[e1,bS,EE (show r.length≤_ by omega),bS,ac1 e3,e5,Int.toNat_natCast,ih _ hmod B hB (by omega)]
    rw[Nat.gcd_comm B, ←Nat.gcd_rec,Nat.gcd_comm]
   by_cases ha:(dU A).length≤2
   ·rw[Ml (by omega)]
    by_cases hb:(dU B).length≤2
    ·rw[Ml (by omega),Wa (IQ A) ha,bS,Wa (IQ B) hb,bS,Ke,Ke,Ow,Jw,abe,bS]
     have h1:=(aM (B:=1000000000) (by omega) 2 B).1 hb
     have h2:=Nat.gcd_le_right A (show 0<B by omega)
     rw[V8 (by omega) (by omega),bS,xf]
    ·rw[TQ (by omega)];exact Zz
   ·rw[TQ (by omega)];exact Zz
theorem GB {x y:Int}(hx:Ln x≤10000000000)(hy:Ln y≤10000000000):pg (W x) (W y)=some (W ((Int.gcd x y:Nat):Int)):=by
 rw[FU,As,W_2,W_2,ahc _ _ hx hy]
 rfl
end Go.Proofs.YtofjebmoebhiiaaGreatDoor.Ev
namespace Go.Proofs.YtofjebmoebhiiaaGreatDoor.Ev
open Go.Abs Go.IntWalk
theorem take_one {l:List Int}:l.take 1=[45]↔l.head?=some 45:=by
 cases l<;>simp
theorem Xy (s:ByteArray):iT s (bs [45])=some (strOf (bo (bytesOf s)),jb (bytesOf s)):=by
 have h45:bytesOf (bs [45])=[45]:=rfl
 have hsz:(bs [45]).size=1:=rfl
 have hlen:=aX s
 rw[zw,sD,th,nj,ti,nk,hsz]
 by_cases h0:1≤s.size
 ·rw[tA (by omega),Gw (by omega) (by omega) (by omega),bS,Xp,h45,tO]
  have e1:((0:Int)).toNat=0:=rfl
  have e2:(((1:Nat):Int)).toNat=1:=rfl
  rw[e1,e2,List.drop_zero]
  by_cases hm:(bytesOf s).head?=some 45
  ·have hd:decide ((bytesOf s).take 1=[45])=true:=decide_eq_true (take_one.2 hm)
   rw[hd]
   simp only[Bool.not_true,cF]
   rw[Gw (by omega) (by omega) (by omega),bS]
   have hb:bo (bytesOf s)=(bytesOf s).tail:=by unfold bo;rw[if_pos hm]
   have hm':jb (bytesOf s)=true:=by simpa [jb] using hm
   have hx:s.extract 1 ((s.size:Nat):Int).toNat=strOf (bo (bytesOf s)):=by
    apply ry
    rw[tO,hb,tB (fun x hx=>my s x (List.mem_of_mem_tail hx)),Int.toNat_natCast, ←hlen,List.take_length]
    simp
   rw[hm',hx]
  ·have hd:decide ((bytesOf s).take 1=[45])=false:=decide_eq_false (fun e=>hm (take_one.1 e))
   rw[hd]
   simp only[Bool.not_false,cT]
   rw[bS]
   have hb:bo (bytesOf s)=bytesOf s:=by unfold bo;rw[if_neg hm]
   have hm':jb (bytesOf s)=false:=by simpa [jb] using hm
   rw[hb,hm',UO]
 ·have he:bytesOf s=[]:=List.length_eq_zero_iff.1 (by omega)
  rw[sk (by omega),bS]
  simp only[Bool.not_false,cT]
  rw[bS]
  have:s=strOf (bo (bytesOf s)):=by
   apply ry
   rw[he,tB]
   ·rfl
   ·rw[show bo ([]:List Int)=[] from rfl];exact gZ.nil
  rw[←this,he];rfl
theorem abf {s:ByteArray}{neg:Bool}{e:Int}{t4:Bool}{t5:List Int}{c:List Int}(hc:gZ 256 c)(hl:c.length≤9):∀(m k:Nat) (x:Int) (d:List Int),m+k=c.length→x=js (c.take k)→(∀b∈c.take k,48≤b∧b≤57)→d.length≤100000000000000 / 5→
  nI s neg e x c c.length k d t4 t5=bif c.all R1 then jN s neg (IntKind.wrap .i64 (e - 9)) (d++[js c]) t4 t5 else some ((false,[],()),false):=by
 intro m
 induction m with
 |zero=>
  intro k x d hk hx hd hdl
  have hk':k=c.length:=by omega
  subst hk'
  rw[List.take_length] at hx hd
  have ha:c.all R1=true:=List.all_eq_true.2 fun b hb=>(zd b).2 (hd b hb)
  rw[Cv,yW,ai (by omega),iQ (by omega) (by omega),ha,cT,hx]
 |succ m ih=>
  intro k x d hk hx hd hdl
  have hkl:k<c.length:=by omega
  have hb:=hc.getD (by omega) k
  have hxb:=Aa (c.take k) hd
  rw[show (c.take k).length=k by rw[List.length_take];omega] at hxb
  have asj:(10:Int)^k≤10^8:=OY (by omega)
  rw[Cv,yW,ak (by omega),fk (by omega) (by omega),Int.toNat_natCast]
  by_cases h1:c.getD k 0<48
  ·have ha:c.all R1=false:=by
    rw[List.all_eq_false]
    refine⟨c.getD k 0, ?_,by rw[zd];omega⟩
    simp only[List.getD,hkl,List.getElem?_eq_getElem,Option.getD_some]
    exact List.getElem_mem hkl
   rw[ak h1,ha,cF]
  ·by_cases h2:c.getD k 0>57
   ·have ha:c.all R1=false:=by
     rw[List.all_eq_false]
     refine⟨c.getD k 0, ?_,by rw[zd];omega⟩
     simp only[List.getD,hkl,List.getElem?_eq_getElem,Option.getD_some]
     exact List.getElem_mem hkl
    rw[ai h1,cy h2,ha,cF]
   ·rw[ai h1,cM h2]
    simp (disch:=omega) only[u8_in,u32_in,i64_in]
    have tS:=fun x d=>ih (k+1) x d (by omega)
    simp only[Int.natCast_add,Int.natCast_one] at tS
    rw[tS]
    ·rw[dA hkl,ED, ←hx]
     simp[js];omega
    ·rw[dA hkl]
     intro b hb'
     rcases List.mem_append.1 hb' with h |h
     ·exact hd b h
     ·simp only[List.mem_singleton] at h;subst h;omega
    ·exact hdl
theorem abg {s:ByteArray}{neg:Bool}{t4:Bool}{t5:List Int}(hs:s.size≤140737488355328):∀(m e:Nat) (d:List Int),e≤m→e≤s.size→DU d→d.length*9+e≤140737488355328+9→
  jN s neg e d t4 t5=bif ((bytesOf s).take e).all R1 then some (W (bif neg then -(VU d+1000000000^d.length*js ((bytesOf s).take e)) else (VU d+1000000000^d.length*js ((bytesOf s).take e))),true) else some ((false,[],()),false):=by
 intro m
 induction m using Nat.strongRecOn with
 |ind m ih=>
  intro e d hm he hd hdl
  have hbl:=aX s
  rw[Cu,yV]
  by_cases h0:e=0
  ·subst h0
   rw[cM (by omega),ze hd (by omega),bS]
   simp only[List.take_zero,List.all_nil,cT,js,List.foldl_nil,Int.mul_zero,Int.add_zero]
   try rfl
  ·rw[cy (by omega)]
   -- LS an5 begin
   obtain⟨b,hb⟩:∃b:Nat,b=e - 9:=⟨_,rfl⟩
   have e0:(bif decide (IntKind.wrap .i64 ((e:Int) - 9)>0) then IntKind.wrap .i64 ((e:Int) - 9) else 0)=(b:Int):=by
    rw[i64_in _ (by omega)]
    by_cases h:(e:Int) - 9>0
    ·rw[cy h];omega
    ·rw[cM h];omega
   rw[e0]
   have hx:bytesOf (s.extract b e)=((bytesOf s).take e).drop b:=tO s b e
   have hxl:(bytesOf (s.extract b e)).length=e - b:=by rw[hx];simp;omega
   have hxs:(s.extract b e).size≤140737488355328:=by rw[←aX,hxl];omega
   simp only[Int.toNat_natCast]
   rw[Gw (by omega) (by omega) (by omega),ao0 hxs]
   have hI:=abf (s:=s) (neg:=neg) (e:=(e:Int)) (t4:=t4) (t5:=t5) (c:=bytesOf (s.extract b e)) (my _) (by omega) (e - b) 0 0 d (by omega) (by simp[js]) (by simp) (by omega)
   simp only[Int.natCast_zero] at hI
   rw[hI,hx,i64_in _ (by omega)]
   have Qj:(bytesOf s).take e=(bytesOf s).take b++((bytesOf s).take e).drop b:=by
    conv=>lhs;rw[TW ((bytesOf s).take e) b]
    rw[List.take_take,Nat.min_eq_left (by omega)]
   cases hca:(((bytesOf s).take e).drop b).all R1 with
   |false=>
    have:((bytesOf s).take e).all R1=false:=by rw[Qj,List.all_append,hca,Bool.and_false]
    rw[this,cF,cF]
   |true=>
    rw[cT]
    have hcd:∀x∈((bytesOf s).take e).drop b,48≤x∧x≤57:=fun x hx=>(zd x).1 (List.all_eq_true.1 hca x hx)
    have hcb:=Aa _ hcd
    have hcl:(((bytesOf s).take e).drop b).length=e - b:=by rw[←hx,hxl]
    rw[hcl] at hcb
    have hpw:(10:Int)^(e - b)≤10^9:=OY (by omega)
    have hd':DU (d++[js (((bytesOf s).take e).drop b)]):=hd.append (gZ.cons hcb.1 (by omega) gZ.nil)
    have hVd:VU (d++[js (((bytesOf s).take e).drop b)])=VU d+1000000000^d.length*js (((bytesOf s).take e).drop b):=by
     rw[VU,fj];simp[val]
    by_cases h9:9≤e
    ·have e1:(e:Int) - 9=(b:Int):=by omega
     rw[e1,ih b (by omega) b _ (Nat.le_refl _) (by omega) hd' (by simp;omega),hVd]
     have h4:((bytesOf s).take e).all R1=((bytesOf s).take b).all R1:=by
      conv=>lhs;rw[Qj]
      rw[List.all_append,hca,Bool.and_true]
     have h5:js ((bytesOf s).take e)=js ((bytesOf s).take b)*1000000000+js (((bytesOf s).take e).drop b):=by
      conv=>lhs;rw[Qj]
      rw[ED,hcl,show e - b=9 by omega]
      rfl
     have h6:VU d+1000000000^d.length*js (((bytesOf s).take e).drop b)+1000000000^(d++[js (((bytesOf s).take e).drop b)]).length*js ((bytesOf s).take b)
       =VU d+1000000000^d.length*js ((bytesOf s).take e):=by
      rw[h5,List.length_append,List.length_singleton,Int.pow_succ,Int.mul_add,Int.mul_assoc,Int.mul_comm (1000000000:Int) (js _)]
      omega
     rw[h4,h6]
    · -- LS last chunk
      have hb0:b=0:=by omega
      subst hb0
      rw[Cu,yV,cM (by omega),ze hd' (by simp;omega),bS,hVd]
      rw[List.drop_zero] at hca ⊢
      rw[hca,cT]
      try rfl
theorem vA {s:ByteArray}(hs:s.size≤140737488355328):FC s=bif gi (bytesOf s) then some (W (numOf (bytesOf s)),true) else some ((false,[],()),false):=by
 rw[QW,MO,Xy,bS]
 have hbody:bytesOf (strOf (bo (bytesOf s)))=bo (bytesOf s):=tB (fun x hx=>my s x (by
  unfold bo at hx
  split at hx
  ·exact List.mem_of_mem_tail hx
  ·exact hx))
 have hbl:(bo (bytesOf s)).length≤s.size:=by
  rw[←aX]
  unfold bo
  split
  ·simp
  ·exact Nat.le_refl _
 have hsz:(strOf (bo (bytesOf s))).size=(bo (bytesOf s)).length:=by rw[←aX,hbody]
 generalize hB:bo (bytesOf s)=B at*
 generalize hM:jb (bytesOf s)=M at*
 simp only
 rw[Xp,hbody,UP]
 cases B with
 |nil=>
  have:gi (bytesOf s)=false:=by unfold gi;rw[hB];simp
  rw[this];rfl
 |cons c r=>
  have h1:decide ((c::r:List Int)=[])=false:=by simp
  rw[h1,cF,zc,hbody]
  have h2:idx (c::r) (0:Int)=some c:=rfl
  rw[h2,bS]
  have hout:=abg (s:=strOf (c::r)) (neg:=M) (t4:=false) (t5:=[]) (by rw[hsz];omega) (c::r).length (c::r).length [] (Nat.le_refl _) (by rw[hsz];exact Nat.le_refl _) gZ.nil (by simp at hbl ⊢;omega)
  rw[hbody,List.take_length] at hout
  have aaZ:jN (strOf (c::r)) M ((c::r).length:Int) [] false []=bif (c::r).all R1 then some (W (numOf (bytesOf s)),true) else some ((false,[],()),false):=by
   rw[hout]
   have:(bif M then -(VU []+1000000000^([]:List Int).length*js (c::r)) else (VU []+1000000000^([]:List Int).length*js (c::r)))=numOf (bytesOf s):=by
    unfold numOf
    rw[hB,hM]
    cases M<;>simp[VU,val]
   rw[this]
  have hok:gi (bytesOf s)=((c::r).all R1&&(!(c==48)||((c::r).length==1&& !M))):=by
   unfold gi
   rw[hB,hM]
   simp
  by_cases hc:c=48
  ·subst hc
   rw[sm rfl]
   rw[hok]
   by_cases hl:r=[]
   ·subst hl
    rw[hsz,cM (by simp)]
    cases M with
    |true=>rfl
    |false=>
     rw[cF,aaZ];rfl
   ·have hr:0<r.length:=List.length_pos_iff.2 hl
    rw[hsz,cy (by simp;omega)]
    have h5:((48::r:List Int).length==1)=false:=by simp;exact hl
    rw[h5]
    simp
  ·rw[jT hc,hsz,aaZ,hok]
   have:(c==48)=false:=Kb hc
   rw[this]
   simp
end Go.Proofs.YtofjebmoebhiiaaGreatDoor.Ev
namespace Go.Abs
theorem aiZ {n:Nat}(h:0<n):(dX n).length=(dX (n / 10)).length+1:=by
 rw[dX,zb (by omega) h,List.length_cons]
theorem Wb (n c:Nat):(10:Nat)^(9*n+c)=1000000000^n*10^c:=by
 rw[Nat.pow_add,Nat.pow_mul]
def g9:Nat→Int→List Int
 |0,_=>[]
 |k+1,x=>x % 10::g9 k (x / 10)
theorem KN:∀k x,(g9 k x).length=k
 |0,_=>rfl
 |k+1,x=>by simp[g9,KN k]
theorem anf:∀k x,DX (g9 k x)
 |0,_=>gZ.nil
 |k+1,x=>gZ.cons (by omega) (by omega) (anf k _)
theorem ahd:∀k (x:Int),0≤x→x<10^k→VX (g9 k x)=x
 |0,x,h0,h1=>by simp at h1;simp[g9,VX,val];omega
 |k+1,x,h0,h1=>by
  rw[Int.pow_succ] at h1
  have ih:=ahd k (x / 10) (by omega) (by omega)
  simp only[g9,VX,val] at ih ⊢
  rw[ih];omega
def Mn (d:List Int):List Int:=d.flatMap (g9 9)
theorem O4:∀d:List Int,(Mn d).length=9*d.length
 | []=>rfl
 |x::d=>by
  have:=O4 d
  simp only[Mn,List.flatMap_cons,List.length_append,KN,List.length_cons] at this ⊢
  omega
theorem Xz:∀d:List Int,DX (Mn d)
 | []=>gZ.nil
 |x::d=>by simp only[Mn,List.flatMap_cons];exact(anf 9 x).append (Xz d)
theorem Wc:∀d:List Int,gZ 1000000000 d→VX (Mn d)=val 1000000000 d
 | [],_=>rfl
 |x::d,h=>by
  have ih:=Wc d h.tail
  have hx:=h.head
  simp only[Mn,List.flatMap_cons] at ih ⊢
  rw[VX,fj,KN]
  have:=ahd 9 x hx.1 (by simpa using hx.2)
  rw[VX] at this ih
  rw[this,ih,val]
  rfl
theorem HE (d e:List Int):GJ (d++e)=GJ d++GJ e:=by simp[GJ]
theorem rB (d:List Int):(GJ d).length=d.length:=by simp[GJ]
end Go.Abs
namespace Go.Proofs.YtofjebmoebhiiaaGreatDoor.Ev
open Go.Abs Go.IntWalk
theorem ZC:∀(x n:Nat),x<1000000000→n+x≤1000000000000000→dv n x=some (((n+(dX x).length:Nat)):Int):=by
 intro x
 induction x using Nat.strongRecOn with
 |ind x ih=>
  intro n hx hn
  rw[we,po]
  by_cases h:x=0
  ·subst h;rw[cM (by omega),show dX 0=[] from dY _];rfl
  ·have e:IntKind.wrap .u32 ((x:Int).tdiv 10)=((x / 10:Nat):Int):=by rw[u32_quo _ _ (by omega)];omega
   have e2:IntKind.wrap .i64 ((n:Int)+1)=((n+1:Nat):Int):=by rw[i64_in _ (by omega)];omega
   rw[cy (by omega),e,e2,ih (x / 10) (Nat.div_lt_self (by omega) (by omega)) (n+1) (by omega) (by omega),aiZ (n:=x) (by omega)]
   congr 2;omega
theorem LJ {z:Int}(hz:Ln z≤20000000000000):im (W z)=some ((dX z.natAbs).length:Int):=by
 rw[AR,uh,ag5]
 by_cases h:z=0
 ·subst h
  have:Ln 0=0:=(Ab 0).2 rfl
  rw[this,sm (by omega),show dX (Int.natAbs 0)=[] from dY _];rfl
 ·have hpos:Ln z≠0:=fun e=>h ((Ab z).1 e)
  obtain⟨n,hn⟩:∃n,Ln z=n+1:=⟨Ln z - 1,by omega⟩
  have hd:=IQ z.natAbs
  have hl:(dU z.natAbs).length=n+1:=hn
  have aiY:=hd.getD (by omega) n
  rw[jT (by omega)]
  simp only[W_2,o6]
  have e1:((Ln z:Int) - 1).toNat=n:=by omega
  simp (disch:=omega) only[i64_in,fk,e1,o6]
  obtain⟨t,ht⟩:=Int.eq_ofNat_of_zero_le aiY.1
  rw[ht] at aiY ⊢
  have e2:(9:Int)*((Ln z:Int) - 1)=((9*n:Nat):Int):=by omega
  rw[e2,ZC t (9*n) (by omega) (by omega)]
  congr 2
  -- LS number asl an6 two apf
  have h1:=GA (dU z.natAbs) (show n<(dU z.natAbs).length by omega)
  rw[List.take_of_length_le (by omega),ht] at h1
  have h2:=AG (B:=1000000000) (by omega) (hd.take n)
  have h3:=kB (B:=1000000000) (by omega) (hd.take n)
  rw[show ((dU z.natAbs).take n).length=n by rw[List.length_take];omega] at h2
  have h4:=Ke z.natAbs
  rw[VU] at h4
  have ht0:0<t:=by
   have hne:dU z.natAbs=(dU z.natAbs).take n++[(t:Int)]:=by
    conv=>lhs;rw[←List.take_of_length_le (l:=dU z.natAbs) (i:=n+1) (by omega)]
    rw[dA (by omega),ht]
   have:=Rb (B:=1000000000) (by omega) hne
   omega
  have hc:(dX t).length≠0:=fun e=>by
   have:=(mw (B:=10) (n:=t) (by omega)).1 (List.length_eq_zero_iff.1 e)
   omega
  obtain⟨c,hcc⟩:∃c,(dX t).length=c+1:=⟨(dX t).length - 1,by omega⟩
  have h5:=(aM (B:=10) (by omega) (c+1) t).1 (by rw[←hcc];exact Nat.le_refl _)
  have h6:=(fR (B:=10) (by omega) c t).1 (by show c<(dX t).length;omega)
  have h7:z.natAbs<10^(9*n+(c+1)):=by
   rw[Wb]
   have:((1000000000:Nat)^n)*(t+1)≤1000000000^n*10^(c+1):=Nat.mul_le_mul_left _ h5
   rw[Nat.mul_add,Nat.mul_one] at this
   have e:=ofNat_pow n
   have e':((1000000000^n*t:Nat):Int)=1000000000^n*(t:Int):=by rw[Int.natCast_mul,e]
   omega
  have h8:10^(9*n+c)≤z.natAbs:=by
   rw[Wb]
   have:((1000000000:Nat)^n)*10^c≤1000000000^n*t:=Nat.mul_le_mul_left _ h6
   have e:=ofNat_pow n
   have e':((1000000000^n*t:Nat):Int)=1000000000^n*(t:Int):=by rw[Int.natCast_mul,e]
   omega
  have h9:=(aM (B:=10) (by omega) (9*n+(c+1)) z.natAbs).2 h7
  have h10:=(fR (B:=10) (by omega) (9*n+c) z.natAbs).2 h8
  show 9*n+(dX t).length=(Ul 10 z.natAbs).length
  omega
def Wd (z:Int):Bool:=decide (1000<nd z)
theorem EF {z:Int}(hz:Ln z≤20000000000000):nc (W z)=some (Wd z):=by
 rw[Eb,yz]
 show (im (W z)).bind _=_
 rw[LJ hz,bS]
 congr 1
 unfold Wd nd
 rw[rA]
 exact decide_eq_decide.2 (by omega)
theorem abh {t:List Int}{t2 t3:Int}{a:Bool}{a2:List Int}:∀(m k:Nat) (x:Int) (out:List Int),m+k=9→0≤x→x<1000000000→out.length+m≤10000000000000→
  eO x t t2 t3 k out a a2=dD t t2 (IntKind.wrap .i64 (t3+1)) (out++GJ (g9 m x)) a a2:=by
 intro m
 induction m with
 |zero=>
  intro k x out hk h0 h1 ho
  rw[qS,mH,ai (by omega)]
  simp[g9,GJ]
 |succ m ih=>
  intro k x out hk h0 h1 ho
  rw[qS,mH,ak (by omega)]
  simp (disch:=omega) only[bP,u32_in,u8_in,u32_quo,iQ,i64_in]
  have tS:=fun x out=>ih (k+1) x out (by omega)
  simp only[Int.natCast_add,Int.natCast_one] at tS
  rw[tS _ _ (by omega) (by omega) (by simp;omega)]
  simp only[g9,GJ,List.map_cons,List.append_assoc,List.singleton_append,Int.add_comm (48:Int)]
theorem abi {d:List Int}{a:Bool}{a2:List Int}(hd:DU d)(hl:d.length≤1000000000000):∀(m i:Nat) (out:List Int),m+i=d.length→out.length=9*i→
  dD d d.length i out a a2=dE (out++GJ (Mn (d.drop i))) a a2:=by
 intro m
 induction m with
 |zero=>
  intro i out hi ho
  rw[qR,mG,ai (by omega),drop_nil (by omega)]
  simp[Mn,GJ]
 |succ m ih=>
  intro i out hi ho
  have hx:=hd.getD (by omega) i
  rw[qR,mG,ak (by omega),fk (by omega) (by omega),Int.toNat_natCast]
  have hI:=abh (t:=d) (t2:=d.length) (t3:=i) (a:=a) (a2:=a2) 9 0 (d.getD i 0) out rfl hx.1 hx.2 (by omega)
  simp only[Int.natCast_zero] at hI
  have tS:=fun out=>ih (i+1) out (by omega)
  simp only[Int.natCast_add,Int.natCast_one] at tS
  rw[hI,i64_in _ (by omega),tS _ (by rw[List.length_append,rB,KN];omega),drop_eq (show i<d.length by omega)]
  simp only[Mn,List.flatMap_cons,HE,List.append_assoc]
theorem ahe:∀(m:Nat) (M A C:List Int),M.length=m→A.length=C.length→(A++M++C).length≤1000000000000000→
  dF A.length ((A.length:Int)+M.length - 1) (A++M++C)=some (strOf (A++M.reverse++C)):=by
 intro m
 induction m using Nat.strongRecOn with
 |ind m ih=>
  intro M A C hm hac hl
  rw[zv,sA]
  by_cases h:M.length≤1
  ·rw[ai (by omega)]
   have:M.reverse=M:=by
    match M,h with
    | [],_=>rfl
    | [x],_=>rfl
    |_::_::_,h=>simp at h
   rw[this]
  ·obtain⟨x,M1,rfl⟩:∃x M1,M=x::M1:=by
    cases M with
    |nil=>simp at h
    |cons x M1=>exact⟨x,M1,rfl⟩
   have hne:M1≠ []:=fun e=>by rw[e] at h;simp at h
   obtain⟨M2,y,rfl⟩:∃M2 y,M1=M2++[y]:=⟨M1.dropLast,M1.getLast hne,(List.dropLast_concat_getLast hne).symm⟩
   have hlen:(A++x::(M2++[y])++C).length=A.length+M2.length+2+C.length:=by simp;omega
   have hM:(x::(M2++[y])).length=M2.length+2:=by simp
   rw[hM]
   rw[hlen] at hl
   have ej:((A.length:Int)+((M2.length+2:Nat):Int) - 1).toNat=A.length+M2.length+1:=by omega
   have hL:A++x::(M2++[y])++C=A++(x::(M2++(y::C))):=by simp
   rw[hL] at hlen ⊢
   have gx:(A++(x::(M2++(y::C)))).getD A.length 0=x:=by simp[List.getD]
   have gy:(A++(x::(M2++(y::C)))).getD (A.length+M2.length+1) 0=y:=by
    rw[List.getD,List.getElem?_append_right (by omega)]
    have:A.length+M2.length+1 - A.length=M2.length+1:=by omega
    rw[this]
    simp
   have s1:(A++(x::(M2++(y::C)))).set A.length y=A++(y::(M2++(y::C))):=by
    rw[List.set_append_right _ _ (by omega)];simp
   have s2:(A++(y::(M2++(y::C)))).set (A.length+M2.length+1) x=(A++[y])++M2++(x::C):=by
    rw[List.set_append_right _ _ (by omega)]
    have:A.length+M2.length+1 - A.length=M2.length+1:=by omega
    rw[this,List.set_cons_succ,List.set_append_right _ _ (by omega)]
    simp
   have Zh:(A++(y::(M2++(y::C)))).length=A.length+M2.length+2+C.length:=by simp;omega
   rw[ak (by omega)]
   simp (disch:=omega) only[fk,xm,ej,Int.toNat_natCast,gx,gy,s1,s2,i64_in]
   have:=ih M2.length (by simp at hm;omega) M2 (A++[y]) (x::C) rfl (by simp;omega) (by simp;omega)
   have e1:((A++[y]).length:Int)=(A.length:Int)+1:=by simp
   rw[e1] at this
   have e2:(A.length:Int)+1+M2.length - 1=(A.length:Int)+((M2.length+2:Nat):Int) - 1 - 1:=by omega
   rw[e2] at this
   rw[this]
   simp
theorem We (o:List Int)(hl:o.length≤1000000000000000):dF 0 ((o.length:Int) - 1) o=some (strOf o.reverse):=by
 have:=ahe o.length o [] [] rfl rfl (by simpa using hl)
 simpa using this
theorem abj {a:Bool}{a2:List Int}:∀(n:Nat) (ds:List Int),ds.length=n→n≤100000000000000→DX ds→VX ds≠0→
  dE (GJ ds) a a2=some (strOf ((if a then [45] else [])++(GJ (nD ds)).reverse)):=by
 intro n
 induction n with
 |zero=>
  intro ds hn _ _ hv
  have:ds=[]:=List.length_eq_zero_iff.1 hn
  subst this
  exact absurd rfl hv
 |succ n ih=>
  intro ds hn hl hd hv
  have hne:ds≠ []:=fun e=>by rw[e] at hn;cases hn
  obtain⟨d',y,rfl⟩:∃d' y,ds=d'++[y]:=⟨ds.dropLast,ds.getLast hne,(List.dropLast_concat_getLast hne).symm⟩
  have hn':d'.length=n:=by simpa using hn
  have hy:=hd.right.head
  rw[HE,zu,sy]
  have hcl:(GJ d'++GJ [y]).length=d'.length+1:=by simp[rB]
  have e1:(((d'.length+1:Nat):Int) - 1).toNat=d'.length:=by omega
  have g1:(GJ d'++GJ [y]).getD d'.length 0=y+48:=by
   rw[List.getD,List.getElem?_append_right (by rw[rB];omega),rB]
   simp[GJ]
  simp (disch:=omega) only[hcl,i64_in,fk,xm,e1,g1]
  by_cases h0:y=0
  ·subst h0
   have hv':VX d'≠0:=fun e=>hv (by rw[VX,fj,show val 10 d'=0 from e];simp[val])
   have ht:(GJ d'++GJ [0]).take d'.length=GJ d':=List.take_left' (rB _)
   rw[sm (by omega),Gw (by omega) (by omega) (by omega),ht,ih d' hn' (by omega) hd.left hv',z8]
  ·rw[jT (by omega),Du h0, ←HE]
   have aph:(GJ (d'++[y])).length=d'.length+1:=by simp[rB]
   cases a with
   |true=>
    rw[cT,iQ (by omega) (by omega)]
    have e5:IntKind.wrap .i64 (((GJ (d'++[y])++[45]).length:Int) - 1)=((GJ (d'++[y])++[45]).length:Int) - 1:=i64_in _ (by simp[rB];omega)
    rw[e5,We _ (by simp[rB];omega)]
    simp
   |false=>
    rw[cF]
    have:=We (GJ (d'++[y])) (by omega)
    rw[aph] at this
    rw[this]
    simp
theorem EG {z:Int}(hz:Ln z≤10000000000):mY (W z)=some (gJ z):=by
 rw[D9,yx,ag5,W_1,W_2]
 by_cases h:z=0
 ·subst h
  have:Ln 0=0:=(Ab 0).2 rfl
  rw[this,sm (by omega)]
  rfl
 ·have hpos:Ln z≠0:=fun e=>h ((Ab z).1 e)
  rw[jT (by omega)]
  simp (disch:=omega) only[i64_in,Kc]
  have hd:=IQ z.natAbs
  have h1:=abi (a:=decide (z<0)) (a2:=dU z.natAbs) hd (by rw[o6];omega) (dU z.natAbs).length 0 [] (by omega) rfl
  simp only[Int.natCast_zero,List.drop_zero,List.nil_append,o6] at h1
  have hv:VX (Mn (dU z.natAbs))=z.natAbs:=by rw[Wc _ hd];exact Ke _
  rw[h1,abj _ _ rfl (by rw[O4,o6];omega) (Xz _) (by rw[hv];omega),TS (Xz _),hv,Int.toNat_natCast]
  unfold gJ rX kC
  rw[if_neg (show ¬z.natAbs=0 by omega)]
  congr 3
  by_cases h2:z<0<;>simp[h2]
end Go.Proofs.YtofjebmoebhiiaaGreatDoor.Ev
namespace Go.Proofs.YtofjebmoebhiiaaGreatDoor.Ev
open Go.Abs Go.IntWalk
theorem ahf {z:Int}{k:Nat}(h:nd z≤k):Ln z≤k / 9+1:=by
 rw[Gy]
 have h1:=(ka z (k+1) (by omega)).1 (by omega)
 have h2:10^(k+1)≤10^(9*(k / 9+1)):=Nat.pow_le_pow_right (by omega) (by omega)
 rw[Nat.pow_mul] at h2
 exact Nat.lt_of_lt_of_le h1 h2
def Sm (z:Int):Prop:=nd z≤1000
instance (z:Int):Decidable (Sm z):=inferInstanceAs (Decidable (nd z≤1000))
theorem Sm.Ln {z:Int}(h:Sm z):Ln z≤112:=ahf h
theorem abk (z:Int):Sm z↔z.natAbs<10^1000:=ka z 1000 (by omega)
theorem Sm.mono {x y:Int}(h:Sm y)(hxy:x.natAbs≤y.natAbs):Sm x:=(abk x).2 (Nat.lt_of_le_of_lt hxy ((abk y).1 h))
theorem Sm.neg {x:Int}(h:Sm x):Sm (-x):=h.mono (by omega)
def xi (s:ByteArray):Prop:=s.size≤140737488355328
section
variable {a b:ByteArray}{x y:Int}(ha:xi a)(hb:xi b)(hx:Sm x)(hy:Sm y)
include hx hy
end
section
variable {x:Int}(hx:Sm x)
include hx
end
section
variable {a b:ByteArray}(ha:xi a)(hb:xi b)
include ha
include hb
end
end Go.Proofs.YtofjebmoebhiiaaGreatDoor.Ev
namespace Go.Proofs.YtofjebmoebhiiaaGreatDoor.Ev
open Go.Abs Go.IntWalk
theorem abl:∀(n:Nat) (d:List Int),d.length=n→n≤1000000000000000→dP d=some (nD d):=by
 intro n
 induction n with
 |zero=>
  intro d hd hn
  have:d=[]:=List.length_eq_zero_iff.1 hd
  subst this
  rw[pA,lU];rfl
 |succ n ih=>
  intro d hd hn
  obtain⟨d',y,rfl⟩:∃d' y,d=d'++[y]:=by
   have hne:d≠ []:=fun e=>by rw[e] at hd;cases hd
   exact⟨d.dropLast,d.getLast hne,(List.dropLast_concat_getLast hne).symm⟩
  have hl:d'.length=n:=by simpa using hd
  have hy:(d'++[y]).getD d'.length 0=y:=by simp[List.getD]
  have ht:(d'++[y]).take d'.length=d':=by simp
  rw[pA,lU]
  simp only[List.length_append,List.length_cons,List.length_nil]
  simp (disch:=omega) only[i64_in,cy,Gw,amX]
  rw[rq (by omega) (by simp;omega)]
  have e:(((d'.length+(0+1):Nat):Int) - 1).toNat=d'.length:=by omega
  rw[e,hy,ht,bS]
  by_cases h0:y=0
  ·subst h0
   rw[z8,ih d' hl (by omega),sm rfl]
  ·rw[jT h0,Du h0]
theorem Kh {d:List Int}(h:d.length≤1000000000000000):bg d=some (nD d):=by
 rw[CL,wx];exact abl _ d rfl h
theorem abm {d:List Int}(hd:DX d)(hl:d.length≤100000000000000):∀(k:Nat) (out:List Int),k≤d.length→out.length+k≤1000000000000000 / 10→
  dL d ((k:Int) - 1) out=some (strOf (out++(GJ (d.take k)).reverse)):=by
 intro k
 induction k with
 |zero=>
  intro out hk ho
  rw[py,lR,sk (by omega)]
  simp[GJ]
 |succ k ih=>
  intro out hk ho
  have hx:=hd.getD (by omega) k
  have e:((k+1:Nat):Int) - 1=k:=by omega
  rw[py,lR,e,tA (by omega),fk (by omega) (by omega),Int.toNat_natCast]
  simp (disch:=omega) only[i64_in,u8_in,iQ]
  rw[ih _ (by omega) (by simp;omega),dA (show k<d.length by omega),HE]
  simp[GJ,Int.add_comm]
theorem xj {minus:Bool}{d:List Int}(hd:DX d)(hl:d.length≤10000000000000):al minus d=some (gJ (if minus then -VX d else VX d)):=by
 obtain⟨v,hv⟩:=Int.eq_ofNat_of_zero_le (KL hd)
 rw[CI,wo,Kh (by omega),bS,TS hd,hv,Int.toNat_natCast]
 have hlen:=BL d
 rw[TS hd,hv,Int.toNat_natCast] at hlen
 by_cases h0:v=0
 ·subst h0
  rw[show dX 0=[] from dY _,sm (by rfl)]
  cases minus<;>rfl
 ·have hne:(dX v).length≠0:=fun e=>h0 ((mw (B:=10) (by omega)).1 (List.length_eq_zero_iff.1 e))
  rw[jT (by omega)]
  have hw:=abm (HC v) (by omega) (dX v).length
  have e5:IntKind.wrap .i64 (((dX v).length:Int) - 1)=((dX v).length:Int) - 1:=i64_in _ (by omega)
  cases minus with
  |true=>
   rw[cT,iQ (by omega) (by omega),e5,hw _ (Nat.le_refl _) (by simp;omega),List.take_length]
   unfold gJ rX kC
   simp only[if_true]
   rw[if_pos (by omega),if_neg (by omega)]
   have:(-(v:Int)).natAbs=v:=by omega
   rw[this]
   simp
  |false=>
   rw[cF,e5,hw _ (Nat.le_refl _) (by simp;omega),List.take_length]
   unfold gJ rX kC
   simp only[Bool.false_eq_true,if_false]
   rw[if_neg (by omega),if_neg (by omega)]
   simp
def Nd (k:Nat)(z:Int):Prop:=z.natAbs<10^k
theorem Nd.mono {k l:Nat}{z:Int}(h:Nd k z)(hkl:k≤l):Nd l z:=Nat.lt_of_lt_of_le h (Nat.pow_le_pow_right (by omega) hkl)
theorem Nd.add {k l:Nat}{x y:Int}(hx:Nd k x)(hy:Nd l y):Nd (max k l+1) (x+y):=by
 have h1:=hx.mono (Nat.le_max_left k l)
 have h2:=hy.mono (Nat.le_max_right k l)
 unfold Nd at*
 rw[Nat.pow_succ]
 omega
theorem Nd.neg {k:Nat}{x:Int}(hx:Nd k x):Nd k (-x):=by unfold Nd at*;omega
theorem Nd.sub {k l:Nat}{x y:Int}(hx:Nd k x)(hy:Nd l y):Nd (max k l+1) (x - y):=hx.add hy.neg
theorem Nd.mul {k l:Nat}{x y:Int}(hx:Nd k x)(hy:Nd l y):Nd (k+l) (x*y):=by
 unfold Nd at*
 rw[Int.natAbs_mul,Nat.pow_add]
 exact Nat.mul_lt_mul'' hx hy
theorem Nd.Sm {k:Nat}{x:Int}(hx:Nd k x)(hk:k≤1000):Sm x:=(abk x).2 (hx.mono hk)
end Go.Proofs.YtofjebmoebhiiaaGreatDoor.Ev
namespace Go.Proofs.YtofjebmoebhiiaaGreatDoor.Ev
open Go.Abs Go.IntWalk
theorem KO (x y:Int):((gJ x).toList==(gJ y).toList)=decide (x=y):=by
 rw[TR]
 exact decide_eq_decide.2 aba
theorem Wf {x y:Int}(h:x=y):((gJ x).toList==(gJ y).toList)=true:=by rw[KO];exact decide_eq_true h
theorem Wg {x y:Int}(h:¬x=y):((gJ x).toList==(gJ y).toList)=false:=by rw[KO];exact decide_eq_false h
theorem ahg {l:List Nat}{z:Int}(h:gi (bytesOf (bs l))=true)(hz:numOf (bytesOf (bs l))=z):bs l=gJ z:=
 ry (by rw[dZ, ←hz];exact TT h)
theorem ang:bs [48]=gJ 0:=ahg rfl rfl
theorem api:bs [49]=gJ 1:=ahg rfl rfl
section
variable {x y:Int}(hx:Sm x)(hy:Sm y)
include hx hy
end
end Go.Proofs.YtofjebmoebhiiaaGreatDoor.Ev
namespace Go.Proofs.YtofjebmoebhiiaaGreatDoor.Ev
open Go.Abs
end Go.Proofs.YtofjebmoebhiiaaGreatDoor.Ev
namespace Go.Abs
def Qk (l:List Int):List Int:=((l.filter (fun c=>c != 45)).reverse).map (· - 48)
theorem Re (l m:List Int):Qk (l++m)=Qk m++Qk l:=by simp[Qk]
theorem anh {c:Int}(h:¬c=45):([c]:List Int).filter (fun c=>c != 45)=[c]:=by simp[List.filter_cons,h]
theorem ani {c:Int}(h:¬c=45):Qk [c]=[c - 48]:=by simp[Qk,List.filter_cons,h]
theorem EH (n:Nat):(kC n).filter (fun c=>c != 45)=kC n:=by
 apply List.filter_eq_self.2
 intro c hc
 have:=rz n c hc
 simp;omega
theorem aeM (n:Nat):nD (Qk (kC n))=dX n:=by
 unfold Qk
 rw[EH]
 unfold kC
 split
 ·rename_i h;subst h;rw[dX,dY];rfl
 ·rw[List.reverse_reverse]
  have:(GJ (dX n)).map (· - 48)=dX n:=by
   simp only[GJ,List.map_map]
   conv=>rhs;rw[←List.map_id (dX n)]
   apply List.map_congr_left
   intro c _
   simp only[Function.comp,id];omega
  rw[this]
  exact OX (B:=10) (by omega) n
theorem aeN (z:Int):nD (Qk (rX z))=dX z.natAbs:=by
 unfold rX
 rw[Re]
 have:Qk (if z<0 then [45] else [])=[]:=by split<;>rfl
 rw[this,List.append_nil,aeM]
theorem Mo (z:Int):(dX z.natAbs).length≤nd z:=by unfold nd;rw[rA];omega
theorem Wh {m n:Nat}(h:m≤n):(dX m).length≤(dX n).length:=by
 have l2:=(aM (B:=10) (by omega) (dX n).length n).1 (Nat.le_refl _)
 exact(aM (B:=10) (by omega) (dX n).length m).2 (by omega)
theorem O5 {x y:Int}(h:x.natAbs≤y.natAbs):nd x≤nd y:=by
 unfold nd;rw[rA,rA]
 have:=Wh h
 omega
theorem abn (z:Int):1≤nd z:=by unfold nd;rw[rA];omega
theorem ahh (z:Int):z.natAbs<10^nd z:=(ka z _ (abn z)).1 (Nat.le_refl _)
theorem ahi (x y:Int):nd (x*y)≤nd x+nd y:=by
 rw[ka _ _ (by have:=abn x;omega),Int.natAbs_mul,Nat.pow_add]
 exact Nat.mul_lt_mul'' (ahh x) (ahh y)
theorem O6 {x:Int}(h:x.natAbs<10):nd x=1:=by
 have h1:=(ka x 1 (by omega)).2 (by omega)
 have:=abn x
 omega
def Bd (z:Int):Prop:=nd z≤100000
end Go.Abs
namespace Go.Proofs.YtofjebmoebhiiaaGreatDoor.Ev
open Go.Abs Go.IntWalk
theorem XA {s:ByteArray}{minus:Bool}(hs:s.size≤100000000000):∀(k:Nat) (d:List Int),k≤s.size→d.length+k≤1000000000000→
  cR s minus ((k:Int) - 1) d=some (minus,nD (d++Qk ((bytesOf s).take k))):=by
 intro k
 induction k with
 |zero=>
  intro d hk hd
  rw[np,jx,sk (by omega),Kh (by omega),bS]
  simp[Qk]
 |succ k ih=>
  intro d hk hd
  have hb:=(my s).getD (by omega) k
  have hl:=aX s
  have e:((k+1:Nat):Int) - 1=k:=by omega
  rw[np,jx,e,tA (by omega),zc,rq (by omega) (by omega),bS,Int.toNat_natCast,dA (show k<(bytesOf s).length by omega),Re]
  by_cases h:(bytesOf s).getD k 0=45
  ·rw[nE h,i64_in _ (by omega),ih d (by omega) (by omega)]
   have:Qk [(bytesOf s).getD k 0]=[]:=by rw[h];rfl
   rw[this,List.nil_append]
  ·rw[BC h,bS]
   simp (disch:=omega) only[i64_in,iQ]
   rw[ih _ (by omega) (by simp;omega)]
   rw[ani h,List.append_assoc]
theorem TX (z:Int):(gJ z).size>0∧(bytesOf (gJ z)).getD 0 0=(if z<0 then 45 else (kC z.natAbs).getD 0 0):=by
 have hn:=Xq z.natAbs
 constructor
 ·rw[←aX,dZ]
  unfold rX
  have:0<(kC z.natAbs).length:=List.length_pos_iff.2 hn
  simp;omega
 ·rw[dZ]
  unfold rX
  split<;>rfl
theorem abo (n:Nat):(kC n).getD 0 0≠45:=by
 have hn:=Xq n
 have h1:=rz n
 cases h:kC n with
 |nil=>exact absurd h hn
 |cons c r=>
  rw[h] at h1
  have:=h1 c (by simp)
  simp;omega
theorem Wi (z:Int):((bytesOf (gJ z)).getD 0 0==45)=decide (z<0):=by
 rw[(TX z).2]
 by_cases h:z<0
 ·rw[if_pos h,decide_eq_true h];rfl
 ·rw[if_neg h,decide_eq_false h]
  exact Kb (abo _)
theorem EI (z:Int):(gJ z).size≤nd z+1:=by rw[Zt];split<;>omega
theorem mz {z:Int}(hz:Bd z):ao (gJ z)=some (decide (z<0),dX z.natAbs):=by
 have h1:=(TX z).1
 have hsz:=EI z
 unfold Bd at hz
 have hl:=aX (gJ z)
 rw[zA,sG,cy (by omega),zc,rq (by omega) (by omega),bS]
 have e0:(0:Int).toNat=0:=rfl
 rw[e0,Wi,i64_in _ (by omega),XA (by omega) _ [] (Nat.le_refl _) (by simp;omega),List.nil_append, ←hl,List.take_length,dZ,aeN]
theorem TY {s:ByteArray}(hs:xi s):eQ s=some ((bo (bytesOf s)).length:Int):=by
 have hl:=aX s
 unfold xi at hs
 rw[zE,sJ]
 by_cases h:s.size>0
 ·rw[cy (by omega),zc,rq (by omega) (by omega),bS]
  have e0:(0:Int).toNat=0:=rfl
  rw[e0]
  cases hb:bytesOf s with
  |nil=>rw[hb] at hl;simp at hl;omega
  |cons c r=>
   rw[hb] at hl
   have:(c::r).getD 0 0=c:=rfl
   rw[this]
   by_cases hc:c=45
   ·subst hc
    rw[sm rfl,i64_in _ (by omega)]
    have:bo (45::r)=r:=by simp[bo]
    rw[this]
    simp at hl
    congr 1;omega
   ·rw[jT hc]
    have:bo (c::r)=c::r:=by unfold bo;rw[if_neg (by simp;exact hc)]
    rw[this,hl]
 ·have hb:bytesOf s=[]:=List.length_eq_zero_iff.1 (by omega)
  rw[cM (by omega),hb]
  have:s.size=0:=by omega
  rw[this];rfl
theorem ahj {s:ByteArray}(hs:xi s):jg s=some (decide ((bo (bytesOf s)).length>1000)):=by
 rw[CJ,wq,TY hs,bS]
 congr 1
 exact decide_eq_decide.2 (by omega)
theorem ahk (z:Int):bo (bytesOf (gJ z))=kC z.natAbs:=by
 rw[dZ]
 unfold bo rX
 by_cases h:z<0
 ·simp[h]
 ·have:(kC z.natAbs).head?≠some 45:=by
   intro e
   have:(45:Int)∈kC z.natAbs:=List.mem_of_mem_head? (by rw[e];rfl)
   have:=rz _ _ this
   omega
  simp[h,this]
theorem ZD {s:ByteArray}(hs:s.size≤140737488355328):∀(m k:Nat),m+k=s.size→cD s k=some (((bytesOf s).drop k).all R1):=by
 intro m
 have hl:=aX s
 induction m with
 |zero=>
  intro k hk
  rw[oh,kO,ai (by omega),drop_nil (by omega)];rfl
 |succ m ih=>
  intro k hk
  have hb:=(my s).getD (by omega) k
  have tS:=ih (k+1) (by omega)
  simp only[Int.natCast_add,Int.natCast_one] at tS
  rw[oh,kO,ak (by omega),zc,rq (by omega) (by omega),bS,Int.toNat_natCast,drop_eq (show k<(bytesOf s).length by omega),List.all_cons,bS]
  by_cases h1:(bytesOf s).getD k 0<48
  ·have:R1 ((bytesOf s).getD k 0)=false:=by
    cases hd:R1 ((bytesOf s).getD k 0) with
    |false=>rfl
    |true=>have:=(zd _).1 hd;omega
   rw[ak h1,this];rfl
  ·rw[ai h1]
   by_cases h2:(bytesOf s).getD k 0>57
   ·have:R1 ((bytesOf s).getD k 0)=false:=by
     cases hd:R1 ((bytesOf s).getD k 0) with
     |false=>rfl
     |true=>have:=(zd _).1 hd;omega
    rw[cy h2,this];rfl
   ·rw[cM h2,(zd _).2 (by omega),Bool.true_and,i64_in _ (by omega),tS]
theorem Ql {s:ByteArray}(hs:xi s):j6 s=some (gi (bytesOf s)):=by
 have hl:=aX s
 unfold xi at hs
 have aj8:∀t:ByteArray,t.size≤140737488355328→cD t 0=some ((bytesOf t).all R1):=fun t ht=>by
  have:=ZD ht t.size 0 (by omega)
  simpa using this
 rw[AU,um]
 have e0:(0:Int).toNat=0:=rfl
 by_cases h:s.size>0
 ·rw[cy (by omega),zc,rq (by omega) (by omega),bS,e0]
  cases hb:bytesOf s with
  |nil=>rw[hb] at hl;simp at hl;omega
  |cons c r=>
   rw[hb] at hl
   have hgc:(c::r).getD 0 0=c:=rfl
   rw[hgc]
   by_cases hc:c=45
   ·subst hc
    have hbo:bo (45::r)=r:=by simp[bo]
    have hmo:jb (45::r)=true:=rfl
    have e1:(1:Int).toNat=1:=rfl
    have hx:bytesOf (s.extract 1 s.size)=r:=by
     rw[tO,hb, ←hl,List.take_length];rfl
    have hxs:(s.extract 1 s.size).size=r.length:=by rw[←aX,hx]
    have hrl:r.length+1=s.size:=by simpa using hl
    rw[sm rfl,Gw (by omega) (by omega) (by omega)]
    simp only[e1,Int.toNat_natCast]
    have hok:gi (45::r)=(r.all R1&& !r.isEmpty&&(!(r.head?==some 48)||(r.length==1&&false))):=by
     unfold gi;rw[hbo,hmo];rfl
    rw[hxs,hok]
    cases r with
    |nil=>
     simp only[List.length_nil]
     rw[cM (by omega),sm (by rfl)]
     try rfl
    |cons c2 r2=>
     rw[cy (by simp),zc,hx]
     have hi:idx (c2::r2) (0:Int)=some c2:=rfl
     rw[hi,bS]
     by_cases h48:c2=48
     ·subst h48
      rw[sm rfl]
      simp
     ·rw[jT h48,jT (by simp;omega),bS,jT h48,aj8 _ (by rw[hxs];omega),hx]
      have:(some c2==some 48)=false:=by simpa using h48
      simp[this,h48]
   ·have hbo:bo (c::r)=c::r:=by unfold bo;rw[if_neg (by simp;exact hc)]
    have hmo:jb (c::r)=false:=by simpa [jb] using hc
    have hok:gi (c::r)=((c::r).all R1&&(!(c==48)||(c::r).length==1)):=by
     unfold gi;rw[hbo,hmo];simp
    rw[jT hc,jT (by omega),bS,aj8 _ hs,hb,hok]
    by_cases h48:c=48
    ·subst h48
     rw[sm rfl]
     cases r with
     |nil=>rw[cM (by rw[←hl];simp)];rfl
     |cons c2 r2=>rw[cy (by rw[←hl];simp;omega)];simp
    ·rw[jT h48]
     have:(c==48)=false:=Kb h48
     simp[this]
 ·have hb:bytesOf s=[]:=List.length_eq_zero_iff.1 (by omega)
  rw[cM (by omega),sm (by omega),hb];rfl
theorem abp:∀(k u:Nat) (d:List Int),u<10^k→u≤9223372036854775807→d.length+k≤1000→cV u d=(al false (d++dX u)).bind fun r=>some r:=by
 intro k
 induction k with
 |zero=>
  intro u d hu hu' hd
  have:u=0:=by rw[Nat.pow_zero] at hu;omega
  subst this
  rw[nr,jz,cM (by omega),show dX 0=[] from dY _,List.append_nil]
 |succ k ih=>
  intro u d hu hu' hd
  rw[nr,jz]
  by_cases h0:u=0
  ·subst h0
   rw[cM (by omega),show dX 0=[] from dY _,List.append_nil]
  ·rw[cy (by omega),iQ (by omega) (by omega),i64_quo _ _ (by omega),bP (by omega)]
   have e1:((u:Int) / 10)=((u / 10:Nat):Int):=by omega
   have e2:((u:Int) % 10)=((u % 10:Nat):Int):=by omega
   rw[Nat.pow_succ] at hu
   rw[e1,e2,ih (u / 10) _ (by omega) (by omega) (by simp;omega),show dX u=_ from zb (B:=10) (by omega) (by omega)]
   simp
theorem abq:∀(k u:Nat) (d:List Int),u<10^k→u≤9223372036854775807→d.length+k≤1000→cU u d=(al true (d++dX u)).bind fun r=>some r:=by
 intro k
 induction k with
 |zero=>
  intro u d hu hu' hd
  have:u=0:=by rw[Nat.pow_zero] at hu;omega
  subst this
  rw[nq,jy,cM (by omega),show dX 0=[] from dY _,List.append_nil]
 |succ k ih=>
  intro u d hu hu' hd
  rw[nq,jy]
  by_cases h0:u=0
  ·subst h0
   rw[cM (by omega),show dX 0=[] from dY _,List.append_nil]
  ·rw[cy (by omega),iQ (by omega) (by omega),i64_quo _ _ (by omega),bP (by omega)]
   have e1:((u:Int) / 10)=((u / 10:Nat):Int):=by omega
   have e2:((u:Int) % 10)=((u % 10:Nat):Int):=by omega
   rw[Nat.pow_succ] at hu
   rw[e1,e2,ih (u / 10) _ (by omega) (by omega) (by simp;omega),show dX u=_ from zb (B:=10) (by omega) (by omega)]
   simp
theorem mA {n:Int}(h0: -9223372036854775808≤n)(h1:n≤9223372036854775807):bL n=some (gJ n):=by
 rw[zD,sH]
 by_cases h:n<0
 ·obtain⟨u,hu⟩:∃u:Nat,(u:Int)= -n:=⟨n.natAbs,by omega⟩
  have hm:n.tmod 10= -((u % 10:Nat):Int):=by
   have:n= -(u:Int):=by omega
   rw[this,Int.neg_tmod,bP (by omega)];omega
  have hq:n.tdiv 10= -((u / 10:Nat):Int):=by
   have:n= -(u:Int):=by omega
   rw[this,Int.neg_tdiv,mQ (by omega)];omega
  have e1:IntKind.wrap .i64 (0 - n.tmod 10)=((u % 10:Nat):Int):=by rw[hm,i64_in _ (by omega)];omega
  have e2:IntKind.wrap .i64 (n.tdiv 10)= -((u / 10:Nat):Int):=by rw[hq,i64_in _ (by omega)]
  have e3:IntKind.wrap .i64 (0 - -((u / 10:Nat):Int))=((u / 10:Nat):Int):=by rw[i64_in _ (by omega)];omega
  have hl:([((u % 10:Nat):Int)]:List Int).length=1:=rfl
  rw[ak h]
  simp only[e1,e2,e3]
  rw[iQ (by omega) (by first |omega | (rw[hl];omega)),List.nil_append,abq 19 (u / 10) _ (by omega) (by omega) (by simp)]
  have hd:DX ([((u % 10:Nat):Int)]++dX (u / 10)):=(gZ.cons (by omega) (by omega) gZ.nil).append (HC _)
  have hv:VX ([((u % 10:Nat):Int)]++dX (u / 10))=u:=by
   have:=Kd (u / 10)
   simp only[VX,List.singleton_append,val] at this ⊢
   rw[this];omega
  have hlen:(dX (u / 10)).length≤19:=(aM (B:=10) (by omega) 19 (u / 10)).2 (by omega)
  rw[xj hd (by simp;omega),bS,hv]
  congr 2
  rw[if_pos rfl];omega
 ·obtain⟨u,rfl⟩:=Int.eq_ofNat_of_zero_le (show 0≤n by omega)
  have hlen:(dX u).length≤19:=(aM (B:=10) (by omega) 19 u).2 (by omega)
  rw[ai h,abp 19 u [] (by omega) (by omega) (by simp),List.nil_append,xj (HC u) (by omega),bS,Kd]
  rfl
theorem ZE {z:Int}(hz:nd z≤9):∀(m k:Nat) (n:Int),m+k=(gJ z).size→n=js (((bytesOf (gJ z)).take k).filter (fun c=>c != 45))→
  dr (gJ z) n k=some (z,true):=by
 intro m
 have hsz:=EI z
 have hl:=aX (gJ z)
 have hh:=TX z
 induction m with
 |zero=>
  intro k n hk hn
  have hk':k=(bytesOf (gJ z)).length:=by omega
  rw[hk',List.take_length] at hn
  have hf:(bytesOf (gJ z)).filter (fun c=>c != 45)=kC z.natAbs:=by
   rw[dZ]
   unfold rX
   rw[List.filter_append,EH]
   split<;>rfl
  rw[hf,Gx] at hn
  have e0:(0:Int).toNat=0:=rfl
  rw[oi,kP,ai (by omega),cy (by omega),zc,rq (by omega) (by omega),bS,e0,Wi]
  have hzb:z.natAbs<10^9:=(ka z 9 (by omega)).1 hz
  by_cases h:z<0
  ·rw[decide_eq_true h,cT,i64_in _ (by omega)]
   congr 2;omega
  ·rw[decide_eq_false h,cF]
   congr 2;omega
 |succ m ih=>
  intro k n hk hn
  have hkl:k<(bytesOf (gJ z)).length:=by omega
  have hb:=(my (gJ z)).getD (by omega) k
  have tS:=fun n=>ih (k+1) n (by omega)
  simp only[Int.natCast_add,Int.natCast_one] at tS
  rw[oi,kP,ak (by omega),zc,rq (by omega) (by omega),bS,Int.toNat_natCast]
  -- all an7 but LS sign are digits
  have hmem:∀c∈(bytesOf (gJ z)).filter (fun c=>c != 45),48≤c∧c≤57:=by
   rw[dZ]
   unfold rX
   rw[List.filter_append,EH]
   intro c hc
   rcases List.mem_append.1 hc with h |h
   ·exfalso
    split at h
    ·simp at h
    ·cases h
   ·exact rz _ c h
  have hlen:(((bytesOf (gJ z)).take k).filter (fun c=>c != 45)).length≤9:=by
   have h1:(((bytesOf (gJ z)).take k).filter (fun c=>c != 45)).length≤((bytesOf (gJ z)).filter (fun c=>c != 45)).length:=
    ((List.take_sublist k (bytesOf (gJ z))).filter _).length_le
   have h2:(bytesOf (gJ z)).filter (fun c=>c != 45)=kC z.natAbs:=by
    rw[dZ]
    unfold rX
    rw[List.filter_append,EH]
    split<;>rfl
   rw[h2] at h1
   unfold nd at hz
   omega
  have hnb:=Aa (((bytesOf (gJ z)).take k).filter (fun c=>c != 45)) (fun c hc=>hmem c (((List.take_sublist k _).filter _).subset hc))
  have hp:=OY hlen
  rw[←hn] at hnb
  have hts:(bytesOf (gJ z)).take (k+1)=(bytesOf (gJ z)).take k++[(bytesOf (gJ z)).getD k 0]:=dA hkl
  by_cases h:(bytesOf (gJ z)).getD k 0=45
  ·rw[nE h,i64_in _ (by omega),tS n (by rw[hts,List.filter_append,h];simpa using hn)]
  ·rw[BC h,bS]
   simp (disch:=omega) only[i64_in]
   rw[tS]
   rw[hts,List.filter_append,anh h,ED, ←hn]
   simp only[js,List.foldl_cons,List.foldl_nil,List.length_singleton,Int.mul_zero,Int.zero_add,Int.pow_one]
   omega
theorem BP {z:Int}(hz:Bd z):df (gJ z)=some (if nd z≤9 then (z,true) else (0,false)):=by
 unfold Bd at hz
 have alf:xi (gJ z):=by unfold xi;have:=EI z;omega
 rw[AW,uo,TY alf,bS,ahk]
 have e:(kC z.natAbs).length=nd z:=rfl
 rw[e]
 by_cases h:nd z≤9
 ·rw[cM (by omega),if_pos h]
  have:=ZE h (gJ z).size 0 0 (by omega) (by simp[js])
  simpa using this
 ·rw[cy (by omega),if_neg h]
end Go.Proofs.YtofjebmoebhiiaaGreatDoor.Ev
namespace Go.Proofs.YtofjebmoebhiiaaGreatDoor.Ev
open Go.Abs Go.IntWalk
theorem abr {a b:List Int}(ha:DX a)(hb:DX b)(hl:a.length=b.length)(hl':a.length≤1000000000000):∀(k:Nat),k≤a.length→
  dO a b ((k:Int) - 1)=some (qA (VX (a.take k)) (VX (b.take k))):=by
 intro k
 induction k with
 |zero=>
  intro hk
  rw[pz,lT]
  simp (disch:=omega) only[sk]
  simp[qA]
 |succ k ih=>
  intro hk
  have e:((k+1:Nat):Int) - 1=k:=by omega
  rw[pz,lT,e,dA (show k<a.length by omega),dA (show k<b.length by omega)]
  simp (disch:=omega) only[tA,fk,Int.toNat_natCast,i64_in]
  have hta:(a.take k).length=(b.take k).length:=by simp;omega
  by_cases h1:a.getD k 0<b.getD k 0
  ·rw[ak h1,tN (Xo (by omega) (ha.take k) (hb.take k) hta h1)]
  ·rw[ai h1]
   by_cases h2:a.getD k 0>b.getD k 0
   ·rw[cy h2,xe (Xo (by omega) (hb.take k) (ha.take k) hta.symm h2)]
   ·have h:a.getD k 0=b.getD k 0:=by omega
    rw[cM h2,ih (by omega)]
    simp only[VX,fj,hta,h]
    generalize (10:Int)^(b.take k).length*val 10 [b.getD k 0]=z
    by_cases h1:val 10 (a.take k)<val 10 (b.take k)
    ·rw[tN h1,tN (by omega)]
    ·by_cases h2:val 10 (b.take k)<val 10 (a.take k)
     ·rw[xe h2,xe (by omega)]
     ·rw[KK (by omega),KK (by omega)]
theorem O7 {m n:Nat}(hm:(dX m).length≤1000000000000)(hn:(dX n).length≤1000000000000):c9 (dX m) (dX n)=some (qA m n):=by
 rw[CK,wu]
 by_cases h:(dX m).length=(dX n).length
 ·have:=abr (HC m) (HC n) h hm (dX m).length (Nat.le_refl _)
  rw[nE (by omega)]
  simp (disch:=omega) only[i64_in]
  rw[this,List.take_length]
  rw[h,List.take_length,Kd,Kd]
 ·rw[BC (by omega)]
  have l1:=(aM (B:=10) (by omega) (dX m).length m).1 (Nat.le_refl _)
  have l2:=(aM (B:=10) (by omega) (dX n).length n).1 (Nat.le_refl _)
  by_cases h1:(dX m).length<(dX n).length
  ·rw[ak (by omega)]
   have:=(fR (B:=10) (by omega) (dX m).length n).1 h1
   rw[tN (by omega)]
  ·rw[ai (by omega)]
   have:=(fR (B:=10) (by omega) (dX n).length m).1 (show (dX n).length<(dX m).length by omega)
   rw[xe (by omega)]
def ZF:List Int→List Int→Int→List Int
 | [],[],c=>if c>0 then [c % 10] else []
 |x::xs,[],c=>(c+x) % 10::ZF xs [] ((c+x) / 10)
 | [],y::ys,c=>(c+y) % 10::ZF [] ys ((c+y) / 10)
 |x::xs,y::ys,c=>(c+x+y) % 10::ZF xs ys ((c+x+y) / 10)
theorem aeO {a b:List Int}(ha:DX a)(hb:DX b)(hl:a.length≤1000000000000)(hl':b.length≤1000000000000):∀(m k:Nat) (c:Int) (out:List Int),m+k=max a.length b.length→out.length=k→0≤c∧c≤1→
  eR a b c k out=some (out++ZF (a.drop k) (b.drop k) c):=by
 intro m
 induction m with
 |zero=>
  intro k c out hk ho hc
  have hka:a.length≤k:=by omega
  have hkb:b.length≤k:=by omega
  rw[drop_nil hka,drop_nil hkb,lV,jo]
  rw[ai (by omega),ai (by omega)]
  by_cases h:c>0
  ·have hc1:c=1:=by omega
   subst hc1
   simp (disch:=omega) only[cy,ai,iQ,bP,mQ,i64_in]
   rw[lV,jo]
   simp (disch:=omega) only[ai,cM]
   simp[ZF]
  ·rw[cM h]
   have:c=0:=by omega
   subst this
   simp[ZF]
 |succ m ih=>
  intro k c out hk ho hc
  have hx:=ha.getD (by omega) k
  have hy:=hb.getD (by omega) k
  have tS:=fun c out=>ih (k+1) c out (by omega)
  simp only[Int.natCast_add,Int.natCast_one] at tS
  rw[lV,jo]
  by_cases hka:k<a.length
  ·by_cases hkb:k<b.length
   ·rw[drop_eq hka,drop_eq hkb]
    simp (disch:=omega) only[ak,fk,Int.toNat_natCast,i64_in,bP,mQ,iQ]
    rw[tS _ _ (by simp;omega) (by omega)]
    simp[ZF]
   ·have hd:b.drop (k+1)=[]:=drop_nil (by omega)
    rw[drop_eq hka,drop_nil (show b.length≤k by omega)]
    simp (disch:=omega) only[ak,ai,fk,Int.toNat_natCast,i64_in,bP,mQ,iQ]
    rw[tS _ _ (by simp;omega) (by omega),hd]
    simp[ZF]
  ·have hkb:k<b.length:=by omega
   have hd:a.drop (k+1)=[]:=drop_nil (by omega)
   rw[drop_eq hkb,drop_nil (show a.length≤k by omega)]
   simp (disch:=omega) only[ak,ai,fk,Int.toNat_natCast,i64_in,bP,mQ,iQ]
   rw[tS _ _ (by simp;omega) (by omega),hd]
   simp[ZF]
theorem R2:∀(a b:List Int) (c:Int),DX a→DX b→0≤c∧c≤1→VX (ZF a b c)=VX a+VX b+c∧DX (ZF a b c)∧(ZF a b c).length≤max a.length b.length+1
 | [],[],c,ha,hb,hc=>by
   simp only[ZF]
   split
   ·exact⟨by simp[VX,val];omega,gZ.cons (by omega) (by omega) gZ.nil,by simp⟩
   ·exact⟨by simp[VX,val];omega,gZ.nil,by simp⟩
 |x::xs,[],c,ha,hb,hc=>by
  have hx:=ha.head
  obtain⟨e1,e2,e3⟩:=R2 xs [] ((c+x) / 10) ha.tail gZ.nil (by omega)
  simp only[ZF]
  refine⟨?_,gZ.cons (by omega) (by omega) e2,by simp at e3 ⊢;omega⟩
  simp only[VX,val] at e1 ⊢
  rw[e1];omega
 | [],y::ys,c,ha,hb,hc=>by
   have hy:=hb.head
   obtain⟨e1,e2,e3⟩:=R2 [] ys ((c+y) / 10) gZ.nil hb.tail (by omega)
   simp only[ZF]
   refine⟨?_,gZ.cons (by omega) (by omega) e2,by simp at e3 ⊢;omega⟩
   simp only[VX,val] at e1 ⊢
   rw[e1];omega
 |x::xs,y::ys,c,ha,hb,hc=>by
  have hx:=ha.head
  have hy:=hb.head
  obtain⟨e1,e2,e3⟩:=R2 xs ys ((c+x+y) / 10) ha.tail hb.tail (by omega)
  simp only[ZF]
  refine⟨?_,gZ.cons (by omega) (by omega) e2,by simp at e3 ⊢;omega⟩
  simp only[VX,val] at e1 ⊢
  rw[e1];omega
theorem ai0 {a b:List Int}(ha:DX a)(hb:DX b)(hl:a.length≤1000000000000)(hl':b.length≤1000000000000):
  ∃r,iM a b=some r∧VX r=VX a+VX b∧DX r∧r.length≤max a.length b.length+1:=by
 obtain⟨e1,e2,e3⟩:=R2 a b 0 ha hb ⟨by omega,by omega⟩
 have:=aeO ha hb hl hl' (max a.length b.length) 0 0 [] (by omega) rfl ⟨by omega,by omega⟩
 refine⟨ZF a b 0, ?_,by omega,e2,e3⟩
 rw[Ee,yD]
 simpa using this
def Wj:List Int→List Int→Int→List Int
 | [],_,_=>[]
 |x::xs,[],c=>if x - c<0 then (x - c+10)::Wj xs [] 1 else (x - c)::Wj xs [] 0
 |x::xs,y::ys,c=>if x - c - y<0 then (x - c - y+10)::Wj xs ys 1 else (x - c - y)::Wj xs ys 0
theorem abt {a b:List Int}(ha:DX a)(hb:DX b)(hl:a.length≤1000000000000):∀(m k:Nat) (c:Int) (out:List Int),m+k=a.length→out.length=k→0≤c∧c≤1→
  bD a b c k out=(bg (out++Wj (a.drop k) (b.drop k) c)).bind fun r=>some r:=by
 intro m
 induction m with
 |zero=>
  intro k c out hk ho hc
  rw[jA,gd,ai (by omega),drop_nil (show a.length≤k by omega)]
  simp[Wj]
 |succ m ih=>
  intro k c out hk ho hc
  have hx:=ha.getD (by omega) k
  have hy:=hb.getD (by omega) k
  have tS:=fun c out=>ih (k+1) c out (by omega)
  simp only[Int.natCast_add,Int.natCast_one] at tS
  rw[jA,gd,ak (by omega),fk (by omega) (by omega),Int.toNat_natCast,drop_eq (show k<a.length by omega)]
  have hl1:∀z:Int,([z]:List Int).length=1:=fun z=>rfl
  by_cases hkb:k<b.length
  ·rw[drop_eq hkb,ak (by omega),fk (by omega) (by omega),Int.toNat_natCast]
   simp (disch:=omega) only[i64_in,hl1]
   by_cases h:a.getD k 0 - c - b.getD k 0<0
   ·rw[ak h,iQ (by omega) (by omega),tS _ _ (by simp;omega) ⟨by omega,by omega⟩]
    simp only[Wj,if_pos h];simp
   ·rw[ai h,iQ (by omega) (by omega),tS _ _ (by simp;omega) ⟨by omega,by omega⟩]
    simp only[Wj,if_neg h];simp
  ·have hd:b.drop (k+1)=[]:=drop_nil (by omega)
   rw[drop_nil (show b.length≤k by omega),ai (by omega)]
   simp (disch:=omega) only[i64_in]
   by_cases h:a.getD k 0 - c<0
   ·rw[ak h,iQ (by omega) (by omega),tS _ _ (by simp;omega) ⟨by omega,by omega⟩,hd]
    simp only[Wj,if_pos h];simp
   ·rw[ai h,iQ (by omega) (by omega),tS _ _ (by simp;omega) ⟨by omega,by omega⟩,hd]
    simp only[Wj,if_neg h];simp
theorem R3:∀(a b:List Int) (c:Int),b.length≤a.length→DX a→DX b→0≤c∧c≤1→
  ∃c',0≤c'∧VX (Wj a b c)=VX a - VX b - c+c'*10^a.length∧DX (Wj a b c)∧(Wj a b c).length=a.length
 | [],[],c,hl,ha,hb,hc=>⟨c,hc.1,by simp[Wj,VX,val];omega,gZ.nil,rfl⟩
 | [],y::ys,c,hl,ha,hb,hc=>by simp at hl
 |x::xs,[],c,hl,ha,hb,hc=>by
  have hx:=ha.head
  have key:∀d:Int,(0≤d∧d≤1)→∃c',0≤c'∧VX (Wj xs [] d)=VX xs - d+c'*10^xs.length∧DX (Wj xs [] d)∧(Wj xs [] d).length=xs.length:=fun d hd=>by
   obtain⟨c',h2,h3,h4,h5⟩:=R3 xs [] d (by simp) ha.tail gZ.nil hd
   exact⟨c',h2,by simpa [VX,val] using h3,h4,h5⟩
  simp only[Wj]
  split
  ·obtain⟨c',h2,h3,h4,h5⟩:=key 1 ⟨by omega,by omega⟩
   refine⟨c',h2, ?_,gZ.cons (by omega) (by omega) h4,by simp[h5]⟩
   simp only[VX,val,List.length_cons,Int.pow_succ] at h3 ⊢
   rw[←Int.mul_assoc,h3];omega
  ·obtain⟨c',h2,h3,h4,h5⟩:=key 0 ⟨by omega,by omega⟩
   refine⟨c',h2, ?_,gZ.cons (by omega) (by omega) h4,by simp[h5]⟩
   simp only[VX,val,List.length_cons,Int.pow_succ] at h3 ⊢
   rw[←Int.mul_assoc,h3];omega
 |x::xs,y::ys,c,hl,ha,hb,hc=>by
  have hx:=ha.head
  have hy:=hb.head
  simp only[Wj]
  split
  ·obtain⟨c',h2,h3,h4,h5⟩:=R3 xs ys 1 (by simp at hl;omega) ha.tail hb.tail ⟨by omega,by omega⟩
   refine⟨c',h2, ?_,gZ.cons (by omega) (by omega) h4,by simp[h5]⟩
   simp only[VX,val,List.length_cons,Int.pow_succ] at h3 ⊢
   rw[←Int.mul_assoc,h3];omega
  ·obtain⟨c',h2,h3,h4,h5⟩:=R3 xs ys 0 (by simp at hl;omega) ha.tail hb.tail ⟨by omega,by omega⟩
   refine⟨c',h2, ?_,gZ.cons (by omega) (by omega) h4,by simp[h5]⟩
   simp only[VX,val,List.length_cons,Int.pow_succ] at h3 ⊢
   rw[←Int.mul_assoc,h3];omega
theorem ZG {m n:Nat}(hl:(dX m).length≤1000000000000)(h:n≤m):aW (dX m) (dX n)=some (dX (m - n)):=by
 have ha:=HC m
 have hb:=HC n
 obtain⟨c',h1,h2,h3,h4⟩:=R3 (dX m) (dX n) 0 (Wh h) ha hb ⟨by omega,by omega⟩
 have hv:VX (Wj (dX m) (dX n) 0)=((m - n:Nat):Int):=by
  have h5:=AG (B:=10) (by omega) h3
  rw[h4] at h5
  change VX _<_ at h5
  rw[Kd,Kd] at h2
  by_cases hc:c'=0
  ·subst hc;simp at h2;omega
  ·exfalso
   have hp:(0:Int)≤10^(dX m).length:=Int.pow_nonneg (by omega)
   have h8:1*(10:Int)^(dX m).length≤c'*10^(dX m).length:=Int.mul_le_mul_of_nonneg_right (by omega) hp
   rw[Int.one_mul] at h8
   omega
 have:=abt ha hb hl (dX m).length 0 0 [] (by omega) rfl ⟨by omega,by omega⟩
 simp only[Int.natCast_zero,List.drop_zero,List.nil_append] at this
 rw[tk,nu,this,Kh (by omega),bS,TS h3,hv,Int.toNat_natCast]
theorem aeP {m n:Nat}{s:Bool}(hm:(dX m).length≤1000000000000)(hn:(dX n).length≤1000000000000):
  ((iM (dX m) (dX n)).bind fun r5=>(al s r5).bind fun r6=>some r6)=some (gJ (if s then -((m:Int)+n) else (m:Int)+n)):=by
 obtain⟨r,e1,e2,e3,e4⟩:=ai0 (HC m) (HC n) hm hn
 rw[e1,bS,xj e3 (by omega),bS,e2,Kd,Kd]
theorem TZ {m n:Nat}{s:Bool}(hm:(dX m).length≤1000000000000)(h:n≤m):
  ((aW (dX m) (dX n)).bind fun r5=>(al s r5).bind fun r6=>some r6)=some (gJ (if s then -((m:Int) - n) else (m:Int) - n)):=by
 have:=Wh (show m - n≤m by omega)
 rw[ZG hm h,bS,xj (HC _) (by omega),bS,Kd]
 have:((m - n:Nat):Int)=(m:Int) - n:=by omega
 rw[this]
theorem ZH {x y:Int}(hx:Bd x)(hy:Bd y):gI (gJ x) (gJ y)=some (gJ (x+y)):=by
 have hlx:=Mo x
 have hly:=Mo y
 rw[CM,wB,BP hx,bS,BP hy,bS]
 unfold Bd at hx hy
 -- LS Qm way
 have Qm:((ao (gJ x)).bind fun r3=>(ao (gJ y)).bind fun r4=>
   bif (r3.1==r4.1) then
    (iM r3.2 r4.2).bind fun r5=>(al r3.1 r5).bind fun r6=>some r6
   else
    (c9 r3.2 r4.2).bind fun r7=>
    bif (decide (r7<(0:Int))) then
     (aW r4.2 r3.2).bind fun r8=>(al r4.1 r8).bind fun r9=>some r9
    else
     (aW r3.2 r4.2).bind fun NF=>(al r3.1 NF).bind fun r11=>some r11)=some (gJ (x+y)):=by
  rw[mz hx,bS,mz hy,bS]
  simp only
  by_cases hs:(x<0↔y<0)
  ·have:(decide (x<0)==decide (y<0))=true:=beq_iff_eq.2 (decide_eq_decide.2 hs)
   rw[this,cT,aeP (by omega) (by omega)]
   congr 2
   by_cases h:x<0
   ·rw[decide_eq_true h,if_pos rfl];omega
   ·rw[decide_eq_false h,if_neg (by simp)];omega
  ·have:(decide (x<0)==decide (y<0))=false:=by simpa using hs
   rw[this,cF,O7 (by omega) (by omega),bS]
   by_cases hc:x.natAbs<y.natAbs
   ·rw[ak (Nw.2 (by omega)),TZ (by omega) (by omega)]
    congr 2
    by_cases h:y<0
    ·rw[decide_eq_true h,if_pos rfl];omega
    ·rw[decide_eq_false h,if_neg (by simp)];omega
   ·rw[ai (fun e=>by have:=Nw.1 e;omega),TZ (by omega) (by omega)]
    congr 2
    by_cases h:x<0
    ·rw[decide_eq_true h,if_pos rfl];omega
    ·rw[decide_eq_false h,if_neg (by simp)];omega
 by_cases h1:nd x≤9
 ·rw[if_pos h1]
  simp only[cT]
  by_cases h2:nd y≤9
  ·rw[if_pos h2]
   simp only[cT]
   have b1:=(ka x 9 (by omega)).1 h1
   have b2:=(ka y 9 (by omega)).1 h2
   rw[i64_in _ (by omega),mA (by omega) (by omega),bS]
  ·rw[if_neg h2]
   simp only[cF]
   exact Qm
 ·rw[if_neg h1]
  simp only[cF]
  exact Qm
theorem O8 {x:Int}(hx:Bd x):bu (gJ x)=some (gJ (-x)):=by
 have hlx:=Mo x
 rw[wm,pr,mz hx,bS]
 unfold Bd at hx
 rw[xj (HC _) (by omega),bS,Kd]
 congr 2
 by_cases h:x<0
 ·rw[decide_eq_true h,if_neg (by simp)];omega
 ·rw[decide_eq_false h,if_pos (by rfl)];omega
theorem aeQ {x y:Int}(hx:Bd x)(hy:Bd y):j7 (gJ x) (gJ y)=some (gJ (x - y)):=by
 rw[AX,uq,O8 hy,bS,ZH hx (by unfold Bd at*;rw[TV];exact hy),bS]
 rfl
theorem O9 {x:Int}(hx:Bd x):gD (gJ x)=some (gJ x.natAbs):=by
 have hlx:=Mo x
 rw[wA,pC,mz hx,bS]
 unfold Bd at hx
 rw[xj (HC _) (by omega),bS,Kd]
 rfl
theorem Ki {x y:Int}(hx:Bd x)(hy:Bd y):bN (gJ x) (gJ y)=some (qA x y):=by
 have hlx:=Mo x
 have hly:=Mo y
 rw[xB,qV,mz hx,bS,mz hy,bS]
 unfold Bd at hx hy
 simp only
 rw[O7 (by omega) (by omega),O7 (by omega) (by omega),bS,bS]
 rcases (show x<y∨x=y∨y<x by omega) with h |h |h
 all_goals
  by_cases h1:x<0<;>by_cases h2:y<0
  all_goals simp only[h1,h2,decide_true,decide_false,beq_self_eq_true,Bool.not_true,Bool.not_false,cT,cF,show (true==false)=false from rfl,show (false==true)=false from rfl,Option.some.injEq]
  all_goals unfold qA
  all_goals (repeat' split)<;>omega
def pmL:List Int→Int→List Int→List Int
 | [],x,os=>os
 |y::ys,x,o::os=>(o+x*y)::pmL ys x os
 |_::_,_,[]=>[]
def ptL:List Int→List Int→List Int→List Int
 | [],b,o=>o
 |x::xs,b,o=>match pmL b x o with
  | []=>[]
  |h::t=>h::ptL xs b t
def Rf:List Int→List Int
 | []=>[]
 | [o]=>[o]
 |o::p::r=>o % 10::Rf ((p+o / 10)::r)
termination_by l=>l.length
theorem Ny:∀(b:List Int) (x:Int) (o:List Int),b.length≤o.length→(pmL b x o).length=o.length
 | [],x,o,h=>by simp[pmL]
 |y::ys,x,[],h=>by simp at h
 |y::ys,x,o::os,h=>by simp only[pmL,List.length_cons];rw[Ny ys x os (by simpa using h)]
theorem ac7:∀(b:List Int) (x:Int) (o:List Int),b.length≤o.length→VX (pmL b x o)=VX o+x*VX b
 | [],x,o,h=>by simp[pmL,VX,val]
 |y::ys,x,[],h=>by simp at h
 |y::ys,x,o::os,h=>by
  have ih:=ac7 ys x os (by simpa using h)
  simp only[pmL,VX,val] at ih ⊢
  have e:x*(y+10*val 10 ys)=x*y+10*(x*val 10 ys):=by rw[Int.mul_add,Int.mul_left_comm]
  rw[ih,e];omega
def DL (M:Int)(l:List Int):Prop:=∀x∈l,0≤x∧x≤M
theorem DL.mono {M M':Int}{l:List Int}(h:DL M l)(hM:M≤M'):DL M' l:=fun x hx=>by have:=h x hx;omega
theorem DL.getD {M:Int}{l:List Int}(h:DL M l)(hM:0≤M)(k:Nat):0≤l.getD k 0∧l.getD k 0≤M:=by
 by_cases hk:k<l.length
 ·have:l.getD k 0=l[k]:=by simp[List.getD,hk]
  rw[this];exact h _ (List.getElem_mem hk)
 ·rw[getD_none (by omega)];omega
theorem DL.take {M:Int}{l:List Int}(h:DL M l)(k:Nat):DL M (l.take k):=fun x hx=>h x (List.mem_of_mem_take hx)
theorem DL.drop {M:Int}{l:List Int}(h:DL M l)(k:Nat):DL M (l.drop k):=fun x hx=>h x (List.mem_of_mem_drop hx)
theorem DL.append {M:Int}{l m:List Int}(h:DL M l)(h':DL M m):DL M (l++m):=fun x hx=>by
 rcases List.mem_append.1 hx with hx |hx
 ·exact h x hx
 ·exact h' x hx
theorem ZI {M x:Int}(hx:0≤x∧x≤9):∀(b o:List Int),DX b→DL M o→DL (M+81) (pmL b x o)
 | [],o,hb,ho=>ho.mono (by omega)
 |y::ys,[],hb,ho=>fun z hz=>by cases hz
 |y::ys,o::os,hb,ho=>by
  have hy:=hb.head
  have h1:=Int.mul_nonneg hx.1 hy.1
  have h2:x*y≤9*y:=Int.mul_le_mul_of_nonneg_right hx.2 hy.1
  have h3:=ho o (by simp)
  have ih:=ZI hx ys os hb.tail (fun z hz=>ho z (by simp[hz]))
  intro z hz
  simp only[pmL,List.mem_cons] at hz
  rcases hz with rfl |hz
  ·omega
  ·exact ih z hz
theorem XB {p q:Bool}{x y:List Int}{i:Nat}(hy:DX y)(hx:0≤x.getD i 0∧x.getD i 0≤9)(hi:i<x.length)(hlx:x.length≤10000000)(hly:y.length≤10000000):
  ∀(m k:Nat) (M:Int) (out:List Int),m+k=y.length→out.length=x.length+y.length+1→DL M out→0≤M→M+81*m≤1000000000000000→
  dn p x q y i k out=bw p x q y (i+1) (out.take (i+k)++pmL (y.drop k) (x.getD i 0) (out.drop (i+k))):=by
 intro m
 induction m with
 |zero=>
  intro k M out hk ho hu h0 hM
  rw[oc,kL,ai (by omega),drop_nil (show y.length≤k by omega),i64_in _ (by omega)]
  simp[pmL]
 |succ m ih=>
  intro k M out hk ho hu h0 hM
  have hyk:=hy.getD (by omega) k
  have hok:=hu.getD h0 (i+k)
  have h1:=Int.mul_nonneg hx.1 hyk.1
  have h2:x.getD i 0*y.getD k 0≤9*y.getD k 0:=Int.mul_le_mul_of_nonneg_right hx.2 hyk.1
  have e1:((i:Int)+k).toNat=i+k:=by omega
  have tS:=fun M out=>ih (k+1) M out (by omega)
  simp only[Int.natCast_add,Int.natCast_one] at tS
  rw[oc,kL]
  simp (disch:=omega) only[ak,i64_in,fk,xm,e1,Int.toNat_natCast]
  have gK:DL (M+81) (out.set (i+k) (out.getD (i+k) 0+x.getD i 0*y.getD k 0)):=fun z hz=>by
   rcases List.mem_or_eq_of_mem_set hz with hz |rfl
   ·have:=hu z hz;omega
   ·omega
  rw[tS (M+81) _ (by simp[ho]) gK (by omega) (by omega),drop_eq (show k<y.length by omega),drop_eq (show i+k<out.length by omega)]
  simp only[pmL]
  rw[show i+(k+1)=i+k+1 by omega,Dw (by omega),set_drop]
  simp
theorem ac8:∀(a b o:List Int),o.length=a.length+b.length+1→DX a→VX (ptL a b o)=VX o+VX a*VX b∧(ptL a b o).length=o.length
 | [],b,o,hl,ha=>by simp[ptL,VX,val]
 |x::xs,b,o,hl,ha=>by
  have hlen:=Ny b x o (by simp at hl;omega)
  have hval:=ac7 b x o (by simp at hl;omega)
  simp only[ptL]
  split
  ·rename_i e;rw[e] at hlen;simp at hlen hl;omega
  ·rename_i h t e
   rw[e] at hlen hval
   obtain⟨f1,f2⟩:=ac8 xs b t (by simp at hl hlen;omega) ha.tail
   refine⟨?_,by simp[f2] at hlen ⊢;omega⟩
   simp only[VX,val] at hval f1 ⊢
   rw[f1,Int.add_mul,Int.mul_assoc]
   omega
theorem XC {p q:Bool}{x y:List Int}(hxd:DX x)(hy:DX y)(hlx:x.length≤10000000)(hly:y.length≤10000000):
  ∀(m i:Nat) (out:List Int),m+i=x.length→out.length=x.length+y.length+1→DL (81*i) out→
  ∃o',bw p x q y i out=cC p q 0 o'∧o'=out.take i++ptL (x.drop i) y (out.drop i)∧DL 1000000000000 o':=by
 intro m
 induction m with
 |zero=>
  intro i out hi ho hu
  refine⟨out, ?_, ?_,hu.mono (by omega)⟩
  ·rw[oa,kK,ai (by omega)]
  ·rw[drop_nil (show x.length≤i by omega)];simp[ptL]
 |succ m ih=>
  intro i out hi ho hu
  have hx:=hxd.getD (by omega) i
  have hI:=XB (p:=p) (q:=q) (i:=i) hy ⟨hx.1,by omega⟩ (by omega) hlx hly y.length 0 (81*i) out (by omega) ho hu (by omega) (by omega)
  simp only[Int.natCast_zero,Nat.add_zero,List.drop_zero] at hI
  rw[oa,kK,ak (by omega),hI]
  have tS:=fun out=>ih (i+1) out (by omega)
  simp only[Int.natCast_add,Int.natCast_one] at tS
  have ahl:=Ny y (x.getD i 0) (out.drop i) (by rw[List.length_drop];omega)
  have hup:DL (81*((i:Int)+1)) (out.take i++pmL y (x.getD i 0) (out.drop i)):=((hu.take i).mono (by omega)).append ((ZI ⟨hx.1,by omega⟩ y (out.drop i) hy (hu.drop i)).mono (by omega))
  obtain⟨o',e1,e2,e3⟩:=tS (out.take i++pmL y (x.getD i 0) (out.drop i)) (by rw[List.length_append,ahl,List.length_take,List.length_drop];omega) hup
  refine⟨o',e1, ?_,e3⟩
  rw[e2,drop_eq (show i<x.length by omega)]
  simp only[ptL]
  cases hp:pmL y (x.getD i 0) (out.drop i) with
  |nil=>rw[hp] at ahl;simp at ahl;omega
  |cons h t=>
   have htl:(out.take i).length=i:=by simp;omega
   have h7:(out.take i++h::t).drop (i+1)=t:=by
    rw[List.drop_append,htl]
    have:(out.take i).drop (i+1)=[]:=drop_nil (by omega)
    rw[this];simp
   have h8:(out.take i++h::t).take (i+1)=out.take i++[h]:=by
    rw[List.take_append,htl]
    have:(out.take i).take (i+1)=out.take i:=List.take_of_length_le (by omega)
    rw[this];simp
   rw[h7,h8];simp
theorem ac9 (o:Int):Rf [o]=[o]:=by rw[Rf]
theorem ada (o p:Int)(r:List Int):Rf (o::p::r)=o % 10::Rf ((p+o / 10)::r):=by rw[Rf]
theorem adb:∀(n:Nat) (l:List Int),l.length=n→(∀x∈l,0≤x)→VX (Rf l)=VX l∧(Rf l).length=l.length∧(∀x∈Rf l,0≤x)∧DX (Rf l).dropLast
 |0,l,hl,h=>by
  have:l=[]:=List.length_eq_zero_iff.1 hl
  subst this
  rw[Rf];exact⟨rfl,rfl,h,gZ.nil⟩
 |1,l,hl,h=>by
  obtain⟨o,rfl⟩:∃o,l=[o]:=by
   cases l with
   |nil=>cases hl
   |cons o r=>exact⟨o,by have:r=[]:=List.length_eq_zero_iff.1 (by simpa using hl);rw[this]⟩
  rw[ac9];exact⟨rfl,rfl,h,gZ.nil⟩
 |n+2,l,hl,h=>by
  match l,hl,h with
  |o::q::r,hl,h=>
   have h1:=h o (by simp)
   have h2:=h q (by simp)
   obtain⟨e1,e2,e3,e4⟩:=adb (n+1) ((q+o / 10)::r) (by simpa using hl) (fun x hx=>by
    rcases List.mem_cons.1 hx with rfl |hx
    ·omega
    ·exact h x (by simp[hx]))
   rw[ada]
   refine⟨?_,by simp[e2], ?_, ?_⟩
   ·simp only[VX,val] at e1 ⊢
    rw[e1];omega
   ·intro x hx
    rcases List.mem_cons.1 hx with rfl |hx
    ·omega
    ·exact e3 x hx
   ·have hne:Rf ((q+o / 10)::r)≠ []:=fun e=>by rw[e] at e2;simp at e2
    rw[List.dropLast_cons_of_ne_nil hne]
    exact gZ.cons (by omega) (by omega) e4
theorem XD {p q:Bool}:∀(n:Nat) (A l:List Int),l.length=n+1→(A++l).length≤100000000→(∀x∈l,0≤x)→(∀x∈l.tail,x≤1000000000000)→l.getD 0 0≤2000000000000→
  cC p q A.length (A++l)=(al (!(p==q)) (A++Rf l)).bind fun r=>some r:=by
 intro n
 induction n with
 |zero=>
  intro A l hl hlen h0 h1 h2
  obtain⟨o,rfl⟩:∃o,l=[o]:=by
   cases l with
   |nil=>cases hl
   |cons o r=>exact⟨o,by have:r=[]:=List.length_eq_zero_iff.1 (by simpa using hl);rw[this]⟩
  have afW:(A++[o]).length=A.length+1:=by simp
  rw[od,kN,i64_in _ (by omega),ai (by omega),ac9]
 |succ n ih=>
  intro A l hl hlen h0 h1 h2
  match l,hl,hlen,h0,h1,h2 with
  |o::t::r,hl,hlen,h0,h1,h2=>
   have ho:=h0 o (by simp)
   have ht:=h0 t (by simp)
   have ht1:=h1 t (by simp)
   have ho1:o≤2000000000000:=h2
   have afW:(A++o::t::r).length=A.length+r.length+2:=by simp;omega
   have e1:((A.length:Int)+1).toNat=A.length+1:=by omega
   have g0:(A++o::t::r).getD A.length 0=o:=by simp[List.getD]
   have g1:(A++o::t::r).getD (A.length+1) 0=t:=by
    rw[List.getD,List.getElem?_append_right (by omega),show A.length+1 - A.length=1 by omega];rfl
   have s1:∀z,(A++o::t::r).set (A.length+1) z=A++o::z::r:=fun z=>by
    rw[List.set_append_right _ _ (by omega),show A.length+1 - A.length=1 by omega];rfl
   have s2:∀z w,(A++o::z::r).set A.length w=A++w::z::r:=fun z w=>by
    rw[List.set_append_right _ _ (by omega),show A.length - A.length=0 by omega];rfl
   have Zh:∀z,(A++o::z::r).length=A.length+r.length+2:=fun z=>by simp;omega
   have g2:∀z,(A++o::z::r).getD A.length 0=o:=fun z=>by simp[List.getD]
   rw[od,kN]
   simp (disch:=omega) only[i64_in,ak,fk,xm,e1,g0,g1,s1,Int.toNat_natCast,mQ,bP]
   have hl2:=Zh (t+o / 10)
   simp (disch:=omega) only[fk,xm,g2,s2,Int.toNat_natCast,bP]
   have:=ih (A++[o % 10]) ((t+o / 10)::r) (by simpa using hl) (by simp at hlen ⊢;omega) (fun x hx=>by
    rcases List.mem_cons.1 hx with rfl |hx
    ·omega
    ·exact h0 x (by simp[hx])) (fun x hx=>h1 x (by simp at hx ⊢;exact .inr hx)) (by show t+o / 10≤_;omega)
   have e3:((A++[o % 10]).length:Int)=(A.length:Int)+1:=by simp
   rw[e3] at this
   simp only[List.append_assoc,List.singleton_append] at this
   rw[ada]
   exact this
theorem ZJ {m n:Nat}{s t:Bool}(hm:(dX m).length≤10000000)(hn:(dX n).length≤10000000):
  bw s (dX m) t (dX n) 0 (List.replicate ((dX m).length+(dX n).length+1) 0)=some (gJ (if s=t then (m:Int)*n else -((m:Int)*n))):=by
 have hdm:=HC m
 have hdn:=HC n
 obtain⟨o',e1,e2,e3⟩:=XC (p:=s) (q:=t) hdm hdn hm hn (dX m).length 0 (List.replicate ((dX m).length+(dX n).length+1) 0) (by omega) (by simp) (fun x hx=>by
  obtain⟨_,rfl⟩:=List.mem_replicate.1 hx;omega)
 simp only[Int.natCast_zero,List.take_zero,List.nil_append,List.drop_zero] at e1 e2
 obtain⟨v1,v2⟩:=ac8 (dX m) (dX n) (List.replicate ((dX m).length+(dX n).length+1) 0) (by simp) hdm
 rw[←e2,List.length_replicate] at v2
 rw[←e2,Kd,Kd] at v1
 simp only[VX,Mk,Int.zero_add] at v1
 have hnn:∀x∈o',0≤x:=fun x hx=>(e3 x hx).1
 obtain⟨c1,c2,c3,c4⟩:=adb _ o' rfl hnn
 have hc:=XD (p:=s) (q:=t) ((dX m).length+(dX n).length) [] o' (by omega) (by simp;omega) hnn (fun x hx=>(e3 x (List.mem_of_mem_tail hx)).2) (by have:=(e3.getD (by omega) 0).2;omega)
 simp only[List.nil_append,List.length_nil,Int.natCast_zero] at hc
 rw[e1,hc]
 -- LS last entry is a digit,too
 have hne:Rf o'≠ []:=fun e=>by rw[e] at c2;simp at c2;omega
 have Qj:Rf o'=(Rf o').dropLast++[(Rf o').getLast hne]:=(List.dropLast_concat_getLast hne).symm
 have hvs:VX (Rf o')=VX (Rf o').dropLast+10^(Rf o').dropLast.length*(Rf o').getLast hne:=by
  conv=>lhs;rw[Qj]
  rw[VX,fj];simp[val]
 have hdl:(Rf o').dropLast.length=(dX m).length+(dX n).length:=by rw[List.length_dropLast,c2,v2];omega
 have anc:=KL c4
 have anj:=c3 _ (List.getLast_mem hne)
 have alh:(Rf o').getLast hne<10:=by
  by_cases hcc:(Rf o').getLast hne<10
  ·exact hcc
  ·exfalso
   have h1:=(aM (B:=10) (by omega) (dX m).length m).1 (Nat.le_refl _)
   have h2:=(aM (B:=10) (by omega) (dX n).length n).1 (Nat.le_refl _)
   have h3:m*n<10^(dX m).length*10^(dX n).length:=Nat.mul_lt_mul'' h1 h2
   rw[←Nat.pow_add] at h3
   have h4:((m*n:Nat):Int)<((10^((dX m).length+(dX n).length):Nat):Int):=Int.ofNat_lt.2 h3
   rw[HD,Int.natCast_mul] at h4
   have h5:(10:Int)^((dX m).length+(dX n).length)*1≤10^((dX m).length+(dX n).length)*(Rf o').getLast hne:=Int.mul_le_mul_of_nonneg_left (by omega) (Int.pow_nonneg (by omega))
   rw[hdl] at hvs
   rw[c1] at hvs
   change VX o'=_ at v1
   omega
 have hD:DX (Rf o'):=by
  rw[Qj]
  exact c4.append (gZ.cons anj alh gZ.nil)
 rw[xj hD (by rw[c2,v2];omega),bS,c1]
 change VX o'=_ at v1
 rw[v1]
 congr 2
 cases s<;>cases t<;>simp
theorem Wk {x y:Int}(hx:Bd x)(hy:Bd y):fB (gJ x) (gJ y)=some (gJ (x*y)):=by
 have hlx:=Mo x
 have hly:=Mo y
 rw[AT,uk,BP hx,bS,BP hy,bS]
 unfold Bd at hx hy
 have Qm:((ao (gJ x)).bind fun r3=>(ao (gJ y)).bind fun r4=>
   bif (gL 8 (IntKind.wrap .i64 ((IntKind.wrap .i64 ((r3.2.length:Int)+(r4.2.length:Int)))+(1:Int))) (IntKind.wrap .i64 ((IntKind.wrap .i64 ((r3.2.length:Int)+(r4.2.length:Int)))+(1:Int)))) then
   bw r3.1 r3.2 r4.1 r4.2 (0:Int) (List.replicate (IntKind.wrap .i64 ((IntKind.wrap .i64 ((r3.2.length:Int)+(r4.2.length:Int)))+(1:Int))).toNat (0:Int))
   else none)=some (gJ (x*y)):=by
  rw[mz hx,bS,mz hy,bS]
  simp only
  simp (disch:=omega) only[i64_in,Kc]
  have e1:(((dX x.natAbs).length:Int)+(dX y.natAbs).length+1).toNat=(dX x.natAbs).length+(dX y.natAbs).length+1:=by omega
  rw[e1,ZJ (by omega) (by omega)]
  congr 2
  by_cases h1:x<0<;>by_cases h2:y<0
  ·have a1:(x.natAbs:Int)= -x:=by omega
   have a2:(y.natAbs:Int)= -y:=by omega
   rw[decide_eq_true h1,decide_eq_true h2,if_pos rfl,a1,a2];simp[Int.neg_mul,Int.mul_neg]
  ·have a1:(x.natAbs:Int)= -x:=by omega
   have a2:(y.natAbs:Int)=y:=by omega
   rw[decide_eq_true h1,decide_eq_false h2,if_neg (by simp),a1,a2];simp[Int.neg_mul,Int.mul_neg]
  ·have a1:(x.natAbs:Int)=x:=by omega
   have a2:(y.natAbs:Int)= -y:=by omega
   rw[decide_eq_false h1,decide_eq_true h2,if_neg (by simp),a1,a2];simp[Int.neg_mul,Int.mul_neg]
  ·have a1:(x.natAbs:Int)=x:=by omega
   have a2:(y.natAbs:Int)=y:=by omega
   rw[decide_eq_false h1,decide_eq_false h2,if_pos rfl,a1,a2]
 by_cases h1:nd x≤9
 ·rw[if_pos h1]
  simp only[cT]
  by_cases h2:nd y≤9
  ·rw[if_pos h2]
   simp only[cT]
   have b1:=(ka x 9 (by omega)).1 h1
   have b2:=(ka y 9 (by omega)).1 h2
   have b3:(x*y).natAbs<10^9*10^9:=by rw[Int.natAbs_mul];exact Nat.mul_lt_mul'' b1 b2
   rw[i64_in _ (by omega),mA (by omega) (by omega),bS]
  ·rw[if_neg h2]
   simp only[cF]
   exact Qm
 ·rw[if_neg h1]
  simp only[cF]
  exact Qm
end Go.Proofs.YtofjebmoebhiiaaGreatDoor.Ev
namespace Go.Abs
theorem ahm {x y:Int}(hy:y≠0){Q R:Int}(hQ:Q=((x.natAbs / y.natAbs:Nat):Int))(hR:R=((x.natAbs % y.natAbs:Nat):Int)):
  (x.fdiv y=if (x<0↔y<0) then Q else if R=0 then -Q else -Q - 1)∧
  (x.fmod y=if (x<0↔y<0) then (if x<0 then -R else R) else if R=0 then 0 else (if x<0 then -R else R)+y):=by
 have hdm:=Nat.div_add_mod x.natAbs y.natAbs
 have hlt:=Nat.mod_lt x.natAbs (show y.natAbs>0 by omega)
 obtain⟨A,hA⟩:∃A,A=x.natAbs:=⟨_,rfl⟩
 obtain⟨B,hB⟩:∃B,B=y.natAbs:=⟨_,rfl⟩
 rw[←hA, ←hB] at hdm hlt hQ hR
 have asp:(B:Int)*Q+R=A:=by rw[hQ,hR, ←Int.natCast_mul, ←Int.natCast_add,hdm]
 have hR0:0≤R:=by rw[hR];exact Int.natCast_nonneg _
 have hRB:R<B:=by rw[hR];exact Int.ofNat_lt.2 hlt
 by_cases h1:x<0<;>by_cases h2:y<0
 ·have hx':x= -(A:Int):=by omega
  have hy':y= -(B:Int):=by omega
  have hu:=(Int.fdiv_fmod_unique' (a:=x) (b:=y) (r:= -R) (q:=Q) h2).2 ⟨by rw[hx',hy',Int.neg_mul];omega,by omega,by omega⟩
  rw[hu.1,hu.2]
  simp[h1,h2]
 ·have hx':x= -(A:Int):=by omega
  have hy':y=(B:Int):=by omega
  by_cases hz:R=0
  ·have hu:=(Int.fdiv_fmod_unique (a:=x) (b:=y) (r:= -R) (q:= -Q) (by omega)).2 ⟨by rw[hx',hy',Int.mul_neg];omega,by omega,by omega⟩
   rw[hu.1,hu.2]
   simp[h1,h2,hz]
  ·have hu:=(Int.fdiv_fmod_unique (a:=x) (b:=y) (r:= -R+y) (q:= -Q - 1) (by omega)).2 ⟨by rw[hx',hy',Int.mul_sub,Int.mul_neg];omega,by omega,by omega⟩
   rw[hu.1,hu.2]
   simp[h1,h2,hz]
 ·have hx':x=(A:Int):=by omega
  have hy':y= -(B:Int):=by omega
  by_cases hz:R=0
  ·have hu:=(Int.fdiv_fmod_unique' (a:=x) (b:=y) (r:=R) (q:= -Q) (by omega)).2 ⟨by rw[hx',hy',Int.neg_mul_neg];omega,by omega,by omega⟩
   rw[hu.1,hu.2]
   simp[h1,h2,hz]
  ·have hu:=(Int.fdiv_fmod_unique' (a:=x) (b:=y) (r:=R+y) (q:= -Q - 1) (by omega)).2 ⟨by rw[hx',hy',Int.mul_sub,Int.neg_mul_neg];omega,by omega,by omega⟩
   rw[hu.1,hu.2]
   simp[h1,h2,hz]
 ·have hx':x=(A:Int):=by omega
  have hy':y=(B:Int):=by omega
  have hu:=(Int.fdiv_fmod_unique (a:=x) (b:=y) (r:=R) (q:=Q) (by omega)).2 ⟨by rw[hx',hy'];omega,by omega,by omega⟩
  rw[hu.1,hu.2]
  simp[h1,h2]
end Go.Abs
namespace Go.Proofs.YtofjebmoebhiiaaGreatDoor.Ev
open Go.Abs Go.IntWalk
section
variable {b:ByteArray}{p s:Bool}
theorem ank {x:List Int}{B:Nat}(hB:0<B)(hBl:(dX B).length≤10000000){i:Int}{q:List Int}(hq:q.length≤10000000):∀(S k:Nat),(dX S).length≤10000001→k+S / B≤1000→
  cj b p x s (dX B) (dX S) i k q=bk b p x s (dX B) (dX (S % B)) (IntKind.wrap .i64 (i - 1)) (q++[((k+S / B:Nat):Int)]):=by
 intro S
 induction S using Nat.strongRecOn with
 |ind S ih=>
  intro k hS hk
  rw[si,mu,O7 (by omega) (by omega),bS]
  by_cases h:B≤S
  ·have hc:qA (S:Int) B≥0:=by
    by_cases hh:qA (S:Int) B≥0
    ·exact hh
    ·have:=Nw.1 (show qA (S:Int) B<0 by omega)
     omega
   have e1:=Nat.mod_eq_sub_mod h
   have e2:S / B=(S - B) / B+1:=Nat.div_eq_sub_div hB h
   obtain⟨D,hD⟩:∃D,(S - B) / B=D:=⟨_,rfl⟩
   rw[e2,hD] at hk
   rw[tA hc,ZG (by omega) h,bS,i64_in _ (by omega)]
   have:=ih (S - B) (by omega) (k+1) (by have:=Wh (show S - B≤S by omega);omega) (by rw[hD];omega)
   simp only[Int.natCast_add,Int.natCast_one] at this
   rw[this, ←e1,e2]
   congr 3
   omega
  ·have hc:¬qA (S:Int) B≥0:=by rw[tN (by omega)];omega
   rw[sk hc,iQ (by omega) (by omega),Nat.mod_eq_of_lt (by omega),Nat.div_eq_of_lt (by omega),Nat.add_zero]
theorem anl {x:List Int}(hx:DX x){B:Nat}(hB:0<B)(hBl:(dX B).length≤10000000)(hxl:x.length≤10000000):∀(k:Nat) (R:Nat) (q:List Int),k≤x.length→R<B→q.length+k≤10000000→DX q→
  VX (x.drop k)=B*VX q.reverse+R→
  ∃q' R',bk b p x s (dX B) (dX R) ((k:Int) - 1) q=aH b p s (dX R') 0 q'∧R'<B∧DX q'∧VX x=B*VX q'.reverse+R'∧q'.length≤10000000:=by
 intro k
 induction k with
 |zero=>
  intro R q hk hR hql hq hv
  refine⟨q,R, ?_,hR,hq,by simpa using hv,by omega⟩
  rw[lv,iy,sk (by omega)]
 |succ k ih=>
  intro R q hk hR hql hq hv
  have hxk:=hx.getD (by omega) k
  have hRl:=Wh (show R≤B by omega)
  have e:((k+1:Nat):Int) - 1=k:=by omega
  obtain⟨c,hc⟩:=Int.eq_ofNat_of_zero_le hxk.1
  rw[hc] at hxk
  have hDc:DX ([(c:Int)]++dX R):=(gZ.cons hxk.1 hxk.2 gZ.nil).append (HC R)
  have hVc:VX ([(c:Int)]++dX R)=((c+10*R:Nat):Int):=by
   have:=Kd R
   simp only[VX,List.singleton_append,val] at this ⊢
   rw[this];omega
  have hlen:(dX (c+10*R)).length≤10000001:=by
   have h1:=BL ([(c:Int)]++dX R)
   rw[TS hDc,hVc,Int.toNat_natCast] at h1
   simp at h1
   show (dX (c+10*R)).length≤_
   omega
  have hdiv:(c+10*R) / B<10:=by
   rw[Nat.div_lt_iff_lt_mul hB]
   omega
  have hmod:=Nat.mod_lt (c+10*R) hB
  have hdm:=Nat.div_add_mod (c+10*R) B
  rw[lv,iy,e,tA (by omega),fk (by omega) (by omega),Int.toNat_natCast,hc,iQ (by omega) (by omega),Kh (by simp;omega),bS,TS hDc,hVc,Int.toNat_natCast]
  have h1:=ank (b:=b) (p:=p) (s:=s) (x:=x) hB hBl (i:=k) (q:=q) (by omega) (c+10*R) 0 hlen (by omega)
  simp only[Int.natCast_zero,Nat.zero_add] at h1
  rw[h1,i64_in _ (by omega)]
  refine ih _ _ (by omega) hmod (by simp;omega) (hq.append (gZ.cons (Int.natCast_nonneg _) (Int.ofNat_lt.2 hdiv) gZ.nil)) ?_
  rw[drop_eq (show k<x.length by omega),hc,List.reverse_append,List.reverse_singleton,List.singleton_append]
  simp only[VX,val] at hv ⊢
  rw[hv]
  have h2:((B*((c+10*R) / B)+(c+10*R) % B:Nat):Int)=((c+10*R:Nat):Int):=by rw[hdm]
  rw[Int.natCast_add,Int.natCast_mul] at h2
  have h3:(B:Int)*(((c+10*R) / B:Nat)+10*val 10 q.reverse)=B*((c+10*R) / B:Nat)+10*(B*val 10 q.reverse):=by rw[Int.mul_add,Int.mul_left_comm]
  rw[h3]
  omega
theorem ali {r:List Int}:∀(m:Nat) (M A C:List Int),M.length=m→A.length=C.length→(A++M++C).length≤1000000000→
  aH b p s r A.length (A++M++C)=aH b p s r (((A++M++C).length:Int) / 2) (A++M.reverse++C):=by
 intro m
 induction m using Nat.strongRecOn with
 |ind m ih=>
  intro M A C hm hac hl
  by_cases h:M.length≤1
  ·have hrev:M.reverse=M:=by
    match M,h with
    | [],_=>rfl
    | [x],_=>rfl
    |_::_::_,h=>simp at h
   have:((A++M++C).length:Int) / 2=A.length:=by simp;omega
   rw[hrev,this]
  ·obtain⟨x,M1,rfl⟩:∃x M1,M=x::M1:=by
    cases M with
    |nil=>simp at h
    |cons x M1=>exact⟨x,M1,rfl⟩
   have hne:M1≠ []:=fun e=>by rw[e] at h;simp at h
   obtain⟨M2,y,rfl⟩:∃M2 y,M1=M2++[y]:=⟨M1.dropLast,M1.getLast hne,(List.dropLast_concat_getLast hne).symm⟩
   have hlen:(A++x::(M2++[y])++C).length=A.length+M2.length+2+C.length:=by simp;omega
   rw[hlen] at hl
   have hL:A++x::(M2++[y])++C=A++(x::(M2++(y::C))):=by simp
   have hR:A++(x::(M2++[y])).reverse++C=(A++[y])++M2.reverse++(x::C):=by simp
   have anm:((A++[y])++M2++(x::C)).length=A.length+M2.length+2+C.length:=by simp;omega
   have W4:=ih M2.length (by simp at hm;omega) M2 (A++[y]) (x::C) rfl (by simp;omega) (by omega)
   have e1:((A++[y]).length:Int)=(A.length:Int)+1:=by simp
   rw[e1,anm] at W4
   rw[hlen,hR, ←W4,hL]
   rw[hL] at hlen
   have gx:(A++(x::(M2++(y::C)))).getD A.length 0=x:=by simp[List.getD]
   have gy:(A++(x::(M2++(y::C)))).getD (A.length+M2.length+1) 0=y:=by
    rw[List.getD,List.getElem?_append_right (by omega)]
    have:A.length+M2.length+1 - A.length=M2.length+1:=by omega
    rw[this]
    simp
   have s1:(A++(x::(M2++(y::C)))).set A.length y=A++(y::(M2++(y::C))):=by
    rw[List.set_append_right _ _ (by omega)];simp
   have s2:(A++(y::(M2++(y::C)))).set (A.length+M2.length+1) x=(A++[y])++M2++(x::C):=by
    rw[List.set_append_right _ _ (by omega)]
    have:A.length+M2.length+1 - A.length=M2.length+1:=by omega
    rw[this,List.set_cons_succ,List.set_append_right _ _ (by omega)]
    simp
   have Zh:(A++(y::(M2++(y::C)))).length=A.length+M2.length+2+C.length:=by simp;omega
   have ej:(((A.length+M2.length+2+C.length:Nat):Int) - 1 - A.length).toNat=A.length+M2.length+1:=by omega
   rw[lx,iA]
   simp only[hlen]
   rw[mQ (by omega)]
   simp (disch:=omega) only[ak,i64_in,fk,xm,ej,Int.toNat_natCast,gx,gy,s1,s2]
theorem ai1 {r q:List Int}(hl:q.length≤1000000000):aH b p s r 0 q=aH b p s r ((q.length:Int) / 2) q.reverse:=by
 have:=ali (b:=b) (p:=p) (s:=s) (r:=r) q.length q [] [] rfl rfl (by simpa using hl)
 simpa using this
end
theorem XE {x y:Int}(hx:Bd x)(hy:Bd y)(hy0:y≠0):du (gJ x) (gJ y)=some (gJ (x.fdiv y),gJ (x.fmod y)):=by
 have hlx:=Mo x
 have hly:=Mo y
 obtain⟨fq,fr⟩:=ahm (x:=x) (y:=y) hy0 rfl rfl
 have hdm:=Nat.div_add_mod x.natAbs y.natAbs
 have hlt:=Nat.mod_lt x.natAbs (show y.natAbs>0 by omega)
 have hbx:=hx
 have hby:=hy
 rw[wz,pB,BP hx,bS,BP hy,bS]
 unfold Bd at hx hy
 -- LS Qm way
 have Qm:((ao (gJ x)).bind fun r9=>(ao (gJ y)).bind fun NF=>
   let Te:Int:=(IntKind.wrap .i64 ((NF.2.length:Int) - (1:Int)))
   let e12:Int:=(bif decide (Te>(0:Int)) then Te else (0:Int))
   let Xc:Int:=(bif decide ((IntKind.wrap .i64 ((r9.2.length:Int) - e12))>(0:Int)) then (IntKind.wrap .i64 ((r9.2.length:Int) - e12)) else (0:Int))
   bif (c7 r9.2.length Xc (r9.2.length:Int)) then
   bif (aB 8 1 0 (cut r9.2 Xc (r9.2.length:Int)).length) then
   let e14:List Int:=(([]:List Int)++(cut r9.2 Xc (r9.2.length:Int)))
   (bg e14).bind fun r15=>
   bk (gJ y) r9.1 r9.2 NF.1 NF.2 r15 (IntKind.wrap .i64 (Xc - (1:Int))) ([]:List Int)
   else none
   else none)=some (gJ (x.fdiv y),gJ (x.fmod y)):=by
  rw[mz hbx,bS,mz hby,bS]
  simp only
  obtain⟨LX,hLX⟩:∃LX,LX=(dX x.natAbs).length:=⟨_,rfl⟩
  obtain⟨LY,hLY⟩:∃LY,LY=(dX y.natAbs).length:=⟨_,rfl⟩
  have asr:0<LY:=by
   have:(dX y.natAbs).length≠0:=fun e=>by
    have:=(mw (B:=10) (n:=y.natAbs) (by omega)).1 (List.length_eq_zero_iff.1 e)
    omega
   omega
  obtain⟨st,hst⟩:∃st:Nat,st=LX - (LY - 1):=⟨_,rfl⟩
  rw[←hLX, ←hLY]
  have Te:IntKind.wrap .i64 ((LY:Int) - 1)=((LY - 1:Nat):Int):=by rw[i64_in _ (by omega)];omega
  have e12:(bif decide (((LY - 1:Nat):Int)>0) then ((LY - 1:Nat):Int) else 0)=((LY - 1:Nat):Int):=by
   by_cases h:((LY - 1:Nat):Int)>0
   ·rw[cy h]
   ·rw[cM h];omega
  have Xc:(bif decide (IntKind.wrap .i64 ((LX:Int) - ((LY - 1:Nat):Int))>0) then IntKind.wrap .i64 ((LX:Int) - ((LY - 1:Nat):Int)) else 0)=(st:Int):=by
   rw[i64_in _ (by omega)]
   by_cases h:(LX:Int) - ((LY - 1:Nat):Int)>0
   ·rw[cy h];omega
   ·rw[cM h];omega
  have ahn:cut (dX x.natAbs) (st:Int) (LX:Int)=(dX x.natAbs).drop st:=by
   unfold cut
   rw[Int.toNat_natCast,Int.toNat_natCast,hLX,List.take_length]
  simp only[Te,e12,Xc,ahn]
  have hdl:((dX x.natAbs).drop st).length=LX - st:=by rw[List.length_drop,hLX]
  have hDd:=(HC x.natAbs).drop st
  obtain⟨R0,hR0⟩:=Int.eq_ofNat_of_zero_le (KL hDd)
  rw[Gw (by omega) (by omega) (by omega),iQ (by omega) (by omega),List.nil_append,Kh (by omega),bS,TS hDd,hR0,Int.toNat_natCast,i64_in _ (by omega)]
  -- LS first digits are less ao9 LS aiX
  have apm:R0<y.natAbs:=by
   have h1:VX ((dX x.natAbs).drop st)<10^((dX x.natAbs).drop st).length:=AG (B:=10) (by omega) hDd
   have h2:=OY (show ((dX x.natAbs).drop st).length≤LY - 1 by omega)
   have h3:=(fR (B:=10) (by omega) (LY - 1) y.natAbs).1 (by show LY - 1<(dX y.natAbs).length;omega)
   have h4:((10^(LY - 1):Nat):Int)≤(y.natAbs:Int):=Int.ofNat_le.2 h3
   rw[HD] at h4
   omega
  obtain⟨q',R',w1,w2,w3,w4,w5⟩:=anl (b:=gJ y) (p:=decide (x<0)) (s:=decide (y<0)) (HC x.natAbs) (B:=y.natAbs) (by omega) (by omega) (by omega) st R0 [] (by omega) apm (by simp;omega) gZ.nil (by rw[hR0];simp[VX,val])
  have hq0:=KL (show DX q'.reverse from fun z hz=>w3 z (List.mem_reverse.1 hz))
  obtain⟨Q,hQ⟩:=Int.eq_ofNat_of_zero_le hq0
  rw[Kd,hQ] at w4
  have hAN:x.natAbs=y.natAbs*Q+R':=by
   have:((y.natAbs*Q+R':Nat):Int)=(y.natAbs:Int)*Q+R':=by rw[Int.natCast_add,Int.natCast_mul]
   omega
  have hq1:x.natAbs / y.natAbs=Q:=by rw[hAN,Nat.mul_add_div (by omega),Nat.div_eq_of_lt w2];omega
  have Pp:x.natAbs % y.natAbs=R':=by rw[hAN,Nat.mul_add_mod,Nat.mod_eq_of_lt w2]
  rw[hq1,Pp] at fq
  rw[Pp] at fr
  have ass:=Wh (show R'≤y.natAbs by omega)
  rw[w1,ai1 (by omega),lx,iA]
  have hql:(q'.reverse).length=q'.length:=by simp
  rw[hql,mQ (by omega)]
  simp (disch:=omega) only[i64_in,ai]
  have hD':DX q'.reverse:=fun z hz=>w3 z (List.mem_reverse.1 hz)
  rw[xj hD' (by rw[hql];omega),bS,xj (HC R') (by omega),bS,hQ,Kd,ang]
  have apn:nd (Q:Int)≤100000:=by
   have:Q≤x.natAbs:=by rw[←hq1];exact Nat.div_le_self _ _
   have:=O5 (x:=(Q:Int)) (y:=x) (by omega)
   omega
  have ann:nd (R':Int)≤100000:=by
   have:=O5 (x:=(R':Int)) (y:=y) (by omega)
   omega
  have b1:Bd 1:=by unfold Bd;rw[O6 (by decide)];omega
  by_cases hs:(x<0↔y<0)
  ·have hd:(decide (x<0)==decide (y<0))=true:=beq_iff_eq.2 (decide_eq_decide.2 hs)
   rw[if_pos hs] at fq fr
   rw[hd,Bool.not_true,fq,fr]
   simp only[Bool.false_eq_true,if_false,cF,decide_eq_true_eq]
   cases ((gJ (if x<0 then -(R':Int) else (R':Int))).toList==(gJ 0).toList)<;>rfl
  ·have hd:(decide (x<0)==decide (y<0))=false:=by
    cases hh:(decide (x<0)==decide (y<0)) with
    |false=>rfl
    |true=>exact absurd (decide_eq_decide.1 (beq_iff_eq.1 hh)) hs
   rw[if_neg hs] at fq fr
   rw[hd,Bool.not_false,fq,fr]
   simp only[if_true,cT,decide_eq_true_eq]
   by_cases hz:R'=0
   ·subst hz
    have:(if x<0 then -((0:Nat):Int) else ((0:Nat):Int))=0:=by split<;>rfl
    rw[this,Wf rfl,Bool.not_true,cF,if_pos (by rfl),if_pos (by rfl)]
   ·have h1:¬(if x<0 then -(R':Int) else (R':Int))=0:=by split<;>omega
    rw[Wg h1,Bool.not_false,cT,if_neg (show ¬((R':Nat):Int)=0 by omega),if_neg (show ¬((R':Nat):Int)=0 by omega),api,aeQ (by unfold Bd;rw[TV];exact apn) b1,bS,ZH (by
     unfold Bd
     split
     ·rw[TV];exact ann
     ·exact ann) hby,bS]
 by_cases h1:nd x≤9
 ·rw[if_pos h1]
  simp only[cT]
  by_cases h2:nd y≤9
  ·rw[if_pos h2]
   simp only[cT]
   have c1:=(ka x 9 (by omega)).1 h1
   have c2:=(ka y 9 (by omega)).1 h2
   have apo:=Nat.div_le_self x.natAbs y.natAbs
   -- truncated ano by LS absolute values
   have eq1:x.tdiv y=if (x<0↔y<0) then ((x.natAbs / y.natAbs:Nat):Int) else -((x.natAbs / y.natAbs:Nat):Int):=by
    by_cases a:x<0<;>by_cases b:y<0
    ·have hx':x= -(x.natAbs:Int):=by omega
     have hy':y= -(y.natAbs:Int):=by omega
     rw[if_pos (by simp[a,b])]
     conv=>lhs;rw[hx',hy']
     rw[Int.neg_tdiv,Int.tdiv_neg,Int.neg_neg,mQ (by omega),Int.natCast_ediv]
    ·have hx':x= -(x.natAbs:Int):=by omega
     have hy':y=(y.natAbs:Int):=by omega
     rw[if_neg (by simp[a,b])]
     conv=>lhs;rw[hx',hy']
     rw[Int.neg_tdiv,mQ (by omega),Int.natCast_ediv]
    ·have hx':x=(x.natAbs:Int):=by omega
     have hy':y= -(y.natAbs:Int):=by omega
     rw[if_neg (by simp[a,b])]
     conv=>lhs;rw[hx',hy']
     rw[Int.tdiv_neg,mQ (by omega),Int.natCast_ediv]
    ·have hx':x=(x.natAbs:Int):=by omega
     have hy':y=(y.natAbs:Int):=by omega
     rw[if_pos (by simp[a,b])]
     conv=>lhs;rw[hx',hy']
     rw[mQ (by omega),Int.natCast_ediv]
   have eq2:x.tmod y=if x<0 then -((x.natAbs % y.natAbs:Nat):Int) else ((x.natAbs % y.natAbs:Nat):Int):=by
    have key:x.tmod y=x.tmod (y.natAbs:Int):=by
     by_cases b:y<0
     ·have hy':y= -(y.natAbs:Int):=by omega
      conv=>lhs;rw[hy']
      rw[Int.tmod_neg]
     ·have hy':y=(y.natAbs:Int):=by omega
      conv=>lhs;rw[hy']
    rw[key]
    by_cases a:x<0
    ·have hx':x= -(x.natAbs:Int):=by omega
     rw[if_pos a]
     conv=>lhs;rw[hx']
     rw[Int.neg_tmod,bP (by omega),Int.natCast_emod]
    ·have hx':x=(x.natAbs:Int):=by omega
     rw[if_neg a]
     conv=>lhs;rw[hx']
     rw[bP (by omega),Int.natCast_emod]
   obtain⟨Q,hQ⟩:∃Q,Q=x.natAbs / y.natAbs:=⟨_,rfl⟩
   obtain⟨R,hR⟩:∃R,R=x.natAbs % y.natAbs:=⟨_,rfl⟩
   rw[lZ hy0,lZ hy0,eq1,eq2,fq,fr]
   rw[←hQ, ←hR] at hdm
   rw[←hR] at hlt
   rw[←hQ] at apo
   rw[←hQ, ←hR]
   clear hQ hR fq fr eq1 eq2
   by_cases hz:R=0
   ·subst hz
    have e0:(if x<0 then -((0:Nat):Int) else ((0:Nat):Int))=0:=by split<;>rfl
    rw[e0,nE rfl]
    by_cases hs:(x<0↔y<0)
    ·rw[if_pos hs,if_pos hs,if_pos hs,i64_in _ (by omega),mA (by omega) (by omega),bS,mA (by omega) (by omega),bS]
    ·rw[if_neg hs,if_neg hs,if_neg hs,if_pos (by rfl),if_pos (by rfl),i64_in _ (by omega),mA (by omega) (by omega),bS,mA (by omega) (by omega),bS]
   ·have hr0:¬(if x<0 then -(R:Int) else (R:Int))=0:=by split<;>omega
    rw[BC hr0]
    have hsg:(decide ((if x<0 then -(R:Int) else (R:Int))<0))=decide (x<0):=decide_eq_decide.2 (by split<;>omega)
    rw[hsg]
    by_cases hs:(x<0↔y<0)
    ·have hd:(decide (x<0)==decide (y<0))=true:=beq_iff_eq.2 (decide_eq_decide.2 hs)
     rw[hd,Bool.not_true,cF,if_pos hs,if_pos hs,if_pos hs,i64_in _ (by omega),mA (by omega) (by omega),bS,mA (by split<;>omega) (by split<;>omega),bS]
    ·have hd:(decide (x<0)==decide (y<0))=false:=by
      cases hh:(decide (x<0)==decide (y<0)) with
      |false=>rfl
      |true=>exact absurd (decide_eq_decide.1 (beq_iff_eq.1 hh)) hs
     rw[hd,Bool.not_false,cT,if_neg hs,if_neg hs,if_neg hs,if_neg (show ¬((R:Nat):Int)=0 by omega),if_neg (show ¬((R:Nat):Int)=0 by omega)]
     have w1:IntKind.wrap .i64 (-(Q:Int))= -(Q:Int):=i64_in _ (by omega)
     have w2:IntKind.wrap .i64 (-(Q:Int) - 1)= -(Q:Int) - 1:=i64_in _ (by omega)
     have w3:IntKind.wrap .i64 ((if x<0 then -(R:Int) else (R:Int))+y)=(if x<0 then -(R:Int) else (R:Int))+y:=i64_in _ (by split<;>omega)
     simp only[w1,w2,w3]
     rw[mA (by omega) (by omega),bS,mA (by split<;>omega) (by split<;>omega),bS]
  ·rw[if_neg h2]
   simp only[cF]
   exact Qm
 ·rw[if_neg h1]
  simp only[cF]
  exact Qm
end Go.Proofs.YtofjebmoebhiiaaGreatDoor.Ev
namespace Go.Proofs.YtofjebmoebhiiaaGreatDoor.Ev
open Go.Abs Go.IntWalk
theorem Sm.Bd {z:Int}(h:Sm z):Bd z:=by unfold Sm at h;unfold Go.Abs.Bd;omega
theorem BD {z:Int}{k:Nat}(h:nd z≤k)(hk:k≤100000):Bd z:=by unfold Bd;omega
theorem aho {z:Int}(h:z.natAbs<10):Bd z:=BD (Nat.le_of_eq (O6 h)) (by omega)
theorem UQ:∀(y x:Nat),Bd x→Bd y→cw (gJ x) (gJ y)=some (gJ ((Nat.gcd x y:Nat):Int)):=by
 intro y
 induction y using Nat.strongRecOn with
 |ind y ih=>
  intro x hx hy
  rw[tj,ns,ang]
  by_cases h:y=0
  ·subst h
   rw[Wf (by rfl),Bool.not_true,cF,Nat.gcd_zero_right]
  ·have e:(x:Int).fmod y=((x % y:Nat):Int):=by rw[Int.fmod_eq_emod_of_nonneg _ (by omega),Int.natCast_emod]
   have hlt:=Nat.mod_lt x (show y>0 by omega)
   rw[Wg (by omega),Bool.not_false,cT,XE hx hy (by omega),bS,e,ih _ hlt y hy (BD (O5 (x:=((x % y:Nat):Int)) (y:=(y:Int)) (by simp;omega)) hy),Nat.gcd_comm y, ←Nat.gcd_rec,Nat.gcd_comm]
theorem ZK {x y:Int}(hx:Bd x)(hy:Bd y):dN (gJ x) (gJ y)=some (gJ ((Int.gcd x y:Nat):Int)):=by
 rw[xD,qW,O9 hx,bS,O9 hy,bS,UQ y.natAbs x.natAbs (BD (O5 (y:=x) (by simp)) hx) (BD (O5 (y:=y) (by simp)) hy)]
 rfl
section
variable {x y:Int}(hx:Sm x)(hy:Sm y)
include hx hy
end
section
variable {x:Int}(hx:Sm x)
include hx
end
end Go.Proofs.YtofjebmoebhiiaaGreatDoor.Ev
namespace Go.Proofs.YtofjebmoebhiiaaGreatDoor.Ev
open Go.Abs Go.IntWalk
def fs:List Int→Option Nat
 | []=>none
 |x::r=>if x=47 then some 0 else (fs r).map (· +1)
theorem akb:∀{l:List Int} {k:Nat},fs l=some k→k<l.length
 |x::r,k,h=>by
  simp only[fs] at h
  split at h
  ·cases h;simp
  ·cases hr:fs r with
   |none=>rw[hr] at h;cases h
   |some j=>rw[hr] at h;cases h;have:=akb hr;simp;omega
theorem ade:∀(l:List UInt8) (i:Nat),UC 47 i l=match fs (l.map fun b=>(b.toNat:Int)) with
  |none=> -1
  |some k=>((i+k:Nat):Int)
 | [],i=>rfl
 |x::r,i=>by
  simp only[UC,List.map_cons,fs]
  by_cases h:(x.toNat:Int)=47
  ·rw[acY h,cT,if_pos h];rfl
  ·rw[Kb h,cF,if_neg h,ade r (i+1)]
   cases fs (r.map fun b=>(b.toNat:Int)) with
   |none=>rfl
   |some k=>show ((i+1+k:Nat):Int)=((i+(k+1):Nat):Int);congr 1;omega
theorem XF (s:ByteArray):eU s 47=some (match fs (bytesOf s) with
  |none=> -1
  |some k=>((k:Nat):Int)):=by
 have h:eU s 47=(bif decide ((0:Int)≤47)&&decide ((47:Int)<256) then some (UC 47 0 s.data.toList) else none):=Hb T B (Go.Abs.look fns) 165 (s,47)
 rw[h]
 have e:(decide ((0:Int)≤47)&&decide ((47:Int)<256))=true:=rfl
 rw[e,cT,ade]
 unfold bytesOf
 cases fs (s.data.toList.map fun b=>(b.toNat:Int)) with
 |none=>rfl
 |some k=>simp
theorem apq:bytesOf (bs [47])=[47]:=rfl
theorem ahp {s:ByteArray}(hs:s.size≤100000):uW s (bs [47])=some (match fs (bytesOf s) with
  |none=>(s,ByteArray.empty,false)
  |some k=>(s.extract 0 k,s.extract (k+1) s.size,true)):=by
 have hi:iW s (bs [47])=some (match fs (bytesOf s) with
  |none=> -1
  |some k=>((k:Nat):Int)):=by
  rw[zx,sE]
  have e1:((bs [47]).size:Int)=1:=rfl
  rw[e1,jT (by omega),TR, ]
  by_cases hq:bs [47]=s
  ·subst hq
   rw[decide_eq_true rfl,cT,apq]
   rfl
  ·rw[decide_eq_false hq,cF,sm rfl]
   have e2:Af (bs [47]) 0=some 47:=rfl
   rw[e2,bS,XF,bS]
 rw[JB,E7,CG,wg,hi,bS]
 cases hf:fs (bytesOf s) with
 |none=>simp only;rw[sk (by omega),bS]
 |some k=>
  have hk:=akb hf
  rw[aX] at hk
  simp only
  have e1:((bs [47]).size:Int)=1:=rfl
  rw[e1,tA (by omega),Gw (by omega) (by omega) (by omega),i64_in _ (by omega),Gw (by omega) (by omega) (by omega),bS]
  have e2:((k:Int)+1).toNat=k+1:=by omega
  have e3:((k:Int)).toNat=k:=by omega
  have e4:((s.size:Int)).toNat=s.size:=by omega
  rw[e2,e3,e4]
  rfl
theorem abu {s:ByteArray}(hs:s.size≤100000):∀(m i:Nat),m+i=s.size→dk s i=some (match fs ((bytesOf s).drop i) with
  |none=>(s,bs [49],false)
  |some k=>(s.extract 0 (i+k),s.extract (i+k+1) s.size,true)):=by
 intro m
 induction m with
 |zero=>
  intro i hi
  have hl:=aX s
  rw[oo,kR,ai (by omega),List.drop_eq_nil_of_le (by omega)]
  rfl
 |succ m ih=>
  intro i hi
  have hl:=aX s
  have hd:(bytesOf s).drop i=(bytesOf s).getD i 0::(bytesOf s).drop (i+1):=drop_eq (by omega)
  rw[oo,kR,ak (by omega),zc,fk (by omega) (by omega),hd]
  have e0:((i:Int)).toNat=i:=by omega
  simp only[e0,fs]
  by_cases hc:(bytesOf s).getD i 0=47
  ·rw[sm hc,Gw (by omega) (by omega) (by omega),i64_in _ (by omega),Gw (by omega) (by omega) (by omega),if_pos hc]
   have e2:((i:Int)+1).toNat=i+1:=by omega
   have e4:((s.size:Int)).toNat=s.size:=by omega
   rw[e2,e4]
   rfl
  ·have e1:(i:Int)+1=((i+1:Nat):Int):=by omega
   rw[jT hc,i64_in _ (by omega),e1,ih (i+1) (by omega),if_neg hc]
   cases fs ((bytesOf s).drop (i+1)) with
   |none=>rfl
   |some k=>
    show some (s.extract 0 (i+1+k),s.extract (i+1+k+1) s.size,true)=some (s.extract 0 (i+(k+1)),s.extract (i+(k+1)+1) s.size,true)
    have e:i+1+k=i+(k+1):=by omega
    rw[e]
theorem Pa {s:ByteArray}(hs:s.size≤100000):bJ s=some (match fs (bytesOf s) with
  |none=>(s,bs [49],false)
  |some k=>(s.extract 0 k,s.extract (k+1) s.size,true)):=by
 rw[AZ,uv]
 have:=abu hs s.size 0 (by omega)
 simp only[List.drop_zero,Nat.zero_add] at this
 exact this
theorem vB {s:ByteArray}(h:gi (bytesOf s)=true):s=gJ (numOf (bytesOf s)):=ry (by rw[dZ];exact TT h)
theorem T0 (z:Int):gi (bytesOf (gJ z))=true:=by rw[dZ];exact(Rc z).1
theorem KP (z:Int):numOf (bytesOf (gJ z))=z:=by rw[dZ];exact(Rc z).2
theorem EJ (z:Int):nd z≤(gJ z).size:=by rw[Zt];omega
theorem EK (z:Int):Ln z≤nd z:=by
 rw[Gy]
 have h1:1≤nd z:=by
  have:=rA z.natAbs
  unfold nd;omega
 have h:=(ka z (nd z) h1).1 (Nat.le_refl _)
 exact Nat.lt_of_lt_of_le h (Nat.pow_le_pow_left (by omega) _)
inductive Rt:ByteArray→Int→Int→Prop
 |whole (n:Int):Rt (gJ n) n 1
 |abv {s:ByteArray} {k:Nat} {n d:Int} (hk:fs (bytesOf s)=some k) (h1:s.extract 0 k=gJ n) (h2:s.extract (k+1) s.size=gJ d) (hn:n≠0) (hd:2≤d) (hg:Int.gcd n d=1):Rt s n d
def tC (s:ByteArray):Bool:=match fs (bytesOf s) with
 |none=>gi (bytesOf s)
 |some k=>gi (bytesOf (s.extract 0 k))&&gi (bytesOf (s.extract (k+1) s.size))&& !(numOf (bytesOf (s.extract 0 k))==0)&&decide (2≤numOf (bytesOf (s.extract (k+1) s.size)))&&(Int.gcd (numOf (bytesOf (s.extract 0 k))) (numOf (bytesOf (s.extract (k+1) s.size)))==1)
theorem aeR {l:List Int}(h:∀x∈l,x≠47):fs l=none:=by
 induction l with
 |nil=>rfl
 |cons x r ih=>simp only[fs];rw[if_neg (h x (by simp)),ih fun y hy=>h y (by simp[hy])];rfl
theorem T1 (z:Int):fs (bytesOf (gJ z))=none:=by
 rw[dZ]
 refine aeR fun x hx=> ?_
 unfold rX at hx
 rcases List.mem_append.1 hx with hx |hx
 ·split at hx
  ·simp at hx;omega
  ·cases hx
 ·have:=rz _ x hx;omega
theorem yL {s:ByteArray}:tC s=true↔∃n d,Rt s n d:=by
 constructor
 ·intro h
  unfold tC at h
  cases hf:fs (bytesOf s) with
  |none=>
   rw[hf] at h
   exact⟨numOf (bytesOf s),1,by have:=Rt.whole (numOf (bytesOf s));rw[←vB h] at this;exact this⟩
  |some k=>
   rw[hf] at h
   simp only[Bool.and_eq_true,decide_eq_true_eq,Bool.not_eq_true',beq_eq_false_iff_ne,beq_iff_eq] at h
   obtain⟨⟨⟨⟨h1,h2⟩,h3⟩,h4⟩,h5⟩:=h
   exact⟨_,_,Rt.abv hf (vB h1) (vB h2) h3 h4 h5⟩
 ·rintro ⟨n,d,h⟩
  unfold tC
  cases h with
  |whole=>rw[T1];exact T0 _
  |abv hk h1 h2 hn hd hg=>
   rw[hk]
   simp only[h1,h2,T0,KP,hg,Bool.and_eq_true,decide_eq_true_eq,Bool.not_eq_true',beq_eq_false_iff_ne,beq_iff_eq]
   exact⟨⟨⟨⟨trivial,trivial⟩,hn⟩,hd⟩,trivial⟩
theorem extract_size (s:ByteArray)(a b:Nat):(s.extract a b).size≤s.size:=by
 rw[ByteArray.size_extract];omega
theorem Rt.bounds {s:ByteArray}{n d:Int}(h:Rt s n d)(hs:s.size≤1000):nd n≤1000∧nd d≤1000∧0<d:=by
 cases h with
 |whole=>exact⟨by have:=EJ n;omega,by have:=O6 (x:=1) (by decide);omega,by omega⟩
 |abv hk h1 h2 hn hd hg=>
  refine⟨?_, ?_,by omega⟩
  ·have e1:=EJ n;rw[←h1] at e1;exact Nat.le_trans e1 (Nat.le_trans (extract_size s _ _) hs)
  ·have e1:=EJ d;rw[←h2] at e1;exact Nat.le_trans e1 (Nat.le_trans (extract_size s _ _) hs)
def rC (s:ByteArray):Int×Int:=match fs (bytesOf s) with
 |none=>(numOf (bytesOf s),1)
 |some k=>(numOf (bytesOf (s.extract 0 k)),numOf (bytesOf (s.extract (k+1) s.size)))
theorem Rt.val {s:ByteArray}{n d:Int}(h:Rt s n d):rC s=(n,d):=by
 unfold rC
 cases h with
 |whole=>rw[T1,KP]
 |abv hk h1 h2 hn hd hg=>rw[hk];simp only[h1,h2,KP]
abbrev WR (n d:Int):(Bool×List Int×Unit)×(Bool×List Int×Unit)×Unit:=(W n,(W d,()))
theorem aeS:yk 1=some (W 1):=V8 (by omega) (by omega)
theorem aeT:Ln 1≤100000000000:=by have:=EK 1;have:=O6 (x:=1) (by decide);omega
theorem Qn {s:ByteArray}{n d:Int}(hs:s.size≤1000)(h:Rt s n d):eM s=some (WR n d,true):=by
 obtain⟨b1,b2,b3⟩:=h.bounds hs
 have l1:=EK n
 have l2:=EK d
 rw[Ct,yU,ahp (by omega),bS]
 cases h with
 |whole=>
  rw[T1]
  simp only
  rw[vA (by omega),T0,cT,bS,KP]
  simp only
  rw[Bool.not_true,cF,Bool.not_false,cT,aeS,bS]
 |abv hk h1 h2 hn hd hg=>
  rw[hk]
  simp only
  rw[h1,vA (by have:=EJ n;rw[←h1] at this ⊢;exact Nat.le_trans (extract_size s _ _) (by omega)),T0,cT,bS,KP]
  simp only
  rw[Bool.not_true,cF,cF,h2,vA (by rw[←h2];exact Nat.le_trans (extract_size s _ _) (by omega)),T0,cT,bS,KP]
  simp only
  rw[Bool.not_true,cF,xf,xg,bS]
  have hs0:¬abb n=0:=by unfold abb;split<;>(try split)<;>omega
  rw[jT hs0,aeS,bS]
  simp only[xf]
  rw[kb (by omega) aeT,bS,xe (by omega),TQ (by omega),GB (by omega) (by omega),bS,hg,bS]
  simp only[xf]
  have e1:((1:Nat):Int)=1:=rfl
  rw[e1,kb aeT aeT,bS,KK rfl,nE rfl]
theorem Wl {s:ByteArray}(hs:s.size≤1000)(h:tC s=false):∃j,eM s=some (j,false):=by
 rw[Ct,yU,ahp (by omega),bS]
 unfold tC at h
 cases hf:fs (bytesOf s) with
 |none=>
  rw[hf] at h
  simp only at h ⊢
  rw[vA (by omega),h,cF,bS]
  simp only
  rw[Bool.not_false,cT,aeS,bS]
  exact⟨_,rfl⟩
 |some k=>
  rw[hf] at h
  simp only at h ⊢
  have q1:=extract_size s 0 k
  have q2:=extract_size s (k+1) s.size
  rw[vA (by omega)]
  by_cases o1:gi (bytesOf (s.extract 0 k))=true
  ·rw[o1,cT,bS]
   simp only
   rw[Bool.not_true,cF,cF,vA (by omega)]
   by_cases o2:gi (bytesOf (s.extract (k+1) s.size))=true
   ·rw[o2,cT,bS]
    simp only
    have s1:=vB o1
    have s2:=vB o2
    rw[o1,o2] at h
    generalize numOf (bytesOf (s.extract 0 k))=n at h s1 ⊢
    generalize numOf (bytesOf (s.extract (k+1) s.size))=d at h s2 ⊢
    have b1:=EJ n
    have b2:=EJ d
    rw[←s1] at b1
    rw[←s2] at b2
    have l1:=EK n
    have l2:=EK d
    rw[Bool.not_true,cF,xf,xg,bS]
    by_cases hn:n=0
    ·rw[sm (by subst hn;rfl)];exact⟨_,rfl⟩
    ·have hs0:¬abb n=0:=by unfold abb;split<;>(try split)<;>omega
     rw[jT hs0,aeS,bS]
     simp only[xf]
     rw[kb (by omega) aeT,bS]
     by_cases hd:2≤d
     ·rw[xe (by omega),TQ (by omega),GB (by omega) (by omega),bS,bS]
      simp only[xf]
      have hg:¬Int.gcd n d=1:=fun e=>by
       rw[Kb hn,e,decide_eq_true hd] at h
       cases h
      have lg:Ln ((Int.gcd n d:Nat):Int)≤Ln n:=aiU (by
       have h1:Int.gcd n d ∣ n.natAbs:=Nat.gcd_dvd_left _ _
       simp only[Int.natAbs_natCast]
       exact Nat.le_of_dvd (by omega) h1)
      rw[kb (by omega) aeT,bS,BC (by unfold qA;split<;>(try split)<;>omega)]
      exact⟨_,rfl⟩
     ·rw[Ml (by unfold qA;split<;>(try split)<;>omega)];exact⟨_,rfl⟩
   ·have o2':gi (bytesOf (s.extract (k+1) s.size))=false:=by simpa using o2
    rw[o2',cF,bS]
    simp only
    rw[Bool.not_false,cT]
    exact⟨_,rfl⟩
  ·have o1':gi (bytesOf (s.extract 0 k))=false:=by simpa using o1
   rw[o1',cF,bS]
   simp only
   rw[Bool.not_false,cT,aeS,bS]
   exact⟨_,rfl⟩
theorem ai2 {n d:Int}(h1:nd n≤1000)(h2:nd d≤1000):na (WR n d)=some false:=by
 have l1:=EK n
 have l2:=EK d
 have e1:Wd n=false:=by unfold Wd;exact decide_eq_false (by omega)
 have e2:Wd d=false:=by unfold Wd;exact decide_eq_false (by omega)
 rw[Ea,yy]
 simp only[xf]
 rw[EF (by omega),bS,e1,cF,EF (by omega),bS,e2]
theorem T2 {s:ByteArray}(hs:s.size≤1000):uU s=some (tC s):=by
 rw[JA,E6,L9,Hn]
 cases h:tC s with
 |true=>
  obtain⟨n,d,hr⟩:=yL.1 h
  obtain⟨b1,b2,b3⟩:=hr.bounds hs
  rw[Qn hs hr,bS]
  simp only
  rw[cT]
  simp only[xf]
  rw[ai2 b1 b2,bS,bS]
  rfl
 |false=>
  obtain⟨j,hj⟩:=Wl hs h
  rw[hj,bS]
  simp only
  rw[cF,bS]
theorem abw {n d:Int}(hd:0<d):jO (WR n d)=some (W d):=by
 rw[FX,Av]
 simp only[xf]
 rw[xg,bS,jT (by unfold abb;split<;>(try split)<;>omega)]
theorem alj {n d m k:Int}(h1:nd n≤1000)(h2:nd d≤1000)(h3:nd m≤1000)(h4:nd k≤1000)(hd:0<d)(hk:0<k):pf (WR n d) (WR m k)=some (qA (n*k) (m*d)):=by
 have l1:=EK n
 have l2:=EK d
 have l3:=EK m
 have l4:=EK k
 have l5:=ag4 n k
 have l6:=ag4 m d
 rw[FR,Aq]
 simp only[xf]
 rw[abw hk,bS]
 simp only[xf]
 rw[Gz (by omega) (by omega),bS,abw hd,bS]
 simp only[xf]
 rw[Gz (by omega) (by omega),bS,kb (by omega) (by omega),bS]
theorem Qo {s:ByteArray}{z:Int}(h:gi (bytesOf s)=true)(e:numOf (bytesOf s)=z):s=gJ z:=by rw[←e];exact vB h
theorem ahq:bs [49]=gJ 1:=Qo rfl rfl
theorem anp:bs [50]=gJ 2:=Qo rfl rfl
theorem alk:bs [48]=gJ 0:=Qo rfl rfl
theorem ai3 {s:ByteArray}(hs:s.size≤1000):pj s=some (tC s):=by
 rw[F4,AB,Pa (by omega),bS]
 unfold tC
 cases hf:fs (bytesOf s) with
 |none=>
  simp only
  rw[Ql (show xi s by unfold xi;omega),bS]
  cases gi (bytesOf s) with
  |true=>rw[Bool.not_true,cF,Bool.not_false,cT]
  |false=>rw[Bool.not_false,cT]
 |some k=>
  have q1:=extract_size s 0 k
  have q2:=extract_size s (k+1) s.size
  simp only
  rw[Ql (show xi (s.extract 0 k) by unfold xi;omega),bS]
  cases o1:gi (bytesOf (s.extract 0 k)) with
  |false=>rw[Bool.not_false,cT];rfl
  |true=>
   rw[Bool.not_true,cF,cF,Ql (show xi (s.extract (k+1) s.size) by unfold xi;omega),bS]
   cases o2:gi (bytesOf (s.extract (k+1) s.size)) with
   |false=>rw[cF];rfl
   |true=>
    have s1:=vB o1
    have s2:=vB o2
    have b1:=EJ (numOf (bytesOf (s.extract 0 k)))
    have b2:=EJ (numOf (bytesOf (s.extract (k+1) s.size)))
    rw[←s1] at b1
    rw[←s2] at b2
    rw[cT]
    generalize numOf (bytesOf (s.extract 0 k))=n at s1 b1 ⊢
    generalize numOf (bytesOf (s.extract (k+1) s.size))=d at s2 b2 ⊢
    rw[s1,s2,alk,ahq,anp,KO]
    by_cases hn:n=0
    ·rw[decide_eq_true hn,Bool.not_true,cF,acY hn]
     simp
    ·rw[decide_eq_false hn,Bool.not_false,cT,Kb hn,Ki (BD (k:=1000) (by omega) (by omega)) (aho (by decide)),bS]
     by_cases hd:2≤d
     ·rw[tA (by unfold qA;split<;>(try split)<;>omega),ZK (BD (k:=1000) (by omega) (by omega)) (BD (k:=1000) (by omega) (by omega)),bS,KO,decide_eq_true hd]
      congr 1
      simp only[Bool.not_false,Bool.and_true,Bool.true_and]
      rw[Bool.eq_iff_iff,decide_eq_true_eq,beq_iff_eq]
      omega
     ·rw[sk (by rw[tN (by omega)];omega),decide_eq_false hd]
      simp
theorem aeU (l:List Int):(bo l).length≤l.length:=by
 unfold bo;split
 ·rw[List.length_tail];omega
 ·exact Nat.le_refl _
theorem R4 {s:ByteArray}(hs:s.size≤1000):jg s=some false:=by
 rw[ahj (show xi s by unfold xi;omega)]
 have:=aeU (bytesOf s)
 rw[aX] at this
 congr 1
 exact decide_eq_false (by omega)
theorem abx {s:ByteArray}(hs:s.size≤1000):lC s=some false:=by
 rw[CN,wC,Pa (by omega),bS]
 cases hf:fs (bytesOf s) with
 |none=>
  simp only
  have e:(bs [49]).size=1:=rfl
  rw[R4 hs,bS,cF,R4 (by rw[e];omega),bS]
 |some k=>
  have q1:=extract_size s 0 k
  have q2:=extract_size s (k+1) s.size
  simp only
  rw[R4 (by omega),bS,cF,R4 (by omega),bS]
theorem Nz {s:ByteArray}(hs:s.size≤1000):dd s=some (tC s):=by
 rw[AY,ur,abx hs,bS,Bool.not_false,cT,ai3 hs,bS]
theorem Rt.split {s:ByteArray}{n d:Int}(h:Rt s n d)(hs:s.size≤1000):∃b,bJ s=some (gJ n,gJ d,b):=by
 rw[Pa (by omega)]
 cases h with
 |whole=>rw[T1];exact⟨false,by simp only;rw[ahq]⟩
 |abv hk h1 h2 hn hd hg=>rw[hk];exact⟨true,by simp only[h1,h2]⟩
theorem Rt.ahr {s:ByteArray}{n d:Int}(h:Rt s n d):(s.toList==(bs [105,110,102]).toList)=false:=by
 rw[TR]
 refine decide_eq_false fun e=> ?_
 have h2:=yL.2 ⟨n,d,h⟩
 rw[e] at h2
 exact absurd h2 (by decide)
theorem Pb {a b:ByteArray}{n d m k:Int}(h:Rt a n d)(g:Rt b m k)(ha:a.size≤1000)(hb:b.size≤1000):bb a b=some (qA (n*k) (m*d)):=by
 obtain⟨a1,a2,a3⟩:=h.bounds ha
 obtain⟨b1,b2,b3⟩:=g.bounds hb
 obtain⟨x,hx⟩:=h.split ha
 obtain⟨y,hy⟩:=g.split hb
 have p1:=ahi n k
 have p2:=ahi m d
 rw[xF,qZ,h.ahr,cF,cF,g.ahr,cF,hx,bS,hy,bS]
 simp only
 rw[ahq,KO,KO]
 have Qm:((fB (gJ n) (gJ k)).bind fun r12=>(fB (gJ m) (gJ d)).bind fun r13=>(bN r12 r13).bind fun r14=>some r14)=some (qA (n*k) (m*d)):=by
  rw[Wk (BD (k:=1000) (by omega) (by omega)) (BD (k:=1000) (by omega) (by omega)),bS,Wk (BD (k:=1000) (by omega) (by omega)) (BD (k:=1000) (by omega) (by omega)),bS,Ki (BD (k:=3000) (by omega) (by omega)) (BD (k:=3000) (by omega) (by omega)),bS]
 by_cases h1:d=1
 ·rw[decide_eq_true h1,cT]
  by_cases h2:k=1
  ·rw[decide_eq_true h2,cT,Ki (BD (k:=1000) (by omega) (by omega)) (BD (k:=1000) (by omega) (by omega)),bS,h1,h2,Int.mul_one,Int.mul_one]
  ·rw[decide_eq_false h2,cF];exact Qm
 ·rw[decide_eq_false h1,cF];exact Qm
end Go.Proofs.YtofjebmoebhiiaaGreatDoor.Ev
namespace Go.Abs
abbrev Tm:=Int×Int×Unit
abbrev Tr2:=Int×(Int×Int×Unit)×Unit
theorem ZL {α:Type}{a:α}{r:List α}:idx (a::r) 0=some a:=rfl
theorem aeV {α:Type}{a:α}{r:List α}{n:Int}(h:n=((a::r).length:Int)):cut (a::r) 1 n=r:=by
 subst h;simp[cut]
theorem rD {α:Type}(d:α){l:List α}{k:Nat}(h:k<l.length):l.drop k=l.getD k d::l.drop (k+1):=by
 rw[List.drop_eq_getElem_cons h]
 simp[List.getD,h]
theorem adf {α β:Type}(d:α){xs:List α}{i:Int}{f:α→Option β}(h0:0≤i)(h:i<xs.length):(idx xs i).bind f=f (xs.getD i.toNat d):=by
 rw[acZ d h0 h];exact bS _ _
theorem da {α β:Type}(d:α){xs:List α}{k:Nat}{f:α→Option β}(h:k<xs.length):(idx xs (k:Int)).bind f=f (xs.getD k d):=by
 rw[acZ d (by omega) (by omega),Int.toNat_natCast];exact bS _ _
def cf:List Tm→Int→Int
 | [],_=>0
 |t::r,i=>if t.1=i then t.2.1 else cf r i
theorem T3 (i:Int):cf [] i=0:=rfl
theorem tP (t:Tm)(r:List Tm)(i:Int):cf (t::r) i=if t.1=i then t.2.1 else cf r i:=rfl
def Sr:Int→List Tm→Prop
 |_,[]=>True
 |lo,t::r=>lo<t.1∧Sr t.1 r
theorem Sr.mono {lo lo':Int}{l:List Tm}(h:Sr lo l)(g:lo'≤lo):Sr lo' l:=by
 cases l with
 |nil=>trivial
 |cons t r=>exact⟨by have:=h.1;omega,h.2⟩
theorem Sr.cf0:∀{l:List Tm} {lo i:Int},Sr lo l→i≤lo→cf l i=0
 | [],lo,i,h,hi=>rfl
 |t::r,lo,i,h,hi=>by
  have h1:=h.1
  rw[cf,if_neg (by omega)]
  exact Sr.cf0 h.2 (by omega)
theorem Sr.mem:∀{l:List Tm} {lo:Int},Sr lo l→∀t∈l,lo<t.1
 |u::r,lo,h,t,ht=>by
  rcases List.mem_cons.1 ht with rfl |ht
  ·exact h.1
  ·have:=Sr.mem h.2 t ht;have:=h.1;omega
structure Vc (p n:Int) (l:List Tm):Prop where
 s:Sr (-1) l
 r:∀t∈l,t.1<n∧1≤t.2.1∧t.2.1<p
def Cp (p:Int)(l:List Tm):Prop:=∀t∈l,1≤t.2.1∧t.2.1<p
theorem Vc.c {p n:Int}{l:List Tm}(h:Vc p n l):Cp p l:=fun t ht=>(h.r t ht).2
theorem Vc.nil {p n:Int}:Vc p n []:=⟨trivial,fun t ht=>by cases ht⟩
theorem Vc.mono {p n m:Int}{l:List Tm}(h:Vc p n l)(g:n≤m):Vc p m l:=⟨h.s,fun t ht=>by have:=h.r t ht;omega⟩
theorem T4 {p:Int}(hp:0<p):∀{l:List Tm},Cp p l→∀i,0≤cf l i∧cf l i<p
 | [],h,i=>⟨by simp[cf],by simpa [cf] using hp⟩
 |t::r,h,i=>by
  have h1:=h t (by simp)
  have h2:=T4 hp (l:=r) (fun u hu=>h u (by simp[hu])) i
  rw[cf];split
  ·omega
  ·exact h2
theorem ahs:∀{l:List Tm} {lo:Int},Sr lo l→∀t∈l,cf l t.1=t.2.1
 |u::r,lo,h,t,ht=>by
  rcases List.mem_cons.1 ht with rfl |ht
  ·rw[cf,if_pos rfl]
  ·have:=Sr.mem h.2 t ht
   rw[cf,if_neg (by omega)]
   exact ahs h.2 t ht
theorem Sr.ext:∀{a b:List Tm} {lo p:Int},Sr lo a→Sr lo b→Cp p a→Cp p b→(∀i,cf a i=cf b i)→a=b
 | [],[],_,_,_,_,_,_,_=>rfl
 | [],t::r,lo,p,ha,hb,ca,cb,h=>by
   have:=h t.1;rw[T3,tP,if_pos rfl] at this
   have h1:=cb t (by simp)
   omega
 |t::r,[],lo,p,ha,hb,ca,cb,h=>by
  have:=h t.1;rw[T3,tP,if_pos rfl] at this
  have h1:=ca t (by simp)
  omega
 |t::r,u::s,lo,p,ha,hb,ca,cb,h=>by
  have h1:=ca t (by simp)
  have h2:=cb u (by simp)
  have e:t.1=u.1:=by
   rcases Int.lt_trichotomy t.1 u.1 with hl |hl |hl
   ·have:=h t.1
    rw[cf,if_pos rfl,cf,if_neg (by omega),Sr.cf0 hb.2 (by omega)] at this
    omega
   ·exact hl
   ·have:=h u.1
    rw[cf,if_neg (by omega),Sr.cf0 ha.2 (by omega),cf,if_pos rfl] at this
    omega
  have e2:t.2.1=u.2.1:=by
   have:=h t.1
   rw[cf,if_pos rfl,cf,if_pos e.symm] at this
   exact this
  have e3:r=s:=by
   refine Sr.ext (lo:=t.1) ha.2 (by rw[e];exact hb.2) (fun x hx=>ca x (by simp[hx])) (fun x hx=>cb x (by simp[hx])) fun i=> ?_
   have:=h i
   rw[cf,cf] at this
   by_cases hi:t.1=i
   ·rw[Sr.cf0 ha.2 (by omega),Sr.cf0 hb.2 (by omega)]
   ·rw[if_neg hi,if_neg (by omega)] at this
    exact this
  obtain⟨t1,t2,t3⟩:=t
  obtain⟨u1,u2,u3⟩:=u
  simp only at e e2
  subst e e2 e3
  rfl
def mg:List Tm→List Tm→List Tr2
 | [],[]=>[]
 |a::r,[]=>(a.1,((a.2.1,((0:Int),())),()))::mg r []
 | [],b::s=>(b.1,(((0:Int),(b.2.1,())),()))::mg [] s
 |a::r,b::s=>if a.1<b.1 then (a.1,((a.2.1,((0:Int),())),()))::mg r (b::s)
  else if b.1<a.1 then (b.1,(((0:Int),(b.2.1,())),()))::mg (a::r) s
  else (a.1,((a.2.1,(b.2.1,())),()))::mg r s
termination_by a b=>a.length+b.length
def fl (p k:Int):List Tr2→List Tm
 | []=>[]
 |x::r=>if (x.2.1.1+k*x.2.1.2.1) % p≠0 then (x.1,((x.2.1.1+k*x.2.1.2.1) % p,()))::fl p k r else fl p k r
def Dx (p:Int)(a:List Tm)(k:Int)(b:List Tm):List Tm:=fl p k (mg a b)
theorem Pc {p k:Int}{x:Tr2}{r:List Tr2}{lo:Int}(hlo:lo<x.1)(hr:Sr x.1 (fl p k r)):
  Sr lo (fl p k (x::r))∧∀i,cf (fl p k (x::r)) i=if x.1=i then (x.2.1.1+k*x.2.1.2.1) % p else cf (fl p k r) i:=by
 rw[fl]
 split
 ·exact⟨⟨hlo,hr⟩,fun i=>by rw[cf]⟩
 ·rename_i h
  refine⟨hr.mono (by omega),fun i=> ?_⟩
  split
  ·rename_i e;rw[Sr.cf0 hr (by omega)];omega
  ·rfl
theorem ai4 {p k:Int}(hp:0<p):∀(a b:List Tm) (lo:Int),Sr lo a→Sr lo b→Cp p a→
  Sr lo (Dx p a k b)∧∀i,cf (Dx p a k b) i=(cf a i+k*cf b i) % p:=by
 intro a b
 induction a,b using mg.induct with
 |case1=>intro lo ha hb ca;exact⟨by unfold Dx;rw[mg];trivial,fun i=>by simp[Dx,mg,fl,cf]⟩
 |case2 a r ih=>
  intro lo ha hb ca
  obtain⟨h1,h2⟩:=ih a.1 ha.2 trivial fun t ht=>ca t (by simp[ht])
  unfold Dx at h1 h2 ⊢
  rw[mg]
  obtain⟨g1,g2⟩:=Pc (p:=p) (k:=k) (x:=(a.1,((a.2.1,((0:Int),())),()))) (lo:=lo) ha.1 h1
  refine⟨g1,fun i=> ?_⟩
  rw[g2,h2,cf]
  simp only[cf,Int.mul_zero,Int.add_zero]
  split<;>rfl
 |case3 b s ih=>
  intro lo ha hb ca
  obtain⟨h1,h2⟩:=ih b.1 trivial hb.2 fun t ht=>ca t ht
  unfold Dx at h1 h2 ⊢
  rw[mg]
  obtain⟨g1,g2⟩:=Pc (p:=p) (k:=k) (x:=(b.1,(((0:Int),(b.2.1,())),()))) (lo:=lo) hb.1 h1
  refine⟨g1,fun i=> ?_⟩
  rw[g2,h2]
  simp only[cf,Int.zero_add]
  split<;>rfl
 |case4 a r b s hlt ih=>
  intro lo ha hb ca
  obtain⟨h1,h2⟩:=ih a.1 ha.2 ⟨hlt,hb.2⟩ fun t ht=>ca t (by simp[ht])
  unfold Dx at h1 h2 ⊢
  rw[mg,if_pos hlt]
  obtain⟨g1,g2⟩:=Pc (p:=p) (k:=k) (x:=(a.1,((a.2.1,((0:Int),())),()))) (lo:=lo) ha.1 h1
  refine⟨g1,fun i=> ?_⟩
  rw[g2,h2,tP a r i]
  simp only[Int.mul_zero,Int.add_zero]
  split
  ·rename_i e;rw[Sr.cf0 (lo:=a.1) (l:=b::s) ⟨hlt,hb.2⟩ (by omega),Int.mul_zero,Int.add_zero]
  ·rfl
 |case5 a r b s hlt hgt ih=>
  intro lo ha hb ca
  obtain⟨h1,h2⟩:=ih b.1 ⟨hgt,ha.2⟩ hb.2 ca
  unfold Dx at h1 h2 ⊢
  rw[mg,if_neg hlt,if_pos hgt]
  obtain⟨g1,g2⟩:=Pc (p:=p) (k:=k) (x:=(b.1,(((0:Int),(b.2.1,())),()))) (lo:=lo) hb.1 h1
  refine⟨g1,fun i=> ?_⟩
  rw[g2,h2,tP b s i]
  simp only[Int.zero_add]
  split
  ·rename_i e;rw[Sr.cf0 (lo:=b.1) (l:=a::r) ⟨hgt,ha.2⟩ (by omega),Int.zero_add]
  ·rfl
 |case6 a r b s hlt hgt ih=>
  intro lo ha hb ca
  have e:a.1=b.1:=by omega
  obtain⟨h1,h2⟩:=ih a.1 ha.2 (by rw[e];exact hb.2) fun t ht=>ca t (by simp[ht])
  unfold Dx at h1 h2 ⊢
  rw[mg,if_neg hlt,if_neg hgt]
  obtain⟨g1,g2⟩:=Pc (p:=p) (k:=k) (x:=(a.1,((a.2.1,(b.2.1,())),()))) (lo:=lo) ha.1 h1
  refine⟨g1,fun i=> ?_⟩
  rw[g2,h2,cf,cf, ←e]
  split<;>rfl
theorem aby {p k:Int}(hp:0<p):∀{l:List Tr2} {t:Tm},t∈fl p k l→(1≤t.2.1∧t.2.1<p)∧∃x∈l,x.1=t.1
 |x::r,t,h=>by
  rw[fl] at h
  split at h
  ·rename_i hne
   rcases List.mem_cons.1 h with rfl |h
   ·have h1:=Int.emod_nonneg (x.2.1.1+k*x.2.1.2.1) (show p≠0 by omega)
    have h2:=Int.emod_lt_of_pos (x.2.1.1+k*x.2.1.2.1) hp
    exact⟨⟨by simp only;omega,h2⟩,x,by simp,rfl⟩
   ·obtain⟨h1,y,hy,e⟩:=aby hp h
    exact⟨h1,y,by simp[hy],e⟩
  ·obtain⟨h1,y,hy,e⟩:=aby hp h
   exact⟨h1,y,by simp[hy],e⟩
theorem alm:∀(a b:List Tm) (x:Tr2),x∈mg a b→(∃t∈a,t.1=x.1)∨∃t∈b,t.1=x.1:=by
 intro a b
 induction a,b using mg.induct with
 |case1=>intro x h;rw[mg] at h;cases h
 |case2 a r ih=>
  intro x h
  rw[mg] at h
  rcases List.mem_cons.1 h with rfl |h
  ·exact .inl ⟨a,by simp,rfl⟩
  ·rcases ih x h with ⟨t,ht,e⟩ | ⟨t,ht,e⟩
   ·exact .inl ⟨t,by simp[ht],e⟩
   ·exact .inr ⟨t,ht,e⟩
 |case3 b s ih=>
  intro x h
  rw[mg] at h
  rcases List.mem_cons.1 h with rfl |h
  ·exact .inr ⟨b,by simp,rfl⟩
  ·rcases ih x h with ⟨t,ht,e⟩ | ⟨t,ht,e⟩
   ·exact .inl ⟨t,ht,e⟩
   ·exact .inr ⟨t,by simp[ht],e⟩
 |case4 a r b s hlt ih=>
  intro x h
  rw[mg,if_pos hlt] at h
  rcases List.mem_cons.1 h with rfl |h
  ·exact .inl ⟨a,by simp,rfl⟩
  ·rcases ih x h with ⟨t,ht,e⟩ | ⟨t,ht,e⟩
   ·exact .inl ⟨t,by simp[ht],e⟩
   ·exact .inr ⟨t,ht,e⟩
 |case5 a r b s hlt hgt ih=>
  intro x h
  rw[mg,if_neg hlt,if_pos hgt] at h
  rcases List.mem_cons.1 h with rfl |h
  ·exact .inr ⟨b,by simp,rfl⟩
  ·rcases ih x h with ⟨t,ht,e⟩ | ⟨t,ht,e⟩
   ·exact .inl ⟨t,ht,e⟩
   ·exact .inr ⟨t,by simp[ht],e⟩
 |case6 a r b s hlt hgt ih=>
  intro x h
  rw[mg,if_neg hlt,if_neg hgt] at h
  rcases List.mem_cons.1 h with rfl |h
  ·exact .inl ⟨a,by simp,rfl⟩
  ·rcases ih x h with ⟨t,ht,e⟩ | ⟨t,ht,e⟩
   ·exact .inl ⟨t,by simp[ht],e⟩
   ·exact .inr ⟨t,by simp[ht],e⟩
theorem adg {p k n:Int}(hp:0<p){a b:List Tm}(ha:Vc p n a)(hb:Vc p n b):Vc p n (Dx p a k b)∧∀i,cf (Dx p a k b) i=(cf a i+k*cf b i) % p:=by
 obtain⟨h1,h2⟩:=ai4 (k:=k) hp a b (-1) ha.s hb.s ha.c
 refine⟨⟨h1,fun t ht=> ?_⟩,h2⟩
 obtain⟨g1,x,hx,e⟩:=aby hp ht
 refine⟨?_,g1⟩
 rcases alm a b x hx with ⟨u,hu,e'⟩ | ⟨u,hu,e'⟩
 ·have:=(ha.r u hu).1;omega
 ·have:=(hb.r u hu).1;omega
end Go.Abs
namespace Go.Proofs.YtofjebmoebhiiaaGreatDoor.Ev
open Go.Abs Go.IntWalk
theorem GC {α:Type}(a:α)(r:List α):(((a::r).length:Nat):Int)=(r.length:Int)+1:=by simp
theorem ZM:∀(t t2:List Tm) (trace:List Tr2),dQ t t2 trace=some (trace++mg t t2):=by
 intro t t2
 induction t,t2 using mg.induct with
 |case1=>
  intro trace
  rw[dy,cW,List.length_nil,cM (by omega),cM (by omega),mg,List.append_nil]
 |case2 a r ih=>
  intro trace
  rw[dy,cW,List.length_nil,GC]
  rw[cy (by omega),sm (by omega),ZL,bS,bS,Gw (by omega) (by omega) (Int.le_of_eq (GC _ _).symm),aeV (GC _ _).symm,ih,mg,List.append_assoc]
  rfl
 |case3 b s ih=>
  intro trace
  rw[dy,cW,List.length_nil,GC]
  rw[cM (by omega),cy (by omega),jT (by omega),cM (by omega),sm (by omega),ZL,bS,bS,Gw (by omega) (by omega) (Int.le_of_eq (GC _ _).symm),aeV (GC _ _).symm,ih,mg,List.append_assoc]
  rfl
 |case4 a r b s hlt ih=>
  intro trace
  rw[dy,cW,GC,GC]
  rw[cy (by omega),jT (by omega),cy (by omega),ZL,bS,ZL,bS,ak hlt,bS,bS,Gw (by omega) (by omega) (Int.le_of_eq (GC _ _).symm),aeV (GC _ _).symm,ih,mg,if_pos hlt,List.append_assoc]
  rfl
 |case5 a r b s hlt hgt ih=>
  intro trace
  rw[dy,cW,GC,GC]
  rw[cy (by omega),jT (by omega),cy (by omega),ZL,bS,ZL,bS,ai hlt,jT (by omega),bS,bS,ak hgt,bS,bS,Gw (by omega) (by omega) (Int.le_of_eq (GC _ _).symm),aeV (GC _ _).symm,ih,mg,if_neg hlt,if_pos hgt,List.append_assoc]
  rfl
 |case6 a r b s hlt hgt ih=>
  intro trace
  rw[dy,cW,GC,GC]
  rw[cy (by omega),jT (by omega),cy (by omega),ZL,bS,ZL,bS,ai hlt,jT (by omega),bS,bS,ai hgt,bS,bS,bS,Gw (by omega) (by omega) (Int.le_of_eq (GC _ _).symm),Gw (by omega) (by omega) (Int.le_of_eq (GC _ _).symm),aeV (GC _ _).symm,aeV (GC _ _).symm,ih,mg,if_neg hlt,if_neg hgt,List.append_assoc]
  rfl
theorem Qp {p k:Int}(hp:0<p∧p≤251)(hk:0≤k∧k<p):∀(rest:List Tr2) (row:List Tm),(∀x∈rest,(0≤x.2.1.1∧x.2.1.1<p)∧0≤x.2.1.2.1∧x.2.1.2.1<p)→row.length+rest.length≤1000000000→
  iL row p k rest=some (row++fl p k rest)
 | [],row,h,hl=>by
   rw[vY,rT,fl,List.append_nil]
 |x::r,row,h,hl=>by
  obtain⟨⟨h1,h2⟩,h3,h4⟩:=h x (by simp)
  have hm:0≤k*x.2.1.2.1∧k*x.2.1.2.1≤251*251:=⟨Int.mul_nonneg (by omega) (by omega),Int.mul_le_mul (by omega) (by omega) (by omega) (by omega)⟩
  rw[vY,rT]
  simp only
  rw[i64_in (k*x.2.1.2.1) (by omega),i64_in _ (by omega),lZ (by omega),bP (by omega),fl]
  by_cases hz:(x.2.1.1+k*x.2.1.2.1) % p=0
  ·rw[nE hz,if_neg (by omega)]
   exact Qp hp hk r row (fun y hy=>h y (by simp[hy])) (by simp at hl;omega)
  ·rw[BC hz,if_pos hz,iQ (by omega) (by simp at hl;omega),Qp hp hk r _ (fun y hy=>h y (by simp[hy])) (by simp at hl ⊢;omega),List.append_assoc]
   rfl
theorem aht {p:Int}(hp:0<p):∀(a b:List Tm),Cp p a→Cp p b→∀x∈mg a b,(0≤x.2.1.1∧x.2.1.1<p)∧0≤x.2.1.2.1∧x.2.1.2.1<p:=by
 intro a b
 induction a,b using mg.induct with
 |case1=>intro ha hb x h;rw[mg] at h;cases h
 |case2 a r ih=>
  intro ha hb x h
  rw[mg] at h
  rcases List.mem_cons.1 h with rfl |h
  ·have:=ha a (by simp);simp only;omega
  ·exact ih (fun t ht=>ha t (by simp[ht])) hb x h
 |case3 b s ih=>
  intro ha hb x h
  rw[mg] at h
  rcases List.mem_cons.1 h with rfl |h
  ·have:=hb b (by simp);simp only;omega
  ·exact ih ha (fun t ht=>hb t (by simp[ht])) x h
 |case4 a r b s hlt ih=>
  intro ha hb x h
  rw[mg,if_pos hlt] at h
  rcases List.mem_cons.1 h with rfl |h
  ·have:=ha a (by simp);simp only;omega
  ·exact ih (fun t ht=>ha t (by simp[ht])) hb x h
 |case5 a r b s hlt hgt ih=>
  intro ha hb x h
  rw[mg,if_neg hlt,if_pos hgt] at h
  rcases List.mem_cons.1 h with rfl |h
  ·have:=hb b (by simp);simp only;omega
  ·exact ih ha (fun t ht=>hb t (by simp[ht])) x h
 |case6 a r b s hlt hgt ih=>
  intro ha hb x h
  rw[mg,if_neg hlt,if_neg hgt] at h
  rcases List.mem_cons.1 h with rfl |h
  ·have h1:=ha a (by simp);have h2:=hb b (by simp);simp only;omega
  ·exact ih (fun t ht=>ha t (by simp[ht])) (fun t ht=>hb t (by simp[ht])) x h
theorem aeW:∀(a b:List Tm),(mg a b).length≤a.length+b.length:=by
 intro a b
 induction a,b using mg.induct with
 |case1=>rw[mg];simp
 |case2 a r ih=>rw[mg];simp only[List.length_cons] at ih ⊢;omega
 |case3 b s ih=>rw[mg];simp only[List.length_cons] at ih ⊢;omega
 |case4 a r b s hlt ih=>rw[mg,if_pos hlt];simp only[List.length_cons] at ih ⊢;omega
 |case5 a r b s hlt hgt ih=>rw[mg,if_neg hlt,if_pos hgt];simp only[List.length_cons] at ih ⊢;omega
 |case6 a r b s hlt hgt ih=>rw[mg,if_neg hlt,if_neg hgt];simp only[List.length_cons] at ih ⊢;omega
theorem T5 {p k:Int}(hp:0<p∧p≤251)(hk:0≤k∧k<p){a b:List Tm}(ha:Cp p a)(hb:Cp p b)(hl:a.length+b.length≤1000000000):uY p a k b=some (Dx p a k b):=by
 rw[Ju,E0,FP,Ao,bS,Cn,vZ,ZM,bS]
 have:=aeW a b
 rw[List.nil_append,Qp hp hk _ _ (aht hp.1 a b ha hb) (by simp;omega)]
 rfl
def ob:Option Int→Int→Bool
 |none,_=>false
 |some q,x=>decide (x≤q)
def Mp (p:Int):Option Int→List Tm→Int
 |_,[]=>0
 |q,t::r=>if t.1<0∨t.1≥1024∨t.2.1<1∨t.2.1≥p then 1 else if ob q t.1=true then 6 else Mp p (some t.1) r
abbrev mD:Tm:=(0,(0,()))
def prev (c:List Tm):Nat→Option Int
 |0=>none
 |i+1=>some (c.getD i mD).1
theorem ZN {p:Int}{c:List Tm}(hl:c.length≤1000000000):∀(m i:Nat),m+i=c.length→gG p c c (c.length:Int) i=some (Mp p (prev c i) (c.drop i)):=by
 intro m
 induction m with
 |zero=>intro i hi;rw[uc,qu,ai (by omega),List.drop_eq_nil_of_le (by omega)];rfl
 |succ m ih=>
  intro i hi
  rw[uc,qu,ak (by omega),da mD (by omega),rD mD (by omega),Mp]
  have e1:IntKind.wrap .i64 ((i:Int)+1)=((i+1:Nat):Int):=by rw[i64_in _ (by omega)];omega
  have tS:=ih (i+1) (by omega)
  have ep:prev c (i+1)=some (c.getD i mD).1:=rfl
  rw[ep] at tS
  generalize c.getD i mD=t at tS ⊢
  by_cases h1:t.1<0
  ·rw[ak h1,if_pos (.inl h1)]
  ·rw[ai h1]
   by_cases h2:t.1≥1024
   ·rw[tA h2,if_pos (.inr (.inl h2))]
   ·rw[sk h2]
    by_cases h3:t.2.1<1
    ·rw[ak h3,if_pos (.inr (.inr (.inl h3)))]
    ·rw[ai h3]
     by_cases h4:t.2.1≥p
     ·rw[tA h4,if_pos (.inr (.inr (.inr h4)))]
     ·rw[sk h4,if_neg (by omega),e1,tS]
      cases i with
      |zero=>rw[cM (by omega),if_neg (by intro h;cases h)]
      |succ j=>
       have e2:IntKind.wrap .i64 (((j+1:Nat):Int) - 1)=(j:Int):=by rw[i64_in _ (by omega)];omega
       rw[cy (by omega),e2,da mD (by omega)]
       by_cases h5:t.1≤(c.getD j mD).1
       ·rw[Ml h5,if_pos (show ob (prev c (j+1)) t.1=true from decide_eq_true h5)]
       ·rw[TQ h5,if_neg (by intro h;exact h5 (of_decide_eq_true h))]
theorem XG {p:Int}{c:List Tm}(hl:c.length≤1000000000):∀(m i:Nat),m+i=c.length→fy p c i=some (Mp p (prev c i) (c.drop i)):=by
 intro m
 induction m with
 |zero=>intro i hi;rw[vm,oV,ai (by omega),List.drop_eq_nil_of_le (by omega)];rfl
 |succ m ih=>
  intro i hi
  have hb:∀{β:Type} {f:Tm→Option β},(idx c (i:Int)).bind f=f (c.getD i mD):=da mD (by omega)
  rw[vm,oV,ak (by omega),hb,hb,hb,hb,hb,rD mD (by omega),Mp]
  have e1:IntKind.wrap .i64 ((i:Int)+1)=((i+1:Nat):Int):=by rw[i64_in _ (by omega)];omega
  have tS:=ih (i+1) (by omega)
  have ep:prev c (i+1)=some (c.getD i mD).1:=rfl
  rw[ep] at tS
  generalize c.getD i mD=t at tS ⊢
  by_cases h1:t.1<0
  ·rw[ak h1,if_pos (.inl h1)]
  ·rw[ai h1]
   by_cases h2:t.1≥1024
   ·rw[tA h2,if_pos (.inr (.inl h2))]
   ·rw[sk h2]
    by_cases h3:t.2.1<1
    ·rw[ak h3,if_pos (.inr (.inr (.inl h3)))]
    ·rw[ai h3]
     by_cases h4:t.2.1≥p
     ·rw[tA h4,if_pos (.inr (.inr (.inr h4)))]
     ·rw[sk h4,if_neg (by omega),e1,tS]
      cases i with
      |zero=>rw[cM (by omega),if_neg (by intro h;cases h)]
      |succ j=>
       have e2:IntKind.wrap .i64 (((j+1:Nat):Int) - 1)=(j:Int):=by rw[i64_in _ (by omega)];omega
       rw[cy (by omega),e2,da mD (by omega)]
       by_cases h5:t.1≤(c.getD j mD).1
       ·rw[Ml h5,if_pos (show ob (prev c (j+1)) t.1=true from decide_eq_true h5)]
       ·rw[TQ h5,if_neg (by intro h;exact h5 (of_decide_eq_true h))]
def UR (p:Int)(c:List Tm):Int:=Mp p none c
theorem abz {p:Int}{c:List Tm}(hl:c.length≤1000000000):qq p c=some (UR p c):=by
 rw[JO,Bk]
 exact XG hl c.length 0 (by omega)
theorem ZO {p:Int}:∀{c:List Tm} {q:Option Int},Mp p q c=0→(∀t∈c,0≤t.1∧t.1<1024∧1≤t.2.1∧t.2.1<p)∧Sr (q.getD (-1)) c
 | [],q,h=>⟨fun t ht=>(by cases ht),trivial⟩
 |t::r,q,h=>by
  rw[Mp] at h
  split at h
  ·cases h
  ·rename_i h1
   split at h
   ·cases h
   ·rename_i h2
    obtain⟨g1,g2⟩:=ZO h
    refine⟨fun u hu=> ?_, ?_,g2⟩
    ·rcases List.mem_cons.1 hu with rfl |hu
     ·omega
     ·exact g1 u hu
    ·cases q with
     |none=>simp only[Option.getD_none];omega
     |some q=>
      simp only[Option.getD_some]
      have:¬t.1≤q:=fun g=>h2 (decide_eq_true g)
      omega
theorem ZP {p:Int}:∀{c:List Tm} {q:Option Int},(∀t∈c,0≤t.1∧t.1<1024∧1≤t.2.1∧t.2.1<p)→Sr (q.getD (-1)) c→Mp p q c=0
 | [],q,h,g=>rfl
 |t::r,q,h,g=>by
  have h1:=h t (by simp)
  have h2:=g.1
  rw[Mp,if_neg (by omega),if_neg (by
   cases q with
   |none=>intro h;cases h
   |some q=>simp only[Option.getD_some] at h2;intro h;have:=of_decide_eq_true h;omega)]
  exact ZP (q:=some t.1) (fun u hu=>h u (by simp[hu])) g.2
theorem Kj {p:Int}{c:List Tm}:UR p c=0↔Vc p 1024 c:=by
 constructor
 ·intro h
  obtain⟨g1,g2⟩:=ZO h
  exact⟨g2,fun t ht=>by have:=g1 t ht;omega⟩
 ·intro h
  refine ZP (fun t ht=> ?_) h.s
  have h1:=h.r t ht
  have h2:=Sr.mem h.s t ht
  omega
end Go.Proofs.YtofjebmoebhiiaaGreatDoor.Ev
namespace Go.Proofs.YtofjebmoebhiiaaGreatDoor.Ev
open Go.Abs Go.IntWalk
def prB (p:Nat):Bool:=Nat.ble 2 p&&Nat.ble p 251&&(List.range 14).all fun d=> !(p % (d+2)==0)||p==d+2
def Pr (p:Int):Prop:=2≤p∧p≤251∧prB p.toNat=true
instance (p:Int):Decidable (Pr p):=by unfold Pr;infer_instance
theorem adh {α:Type}{f g:Nat→α}{n:Nat}(h:(List.range n).map f=(List.range n).map g){i:Nat}(hi:i<n):f i=g i:=by
 have:=congrArg (fun l=>l[i]?) h
 simpa [hi] using this
theorem ZQ:(List.range 250).map (fun i=>wY 400 ((i+2:Nat):Int))=(List.range 250).map fun i=>some (prB (i+2)):=by kernel_rfl
theorem XI:(List.range 250).map (fun i=>uO 400 ((i+2:Nat):Int))=(List.range 250).map fun i=>some (prB (i+2)):=by kernel_rfl
theorem ahu {i:Nat}(hi:i<250):decide (Pr ((i+2:Nat):Int))=prB (i+2):=by
 rw[Bool.eq_iff_iff,decide_eq_true_eq]
 unfold Pr
 rw[Int.toNat_natCast]
 exact⟨fun h=>h.2.2,fun h=>⟨by omega,by omega,h⟩⟩
theorem abA {p:Int}(hp:p≤1∨251<p):∀(m t:Nat),m+t=16→jM p t=some false:=by
 intro m
 induction m with
 |zero=>
  intro t ht
  rw[yq,tJ,ai (by omega)]
  rcases hp with h |h
  ·rw[cM (by omega)]
  ·rw[cy (by omega),agX (by omega)]
 |succ m ih=>
  intro t ht
  have e1:IntKind.wrap .i64 ((t:Int)+1)=((t+1:Nat):Int):=by rw[i64_in _ (by omega)];omega
  rw[yq,tJ,ak (by omega),e1,ih (t+1) (by omega)]
  by_cases h:(t:Int)>1
  ·rw[cy h,lZ (by omega)]
   cases (p.tmod t==0)<;>cases (p != (t:Int))<;>rfl
  ·rw[cM h]
theorem Fl (p:Int):mf p=some (decide (Pr p)):=by
 by_cases h:2≤p∧p≤251
 ·obtain⟨i,hi⟩:=Int.eq_ofNat_of_zero_le (show 0≤p - 2 by omega)
  have e:p=((i+2:Nat):Int):=by omega
  subst e
  have:=adh ZQ (show i<250 by omega)
  rw[y8] at this
  rw[this,ahu (by omega)]
 ·have hf:decide (Pr p)=false:=decide_eq_false fun g=>h ⟨g.1,g.2.1⟩
  rw[L6,Hh,hf]
  exact abA (by omega) 16 0 rfl
theorem Wm (p:Int):ef p=some (decide (Pr p)):=by
 by_cases h:2≤p∧p≤251
 ·obtain⟨i,hi⟩:=Int.eq_ofNat_of_zero_le (show 0≤p - 2 by omega)
  have e:p=((i+2:Nat):Int):=by omega
  subst e
  have:=adh XI (show i<250 by omega)
  rw[Bm] at this
  rw[this,ahu (by omega)]
 ·have hf:decide (Pr p)=false:=decide_eq_false fun g=>h ⟨g.1,g.2.1⟩
  rw[Bh,uN,hf,wQ,pZ]
  by_cases h1:2<p
  ·rw[ak h1,TQ (by omega),tA (by omega),agX (by omega)]
  ·rw[ai h1,sk (by omega)]
theorem ai5 {p a:Int}(hp:2≤p∧p≤251):ed p a=some (a % p):=by
 have h1:=Int.tmod_lt_of_pos a (show 0<p by omega)
 have h2:=Int.lt_tmod_of_pos a (show 0<p by omega)
 rw[Co,wa,lZ (by omega),lZ (by omega),i64_in _ (by omega),bP (by omega),Int.add_emod_right]
 congr 1
 rw[Int.tmod_def,Int.sub_mul_emod_self_left]
theorem ZR {p:Int}(hp:Pr p)(a:Int):s8 p a=some (a % p):=by
 rw[QV,MM,Tz,PX,Fl,bS,decide_eq_true hp,Bool.not_true,cF,bS,nE rfl,ai5 ⟨hp.1,hp.2.1⟩,bS]
def iv (p a:Int):Int:=((a.toNat^(p.toNat - 2) % p.toNat:Nat):Int)
theorem ahv:((List.range 252).all fun p=> !(prB p)||(List.range p).all fun a=>a==0||a*(a^(p - 2) % p) % p==1)=true:=by kernel_rfl
theorem abB {p a:Int}(hp:Pr p)(ha:1≤a∧a<p):a*iv p a % p=1:=by
 obtain⟨h1,h2,h3⟩:=hp
 have h:=List.all_eq_true.1 ahv p.toNat (List.mem_range.2 (by omega))
 rw[h3,Bool.not_true,Bool.false_or] at h
 have h:=List.all_eq_true.1 h a.toNat (List.mem_range.2 (by omega))
 rw[Bool.or_eq_true] at h
 rcases h with h |h
 ·have:=beq_iff_eq.1 h;omega
 ·have h:=beq_iff_eq.1 h
  unfold iv
  have e1:(a.toNat:Int)=a:=by omega
  have e2:(p.toNat:Int)=p:=by omega
  have h':((a.toNat*(a.toNat^(p.toNat - 2) % p.toNat) % p.toNat:Nat):Int)=1:=by rw[h];rfl
  rw[Int.natCast_emod,Int.natCast_mul,e1,e2] at h'
  exact h'
theorem ZS {p a:Int}(hp:Pr p)(ha:1≤a∧a<p):1≤iv p a∧iv p a<p:=by
 have h:=abB hp ha
 obtain⟨h1,h2,h3⟩:=hp
 have h4:iv p a<p:=by
  unfold iv
  have:=Nat.mod_lt (a.toNat^(p.toNat - 2)) (show 0<p.toNat by omega)
  omega
 have h5:0≤iv p a:=by unfold iv;omega
 refine⟨?_,h4⟩
 by_cases h0:iv p a=0
 ·rw[h0,Int.mul_zero,Int.zero_emod] at h;omega
 ·omega
theorem XJ {p a:Int}(hp:2≤p∧p≤251)(ha:1≤a∧a<p){w:Int}(hw:1≤w∧w<p)(hm:a*w % p=1)(hu:∀b,1≤b→b<p→a*b % p=1→b=w):∀(m:Nat) (b:Int),1≤b→b≤w→w - b=m→eT p a b=some w:=by
 intro m
 induction m with
 |zero=>
  intro b h1 h2 h3
  have:b=w:=by omega
  subst this
  have hb:0≤a*b∧a*b≤251*251:=⟨Int.mul_nonneg (by omega) (by omega),Int.mul_le_mul (by omega) (by omega) (by omega) (by omega)⟩
  rw[tq,nA,ak (by omega),lZ (by omega),i64_in _ (by omega),bP (by omega),sm hm]
 |succ m ih=>
  intro b h1 h2 h3
  have hb:0≤a*b∧a*b≤251*251:=⟨Int.mul_nonneg (by omega) (by omega),Int.mul_le_mul (by omega) (by omega) (by omega) (by omega)⟩
  rw[tq,nA,ak (by omega),lZ (by omega),i64_in (a*b) (by omega),bP (by omega),jT (fun e=>by have:=hu b h1 (by omega) e;omega),i64_in _ (by omega)]
  exact ih (b+1) (by omega) (by omega) (by omega)
theorem aeX {p a b w:Int}(hp:2≤p)(hb:0≤b∧b<p)(hw:0≤w∧w<p)(h1:a*b % p=1)(h2:a*w % p=1):b=w:=by
 have e1:b*(a*w) % p=b:=by
  rw[Int.mul_emod,h2,Int.mul_one,Int.emod_emod_of_dvd _ (Int.dvd_refl p),Int.emod_eq_of_lt hb.1 hb.2]
 have e2:w*(a*b) % p=w:=by
  rw[Int.mul_emod,h1,Int.mul_one,Int.emod_emod_of_dvd _ (Int.dvd_refl p),Int.emod_eq_of_lt hw.1 hw.2]
 have e3:b*(a*w)=w*(a*b):=by
  rw[←Int.mul_assoc,Int.mul_comm b a,Int.mul_assoc,Int.mul_comm b w, ←Int.mul_assoc,Int.mul_comm a w,Int.mul_assoc]
 rw[←e1,e3,e2]
theorem abC {p a:Int}(hp:Pr p)(ha:1≤a∧a<p):nP p a=some (iv p a):=by
 have hr:=ZS hp ha
 rw[IC,zM]
 refine XJ ⟨hp.1,hp.2.1⟩ ha hr (abB hp ha) (fun b h1 h2 h3=>aeX hp.1 (by omega) (by omega) h3 (abB hp ha)) (iv p a - 1).toNat 1 (by omega) (by omega) (by omega)
theorem AH {p:Int}(hp:Pr p){c:List Tm}(hl:c.length≤1000000000):lH p c=some (UR p c):=by
 rw[HS,Ck,Fl,bS,decide_eq_true hp,Bool.not_true,cF]
 exact ZN hl c.length 0 (by omega)
theorem US {p k:Int}(hp:Pr p){a b:List Tm}(ha:Vc p 1024 a)(hb:Vc p 1024 b)(hla:a.length≤100000000)(hlb:b.length≤100000000):je p a k b=some (Dx p a (k % p) b,0):=by
 have h0:∀{x y:List Tm},([x,y]:List (List Tm)).length=2:=rfl
 rw[L5,Hg,Cm,vX,h0,kI,iP,ak (by omega)]
 have i0:idx ([a,b]:List (List Tm)) 0=some a:=rfl
 have i1:idx ([a,b]:List (List Tm)) 1=some b:=rfl
 have w1:IntKind.wrap .i64 ((0:Int)+1)=1:=rfl
 have w2:IntKind.wrap .i64 ((1:Int)+1)=2:=rfl
 rw[i0,bS,AH hp (by omega),bS,Kj.2 ha,nE rfl,w1,kI,iP,ak (by omega),i1,bS,AH hp (by omega),bS,Kj.2 hb,nE rfl,w2,kI,iP,ai (by omega),bS,nE rfl,ZR hp,bS]
 have h1:=Int.emod_nonneg k (show p≠0 by have:=hp.1;omega)
 have h2:=Int.emod_lt_of_pos k (show 0<p by have:=hp.1;omega)
 rw[T5 ⟨by have:=hp.1;omega,hp.2.1⟩ ⟨h1,h2⟩ ha.c hb.c (by omega),bS]
end Go.Proofs.YtofjebmoebhiiaaGreatDoor.Ev
namespace Go.Abs
abbrev Cl:=Int×ByteArray×List Tm×Unit
abbrev jU:Cl:=(0,(ByteArray.empty,([],())))
theorem Ac {l:List Int}{k j:Nat}{v:Int}:(l.set k v).getD j 0=if k=j∧k<l.length then v else l.getD j 0:=by
 simp only[List.getD,List.getElem?_set]
 by_cases h:k=j
 ·subst h
  by_cases hk:k<l.length
  ·simp[hk]
  ·simp[hk]
 ·simp[h]
theorem Dy (n j:Nat):(List.replicate n (0:Int)).getD j 0=0:=by
 simp only[List.getD,List.getElem?_replicate];split<;>rfl
structure Vr (n:Nat) (l:List Tm) (v:List Int):Prop where
 len:v.length=n
 at_:∀j:Nat,j<n→v.getD j 0=cf l j
def l8 (out:List Int):List Tm→List Int
 | []=>out
 |t::r=>l8 (out.set t.1.toNat t.2.1) r
theorem NA:∀(l:List Tm) (out:List Int),(l8 out l).length=out.length
 | [],out=>rfl
 |t::r,out=>by rw[l8,NA r];simp
theorem T6 {p:Int}:∀{l:List Tm} {lo:Int} {out:List Int} {j:Nat},Sr lo l→ -1≤lo→Cp p l→(∀t∈l,t.1<out.length)→(l8 out l).getD j 0=if cf l j=0 then out.getD j 0 else cf l j
 | [],lo,out,j,h,h0,hc,hn=>by rw[l8,T3,if_pos rfl]
 |t::r,lo,out,j,h,h0,hc,hn=>by
  have h1:=h.1
  have h2:=hn t (by simp)
  have h3:=hc t (by simp)
  rw[l8,T6 (lo:=t.1) (p:=p) h.2 (by omega) (fun u hu=>hc u (by simp[hu])) (fun u hu=>by rw[List.length_set];exact hn u (by simp[hu])),Ac,tP]
  by_cases e:t.1=j
  ·rw[if_pos e,Sr.cf0 h.2 (by omega),if_pos rfl,if_pos (by omega),if_neg (by omega)]
  ·rw[if_neg e,if_neg (show ¬(t.1.toNat=j∧t.1.toNat<out.length) by omega)]
def NG (i:Nat):List Int→List Tm
 | []=>[]
 |x::r=>if x≠0 then ((i:Int),(x,()))::NG (i+1) r else NG (i+1) r
theorem adi:∀{v:List Int} {i:Nat},NG i v=[]↔∀j:Nat,v.getD j 0=0
 | [],i=>by simp[NG]
 |x::r,i=>by
  rw[NG]
  split
  ·rename_i h
   constructor
   ·intro e;cases e
   ·intro g;exact absurd (g 0) (by simpa using h)
  ·rename_i h
   have h:x=0:=by omega
   rw[adi]
   constructor
   ·intro g j
    cases j with
    |zero=>simpa using h
    |succ j=>simpa using g j
   ·intro g j;simpa using g (j+1)
theorem abD:∀(v:List Int) (i:Nat) (lo:Int),lo<i→Sr lo (NG i v)
 | [],i,lo,h=>trivial
 |x::r,i,lo,h=>by
  rw[NG];split
  ·exact⟨h,abD r (i+1) i (by omega)⟩
  ·exact abD r (i+1) lo (by omega)
theorem XK:∀{v:List Int} {i:Nat} {t:Tm},t∈NG i v→(i:Int)≤t.1∧t.1<i+v.length∧t.2.1∈v∧t.2.1≠0
 |x::r,i,t,h=>by
  rw[NG] at h
  split at h
  ·rename_i hx
   rcases List.mem_cons.1 h with rfl |h
   ·exact⟨by simp,by simp;omega,by simp,hx⟩
   ·have:=XK h
    exact⟨by omega,by simp only[List.length_cons];omega,by simp[this.2.2.1],this.2.2.2⟩
  ·have:=XK h
   exact⟨by omega,by simp only[List.length_cons];omega,by simp[this.2.2.1],this.2.2.2⟩
theorem T7:∀(v:List Int) (i:Nat),(NG i v).length≤v.length
 | [],i=>by simp[NG]
 |x::r,i=>by rw[NG];have:=T7 r (i+1);split<;>simp<;>omega
def adL (p:Int)(out:List Int)(c:Int):List Tm→List Int
 | []=>out
 |u::r=>adL p (out.set u.1.toNat ((out.getD u.1.toNat 0+c*u.2.1) % p)) c r
theorem NB {p c:Int}:∀(l:List Tm) (out:List Int),(adL p out c l).length=out.length
 | [],out=>rfl
 |t::r,out=>by rw[adL,NB r];simp
def Rs (p:Int)(out:List Int):Prop:=∀j:Nat,0≤out.getD j 0∧out.getD j 0<p
theorem Rs.set {p v:Int}{out:List Int}(h:Rs p out)(hv:0≤v∧v<p)(k:Nat):Rs p (out.set k v):=fun j=>by
 rw[Ac];split
 ·exact hv
 ·exact h j
theorem abE {p c:Int}(hp:0<p):∀(l:List Tm) (out:List Int),Rs p out→Rs p (adL p out c l)
 | [],out,h=>h
 |u::r,out,h=>by
  rw[adL]
  exact abE hp r _ (h.set ⟨Int.emod_nonneg _ (by omega),Int.emod_lt_of_pos _ hp⟩ _)
theorem ZT {p c:Int}(hp:0<p):∀{l:List Tm} {lo:Int} {out:List Int} {j:Nat},Sr lo l→ -1≤lo→Rs p out→(∀t∈l,t.1<out.length)→(adL p out c l).getD j 0=(out.getD j 0+c*cf l j) % p
 | [],lo,out,j,h,h0,hr,hn=>by rw[adL,T3,Int.mul_zero,Int.add_zero,Int.emod_eq_of_lt (hr j).1 (hr j).2]
 |u::r,lo,out,j,h,h0,hr,hn=>by
  have h1:=h.1
  have h2:=hn u (by simp)
  have hv:0≤(out.getD u.1.toNat 0+c*u.2.1) % p∧(out.getD u.1.toNat 0+c*u.2.1) % p<p:=⟨Int.emod_nonneg _ (by omega),Int.emod_lt_of_pos _ hp⟩
  rw[adL,ZT hp (lo:=u.1) h.2 (by omega) (hr.set hv _) (fun t ht=>by rw[List.length_set];exact hn t (by simp[ht])),Ac,tP]
  by_cases e:u.1=j
  ·rw[if_pos e,if_pos (by omega),Sr.cf0 h.2 (by omega),Int.mul_zero,Int.add_zero,Int.emod_emod_of_dvd _ (Int.dvd_refl p)]
   have:u.1.toNat=j:=by omega
   rw[this]
  ·rw[if_neg e,if_neg (show ¬(u.1.toNat=j∧u.1.toNat<out.length) by omega)]
def qh (aa:List Cl)(r:Int):List Tm:=(aa.getD r.toNat jU).2.2.1
def UT (p:Int)(aa:List Cl)(out:List Int):List Tm→List Int
 | []=>out
 |t::r=>UT p aa (adL p out t.2.1 (qh aa t.1)) r
def Pd (p:Int)(aa:List Cl)(out:List Tm):List Tm→List Tm
 | []=>out
 |t::r=>Pd p aa (Dx p out (t.2.1 % p) (qh aa t.1)) r
theorem Mq:∀{l:List Tm} {lo:Int} {n:Int},Sr lo l→(∀t∈l,t.1<n)→lo<n→(l.length:Int)≤n - lo - 1
 | [],lo,n,h,hn,hl=>by simp;omega
 |t::r,lo,n,h,hn,hl=>by
  have:=Mq h.2 (fun u hu=>hn u (by simp[hu])) (hn t (by simp))
  have:=h.1
  simp only[List.length_cons];omega
theorem Vc.length {p n:Int}{l:List Tm}(h:Vc p n l)(hn:0≤n):(l.length:Int)≤n:=by
 have:=Mq h.s (fun t ht=>(h.r t ht).1) (by omega);omega
theorem adj {p:Int}(hp:0<p){aa:List Cl}{n:Nat}:∀{x:List Tm} {S:List Tm} {v:List Int},(∀t∈x,Vc p n (qh aa t.1))→Vc p n S→Vr n S v→Rs p v→
  Vc p n (Pd p aa S x)∧Vr n (Pd p aa S x) (UT p aa v x)∧Rs p (UT p aa v x)
 | [],S,v,hx,hS,hv,hr=>⟨hS,hv,hr⟩
 |t::r,S,v,hx,hS,hv,hr=>by
  have hb:=hx t (by simp)
  obtain⟨h1,h2⟩:=adg (k:=t.2.1 % p) hp hS hb
  rw[Pd,UT]
  refine adj hp (x:=r) (S:=Dx p S (t.2.1 % p) (qh aa t.1)) (v:=adL p v t.2.1 (qh aa t.1)) (fun u hu=>hx u (by simp[hu])) h1 ⟨by rw[NB,hv.len],fun j hj=> ?_⟩ (abE hp _ _ hr)
  rw[ZT hp hb.s (by omega) hr (fun u hu=>by rw[hv.len];exact(hb.r u hu).1),h2,hv.at_ j hj,Int.add_emod,Int.mul_emod, ←Int.add_emod (cf S j),Int.add_emod (cf S j) (t.2.1 % p*cf (qh aa t.1) j),Int.mul_emod (t.2.1 % p),Int.emod_emod_of_dvd _ (Int.dvd_refl p), ←Int.add_emod]
theorem ai6 {p:Int}{n:Nat}{S:List Tm}{v:List Int}(hS:Vc p n S)(hv:Vr n S v):S=[]↔NG 0 v=[]:=by
 rw[adi]
 constructor
 ·intro e j
  subst e
  by_cases hj:j<n
  ·rw[hv.at_ j hj];rfl
  ·have:=hv.len
   simp only[List.getD]
   rw[List.getElem?_eq_none (by omega)];rfl
 ·intro h
  cases hS':S with
  |nil=>rfl
  |cons t r=>
   exfalso
   have h1:=hS.r t (by rw[hS'];simp)
   have h2:=Sr.mem hS.s t (by rw[hS'];simp)
   have h3:=ahs hS.s t (by rw[hS'];simp)
   have h4:=hv.at_ t.1.toNat (by omega)
   rw[h] at h4
   have e:((t.1.toNat:Nat):Int)=t.1:=by omega
   rw[e] at h4
   omega
end Go.Abs
namespace Go.Proofs.YtofjebmoebhiiaaGreatDoor.Ev
open Go.Abs Go.IntWalk
theorem bF {i:Nat}(h:i≤1000000000):IntKind.wrap .i64 ((i:Int)+1)=((i+1:Nat):Int):=by rw[i64_in _ (by omega)];omega
theorem abF {x:List Tm}{n:Nat}(hl:x.length≤1000000000)(hx:∀t∈x,0≤t.1∧t.1<n):∀(m i:Nat) (out:List Int),m+i=x.length→out.length=n→gq x i out=some (l8 out (x.drop i)):=by
 intro m
 induction m with
 |zero=>intro i out hi ho;rw[wR,p5,ai (by omega),List.drop_eq_nil_of_le (by omega)];rfl
 |succ m ih=>
  intro i out hi ho
  have hb:∀{β:Type} {f:Tm→Option β},(idx x (i:Int)).bind f=f (x.getD i mD):=da mD (by omega)
  have hm:x.getD i mD∈x:=by
   have:x.getD i mD=x[i]'(by omega):=by simp[List.getD,show i<x.length by omega]
   rw[this];exact List.getElem_mem _
  have hr:=hx _ hm
  rw[wR,p5,ak (by omega),hb,hb,fk (by omega) (by omega),xm (by omega),bF (by omega),ih (i+1) _ (by omega) (by simpa using ho),rD mD (show i<x.length by omega),l8]
theorem T8 {p:Int}{x:List Tm}{n:Nat}(hn:n≤1000000)(hx:Vc p n x):∃v,jW x n=some v∧Vr n x v∧(0<p→Rs p v):=by
 have hl:=hx.length (by omega)
 have hx':∀t∈x,0≤t.1∧t.1<n:=fun t ht=>⟨by have:=Sr.mem hx.s t ht;omega,(hx.r t ht).1⟩
 have hg:∀j:Nat,(l8 (List.replicate n 0) x).getD j 0=cf x j:=fun j=>by
  rw[T6 hx.s (by omega) hx.c (fun t ht=>by rw[List.length_replicate];exact(hx' t ht).2),Dy]
  split<;>omega
 refine⟨l8 (List.replicate n 0) x, ?_,⟨by rw[NA,List.length_replicate],fun j _=>hg j⟩,fun hp j=>by rw[hg];exact T4 hp hx.c j⟩
 rw[Lq,C4,Kc (by omega) (by omega) (by omega),Int.toNat_natCast]
 exact abF (by omega) hx' x.length 0 _ (by omega) (by simp)
theorem ZU {v:List Int}(hl:v.length≤1000000):∀(m i:Nat) (out:List Tm),m+i=v.length→out.length≤i→fx v i out=some (out++NG i (v.drop i)):=by
 intro m
 induction m with
 |zero=>intro i out hi ho;rw[vk,oU,ai (by omega),List.drop_eq_nil_of_le (by omega),NG,List.append_nil]
 |succ m ih=>
  intro i out hi ho
  rw[vk,oU,ak (by omega),fk (by omega) (by omega),Int.toNat_natCast,drop_eq (by omega),NG,bF (by omega)]
  by_cases h:v.getD i 0=0
  ·rw[nE h,ih (i+1) out (by omega) (by omega),if_neg (by omega)]
  ·rw[BC h,fk (by omega) (by omega),Int.toNat_natCast,iQ (by omega) (by omega),if_pos h]
   simp only
   rw[ih (i+1) _ (by omega) (by simp;omega),List.append_assoc]
   rfl
theorem aeZ {v:List Int}(hl:v.length≤1000000):qp v=some (NG 0 v):=by
 rw[JN,Bj]
 have:=ZU hl v.length 0 [] (by omega) (by simp)
 simpa using this
theorem XL {p:Int}(hp:2≤p∧p≤251){x:List Tm}{i:Nat}{b:List Tm}{c2:List Cl}(hi:i<x.length)(hxi:0≤(x.getD i mD).2.1∧(x.getD i mD).2.1≤251)(hbl:b.length≤1000000):
  ∀(m k:Nat) (out:List Int),m+k=b.length→Rs p out→(∀t∈b,(0≤t.1∧t.1<out.length)∧0≤t.2.1∧t.2.1≤251)→out.length≤1000000→
   gv x i b k out p c2=eG x (IntKind.wrap .i64 ((i:Int)+1)) (adL p out (x.getD i mD).2.1 (b.drop k)) p c2:=by
 intro m
 induction m with
 |zero=>intro k out hk hr hb ho;rw[wT,p9,ai (by omega),List.drop_eq_nil_of_le (by omega),adL]
 |succ m ih=>
  intro k out hk hr hb ho
  have hbk:∀{β:Type} {f:Tm→Option β},(idx b (k:Int)).bind f=f (b.getD k mD):=da mD (by omega)
  have hm:b.getD k mD∈b:=by
   have:b.getD k mD=b[k]'(by omega):=by simp[List.getD,show k<b.length by omega]
   rw[this];exact List.getElem_mem _
  obtain⟨h1,h2⟩:=hb _ hm
  have hv:=hr (b.getD k mD).1.toNat
  have hmul:0≤(x.getD i mD).2.1*(b.getD k mD).2.1∧(x.getD i mD).2.1*(b.getD k mD).2.1≤251*251:=⟨Int.mul_nonneg (by omega) (by omega),Int.mul_le_mul (by omega) (by omega) (by omega) (by omega)⟩
  rw[wT,p9,ak (by omega),hbk,hbk,fk (by omega) (by omega),xm (by omega),da mD hi,hbk]
  simp only
  rw[i64_in ((x.getD i mD).2.1*(b.getD k mD).2.1) (by omega),i64_in (out.getD (b.getD k mD).1.toNat 0+(x.getD i mD).2.1*(b.getD k mD).2.1) (by omega),lZ (by omega),fk (by omega) (by omega),xm (by omega),bP (by omega),bF (i:=k) (by omega)]
  rw[ih (k+1) _ (by omega) (hr.set ⟨Int.emod_nonneg _ (by omega),Int.emod_lt_of_pos _ (by omega)⟩ _) (fun t ht=>by rw[List.length_set];exact hb t ht) (by rw[List.length_set];exact ho),rD mD (show k<b.length by omega),adL]
theorem XM {p:Int}(hp:2≤p∧p≤251){x:List Tm}{c2:List Cl}{n:Nat}(hn:n≤1000000)(hxl:x.length≤1000000)(hx:∀t∈x,(0≤t.1∧t.1<c2.length)∧(0≤t.2.1∧t.2.1≤251)∧Vc p n (qh c2 t.1)):
  ∀(m i:Nat) (out:List Int),m+i=x.length→Rs p out→out.length=n→eG x i out p c2=some (UT p c2 out (x.drop i)):=by
 intro m
 induction m with
 |zero=>intro i out hi hr ho;rw[wS,p7,ai (by omega),List.drop_eq_nil_of_le (by omega),UT]
 |succ m ih=>
  intro i out hi hr ho
  have hm:x.getD i mD∈x:=by
   have:x.getD i mD=x[i]'(by omega):=by simp[List.getD,show i<x.length by omega]
   rw[this];exact List.getElem_mem _
  obtain⟨h1,h2,h3⟩:=hx _ hm
  have hl:=h3.length (by omega)
  rw[wS,p7,ak (by omega),da mD (by omega),adf jU (by omega) (by omega)]
  have e:(c2.getD (x.getD i mD).1.toNat jU).2.2.1=qh c2 (x.getD i mD).1:=rfl
  rw[e]
  have:=XL hp (b:=qh c2 (x.getD i mD).1) (c2:=c2) (show i<x.length by omega) h2 (by omega) (qh c2 (x.getD i mD).1).length 0 out (by omega) hr (fun t ht=>by
   have g1:=Sr.mem h3.s t ht
   have g2:=h3.r t ht
   omega) (by omega)
  have e0:((0:Nat):Int)=0:=rfl
  rw[e0] at this
  rw[this,bF (by omega),List.drop_zero,ih (i+1) _ (by omega) (abE (by omega) _ _ hr) (by rw[NB];exact ho),rD mD (show i<x.length by omega),UT]
theorem ae0 {p:Int}(hp:2≤p∧p≤251){x:List Tm}{c2:List Cl}(hn:c2.length≤1000000)(hxl:x.length≤1000000)(hx:∀t∈x,(0≤t.1∧t.1<c2.length)∧(0≤t.2.1∧t.2.1≤251)∧Vc p c2.length (qh c2 t.1)):
  rN (p,(c2,())) x=some (UT p c2 (List.replicate c2.length 0) x):=by
 rw[Lr,C5]
 simp only
 rw[Kc (by omega) (by omega) (by omega),Int.toNat_natCast]
 exact XM hp (n:=c2.length) hn hxl hx x.length 0 _ (by omega) (fun j=>by rw[Dy];omega) (by simp)
theorem ZV {p:Int}(hp:Pr p){x:List Tm}{c2:List Cl}(hxl:x.length≤1000000)(hx:∀t∈x,(0≤t.1∧t.1<c2.length)∧Vc p 1024 (qh c2 t.1)):
  ∀(m i:Nat) (S:List Tm),m+i=x.length→Vc p 1024 S→fe S x (x.length:Int) i p c2=some (Pd p c2 S (x.drop i)):=by
 intro m
 induction m with
 |zero=>intro i S hi hS;rw[nR,lN,ai (by omega),List.drop_eq_nil_of_le (by omega),Pd]
 |succ m ih=>
  intro i S hi hS
  have hm:x.getD i mD∈x:=by
   have:x.getD i mD=x[i]'(by omega):=by simp[List.getD,show i<x.length by omega]
   rw[this];exact List.getElem_mem _
  obtain⟨h1,h3⟩:=hx _ hm
  have hl:=h3.length (by omega)
  have hl2:=hS.length (by omega)
  rw[nR,lN,ak (by omega),da mD (by omega),adf jU (by omega) (by omega)]
  have e:(c2.getD (x.getD i mD).1.toNat jU).2.2.1=qh c2 (x.getD i mD).1:=rfl
  rw[e,US hp hS h3 (by omega) (by omega),bS,bF (by omega)]
  simp only
  rw[ih (i+1) _ (by omega) (adg (by have:=hp.1;omega) hS h3).1,rD mD (show i<x.length by omega),Pd]
theorem ae1 {p:Int}(hp:Pr p){x:List Tm}{c2:List Cl}(hxl:x.length≤1000000)(hx:∀t∈x,(0≤t.1∧t.1<c2.length)∧Vc p 1024 (qh c2 t.1)):uV (p,(c2,())) x=some (Pd p c2 [] x):=by
 have h:=ZV hp hxl hx x.length 0 [] (by omega) Vc.nil
 rw[Jr,EX]
 simp only
 have e:mX x (x.length:Int) 0 [] p c2=fe [] x (x.length:Int) 0 p c2:=by
  rw[D3,yo,nR,lN]
 rw[e]
 simpa using h
end Go.Proofs.YtofjebmoebhiiaaGreatDoor.Ev
namespace Go.Proofs.YtofjebmoebhiiaaGreatDoor.Ev
open Go.Abs Go.IntWalk
def kc (aa:List Cl)(j:Nat):ByteArray:=(aa.getD j jU).2.1
def XN (aa:List Cl)(j:Nat):Bool:=decide (0<j)&&decide (qA ((rC (kc aa j)).1*(rC (kc aa (j - 1))).2) ((rC (kc aa (j - 1))).1*(rC (kc aa j)).2)<0)
def qi (p:Int)(aa:List Cl)(j:Nat):Int:=
 if (aa.getD j jU).1<0∨4<(aa.getD j jU).1∨tC (kc aa j)=false then 1
 else if UR p (aa.getD j jU).2.2.1≠0 then UR p (aa.getD j jU).2.2.1
 else if ((aa.getD j jU).2.2.1.any fun t=>decide (t.1≥(j:Int)))=true then 7
 else if ((aa.getD j jU).2.2.1.any fun t=>(aa.getD t.1.toNat jU).1 != (aa.getD j jU).1 - 1)=true then 10
 else if (Pd p aa [] (aa.getD j jU).2.2.1)≠ [] then 11
 else if XN aa j=true then 6 else 0
def Rg (p:Int)(aa:List Cl)(j:Nat):Nat→Int
 |0=>0
 |m+1=>if qi p aa j≠0 then qi p aa j else Rg p aa (j+1) m
def gE (p:Int)(aa:List Cl):Int:=if Pr p then (if 1024<aa.length then 3 else Rg p aa 0 aa.length) else 8
structure Good (p:Int) (aa:List Cl) (j:Nat):Prop where
 RY:0≤(aa.getD j jU).1∧(aa.getD j jU).1≤4
 at_:tC (kc aa j)=true
 bd:Vc p j (qh aa j)
 low:j≤1024→Vc p 1024 (qh aa j)
 asx:∀t∈qh aa j,(aa.getD t.1.toNat jU).1=(aa.getD j jU).1 - 1
 cyc:Pd p aa [] (qh aa j)=[]
 ord:XN aa j=false
theorem GD (aa:List Cl)(j:Nat):qh aa j=(aa.getD j jU).2.2.1:=by unfold qh;rw[Int.toNat_natCast]
theorem R5 {p:Int}{aa:List Cl}{j:Nat}(h:qi p aa j=0):Good p aa j:=by
 unfold qi at h
 split at h
 ·cases h
 ·rename_i h1
  split at h
  ·rename_i h2;exact absurd h h2
  ·rename_i h2
   split at h
   ·cases h
   ·rename_i h3
    split at h
    ·cases h
    ·rename_i h4
     split at h
     ·cases h
     ·rename_i h5
      split at h
      ·cases h
      ·rename_i h6
       have hv:=Kj.1 (show UR p (aa.getD j jU).2.2.1=0 by omega)
       refine⟨by omega, ?_, ?_,fun _=>by rw[GD];exact hv, ?_, ?_,by simpa using h6⟩
       ·cases hh:tC (kc aa j) with
        |true=>rfl
        |false=>exact absurd (.inr (.inr hh)) h1
       ·rw[GD]
        refine⟨hv.s,fun t ht=>⟨?_,(hv.r t ht).2⟩⟩
        have:¬t.1≥(j:Int):=fun g=>h3 (List.any_eq_true.2 ⟨t,ht,decide_eq_true g⟩)
        omega
       ·intro t ht
        rw[GD] at ht
        have:¬((aa.getD t.1.toNat jU).1 != (aa.getD j jU).1 - 1)=true:=fun g=>h4 (List.any_eq_true.2 ⟨t,ht,g⟩)
        simpa using this
       ·rw[GD]
        exact Decidable.not_not.1 h5
structure Sz (aa:List Cl):Prop where
 at_:∀j,(kc aa j).size≤1000
 bd:∀j,((aa.getD j jU).2.2.1).length≤1000
theorem abG {s:List Tm}{j:Int}(hl:s.length≤1000000):∀(m i:Nat),m+i=s.length→∃r:Int,bT s j (s.length:Int) i=some r∧decide (r≥0)=(s.drop i).any fun t=>decide (t.1≥j):=by
 intro m
 induction m with
 |zero=>
  intro i hi
  rw[ko,gS,ai (by omega),List.drop_eq_nil_of_le (by omega)]
  exact⟨-1,rfl,rfl⟩
 |succ m ih=>
  intro i hi
  rw[ko,gS,ak (by omega),da mD (by omega),FG,Ai,bS,rD mD (show i<s.length by omega),List.any_cons]
  by_cases h:(s.getD i mD).1≥j
  ·rw[tA h,decide_eq_true h]
   exact⟨i,rfl,by rw[Bool.true_or];exact decide_eq_true (by omega)⟩
  ·rw[sk h,decide_eq_false h,Bool.false_or,bF (by omega)]
   exact ih (i+1) (by omega)
theorem anr {s:List Tm}{j:Int}(hl:s.length≤1000000):eo s j=some (s.any fun t=>decide (t.1≥j)):=by
 obtain⟨r,h1,h2⟩:=abG (j:=j) hl s.length 0 (by omega)
 have e0:((0:Nat):Int)=0:=rfl
 rw[e0] at h1
 rw[sg,mn,u7,nX,h1,bS,h2,List.drop_zero]
theorem abH {s:List Tm}{p d:Int}{aa:List Cl}{a:ByteArray}{b:List Tm}(hd:0≤d∧d≤4)(hl:s.length≤1000000)(hs:∀t∈s,0≤t.1∧t.1<aa.length):∀(m i:Nat),m+i=s.length→
  ∃r:Int,bU s p aa d a b (s.length:Int) i=some r∧decide (r≥0)=(s.drop i).any fun t=>(aa.getD t.1.toNat jU).1 != d - 1:=by
 intro m
 induction m with
 |zero=>
  intro i hi
  rw[kp,gT,ai (by omega),List.drop_eq_nil_of_le (by omega)]
  exact⟨-1,rfl,rfl⟩
 |succ m ih=>
  intro i hi
  have hm:s.getD i mD∈s:=by
   have:s.getD i mD=s[i]'(by omega):=by simp[List.getD,show i<s.length by omega]
   rw[this];exact List.getElem_mem _
  have h1:=hs _ hm
  rw[kp,gT,ak (by omega),da mD (by omega),FH,Aj]
  simp only
  rw[adf jU h1.1 h1.2,bS,i64_in (d - 1) (by omega),rD mD (show i<s.length by omega),List.any_cons]
  cases hc:((aa.getD (s.getD i mD).1.toNat jU).1 != d - 1) with
  |true=>
   rw[cT]
   exact⟨i,rfl,by rw[Bool.true_or];exact decide_eq_true (by omega)⟩
  |false=>
   rw[cF,Bool.false_or,bF (by omega)]
   exact ih (i+1) (by omega)
theorem ans {s:List Tm}{p d:Int}{aa:List Cl}{a:ByteArray}{b:List Tm}(hd:0≤d∧d≤4)(hl:s.length≤1000000)(hs:∀t∈s,0≤t.1∧t.1<aa.length):
  eA s ((p,(aa,())),(d,(a,(b,()))))=some (s.any fun t=>(aa.getD t.1.toNat jU).1 != d - 1):=by
 obtain⟨r,h1,h2⟩:=abH (p:=p) (a:=a) (b:=b) hd hl hs s.length 0 (by omega)
 have e0:((0:Nat):Int)=0:=rfl
 rw[e0] at h1
 rw[sh,mo,u9,nY]
 simp only
 rw[h1,bS,h2,List.drop_zero]
theorem EL {s:ByteArray}(h:tC s=true)(hs:s.size≤1000):Rt s (rC s).1 (rC s).2∧nd (rC s).1≤1000∧nd (rC s).2≤1000∧0<(rC s).2:=by
 obtain⟨n,d,hr⟩:=yL.1 h
 rw[hr.val]
 exact⟨hr,hr.bounds hs⟩
theorem ahw {p:Int}{aa:List Cl}{j:Nat}{b:List Tm}(hj:j<aa.length)(hl:aa.length≤1024)(hI:∀i,i<j→qi p aa i=0)(hb:Vc p 1024 b)(hr:∀t∈b,t.1<j):
  ∀t∈b,(0≤t.1∧t.1<aa.length)∧Vc p aa.length (qh aa t.1):=fun t ht=>by
 have h1:=hr t ht
 have h2:=Sr.mem hb.s t ht
 have e:t.1=((t.1.toNat:Nat):Int):=by omega
 have h3:=(R5 (hI t.1.toNat (by omega))).bd
 refine⟨by omega, ?_⟩
 rw[e]
 exact h3.mono (by omega)
theorem ZW {p:Int}(hp:Pr p){aa:List Cl}(hs:Sz aa)(hl:aa.length≤1024){j:Nat}{l:(Bool×List Int×Unit)×(Bool×List Int×Unit)×Unit}(hj:j<aa.length)(hI:∀i,i<j→qi p aa i=0)(hL:0<j→l=WR (rC (kc aa (j - 1))).1 (rC (kc aa (j - 1))).2)(E:Int)(hE:qi p aa j=E):
  dJ aa (aa.length:Int) j p aa l.1.1 l.1.2.1 l.2.1.1 l.2.1.2.1=if E=0 then dJ aa (aa.length:Int) ((j+1:Nat):Int) p aa (W (rC (kc aa j)).1).1 (W (rC (kc aa j)).1).2.1 (W (rC (kc aa j)).2).1 (W (rC (kc aa j)).2).2.1 else some E:=by
 have ea:(aa.getD j jU).2.1=kc aa j:=rfl
 have ha:=hs.at_ j
 have hb:=hs.bd j
 generalize hK:dJ aa (aa.length:Int) ((j+1:Nat):Int) p aa (W (rC (kc aa j)).1).1 (W (rC (kc aa j)).1).2.1 (W (rC (kc aa j)).2).1 (W (rC (kc aa j)).2).2.1=K
 rw[vS,rR,ak (by omega),da jU (by omega),ea]
 unfold qi at hE
 generalize hx:aa.getD j jU=x at hE hb ⊢
 cases abI:tC (kc aa j) with
 |false=>
  obtain⟨jk,hjk⟩:=Wl ha abI
  rw[if_pos (.inr (.inr abI))] at hE
  subst hE
  rw[hjk,bS]
  simp only
  rw[Bool.not_false,cT,if_neg (by omega)]
  cases decide (x.1<0)<;>cases decide (x.1>4)<;>rfl
 |true=>
  obtain⟨hrt,n1,n2,n3⟩:=EL abI ha
  rw[Qn ha hrt,bS]
  simp only
  by_cases h1:x.1<0
  ·rw[if_pos (.inl h1)] at hE
   subst hE
   rw[ak h1,if_neg (by omega)]
  rw[ai h1]
  by_cases h2:x.1>4
  ·rw[if_pos (.inr (.inl h2))] at hE
   subst hE
   rw[cy h2,if_neg (by omega)]
  have hc1:¬(x.1<0∨4<x.1∨tC (kc aa j)=false):=by
   rintro (h |h |h)
   ·exact h1 h
   ·exact h2 h
   ·rw[abI] at h;cases h
  rw[if_neg hc1] at hE
  rw[cM h2,Bool.not_true,cF,T2 ha,bS,abI,Bool.not_true,cF,AH hp (by omega),bS]
  by_cases h3:UR p x.2.2.1=0
  ·rw[if_neg (show ¬UR p x.2.2.1≠0 by omega)] at hE
   rw[nE h3,anr (by omega),bS]
   have hv:=Kj.1 h3
   cases h4:(x.2.2.1.any fun t=>decide (t.1≥(j:Int))) with
   |true=>
    rw[h4,if_pos rfl] at hE
    subst hE
    rw[cT,if_neg (by omega)]
   |false=>
    rw[h4,if_neg (by decide)] at hE
    rw[cF]
    have hr:∀t∈x.2.2.1,t.1<j:=fun t ht=>by
     have:=List.any_eq_false.1 h4 t ht
     have:¬t.1≥(j:Int):=fun g=>this (decide_eq_true g)
     omega
    have hin:=ahw hj hl hI hv hr
    rw[ans (by omega) (by omega) (fun t ht=>(hin t ht).1),bS]
    cases h5:(x.2.2.1.any fun t=>(aa.getD t.1.toNat jU).1 != x.1 - 1) with
    |true=>
     rw[h5,if_pos rfl] at hE
     subst hE
     rw[cT,if_neg (by omega)]
    |false=>
     rw[h5,if_neg (by decide)] at hE
     rw[cF,ae1 hp (by omega) (fun t ht=>⟨(hin t ht).1,(hin t ht).2.mono (by omega)⟩),bS]
     by_cases h6:Pd p aa [] x.2.2.1=[]
     ·rw[h6,if_neg (by simp)] at hE
      rw[h6,List.length_nil,cM (by omega),bF (by omega),hK]
      simp only[xf]
      unfold XN at hE
      by_cases h7:0<j
      ·have hg:=R5 (hI (j - 1) (by omega))
       obtain⟨ant,m1,m2,m3⟩:=EL hg.at_ (hs.at_ (j - 1))
       have hl':=hL h7
       subst hl'
       rw[cy (by omega),alj n1 n2 m1 m2 n3 m3,bS]
       rw[decide_eq_true h7,Bool.true_and] at hE
       by_cases h8:qA ((rC (kc aa j)).1*(rC (kc aa (j - 1))).2) ((rC (kc aa (j - 1))).1*(rC (kc aa j)).2)<0
       ·rw[decide_eq_true h8,if_pos rfl] at hE
        subst hE
        rw[ak h8,if_neg (by omega)]
       ·rw[decide_eq_false h8,if_neg (by decide)] at hE
        subst hE
        rw[ai h8,if_pos rfl]
      ·rw[decide_eq_false h7,Bool.false_and,if_neg (by decide)] at hE
       subst hE
       rw[cM (by omega),if_pos rfl]
     ·rw[if_pos h6] at hE
      subst hE
      have hlen:0<(Pd p aa [] x.2.2.1).length:=by
       cases hq:Pd p aa [] x.2.2.1 with
       |nil=>exact absurd hq h6
       |cons a b=>simp
      rw[cy (by omega),if_neg (by omega)]
  ·rw[if_pos h3] at hE
   subst hE
   rw[BC h3,if_neg h3]
theorem ae2 {p:Int}(hp:Pr p){aa:List Cl}(hs:Sz aa)(hl:aa.length≤1024):∀(m j:Nat) (l:(Bool×List Int×Unit)×(Bool×List Int×Unit)×Unit),m+j=aa.length→(∀i,i<j→qi p aa i=0)→(0<j→l=WR (rC (kc aa (j - 1))).1 (rC (kc aa (j - 1))).2)→
  dJ aa (aa.length:Int) j p aa l.1.1 l.1.2.1 l.2.1.1 l.2.1.2.1=some (Rg p aa j m):=by
 intro m
 induction m with
 |zero=>intro j l hj hI hL;rw[vS,rR,ai (by omega)];rfl
 |succ m ih=>
  intro j l hj hI hL
  rw[ZW hp hs hl (by omega) hI hL _ rfl,Rg]
  by_cases h:qi p aa j=0
  ·rw[if_pos h,if_neg (show ¬qi p aa j≠0 by omega)]
   exact ih (j+1) (WR (rC (kc aa j)).1 (rC (kc aa j)).2) (by omega) (fun i hi=>by
    by_cases e:i=j
    ·rw[e];exact h
    ·exact hI i (by omega)) (fun _=>by rw[Nat.add_sub_cancel])
  ·rw[if_neg h,if_pos h]
theorem Kk {p:Int}{aa:List Cl}(hs:Sz aa):gF (p,(aa,()))=some (gE p aa):=by
 rw[Jq,EW]
 simp only
 unfold gE
 rw[Fl,bS]
 by_cases hp:Pr p
 ·rw[decide_eq_true hp,Bool.not_true,cF,if_pos hp]
  by_cases hl:1024<aa.length
  ·rw[cy (by omega),if_pos hl]
  ·rw[cM (by omega),if_neg hl]
   have:=ae2 hp hs (by omega) aa.length 0 ((false,([],())),((false,([],())),())) (by omega) (fun i hi=>by omega) (fun h=>by omega)
   exact this
 ·rw[decide_eq_false hp,Bool.not_false,cT,if_neg hp]
theorem anu {p d:Int}{aa:List Cl}{a:ByteArray}{b:List Tm}{j:Int}(hl:b.length≤1000000):∀(m i:Nat),m+i=b.length→
  fw j i p aa d a b=bif (b.drop i).any (fun t=>decide (t.1≥j)) then some 7 else ch j 0 p aa d a b:=by
 intro m
 induction m with
 |zero=>intro i hi;rw[vi,oQ,ai (by omega),List.drop_eq_nil_of_le (by omega),List.any_nil,cF]
 |succ m ih=>
  intro i hi
  rw[vi,oQ,ak (by omega),da mD (by omega),rD mD (show i<b.length by omega),List.any_cons]
  by_cases h:(b.getD i mD).1≥j
  ·rw[tA h,decide_eq_true h,Bool.true_or,cT]
  ·rw[sk h,decide_eq_false h,Bool.false_or,bF (by omega),ih (i+1) (by omega)]
theorem anv {p d:Int}{aa:List Cl}{a:ByteArray}{b:List Tm}{j:Int}(hd:0≤d∧d≤4)(hl:b.length≤1000000)(hb:∀t∈b,0≤t.1∧t.1<aa.length):∀(m i:Nat),m+i=b.length→
  ch j i p aa d a b=bif (b.drop i).any (fun t=>(aa.getD t.1.toNat jU).1 != d - 1) then some 10 else ch j (b.length:Int) p aa d a b:=by
 intro m
 induction m with
 |zero=>
  intro i hi
  have:i=b.length:=by omega
  subst this
  rw[List.drop_eq_nil_of_le (Nat.le_refl _),List.any_nil,cF]
 |succ m ih=>
  intro i hi
  have hm:b.getD i mD∈b:=by
   have:b.getD i mD=b[i]'(by omega):=by simp[List.getD,show i<b.length by omega]
   rw[this];exact List.getElem_mem _
  have h1:=hb _ hm
  have tS:=ih (i+1) (by omega)
  generalize hE:ch j (b.length:Int) p aa d a b=E at tS ⊢
  rw[vj,oT,ak (by omega),da mD (by omega),adf jU h1.1 h1.2,i64_in (d - 1) (by omega),bF (by omega),tS,rD mD (show i<b.length by omega),List.any_cons]
  cases hc:((aa.getD (b.getD i mD).1.toNat jU).1 != d - 1) with
  |true=>rw[cT,Bool.true_or,cT]
  |false=>rw[cF,Bool.false_or]
theorem abJ {p:Int}(hp:Pr p){aa:List Cl}(hs:Sz aa)(hl:aa.length≤1024){j:Nat}(hj:j<aa.length)(hI:∀i,i<j→qi p aa i=0):qo (p,(aa,())) j=some (qi p aa j):=by
 have ha:=hs.at_ j
 have hb:=hs.bd j
 have ea:(aa.getD j jU).2.1=kc aa j:=rfl
 rw[JM,Bi]
 simp only
 rw[da jU hj,ea]
 unfold qi
 generalize hx:aa.getD j jU=x at*
 by_cases h1:x.1<0
 ·rw[ak h1,if_pos (.inl h1)]
 rw[ai h1]
 by_cases h2:x.1>4
 ·rw[cy h2,if_pos (.inr (.inl h2))]
 rw[cM h2,Nz ha,bS]
 cases abI:tC (kc aa j) with
 |false=>rw[Bool.not_false,cT,if_pos (.inr (.inr rfl))]
 |true=>
  have hc1:¬(x.1<0∨4<x.1∨true=false):=by
   rintro (h |h |h)
   ·exact h1 h
   ·exact h2 h
   ·cases h
  rw[Bool.not_true,cF,abz (by omega),bS,if_neg hc1]
  by_cases h3:UR p x.2.2.1=0
  ·have hv:=Kj.1 h3
   have h0:=anu (p:=p) (d:=x.1) (aa:=aa) (a:=kc aa j) (j:=(j:Int)) (show x.2.2.1.length≤1000000 by omega) x.2.2.1.length 0 (by omega)
   have e0:((0:Nat):Int)=0:=rfl
   rw[e0,List.drop_zero] at h0
   rw[nE h3,if_neg (show ¬UR p x.2.2.1≠0 by omega),h0]
   cases h4:(x.2.2.1.any fun t=>decide (t.1≥(j:Int))) with
   |true=>rw[cT,if_pos rfl]
   |false=>
    have hr:∀t∈x.2.2.1,t.1<j:=fun t ht=>by
     have:=List.any_eq_false.1 h4 t ht
     have:¬t.1≥(j:Int):=fun g=>this (decide_eq_true g)
     omega
    have hin:=ahw hj hl hI hv hr
    have h5':=anv (p:=p) (d:=x.1) (aa:=aa) (a:=kc aa j) (j:=(j:Int)) (by omega) (show x.2.2.1.length≤1000000 by omega) (fun t ht=>(hin t ht).1) x.2.2.1.length 0 (by omega)
    rw[e0,List.drop_zero] at h5'
    rw[cF,if_neg (by decide),h5']
    cases h5:(x.2.2.1.any fun t=>(aa.getD t.1.toNat jU).1 != x.1 - 1) with
    |true=>rw[cT,if_pos rfl]
    |false=>
     have hpp:0<p:=by have:=hp.1;omega
     obtain⟨g1,g2,g3⟩:=adj hpp (aa:=aa) (n:=aa.length) (x:=x.2.2.1) (S:=[]) (v:=List.replicate aa.length 0) (fun t ht=>(hin t ht).2) Vc.nil ⟨by simp,fun k hk=>by rw[Dy];rfl⟩ (fun k=>by rw[Dy];omega)
     rw[cF,if_neg (by decide),vj,oT,ai (by omega),ae0 ⟨hp.1,hp.2.1⟩ (by omega) (by omega) (fun t ht=>⟨(hin t ht).1,by have:=hv.r t ht;have:=hp.2.1;omega,(hin t ht).2⟩),bS,aeZ (by rw[g2.len];omega),bS]
     have hn:=ai6 g1 g2
     by_cases h6:Pd p aa [] x.2.2.1=[]
     ·rw[hn.1 h6,List.length_nil,cM (by omega),if_neg (by rw[h6];simp)]
      unfold XN
      by_cases h7:0<j
      ·have hg:=R5 (hI (j - 1) (by omega))
       obtain⟨hrt,n1,n2,n3⟩:=EL abI ha
       obtain⟨ant,m1,m2,m3⟩:=EL hg.at_ (hs.at_ (j - 1))
       have e1:IntKind.wrap .i64 ((j:Int) - 1)=((j - 1:Nat):Int):=by rw[i64_in _ (by omega)];omega
       have e2:(aa.getD (j - 1) jU).2.1=kc aa (j - 1):=rfl
       rw[cy (by omega),e1,da jU (by omega),e2,Pb hrt ant ha (hs.at_ (j - 1)),bS,decide_eq_true h7,Bool.true_and]
       by_cases h8:qA ((rC (kc aa j)).1*(rC (kc aa (j - 1))).2) ((rC (kc aa (j - 1))).1*(rC (kc aa j)).2)<0
       ·rw[ak h8,decide_eq_true h8,if_pos rfl]
       ·rw[ai h8,decide_eq_false h8,if_neg (by decide)]
      ·rw[cM (by omega),decide_eq_false h7,Bool.false_and,if_neg (by decide)]
     ·have hlen:0<(NG 0 (UT p aa (List.replicate aa.length 0) x.2.2.1)).length:=by
       cases hq:NG 0 (UT p aa (List.replicate aa.length 0) x.2.2.1) with
       |nil=>exact absurd (hn.2 hq) h6
       |cons a b=>simp
      rw[cy (by omega),if_pos h6]
  ·rw[BC h3,if_pos h3]
theorem ae3 {p:Int}(hp:Pr p){aa:List Cl}(hs:Sz aa)(hl:aa.length≤1024):∀(m j:Nat),m+j=aa.length→(∀i,i<j→qi p aa i=0)→gm j p aa=some (Rg p aa j m):=by
 intro m
 induction m with
 |zero=>intro j hj hI;rw[wP,pX,ai (by omega)];rfl
 |succ m ih=>
  intro j hj hI
  rw[wP,pX,ak (by omega),abJ hp hs hl (by omega) hI,bS,Rg]
  by_cases h:qi p aa j=0
  ·rw[nE h,if_neg (show ¬qi p aa j≠0 by omega),bF (by omega)]
   exact ih (j+1) (by omega) fun i hi=>by
    by_cases e:i=j
    ·rw[e];exact h
    ·exact hI i (by omega)
  ·rw[BC h,if_pos h]
theorem Wn {p:Int}{aa:List Cl}(hs:Sz aa):rH (p,(aa,()))=some (gE p aa):=by
 rw[Ll,C2]
 simp only
 unfold gE
 rw[Wm,bS]
 by_cases hp:Pr p
 ·rw[decide_eq_true hp,Bool.not_true,cF,if_pos hp]
  by_cases hl:1024<aa.length
  ·rw[cy (by omega),if_pos hl]
  ·rw[cM (by omega),if_neg hl]
   exact ae3 hp hs (by omega) aa.length 0 (by omega) (fun i hi=>by omega)
 ·rw[decide_eq_false hp,Bool.not_false,cT,if_neg hp]
theorem T9 {p:Int}{aa:List Cl}(h:gE p aa=0):Pr p∧aa.length≤1024∧∀j,j<aa.length→Good p aa j:=by
 unfold gE at h
 split at h
 ·rename_i hp
  split at h
  ·cases h
  ·rename_i hl
   have key:∀(m j:Nat),m+j=aa.length→Rg p aa j m=0→∀i,j≤i→i<aa.length→qi p aa i=0:=by
    intro m
    induction m with
    |zero=>intro j hj h i h1 h2;omega
    |succ m ih=>
     intro j hj h i h1 h2
     rw[Rg] at h
     split at h
     ·rename_i hne;exact absurd h hne
     ·rename_i hne
      by_cases e:i=j
      ·subst e;omega
      ·exact ih (j+1) (by omega) h i (by omega) h2
   exact⟨hp,by omega,fun j hj=>R5 (key aa.length 0 (by omega) h j (by omega) hj)⟩
 ·cases h
end Go.Proofs.YtofjebmoebhiiaaGreatDoor.Ev
namespace Go.Abs
theorem abK {l:List Tm}{t:Tm}(h:l.getLast?=some t):∃r,l=r++[t]:=by
 cases hl:l with
 |nil=>subst hl;cases h
 |cons a r=>
  have hne:l≠ []:=by rw[hl];simp
  rw[List.getLast?_eq_some_getLast hne] at h
  have h:=Option.some.inj h
  exact⟨l.dropLast,by rw[←hl, ←h,List.dropLast_concat_getLast hne]⟩
theorem ZX {l:List Tm}{t:Tm}(h:l.getLast?=some t):t∈l:=by
 obtain⟨r,rfl⟩:=abK h;simp
structure Sto (p:Int) (n:Nat) (st:List (Option (List Tm))):Prop where
 len:st.length=n
 ok:∀i y,st.getD i none=some y→Vc p n y∧∃u,y.getLast?=some u∧u.1=i
end Go.Abs
namespace Go.Proofs.YtofjebmoebhiiaaGreatDoor.Ev
open Go.Abs Go.IntWalk
end Go.Proofs.YtofjebmoebhiiaaGreatDoor.Ev
namespace Go.Proofs.YtofjebmoebhiiaaGreatDoor.Ev
open Go.Abs Go.IntWalk
theorem _root_.Go.Abs.Vr.out {n:Nat}{x:List Tm}{v:List Int}(h:Vr n x v){j:Nat}(hj:n≤j):v.getD j 0=0:=by
 have:=h.len
 simp only[List.getD]
 rw[List.getElem?_eq_none (by omega)];rfl
abbrev aps:=(Int×List Cl×Unit)×Nat×Nat×Nat×Int×Int×Unit
def h5 (p:Int)(aa:List Cl)(a k:Int):List (Option (List aps)):=[some [((p,(aa,())),((1:Nat),((1:Nat),((1:Nat),(a,(k,()))))))]]
structure Sv (p:Int) (n:Nat) (st:List (Option (List Tm))) (sd:List (Option (List Int))):Prop where
 len:sd.length=n
 none_:∀i,st.getD i none=none→sd.getD i none=none
 some_:∀i y,st.getD i none=some y→∃w,sd.getD i none=some w∧Vr n y w∧Rs p w
end Go.Proofs.YtofjebmoebhiiaaGreatDoor.Ev
namespace Go.Proofs.YtofjebmoebhiiaaGreatDoor.Ev
open Go.Abs Go.IntWalk
structure Rel (p:Int) (n:Nat) (st:List (Option (List Tm))) (dt:List Int) (sd:List (Option (List Int))) (by_:List Int) (em:List Bool):Prop where
 sto:Sto p n st
 sv:Sv p n st sd
 ldt:dt.length=n
 lby:by_.length=n
 lem:em.length=n
 d:∀i,i<n→dt.getD i 0=match st.getD i none with |some _=>by_.getD i 0 |none=>bif em.getD i false then -1 else -2
 b:∀i,i<n→0≤by_.getD i 0
theorem ai8 {α:Type}{l:List (Option α)}{k j:Nat}{v:Option α}:(l.set k v).getD j none=if k=j∧k<l.length then v else l.getD j none:=by
 simp only[List.getD,List.getElem?_set]
 by_cases h:k=j
 ·subst h
  by_cases hk:k<l.length
  ·simp[hk]
  ·simp[hk]
 ·simp[h]
theorem anw {l:List Bool}{k j:Nat}{v:Bool}:(l.set k v).getD j false=if k=j∧k<l.length then v else l.getD j false:=by
 simp only[List.getD,List.getElem?_set]
 by_cases h:k=j
 ·subst h
  by_cases hk:k<l.length
  ·simp[hk]
  ·simp[hk]
 ·simp[h]
theorem Rel.put {p:Int}{n:Nat}{st:List (Option (List Tm))}{dt:List Int}{sd:List (Option (List Int))}{by_:List Int}{em:List Bool}(h:Rel p n st dt sd by_ em){x:List Tm}{v:List Int}{t:Tm}(hx:Vc p n x)(hv:Vr n x v)(hr:Rs p v)(ht:x.getLast?=some t){j:Nat}:
  Rel p n (st.set t.1.toNat (some x)) (dt.set t.1.toNat j) (sd.set t.1.toNat (some v)) (by_.set t.1.toNat j) em:=by
 have htr:=hx.r t (ZX ht)
 have ht0:=Sr.mem hx.s t (ZX ht)
 have l1:=h.sto.len
 have l2:=h.sv.len
 have l3:=h.ldt
 have l4:=h.lby
 refine⟨⟨by simpa using l1,fun i y hy=> ?_⟩,⟨by simpa using l2,fun i hi=> ?_,fun i y hy=> ?_⟩,by simpa using l3,by simpa using l4,h.lem,fun i hi=> ?_,fun i hi=> ?_⟩
 ·rw[ai8] at hy
  split at hy
  ·rename_i e
   cases hy
   exact⟨hx,t,ht,by omega⟩
  ·exact h.sto.ok i y hy
 ·rw[ai8] at hi ⊢
  split at hi
  ·cases hi
  ·rename_i e
   rw[if_neg (by omega)]
   exact h.sv.none_ i hi
 ·rw[ai8] at hy ⊢
  split at hy
  ·rename_i e
   cases hy
   rw[if_pos (by omega)]
   exact⟨v,rfl,hv,hr⟩
  ·rename_i e
   rw[if_neg (by omega)]
   exact h.sv.some_ i y hy
 ·rw[Ac,ai8,Ac]
  by_cases e:t.1.toNat=i
  ·rw[if_pos (by omega),if_pos (by omega)]
   simp only
   rw[if_pos (by omega)]
  ·rw[if_neg (by omega),if_neg (by omega)]
   rw[h.d i hi]
   cases st.getD i none with
   |none=>rfl
   |some y=>simp only;rw[if_neg (by omega)]
 ·rw[Ac]
  split
  ·omega
  ·exact h.b i hi
theorem Rel.empty {p:Int}{n:Nat}{st:List (Option (List Tm))}{dt:List Int}{sd:List (Option (List Int))}{by_:List Int}{em:List Bool}(h:Rel p n st dt sd by_ em){j:Nat}(hj:j<n):
  Rel p n st (if dt.getD j 0= -2 then dt.set j (-1) else dt) sd by_ (em.set j true):=by
 have l3:=h.ldt
 have l5:=h.lem
 refine⟨h.sto,h.sv,by split<;>simpa using l3,h.lby,by simpa using l5,fun i hi=> ?_,h.b⟩
 have hd:=h.d i hi
 by_cases e:j=i
 ·subst e
  have e5:(em.set j true).getD j false=true:=by rw[anw,if_pos ⟨rfl,by omega⟩]
  rw[e5]
  cases hs:st.getD j none with
  |some y=>
   rw[hs] at hd
   have hb:=h.b j hi
   simp only at hd ⊢
   rw[if_neg (by omega)]
   exact hd
  |none=>
   rw[hs] at hd
   simp only at hd ⊢
   rw[cT]
   cases he:em.getD j false with
   |true=>rw[he,cT] at hd;rw[if_neg (by omega)];exact hd
   |false=>rw[he,cF] at hd;rw[if_pos hd,Ac,if_pos (by omega)]
 ·have e5:(em.set j true).getD i false=em.getD i false:=by rw[anw,if_neg (by omega)]
  rw[e5, ←hd]
  split
  ·rw[Ac,if_neg (by omega)]
  ·rfl
end Go.Proofs.YtofjebmoebhiiaaGreatDoor.Ev
namespace Go.Abs
theorem Rh {α:Type}{f:α→Option α}(h:∀y,f y=some y):∀ys:List α,lE f ys=some ys
 | []=>rfl
 |a::r=>by rw[lE,h a,Rh h r]
end Go.Abs
namespace Go.Proofs.YtofjebmoebhiiaaGreatDoor.Ev
open Go.Abs Go.IntWalk
def rg:Nat→Nat→List (Int×Unit)
 |_,0=>[]
 |j,m+1=>((j:Int),())::rg (j+1) m
theorem ahx (x:Tm):BS (.pair (.int .i64) (.pair (.int .i64) (.unit))) (x.1,(x.2.1,())) (x.1,(x.2.1,()))=true:=by
 show ((x.1==x.1)&&((x.2.1==x.2.1)&&true))=true
 simp
end Go.Proofs.YtofjebmoebhiiaaGreatDoor.Ev
