/- YtofjebmoebhiiaaGreatDoorWe: a part of the proof (Q, PA, PS ..). No condition. -/
import Derived.Test.YtofjebmoebhiiaaGreatDoorWd
import Derived.IntWalk
import Derived.Laws.Bits64
set_option linter.unusedVariables false
set_option linter.unusedSimpArgs false
set_option maxRecDepth 100000
set_option exponentiation.threshold 2000
namespace Go.Proofs.YtofjebmoebhiiaaGreatDoor.Ev
open Go.Abs
noncomputable section
def GJ (w:Nat):ae slices_SortFunc:=fun x hp=>amV x hp
theorem PZ (w:Nat):GJ w=slices_SortFunc:=funext fun x=>funext fun hp=>(Ju T B lf 50 ((x,()),hp)).symm
def Fi (w:Nat):ae mT:=fun s=>bif aP 16 2 0 s.length then some s else none
theorem Kk (w:Nat):Fi w=mT:=funext fun s=>(Ju T B lf 84 s).symm
def xK (w:Nat):ae fO:=fun s c=>bif decide (0≤c)&&decide (c<256) then some (Xo c 0 s.data.toList) else none
theorem Hl (w:Nat):xK w=fO:=funext fun s=>funext fun c=>(Ju T B lf 165 (s,c)).symm
def xL:=ve cA fun w x=>iM x
theorem Hm:∀w,xL w=cA:=mkLe fun _=>(x3 lG)
def zk:=gI dA fun w=>qf (xL w)
theorem Ix:∀w,zk w=dA:=bf fun w=>by rw[Hm w];exact(x2 xJ)
def vC:=ve c5 fun w x=>ta x
theorem FP:∀w,vC w=c5:=mkLe fun _=>(x3 DR)
def xM:=gI iO fun w=>xB (vC w)
theorem Hn:∀w,xM w=iO:=bf fun w=>by rw[FP w];exact(x2 Hi)
def Kl:=ve j8 fun w x=>Gq x
theorem SM:∀w,Kl w=j8:=mkLe fun _=>(x3 Px)
def L5:=gI yq fun w=>LP (Kl w)
theorem UG:∀w,L5 w=yq:=bf fun w=>by rw[SM w];exact(x1 UD)
def Dt:=ve fB fun w x=>rH x
theorem L6:∀w,Dt w=fB:=mkLe fun _=>(x2 zg)
def wW:=gI fu fun w=>wV (Dt w)
theorem Du:∀w,wW w=fu:=bf fun w=>by rw[L6 w];exact(x1 Dp)
def Gw:=ve fI fun w x=>nR x
theorem PL:∀w,Gw w=fI:=mkLe fun _=>(x3 s8)
def tU:=gI bu fun w=>AU (Gw w)
theorem Gx:∀w,tU w=bu:=bf fun w=>by rw[PL w];exact(x2 Gt)
def aif:=ve ab3 fun w x=>lZ x
theorem L7:∀w,aif w=ab3:=mkLe fun _=>(x2 pI)
def qg:=gI dp fun w=>wD (aif w)
theorem uY:∀w,qg w=dp:=bf fun w=>by rw[L7 w];exact(x1 C8)
def Ou:=ve kM fun w x=>vR x
theorem Wp:∀w,Ou w=kM:=mkLe fun _=>(x2 AI)
def zl:=gI nt fun w=>JB (Ou w)
theorem Bn:∀w,zl w=nt:=bf fun w=>by rw[Wp w];exact(x1 On)
def Km:=ve iy fun w x=>sh x
theorem SN:∀w,Km w=iy:=mkLe fun _=>(x5 wb)
def Fj:=gI mS fun w=>Ew (Km w) (zl w)
theorem Kn:∀w,Fj w=mS:=bf fun w=>by rw[SN w];rw[Bn w];exact(x2 Kd)
def Ko:=gI vh fun w=>Cq
theorem SO:∀w,Ko w=vh:=bf fun _=>(x2 HP)
def Kp:=gI vi fun w=>Ct
theorem SP:∀w,Kp w=vi:=bf fun _=>(x3 HQ)
def YK:=ve xe fun w x=>Gh x
theorem ad1:∀w,YK w=xe:=mkLe fun _=>(x5 JC)
def L8:=gI AA fun w=>Wn (YK w)
theorem M0:∀w,L8 w=AA:=bf fun w=>by rw[ad1 w];exact(x1 YJ)
def AW:=gI jE fun w=>AL
theorem Gy:∀w,AW w=jE:=bf fun _=>(x1 Gj)
def CN:=gI kO fun w=>CA (AW w) (L8 w)
theorem Iy:∀w,CN w=kO:=bf fun w=>by rw[Gy w,M0 w];exact(x1 Ic)
def Gz:=ve (gR,gS,gT,gU) fun w x=>(CY x.2.1 x.2.2.1,CZ x.2.1 x.1,C0 x.2.2.1 x.2.2.2,C1 x.2.2.2)
theorem PM:∀w,Gz w=(gR,gS,gT,gU):=mkLe fun w=>by exact Prod.ext (x6 LC) (Prod.ext (x8 LD) (Prod.ext (x3 LF) ((x3 LG))))
def Iz:=gI sL fun w=>Ie (Gz w).1
theorem alj:∀w,Iz w=sL:=bf fun w=>by rw[PM w];exact(x1 Q0)
def zm:=gI j9 fun w=>Jz
theorem Ov:∀w,zm w=j9:=bf fun _=>(x1 akY)
def Dw:=ve ed fun w x=>mj x (tU w)
theorem L9:∀w,Dw w=ed:=mkLe fun w=>by rw[Gx w];exact(x4 pY)
def wX:=gI gw fun w=>wQ (Dw w)
theorem Dx:∀w,wX w=gw:=bf fun w=>by rw[L9 w];exact(x3 Dj)
def Ad:=ve dc fun w x=>jX x
theorem JO:∀w,Ad w=dc:=mkLe fun _=>(x4 nB)
def B5:=gI i7 fun w=>s9 (Ad w)
theorem KN:∀w,B5 w=i7:=bf fun w=>by rw[JO w];exact(x2 z8)
def TP:=ve o5 fun w x=>Bg x
theorem ZS:∀w,TP w=o5:=mkLe fun _=>(x3 EE)
def PN:=gI BG fun w=>Ph (TP w)
theorem TQ:∀w,PN w=BG:=bf fun w=>by rw[ZS w];exact(x2 TK)
def Re:=ve mV fun w x=>EF x
theorem Xx:∀w,Re w=mV:=mkLe fun _=>(x2 Kh)
def TR:=gI HM fun w=>LH (Re w)
theorem ZT:∀w,TR w=HM:=bf fun w=>by rw[Xx w];exact(x2 Q1)
def TS:=ve sO fun w x=>kS x
theorem ZU:∀w,TS w=sO:=mkLe fun _=>(x3 lu)
def Wq:=gI HN fun w=>Pj (TS w)
theorem ab7:∀w,Wq w=HN:=bf fun w=>by rw[ZU w];exact(x1 TL)
def TT:=ve o6 fun w x=>Bh x
theorem ZV:∀w,TT w=o6:=mkLe fun _=>(x1 EH)
def Fk:=gI oo fun w=>Pk (TT w)
theorem GA:∀w,Fk w=oo:=bf fun w=>by rw[ZV w];exact(x1 TM)
def SQ:=gI Jw fun w=>MZ (zl w)
theorem Wr:∀w,SQ w=Jw:=bf fun w=>by rw[Bn w];exact(x1 Pe)
def ss:=gI fo fun w=>yD
theorem wY:∀w,ss w=fo:=bf fun _=>(x2 EA)
def Fl:=ve gd fun w x=>jJ x (Fj w)
theorem NL:∀w,Fl w=gd:=mkLe fun w=>by rw[Kn w];exact(x4 lP)
def GB:=gI qn fun w=>yz (Fl w)
theorem PO:∀w,GB w=qn:=bf fun w=>by rw[NL w];exact(x2 Ey)
def Dy:=ve (ef,eg) fun w x=>(l9 x.1 x.2,ma x.2)
theorem Ma:∀w,Dy w=(ef,eg):=mkLe fun w=>by exact Prod.ext (x2 pQ) ((x2 pR))
def Fo:=gI gE fun w=>wG (Dy w).1
theorem NM:∀w,Fo w=gE:=bf fun w=>by rw[Ma w];exact(x1 Db)
def Dz:=ve di fun w x=>lV x
theorem Mb:∀w,Dz w=di:=mkLe fun _=>(x2 pG)
def Fp:=gI k8 fun w=>wz (Dz w)
theorem NN:∀w,Fp w=k8:=bf fun w=>by rw[Mb w];exact(x1 C4)
def Fq:=ve eX fun w x=>nb x
theorem NO:∀w,Fq w=eX:=mkLe fun _=>(x3 qV)
def sw:=gI dQ fun w=>yS (Fq w)
theorem wZ:∀w,sw w=dQ:=bf fun w=>by rw[NO w];exact(x2 ET)
def Fs:=ve eY fun w x=>nc x
theorem NP:∀w,Fs w=eY:=mkLe fun _=>(x1 qW)
def j0:=gI bJ fun w=>yU (Fs w)
theorem lH:∀w,j0 w=bJ:=bf fun w=>by rw[NP w];exact(x1 EU)
def DA:=gI jU fun w=>uJ (xK w)
theorem Mc:∀w,DA w=jU:=bf fun w=>by rw[Hl w];exact(x2 BT)
def Rg:=ve mW fun w x=>yI x
theorem Xz:∀w,Rg w=mW:=mkLe fun _=>(x5 CD)
def Md:=gI xg fun w=>LK (Rg w)
theorem Rh:∀w,Md w=xg:=bf fun w=>by rw[Xz w];exact(x2 Q3)
def DB:=ve eo fun w x=>qK x
theorem Me:∀w,DB w=eo:=mkLe fun _=>(x4 yE)
def Ft:=gI ot fun w=>wc (DB w) (ss w)
theorem NQ:∀w,Ft w=ot:=bf fun w=>by rw[Me w];rw[wY w];exact(x3 CW)
def Kq:=gI vm fun w=>Cw
theorem SR:∀w,Kq w=vm:=bf fun _=>(x2 HW)
def uZ:=gI fK fun w=>uN
theorem B7:∀w,uZ w=fK:=bf fun _=>(x1 BY)
def xN:=gI iS fun w=>oD
theorem Ho:∀w,xN w=iS:=bf fun _=>(x2 vw)
def Ow:=ve kQ fun w x=>vT x
theorem Ws:∀w,Ow w=kQ:=mkLe fun _=>(x6 AO)
def Ri:=gI AE fun w=>JF (Ow w)
theorem XA:∀w,Ri w=AE:=bf fun w=>by rw[Ws w];exact(x2 Oq)
def Fv:=ve eZ fun w x=>dI x
theorem NR:∀w,Fv w=eZ:=mkLe fun _=>(x3 eD)
def GC:=gI qo fun w=>yB (Fv w)
theorem PQ:∀w,GC w=qo:=bf fun w=>by rw[NR w];exact(x2 Ez)
def vD:=ve b4 fun w x=>ac5 x (j0 w)
theorem FR:∀w,vD w=b4:=mkLe fun w=>by rw[lH w];exact(x5 kB)
def oT:=gI bw fun w=>oJ (vD w)
theorem vE:∀w,oT w=bw:=bf fun w=>by rw[FR w];exact(x2 vy)
def DC:=ve eA fun w x=>qL x
theorem Mf:∀w,DC w=eA:=mkLe fun _=>(x2 yJ)
def Fw:=gI adb fun w=>wk (DC w)
theorem NS:∀w,Fw w=adb:=bf fun w=>by rw[Mf w];exact(x1 C2)
def GD:=ve fL fun w x=>kj x
theorem PR:∀w,GD w=fL:=mkLe fun _=>(x5 nf)
def IA:=gI jG fun w=>AT (GD w)
theorem Rj:∀w,IA w=jG:=bf fun w=>by rw[PR w];exact(x2 Gr)
def GF:=gI qp fun w=>yw
theorem PS:∀w,GF w=qp:=bf fun _=>(x1 En)
def B8:=ve dH fun w x=>kt x
theorem KO:∀w,B8 w=dH:=mkLe fun _=>(x3 oz)
def DD:=gI mY fun w=>uC (B8 w)
theorem Mg:∀w,DD w=mY:=bf fun w=>by rw[KO w];exact(x1 BI)
def Fx:=gI ov fun w=>Eo
theorem NT:∀w,Fx w=ov:=bf fun _=>(x1 Nk)
def Ae:=ve (eB,eC) fun w x=>(xi x.2,xj x.2 x.1)
theorem JP:∀w,Ae w=(eB,eC):=mkLe fun w=>by exact Prod.ext (x4 G5) ((x7 G6))
def B9:=gI lr fun w=>BJ (Ae w).1
theorem KP:∀w,B9 w=lr:=bf fun w=>by rw[JP w];exact(x1 KF)
def xO:=ve cB fun w x=>iK x
theorem Hp:∀w,xO w=cB:=mkLe fun _=>(x4 lF)
def qh:=gI bo fun w=>qe (xO w)
theorem IB:∀w,qh w=bo:=bf fun w=>by rw[Hp w];exact(x2 xI)
def xP:=ve cC fun w x=>iI x (Ko w)
theorem Hq:∀w,xP w=cC:=mkLe fun w=>by rw[SO w];exact(x4 lv)
def zo:=gI jH fun w=>pz (xP w)
theorem IC:∀w,zo w=jH:=bf fun w=>by rw[Hq w];exact(x2 xm)
def xQ:=ve cD fun w x=>iJ x (Kp w)
theorem Hr:∀w,xQ w=cD:=mkLe fun w=>by rw[SP w];exact(x8 lx)
def zp:=gI jI fun w=>pA (xQ w)
theorem ID:∀w,zp w=jI:=bf fun w=>by rw[Hr w];exact(x2 xn)
def Ca:=ve dB fun w x=>kC x (B5 w)
theorem KQ:∀w,Ca w=dB:=mkLe fun w=>by rw[KN w];exact(x3 oK)
def nX:=gI b7 fun w=>uO (Ca w)
theorem Cb:∀w,nX w=b7:=bf fun w=>by rw[KQ w];exact(x1 B0)
def vU:=gI gM fun w=>Cy (PN w)
theorem AZ:∀w,vU w=gM:=bf fun w=>by rw[TQ w];exact(x2 Ia)
def JQ:=gI vk fun w=>Pd (SQ w) (ss w)
theorem Mh:∀w,JQ w=vk:=bf fun w=>by rw[Wr w,wY w];exact(x2 TH)
def Cc:=ve dD fun w x=>ky x (j0 w)
theorem KR:∀w,Cc w=dD:=mkLe fun w=>by rw[lH w];exact(x4 oE)
def fG:=gI aD fun w=>uK (Cc w)
theorem gH:∀w,fG w=aD:=bf fun w=>by rw[KR w];exact(x1 BV)
def Fy:=ve eT fun w x=>afv x
theorem NU:∀w,Fy w=eT:=mkLe fun _=>(x3 qU)
def fM:=gI aA fun w=>yP (Fy w) (j0 w)
theorem jb:∀w,fM w=aA:=bf fun w=>by rw[NU w];rw[lH w];exact(x2 ER)
def GG:=gI qm fun w=>yM (DA w)
theorem PU:∀w,GG w=qm:=bf fun w=>by rw[Mc w];exact(x2 EO)
def DV:=gI kb fun w=>JE (Fk w)
theorem Hs:∀w,DV w=kb:=bf fun w=>by rw[GA w];exact(x2 Oo)
def Cd:=gI ln fun w=>sS (Ft w)
theorem KS:∀w,Cd w=ln:=bf fun w=>by rw[NQ w];exact(x2 zZ)
def Mi:=ve jF fun w x=>tR x
theorem UH:∀w,Mi w=jF:=mkLe fun _=>(x4 yA)
def Ox:=gI xf fun w=>G7 (Mi w) (Kq w) (GC w)
theorem Wt:∀w,Ox w=xf:=bf fun w=>by rw[UH w];rw[SR w,PQ w];exact(x4 LA)
def tn:=ve (dF,dG) fun w x=>(kz x.1 (fM w),kA x.2 (fM w))
theorem KT:∀w,tn w=(dF,dG):=mkLe fun w=>by rw[jb w];exact Prod.ext (x2 oF) ((x2 oG))
def kn:=gI b8 fun w=>uL (tn w).1 (tn w).2
theorem ni:∀w,kn w=b8:=bf fun w=>by rw[KT w];exact(x1 BW)
def GH:=gI kc fun w=>yQ (uZ w)
theorem PW:∀w,GH w=kc:=bf fun w=>by rw[B7 w];exact(x1 ES)
def DE:=ve ab5 fun w x=>lW x
theorem Mj:∀w,DE w=ab5:=mkLe fun _=>(x3 pH)
def qi:=gI dZ fun w=>wA (DE w) (uZ w)
theorem u5:∀w,qi w=dZ:=bf fun w=>by rw[Mj w];rw[B7 w];exact(x1 C5)
def xR:=gI iQ fun w=>oC (xN w)
theorem Ht:∀w,xR w=iQ:=bf fun w=>by rw[Ho w];exact(x2 vv)
def TW:=ve (fJ,kP,iz,mX) fun w x=>(Bi x.2.1 (Md w),Bk x.2.2.1 x.2.1,Bl x.2.2.1 x.2.2.2 x.1,Bm x.2.2.2 x.1)
theorem ZW:∀w,TW w=(fJ,kP,iz,mX):=mkLe fun w=>by rw[Rh w];exact Prod.ext (x6 EJ) (Prod.ext (x8 EK) (Prod.ext (x10 EL) ((x11 EM))))
def Wu:=gI HO fun w=>Pl (TW w).1 (Ri w) (Fk w)
theorem ab8:∀w,Wu w=HO:=bf fun w=>by rw[ZW w];rw[XA w,GA w];exact(x2 TN)
def Af:=gI iu fun w=>qY (fG w) (fM w)
theorem JR:∀w,Af w=iu:=bf fun w=>by rw[gH w,jb w];exact(x1 yX)
def IE:=gI ou fun w=>AN (Fw w)
theorem Rk:∀w,IE w=ou:=bf fun w=>by rw[NS w];exact(x1 Gl)
def zq:=gI iA fun w=>yY (qi w) (kn w) (fG w) (IA w) (fM w) (sw w) (oT w)
theorem FA:∀w,zq w=iA:=bf fun w=>by rw[u5 w,ni w,gH w,Rj w,jb w,wZ w,vE w];exact(x2 EV)
def vG:=gI fw fun w=>afJ (zo w)
theorem FU:∀w,vG w=fw:=bf fun w=>by rw[IC w];exact(x2 ug)
def vH:=gI fx fun w=>afK (zp w)
theorem FV:∀w,vH w=fx:=bf fun w=>by rw[ID w];exact(x2 uh)
def IF:=gI sK fun w=>HY (CN w) (L8 w) (vU w) (Iz w)
theorem Rl:∀w,IF w=sK:=bf fun w=>by rw[Iy w,M0 w,AZ w,alj w];exact(x1 QZ)
def rP:=gI aaJ fun w=>qR (fG w) (fM w)
theorem zr:∀w,rP w=aaJ:=bf fun w=>by rw[gH w,jb w];exact(x1 yO)
def Oy:=gI xd fun w=>Hh (GG w)
theorem Wv:∀w,Oy w=xd:=bf fun w=>by rw[PU w];exact(x2 LN)
def Kr:=gI vj fun w=>Kg (DV w)
theorem SS:∀w,Kr w=vj:=bf fun w=>by rw[Hs w];exact(x1 SH)
def PX:=gI BF fun w=>Pc (SQ w) (ss w) (Cd w)
theorem TX:∀w,PX w=BF:=bf fun w=>by rw[Wr w,wY w,KS w];exact(x2 TG)
def zt:=gI ka fun w=>JA (GB w) (JQ w) (Ox w)
theorem Hv:∀w,zt w=ka:=bf fun w=>by rw[PO w,Mh w,Wt w];exact(x4 Ol)
def GI:=gI mN fun w=>yZ (qg w) (GH w)
theorem PY:∀w,GI w=mN:=bf fun w=>by rw[uY w,PW w];exact(x1 EW)
def afI:=gI cg fun w=>sX (fG w) (sw w)
theorem rQ:∀w,afI w=cg:=bf fun w=>by rw[gH w,wZ w];exact(x2 ah7)
def DF:=ve (bW,ee,dh) fun w x=>(lR x.2.1 x.2.2,lS x.2.1 x.1,lU x.2.2 (fM w))
theorem Mk:∀w,DF w=(bW,ee,dh):=mkLe fun w=>by rw[jb w];exact Prod.ext (x6 pB) (Prod.ext (x7 pC) ((x4 pD)))
def FB:=gI gz fun w=>wy (DF w).1 (qi w) (kn w) (fG w)
theorem NV:∀w,FB w=gz:=bf fun w=>by rw[Mk w];rw[u5 w,ni w,gH w];exact(x2 C3)
def IG:=ve (dY,gA) fun w x=>(px x.2 (DV w),py x.2 x.1)
theorem Rm:∀w,IG w=(dY,gA):=mkLe fun w=>by rw[Hs w];exact Prod.ext (x10 uG) ((x16 uH))
def Ks:=gI qG fun w=>CC (IG w).1
theorem SU:∀w,Ks w=qG:=bf fun w=>by rw[Rm w];exact(x2 Ig)
def DG:=gI jR fun w=>uI (xR w)
theorem Ml:∀w,DG w=jR:=bf fun w=>by rw[Ht w];exact(x2 BS)
def TY:=gI AB fun w=>LI (PN w) (Md w) (Fk w) (Wu w)
theorem ZX:∀w,TY w=AB:=bf fun w=>by rw[TQ w,Rh w,GA w,ab8 w];exact(x2 Q2)
def IH:=gI oq fun w=>AM (IE w)
theorem Rn:∀w,IH w=oq:=bf fun w=>by rw[Rk w];exact(x1 Gk)
def FC:=gI k9 fun w=>wB (rP w) (zq w)
theorem NW:∀w,FC w=k9:=bf fun w=>by rw[zr w,FA w];exact(x2 C6)
def zu:=ve (cY,aF,bY,bZ) fun w x=>(jh x.1 x.2.1 (GF w) (DD w),ji x.2.2.1 x.2.1 x.2.2.2 (Fi w) (zm w),jn x.2.2.1,jo x.2.2.2 x.2.1 (PX w) (JQ w) (zt w) (zm w))
theorem II:∀w,zu w=(cY,aF,bY,bZ):=mkLe fun w=>by rw[PS w,Mg w,Kk w,Ov w,TX w,Mh w,Hv w];exact Prod.ext (x11 mA) (Prod.ext (x11 mB) (Prod.ext (x7 mC) ((x14 mD))))
def Ag:=gI iw fun w=>qJ (zu w).1
theorem JS:∀w,Ag w=iw:=bf fun w=>by rw[II w];exact(x2 yx)
def xT:=ve (dr,bR,du,dv) fun w x=>(ua x.1 x.2.1 (Fx w) (B9 w),ub x.2.2.1 x.2.1 x.2.2.2 (Fi w) (zm w),uc x.2.2.1,ud x.2.2.2 x.2.1 (PX w) (JQ w) (zt w) (zm w))
theorem Hw:∀w,xT w=(dr,bR,du,dv):=mkLe fun w=>by rw[NT w,KP w,Kk w,Ov w,TX w,Mh w,Hv w];exact Prod.ext (x11 Er) (Prod.ext (x11 Es) (Prod.ext (x7 Et) ((x14 Eu))))
def qj:=gI fa fun w=>yy (xT w).1
theorem xU:∀w,qj w=fa:=bf fun w=>by rw[Hw w];exact(x2 HV)
def Kt:=gI vg fun w=>Ke (Kr w)
theorem SV:∀w,Kt w=vg:=bf fun w=>by rw[SS w];exact(x1 SG)
def Cf:=gI bD fun w=>s7 (qg w) (afI w) (FB w)
theorem KU:∀w,Cf w=bD:=bf fun w=>by rw[uY w,rQ w,NV w];exact(x2 z6)
def Mm:=ve (oi,fX) fun w x=>(AF x.2 (zt w),mZ x.2 (zt w))
theorem UI:∀w,Mm w=(oi,fX):=mkLe fun w=>by rw[Hv w];exact Prod.ext (x6 Gf) ((x6 po))
def Oz:=gI xc fun w=>G4 (Mm w).1
theorem Ww:∀w,Oz w=xc:=bf fun w=>by rw[UI w];exact(x2 Ly)
def Ku:=gI qD fun w=>Cx (CN w) (Ks w) (vU w)
theorem alp:∀w,Ku w=qD:=bf fun w=>by rw[Iy w,SU w,AZ w];exact(x2 HZ)
def TZ:=ve (kN,oZ) fun w x=>(Bc x.2 (DV w),Be x.2 x.1)
theorem ZY:∀w,TZ w=(kN,oZ):=mkLe fun w=>by rw[Hs w];exact Prod.ext (x6 EC) ((x10 ED))
def Wx:=gI HL fun w=>Pg (TZ w).1 (DG w)
theorem ab9:∀w,Wx w=HL:=bf fun w=>by rw[ZY w];rw[Ml w];exact(x1 TI)
def IJ:=ve ac1 fun w x=>we x (Wq w) (TR w) (L8 w) (TY w) (Fk w)
theorem Ro:∀w,IJ w=ac1:=mkLe fun w=>by rw[ab7 w,ZT w,M0 w,ZX w,GA w];exact(x4 CX)
def ajX:=gI qE fun w=>Cz (IJ w)
theorem SX:∀w,ajX w=qE:=bf fun w=>by rw[Ro w];exact(x2 Ib)
def zv:=ve (bN,cX,aT) fun w x=>(jq x.2.1 x.2.2 (j0 w),nA x.2.1 x.1 (sw w) (oT w),js x.2.2 (fM w) (FC w) (zq w))
theorem IK:∀w,zv w=(bN,cX,aT):=mkLe fun w=>by rw[lH w,wZ w,vE w,jb w,NW w,FA w];exact Prod.ext (x8 mH) (Prod.ext (x9 ui) ((x6 mI)))
def rR:=gI acr fun w=>qX (zv w).1 (qi w) (kn w) (fG w) (j0 w)
theorem zw:∀w,rR w=acr:=bf fun w=>by rw[IK w];rw[u5 w,ni w,gH w,lH w];exact(x2 yW)
def Bo:=gI jD fun w=>Bb (Oy w) (Wx w) (L8 w) (AW w) (vU w) (ajX w)
theorem FD:∀w,Bo w=jD:=bf fun w=>by rw[Wv w,ab9 w,M0 w,Gy w,AZ w,SX w];exact(x1 EB)
def Rp:=gI Ej fun w=>JH (Bo w) (IH w)
theorem XB:∀w,Rp w=Ej:=bf fun w=>by rw[FD w,Rn w];exact(x1 Ot)
def Ah:=ve dd fun w x=>oH x (rR w)
theorem JT:∀w,Ah w=dd:=mkLe fun w=>by rw[zw w];exact(x2 vx)
def tp:=gI eW fun w=>sY (Ah w) (Af w)
theorem Ai:∀w,tp w=eW:=bf fun w=>by rw[JT w];rw[JR w];exact(x2 ah9)
def OA:=gI xb fun w=>Hd (Rp w)
theorem Wy:∀w,OA w=xb:=bf fun w=>by rw[XB w];exact(x1 LM)
def Kw:=gI qF fun w=>CK (qg w) (Fp w) (afI w) (tp w)
theorem SY:∀w,Kw w=qF:=bf fun w=>by rw[uY w,NN w,rQ w,Ai w];exact(x1 Io)
def Cg:=gI lq fun w=>BZ (afI w) (rP w) (tp w) (rR w)
theorem KV:∀w,Cg w=lq:=bf fun w=>by rw[rQ w,zr w,Ai w,zw w];exact(x2 KJ)
def Mn:=ve eR fun w x=>tO x (Bo w) (OA w) (Fj w) (vG w) (vH w) (Oz w) (Ku w)
theorem UJ:∀w,Mn w=eR:=mkLe fun w=>by rw[FD w,Wy w,Kn w,FU w,FV w,Ww w,alp w];exact(x9 yt)
def Bp:=gI kL fun w=>G3 (Mn w) (zl w)
theorem FE:∀w,Bp w=kL:=bf fun w=>by rw[UJ w];rw[Bn w];exact(x1 Lx)
def FF:=gI dW fun w=>wC (GI w) (Kw w)
theorem NX:∀w,FF w=dW:=bf fun w=>by rw[PY w,SY w];exact(x1 C7)
def Aj:=gI il fun w=>z7 (kn w) (Cg w)
theorem JU:∀w,Aj w=il:=bf fun w=>by rw[ni w,KV w];exact(x2 JK)
def GK:=gI mM fun w=>zd (Fo w) (FF w) (wX w)
theorem P0:∀w,GK w=mM:=bf fun w=>by rw[NM w,NX w,Dx w];exact(x2 E7)
def Kx:=gI kR fun w=>vQ (Bp w) (Ag w)
theorem SZ:∀w,Kx w=kR:=bf fun w=>by rw[FE w,JS w];exact(x2 AH)
def IL:=gI sP fun w=>HU (Bp w) (qj w)
theorem Rq:∀w,IL w=sP:=bf fun w=>by rw[FE w,xU w];exact(x2 QV)
def OB:=ve (nr,ns,vf,gP,sJ) fun w x=>(Ka x.1 x.2.1 (Bo w) (Kt w) (IF w),Kb x.2.2.1,Kc x.2.2.2.1 x.2.1,HR x.2.2.2.1 x.2.2.2.2,HS x.2.2.2.1)
theorem Wz:∀w,OB w=(nr,ns,vf,gP,sJ):=mkLe fun w=>by rw[FD w,SV w,Rl w];exact Prod.ext (x10 SA) (Prod.ext (x9 SB) (Prod.ext (x12 SC) (Prod.ext (x13 QR) ((x10 QS)))))
def JV:=gI wa fun w=>QT (OB w).1 (Bp w)
theorem OC:∀w,JV w=wa:=bf fun w=>by rw[Wz w];rw[FE w];exact(x1 Xs)
def IM:=gI gQ fun w=>AG (Kx w)
theorem Rr:∀w,IM w=gQ:=bf fun w=>by rw[SZ w];exact(x1 Gg)
def OD:=gI BE fun w=>Oj (IL w)
theorem WA:∀w,OD w=BE:=bf fun w=>by rw[Rq w];exact(x1 Wl)
def DH:=ve fA fun w x=>zY x (GJ w)
theorem Mo:∀w,DH w=fA:=mkLe fun w=>by rw[PZ w];exact(x10 Jx)
def FG:=gI oe fun w=>Em (DH w) (JV w) (qj w)
theorem NY:∀w,FG w=oe:=bf fun w=>by rw[Mo w];rw[OC w,xU w];exact(x1 Nj)
def DI:=ve (dg,ab2) fun w x=>(mf x.2 (GK w) (nX w),mh x.2 x.1 (wX w) (Cf w))
theorem Mp:∀w,DI w=(dg,ab2):=mkLe fun w=>by rw[P0 w,Cb w,Dx w,KU w];exact Prod.ext (x2 pU) ((x4 pV))
def FH:=gI kX fun w=>wP (DI w).1
theorem NZ:∀w,FH w=kX:=bf fun w=>by rw[Mp w];exact(x1 Dh)
def IN:=ve (og,gp,iW,dy,eG,fH) fun w x=>(wS x.2.1 (nX w),p6 x.2.2.1 x.2.2.2.1 (qh w),wU x.2.2.1 x.2.1 (tU w),nT x.2.2.2.2.1 (nX w),nU x.2.2.2.2.2 x.2.2.2.1 (qh w),nW x.2.2.2.2.2 x.2.2.2.2.1 (tU w))
theorem Ru:∀w,IN w=(og,gp,iW,dy,eG,fH):=mkLe fun w=>by rw[Cb w,IB w,Gx w];exact Prod.ext (x7 Dm) (Prod.ext (x11 uU) (Prod.ext (x12 aid) (Prod.ext (x9 tb) (Prod.ext (x12 tc) ((x13 td))))))
def Ky:=gI kK fun w=>CM (IN w).1 (wW w) (FH w)
theorem S0:∀w,Ky w=kK:=bf fun w=>by rw[Ru w];rw[Du w,NZ w];exact(x2 It)
def Ch:=gI ll fun w=>BU (Ky w)
theorem KW:∀w,Ch w=ll:=bf fun w=>by rw[S0 w];exact KI.symm
def P1:=gI gj fun w=>EP (Ch w) (IM w) (OD w) (FG w) (JV w) (zk w) (L5 w) (xM w)
theorem N0:∀w,P1 w=gj:=bf fun w=>by rw[KW w,Rr w,WA w,NY w,OC w,Ix w,UG w,Hn w];exact Np.symm
end
end Go.Proofs.YtofjebmoebhiiaaGreatDoor.Ev
namespace Go.Abs
theorem DJ {a b:Int}(h:a<b):decide (a<b)=true:=decide_eq_true h
theorem Ci {a b:Int}(h:¬a<b):decide (a<b)=false:=decide_eq_false h
theorem aqV {a b:Int}(h:a≤b):decide (a≤b)=true:=decide_eq_true h
theorem ajN {a b:Int}(h:¬a≤b):decide (a≤b)=false:=decide_eq_false h
theorem ajO {a b:Int}(h:a>b):decide (a>b)=true:=decide_eq_true h
theorem am4 {a b:Int}(h:¬a>b):decide (a>b)=false:=decide_eq_false h
theorem afL {a b:Int}(h:a≥b):decide (a≥b)=true:=decide_eq_true h
theorem aca {a b:Int}(h:¬a≥b):decide (a≥b)=false:=decide_eq_false h
theorem afM {a b:Int}(h:a=b):(a==b)=true:=beq_iff_eq.2 h
theorem Mq {a b:Int}(h:¬a=b):(a==b)=false:=by simpa using h
theorem ajP {a b:Int}(h:¬a=b):(a != b)=true:=by simpa [bne] using h
theorem ajQ {a b:Int}(h:a=b):(a != b)=false:=by simp[bne,h]
theorem tq {xs:List Int}{i:Int}(h0:0≤i)(h:i<xs.length):idx xs i=some (xs.getD i.toNat 0):=by
 obtain⟨n,rfl⟩:=Int.eq_ofNat_of_zero_le h0
 show xs[n]? =_
 have:n<xs.length:=by omega
 simp[List.getD,this]
theorem WB {xs:List Int}{k:Nat}(h:k<xs.length):xs[k]? =some (xs.getD k 0):=by simp[List.getD,h]
theorem afN {α:Type}(d:α){xs:List α}{i:Int}(h0:0≤i)(h:i<xs.length):idx xs i=some (xs.getD i.toNat d):=by
 obtain⟨n,rfl⟩:=Int.eq_ofNat_of_zero_le h0
 show xs[n]? =_
 have:n<xs.length:=by omega
 simp[List.getD,this]
theorem UX {b s n m:Nat}(h0:0<s)(h:(n+m)*b≤140737488355328):aP b s n m=true:=by
 unfold aP
 rw[Bool.and_eq_true]
 exact⟨Nat.ble_eq_true_of_le h0,Nat.ble_eq_true_of_le h⟩
theorem Rv {b:Nat}{l c:Int}(h0:0≤l)(h1:l≤c)(h2:(b:Int)*c≤140737488355328):gK b l c=true:=by
 unfold gK
 simp[h0,h1,h2]
theorem afO {n:Nat}{l h:Int}(h0:0≤l)(h1:l≤h)(h2:h≤n):dN n l h=true:=by
 unfold dN
 simp[h0,h1,h2]
theorem aqW {a b:Nat}(h:a≤b):Nat.ble a b=true:=Nat.ble_eq_true_of_le h
def val (B:Int):List Int→Int
 | []=>0
 |x::xs=>x+B*val B xs
def jt (B:Int)(d:List Int):Prop:=∀x∈d,0≤x∧x<B
theorem jt.nil {B:Int}:jt B []:=fun x h=>by cases h
theorem jt.cons {B x:Int}{d:List Int}(h0:0≤x)(h1:x<B)(h:jt B d):jt B (x::d):=fun y hy=>by
 rcases List.mem_cons.1 hy with rfl |hy
 ·exact⟨h0,h1⟩
 ·exact h y hy
theorem jt.head {B x:Int}{d:List Int}(h:jt B (x::d)):0≤x∧x<B:=h x (by simp)
theorem jt.tail {B x:Int}{d:List Int}(h:jt B (x::d)):jt B d:=fun y hy=>h y (by simp[hy])
theorem jt.append {B:Int}{d e:List Int}(h1:jt B d)(h2:jt B e):jt B (d++e):=fun y hy=>by
 rcases List.mem_append.1 hy with hy |hy
 ·exact h1 y hy
 ·exact h2 y hy
theorem jt.left {B:Int}{d e:List Int}(h:jt B (d++e)):jt B d:=fun y hy=>h y (by simp[hy])
theorem jt.right {B:Int}{d e:List Int}(h:jt B (d++e)):jt B e:=fun y hy=>h y (by simp[hy])
theorem jt.drop {B:Int}{d:List Int}(h:jt B d)(k:Nat):jt B (d.drop k):=fun y hy=>h y (List.mem_of_mem_drop hy)
theorem jt.take {B:Int}{d:List Int}(h:jt B d)(k:Nat):jt B (d.take k):=fun y hy=>h y (List.mem_of_mem_take hy)
theorem jt.getD {B:Int}{d:List Int}(h:jt B d)(hB:0<B)(k:Nat):0≤d.getD k 0∧d.getD k 0<B:=by
 by_cases hk:k<d.length
 ·have:d.getD k 0=d[k]:=by simp[List.getD,hk]
  rw[this];exact h _ (List.getElem_mem hk)
 ·have:d.getD k 0=0:=by
   have h':d[k]? =none:=List.getElem?_eq_none (by omega)
   simp[List.getD,h']
  rw[this];exact⟨by omega,hB⟩
theorem jt.replicate {B:Int}(hB:0<B)(n:Nat):jt B (List.replicate n 0):=fun y hy=>by
 obtain⟨_,rfl⟩:=List.mem_replicate.1 hy
 exact⟨by omega,hB⟩
theorem jt.set {B x:Int}{d:List Int}(h:jt B d)(h0:0≤x)(h1:x<B)(k:Nat):jt B (d.set k x):=fun y hy=>by
 rcases List.mem_or_eq_of_mem_set hy with hy |rfl
 ·exact h y hy
 ·exact⟨h0,h1⟩
theorem lI {B:Int}(hB:0≤B):∀{d:List Int},jt B d→0≤val B d
 | [],_=>by simp[val]
 |x::d,h=>by
  have h1:=h.head.1
  have h2:=lI hB h.tail
  have:=Int.mul_nonneg hB h2
  simp only[val];omega
theorem jc (B:Int):∀(d e:List Int),val B (d++e)=val B d+B^d.length*val B e
 | [],e=>by simp[val]
 |x::d,e=>by
  simp only[List.cons_append,val,jc B d e,List.length_cons,Int.pow_succ,Int.mul_add]
  rw[←Int.mul_assoc,Int.mul_comm B (B^d.length)]
  omega
theorem OE (B:Int)(n:Nat):val B (List.replicate n 0)=0:=by
 induction n with
 |zero=>rfl
 |succ n ih=>rw[List.replicate_succ,val,ih];simp
theorem CP {B:Int}(hB:0<B):∀{d:List Int},jt B d→val B d<B^d.length
 | [],_=>by simp[val]
 |x::d,h=>by
  have h1:=h.head.2
  have h2:=CP hB h.tail
  have h3:B*(val B d+1)≤B*B^d.length:=Int.mul_le_mul_of_nonneg_left (by omega) (by omega)
  simp only[val,List.length_cons,Int.pow_succ]
  rw[Int.mul_comm (B^d.length) B]
  rw[Int.mul_add] at h3
  omega
def pd:List Int→List Int
 | []=>[]
 |x::xs=>match pd xs with
  | []=>if x=0 then [] else [x]
  |y::ys=>x::y::ys
theorem GL:∀d:List Int,pd (d++[0])=pd d
 | []=>rfl
 |x::d=>by simp only[List.cons_append,pd,GL d]
theorem JW {y:Int}(hy:y≠0):∀d:List Int,pd (d++[y])=d++[y]
 | []=>by simp[pd,hy]
 |x::d=>by
  simp only[List.cons_append,pd,JW hy d]
  cases d<;>rfl
theorem DW:∀d:List Int,(pd d).length≤d.length
 | []=>Nat.le_refl _
 |x::d=>by
  have:=DW d
  simp only[pd]
  split
  ·split<;>simp
  ·rename_i y ys h
   rw[h] at this
   simp at this ⊢;omega
def W6 (B:Nat)(n:Nat):List Int:=if h:n=0∨B≤1 then [] else ((n % B:Nat):Int)::W6 B (n / B)
termination_by n
decreasing_by exact Nat.div_lt_self (by omega) (by omega)
theorem fj (B:Nat):W6 B 0=[]:=by rw[W6];simp
theorem Bq {B n:Nat}(hB:1<B)(hn:0<n):W6 B n=((n % B:Nat):Int)::W6 B (n / B):=by
 rw[W6,dif_neg (by omega)]
theorem nF {B n:Nat}(hB:1<B):W6 B n=[]↔n=0:=by
 constructor
 ·intro h
  by_cases hn:n=0
  ·exact hn
  ·rw[Bq hB (by omega)] at h;cases h
 ·rintro rfl;exact fj B
theorem ZZ {B:Nat}(hB:1<B):∀n,jt B (W6 B n):=by
 intro n
 induction n using Nat.strongRecOn with
 |ind n ih=>
  by_cases hn:n=0
  ·subst hn;rw[fj];exact jt.nil
  ·rw[Bq hB (by omega)]
   have:=Nat.mod_lt n (show B>0 by omega)
   exact jt.cons (by omega) (by omega) (ih _ (Nat.div_lt_self (by omega) hB))
theorem Z0 {B:Nat}(hB:1<B):∀n,val B (W6 B n)=n:=by
 intro n
 induction n using Nat.strongRecOn with
 |ind n ih=>
  by_cases hn:n=0
  ·subst hn;rw[fj];rfl
  ·rw[Bq hB (by omega),val,ih _ (Nat.div_lt_self (by omega) hB)]
   have:=Nat.mod_add_div n B
   omega
theorem IP {B:Nat}(hB:1<B):∀d:List Int,jt B d→pd d=W6 B (val B d).toNat
 | [],_=>by simp[pd,val,fj]
 |x::d,h=>by
  have ih:=IP hB d h.tail
  have hx:=h.head
  have hv:=lI (B:=B) (by omega) h.tail
  obtain⟨v,hv'⟩:=Int.eq_ofNat_of_zero_le hv
  obtain⟨a,rfl⟩:=Int.eq_ofNat_of_zero_le hx.1
  have hab:a<B:=by omega
  simp only[pd,val,hv']
  rw[hv'] at ih
  have e:((a:Int)+(B:Int)*(v:Int)).toNat=a+B*v:=by
   rw[←Int.natCast_mul, ←Int.natCast_add];exact Int.toNat_natCast _
  rw[e]
  simp only[Int.toNat_natCast] at ih
  by_cases hv0:v=0
  ·subst hv0
   rw[fj] at ih
   rw[ih]
   simp only
   by_cases ha:a=0
   ·subst ha;simp[fj]
   ·rw[Bq hB (by omega)]
    have h1:(a+B*0) % B=a:=by simp[Nat.mod_eq_of_lt hab]
    have h2:(a+B*0) / B=0:=by simp[Nat.div_eq_of_lt hab]
    rw[h1,h2,fj,if_neg (by omega)]
  ·have hpos:0<a+B*v:=by
    have:0<B*v:=Nat.mul_pos (by omega) (by omega)
    omega
   rw[Bq hB hpos]
   have h1:(a+B*v) % B=a:=by rw[Nat.add_mul_mod_self_left,Nat.mod_eq_of_lt hab]
   have h2:(a+B*v) / B=v:=by rw[Nat.add_mul_div_left _ _ (by omega:0<B),Nat.div_eq_of_lt hab];omega
   rw[h1,h2,ih]
   have hne:W6 B v≠ []:=fun e=>hv0 ((nF hB).1 e)
   split
   ·rename_i e;exact absurd e hne
   ·rename_i y ys e;rw[e]
theorem ad2 {B:Nat}(hB:1<B){d:List Int}(h:jt B d)(ht:pd d=d):d=W6 B (val B d).toNat:=by
 rw[←IP hB d h,ht]
theorem Rw {B:Nat}(hB:1<B)(n:Nat):pd (W6 B n)=W6 B n:=by
 rw[IP hB _ (ZZ hB n),Z0 hB];rfl
theorem aZ {B:Nat}(hB:1<B):∀(k n:Nat),(W6 B n).length≤k↔n<B^k
 |0,n=>by
  rw[Nat.pow_zero]
  constructor
  ·intro h
   have:=(nF (n:=n) hB).1 (List.length_eq_zero_iff.1 (Nat.le_zero.1 h))
   omega
  ·intro h
   have:n=0:=by omega
   subst this;simp[fj]
 |k+1,n=>by
  by_cases hn:n=0
  ·subst hn
   simp only[fj,List.length_nil]
   exact⟨fun _=>Nat.pow_pos (by omega),fun _=>by omega⟩
  ·rw[Bq hB (by omega),List.length_cons]
   have:=aZ hB k (n / B)
   rw[Nat.pow_succ, ←Nat.div_lt_iff_lt_mul (by omega)]
   omega
theorem gN {B:Nat}(hB:1<B)(k n:Nat):k<(W6 B n).length↔B^k≤n:=by
 have:=aZ hB k n
 omega
theorem T0 {B:Nat}(hB:1<B){n:Nat}:∀{d:List Int} {y:Int},W6 B n=d++[y]→y≠0:=by
 intro d y h hy
 subst hy
 have h1:=Rw hB n
 rw[h,GL] at h1
 have h2:=DW d
 rw[h1] at h2
 simp at h2
 omega
theorem tW (l:List Int)(k j:Nat):(l.drop k).getD j 0=l.getD (k+j) 0:=by simp[List.getD,List.getElem?_drop]
theorem drop_eq {l:List Int}{k:Nat}(h:k<l.length):l.drop k=l.getD k 0::l.drop (k+1):=by
 rw[List.drop_eq_getElem_cons h]
 simp[List.getD,h]
theorem drop_nil {l:List Int}{k:Nat}(h:l.length≤k):l.drop k=[]:=List.drop_eq_nil_of_le h
theorem getD_none {l:List Int}{k:Nat}(h:l.length≤k):l.getD k 0=0:=by
 have h':l[k]? =none:=List.getElem?_eq_none (by omega)
 simp[List.getD,h']
theorem aqX {α:Type}(d:List α)(h:Int):cut d 0 h=d.take h.toNat:=by simp[cut]
end Go.Abs
namespace Go.Abs
theorem bT {a b:Int}(h:0≤a):a.tmod b=a % b:=Int.tmod_eq_emod_of_nonneg h
theorem nk {a b:Int}(h:0≤a):a.tdiv b=a / b:=Int.tdiv_eq_ediv_of_nonneg h
theorem eE {l:List Int}{k:Nat}(h:k<l.length):l.take (k+1)=l.take k++[l.getD k 0]:=by
 rw[List.take_add_one]
 simp[List.getD,h]
def tX (x y:Int):Int:=if x<y then -1 else if y<x then 1 else 0
theorem vV {x y:Int}(h:x<y):tX x y= -1:=by unfold tX;rw[if_pos h]
theorem zx {x y:Int}(h:y<x):tX x y=1:=by unfold tX;rw[if_neg (by omega),if_pos h]
theorem Rx {x y:Int}(h:x=y):tX x y=0:=by unfold tX;rw[if_neg (by omega),if_neg (by omega)]
theorem P2 {x y:Int}:tX x y<0↔x<y:=by
 unfold tX
 by_cases h1:x<y
 ·rw[if_pos h1];omega
 ·rw[if_neg h1];split<;>omega
theorem Z1 {B:Int}(hB:0<B){d e:List Int}{x y:Int}(hd:jt B d)(he:jt B e)(hl:d.length=e.length)(h:x<y):val B (d++[x])<val B (e++[y]):=by
 rw[jc,jc]
 have h1:=CP hB hd
 have h2:=lI (by omega) he
 rw[hl] at h1 ⊢
 have h3:B^e.length*(x+1)≤B^e.length*y:=Int.mul_le_mul_of_nonneg_left (by omega) (Int.pow_nonneg (by omega))
 rw[Int.mul_add] at h3
 simp only[val]
 simp only[Int.mul_zero,Int.add_zero] at*
 omega
end Go.Abs
namespace Go.Abs
section
variable {α β:Type}{x y:α}{a b:Int}
theorem cT (x y:α):(bif true then x else y)=x:=(cond_true x y).trans (Eq.refl x)
theorem cF (x y:α):(bif false then x else y)=y:=(cond_false x y).trans (Eq.refl y)
theorem bS (z:α)(f:α→Option β):(some z).bind f=f z:=(Option.bind_some z f).trans (Eq.refl _)
theorem c_t {c:Bool}(h:c=true):(bif c then x else y)=x:=by rw[h];exact cT _ _
theorem c_f {c:Bool}(h:c=false):(bif c then x else y)=y:=by rw[h];exact cF _ _
theorem aB (h:a<b):(bif decide (a<b) then x else y)=x:=c_t (DJ h)
theorem az (h:¬a<b):(bif decide (a<b) then x else y)=y:=c_f (Ci h)
theorem OF (h:a≤b):(bif decide (a≤b) then x else y)=x:=c_t (aqV h)
theorem WC (h:¬a≤b):(bif decide (a≤b) then x else y)=y:=c_f (ajN h)
theorem cZ (h:a>b):(bif decide (a>b) then x else y)=x:=c_t (ajO h)
theorem c8 (h:¬a>b):(bif decide (a>b) then x else y)=y:=c_f (am4 h)
theorem tt (h:a≥b):(bif decide (a≥b) then x else y)=x:=c_t (afL h)
theorem tu (h:¬a≥b):(bif decide (a≥b) then x else y)=y:=c_f (aca h)
theorem ur (h:a=b):(bif a==b then x else y)=x:=c_t (afM h)
theorem ko (h:¬a=b):(bif a==b then x else y)=y:=c_f (Mq h)
theorem j5 (h:¬a=b):(bif !(a==b) then x else y)=x:=c_t (by rw[Mq h];exact Eq.refl _)
theorem Cj (h:¬a=b):(bif a != b then x else y)=x:=c_t (ajP h)
theorem pe (h:a=b):(bif a != b then x else y)=y:=c_f (ajQ h)
theorem kg {p s n m:Nat}(h0:0<s)(h:(n+m)*p≤140737488355328):(bif aP p s n m then x else y)=x:=c_t (UX h0 h)
theorem GM {p:Nat}{l c:Int}(h0:0≤l)(h1:l≤c)(h2:(p:Int)*c≤140737488355328):(bif gK p l c then x else y)=x:=c_t (Rv h0 h1 h2)
theorem JX {n:Nat}{l h:Int}(h0:0≤l)(h1:l≤h)(h2:h≤n):(bif dN n l h then x else y)=x:=c_t (afO h0 h1 h2)
theorem auu {m n:Nat}(h:m≤n):(bif Nat.ble m n then x else y)=x:=c_t (aqW h)
theorem eL {xs:List Int}{i:Int}{f:Int→Option β}(h0:0≤i)(h:i<xs.length):(idx xs i).bind f=f (xs.getD i.toNat 0):=by rw[tq h0 h];exact bS _ _
theorem rS {xs:List Int}{k:Nat}{f:Int→Option β}(h:k<xs.length):(xs[k]?).bind f=f (xs.getD k 0):=by rw[WB h];exact bS _ _
end
end Go.Abs
namespace Go.Abs
theorem bz (s:ByteArray):(bytesOf s).length=s.size:=by
 rw[bytesOf,List.length_map,Array.length_toList];rfl
theorem nG (s:ByteArray):jt 256 (bytesOf s):=fun x hx=>by
 simp only[bytesOf,List.mem_map] at hx
 obtain⟨b,_,rfl⟩:=hx
 have:=b.toNat_lt
 omega
theorem Br (s:ByteArray)(i:Int):uw s i=idx (bytesOf s) i:=by
 cases i with
 |ofNat n=>
  show (s[n]?).map _=(bytesOf s)[n]?
  simp only[bytesOf,List.getElem?_map,Array.getElem?_toList]
  rfl
 |negSucc n=>rfl
theorem vW (s:ByteArray)(l h:Nat):bytesOf (s.extract l h)=((bytesOf s).take h).drop l:=by
 simp only[bytesOf,ByteArray.data_extract,Array.toList_extract,List.extract_eq_take_drop]
 rw[←List.map_take, ←List.map_drop,List.drop_take]
theorem tv {s t:ByteArray}(h:bytesOf s=bytesOf t):s=t:=by
 apply ByteArray.ext
 apply Array.ext'
 refine(List.map_inj_right fun a b hab=> ?_).1 h
 have h2:a.toNat=b.toNat:=Int.ofNat.inj hab
 exact UInt8.toNat_inj.1 h2
theorem vJ {xs:List Int}(h:jt 256 xs):bytesOf (strOf xs)=xs:=by
 simp only[bytesOf,strOf,List.map_map]
 conv=>rhs;rw[←List.map_id xs]
 apply List.map_congr_left
 intro x hx
 have:=h x hx
 simp only[Function.comp,id,UInt8.toNat_ofNat']
 omega
theorem XC (s:ByteArray):strOf (bytesOf s)=s:=tv (vJ (nG s))
theorem acb (s:ByteArray):∀(n i:Nat) (r:List UInt8),s.size - i=n→ByteArray.toList.loop s i r=r.reverse++s.data.toList.drop i:=by
 intro n
 induction n with
 |zero=>
  intro i r h
  rw[ByteArray.toList.loop,if_neg (by omega)]
  rw[List.drop_eq_nil_of_le (by simp;exact(show s.data.size≤i by have:= @ByteArray.size_data s;omega))];simp
 |succ n ih=>
  intro i r h
  have hi:i<s.size:=by omega
  have hi':i<s.data.toList.length:=by simp;exact(show i<s.data.size by have:= @ByteArray.size_data s;omega)
  rw[ByteArray.toList.loop,if_pos hi,ih (i+1) _ (by omega)]
  rw[List.drop_eq_getElem_cons hi']
  simp
  have:s.get! i=s.data[i]'(by simpa using hi'):=by
   simp only[ByteArray.get!]
   exact getElem!_pos _ _ _
  exact this
theorem toList_eq (s:ByteArray):s.toList=s.data.toList:=by
 rw[ByteArray.toList,acb s _ 0 [] rfl];simp
theorem Z2 (s t:ByteArray):(s.toList==t.toList)=decide (bytesOf s=bytesOf t):=by
 rw[toList_eq,toList_eq]
 by_cases h:s=t
 ·subst h;simp
 ·have h1:¬bytesOf s=bytesOf t:=fun e=>h (tv e)
  have h2:¬s.data.toList=t.data.toList:=fun e=>h (ByteArray.ext (Array.ext' e))
  rw[decide_eq_false h1]
  simpa using h2
theorem WD (s t:ByteArray):(s.toList==t.toList)=decide (s=t):=by
 rw[Z2]
 exact decide_eq_decide.2 ⟨tv,fun h=>by rw[h]⟩
theorem XD:bytesOf ByteArray.empty=[]:=rfl
end Go.Abs
namespace Go.Abs
abbrev dX (n:Nat):List Int:=W6 10 n
abbrev VX (d:List Int):Int:=val 10 d
abbrev DX (d:List Int):Prop:=jt 10 d
theorem JY (n:Nat):DX (dX n):=ZZ (B:=10) (by omega) n
theorem Mr (n:Nat):VX (dX n)=n:=Z0 (B:=10) (by omega) n
theorem YL {d:List Int}(h:DX d):pd d=dX (VX d).toNat:=IP (B:=10) (by omega) d h
theorem M3 {d:List Int}(h:DX d):0≤VX d:=lI (by omega) h
theorem JZ (n:Nat):((10^n:Nat):Int)=(10:Int)^n:=by
 rw[Int.natCast_pow];rfl
theorem Ry {k n:Nat}(h:k≤n):(10:Int)^k≤10^n:=by
 have h1:=Nat.pow_le_pow_right (show 10>0 by omega) h
 rw[←JZ, ←JZ]
 exact Int.ofNat_le.2 h1
def Z3 (d:List Int):List Int:=d.map (· +48)
def mo (n:Nat):List Int:=if n=0 then [48] else (Z3 (dX n)).reverse
def u6 (z:Int):List Int:=(if z<0 then [45] else [])++mo z.natAbs
def ju (z:Int):ByteArray:=strOf (u6 z)
theorem tw (n:Nat):∀c∈mo n,48≤c∧c≤57:=by
 intro c hc
 unfold mo at hc
 split at hc
 ·simp at hc;omega
 ·rw[List.mem_reverse] at hc
  obtain⟨y,hy,rfl⟩:=List.mem_map.1 hc
  have:=JY n y hy
  omega
theorem ad3 (z:Int):jt 256 (u6 z):=fun c hc=>by
 unfold u6 at hc
 rcases List.mem_append.1 hc with h |h
 ·split at h
  ·simp at h;omega
  ·cases h
 ·have:=tw _ c h
  omega
theorem fk (z:Int):bytesOf (ju z)=u6 z:=vJ (ad3 z)
theorem Z4 (n:Nat):mo n≠ []:=by
 unfold mo
 split
 ·simp
 ·rename_i h
  intro e
  have h1:Z3 (dX n)=[]:=by simpa using e
  have h2:dX n=[]:=by simpa [Z3] using h1
  exact h ((nF (B:=10) (by omega)).1 h2)
theorem tz (n:Nat):(mo n).length=max 1 (dX n).length:=by
 unfold mo
 split
 ·rename_i h;subst h;rw[dX,fj];rfl
 ·rename_i h
  have:(dX n).length≠0:=fun e=>h ((nF (B:=10) (by omega)).1 (List.length_eq_zero_iff.1 e))
  simp[Z3];omega
theorem ahh (n:Nat):(mo n).head?=some 48↔n=0:=by
 unfold mo
 split
 ·rename_i h;simp[h]
 ·rename_i h
  have hne:dX n≠ []:=fun e=>h ((nF (B:=10) (by omega)).1 e)
  constructor
  ·intro e
   exfalso
   rw[List.head?_reverse] at e
   have h1:dX n=(dX n).dropLast++[(dX n).getLast hne]:=(List.dropLast_concat_getLast hne).symm
   have h2:=T0 (B:=10) (by omega) h1
   rw[Z3,List.getLast?_map,List.getLast?_eq_some_getLast hne] at e
   simp at e
   omega
  ·intro e;exact absurd e h
def kp (l:List Int):Int:=l.foldl (fun x c=>10*x+(c - 48)) 0
theorem M4:∀(l:List Int) (x:Int),l.foldl (fun x c=>10*x+(c - 48)) x=x*10^l.length+kp l
 | [],x=>by simp[kp]
 |c::l,x=>by
  simp only[List.foldl_cons,kp]
  rw[M4 l (10*x+(c - 48)),M4 l (10*0+(c - 48)),List.length_cons,Int.pow_succ,Int.add_mul]
  have e1:10*x*10^l.length=x*(10^l.length*10):=by rw[Int.mul_comm 10 x,Int.mul_assoc,Int.mul_comm 10]
  rw[e1];simp only[Int.mul_zero,Int.zero_add];omega
theorem GN (l m:List Int):kp (l++m)=kp l*10^m.length+kp m:=by
 rw[kp,List.foldl_append,M4]
 rfl
theorem A3:∀(d:List Int),kp (Z3 d).reverse=VX d
 | []=>rfl
 |x::d=>by
  simp only[Z3,List.map_cons,List.reverse_cons]
  rw[GN]
  have:=A3 d
  rw[Z3] at this
  rw[this]
  simp[kp,VX,val];omega
theorem IQ (n:Nat):kp (mo n)=n:=by
 unfold mo
 split
 ·rename_i h;subst h;rfl
 ·rw[A3,Mr]
theorem Ck:∀(l:List Int),(∀c∈l,48≤c∧c≤57)→0≤kp l∧kp l<10^l.length
 | [],_=>by simp[kp]
 |c::l,h=>by
  have h1:=h c (by simp)
  have h2:=Ck l (fun x hx=>h x (by simp[hx]))
  have h3:kp (c::l)=(c - 48)*10^l.length+kp l:=by
   have:=M4 l (10*0+(c - 48))
   simpa [kp] using this
  rw[h3,List.length_cons,Int.pow_succ]
  have hp:(0:Int)<10^l.length:=Int.pow_pos (by omega)
  have h4:0≤(c - 48)*10^l.length:=Int.mul_nonneg (by omega) (by omega)
  have h5:(c - 48)*10^l.length≤9*10^l.length:=Int.mul_le_mul_of_nonneg_right (by omega) (by omega)
  omega
def UY (c:Int):Bool:=decide (48≤c)&&decide (c≤57)
theorem Bs (c:Int):UY c=true↔48≤c∧c≤57:=by simp[UY]
theorem ahi {l:List Int}(h:∀c∈l,48≤c∧c≤57)(hne:l≠ [])(h0:l.head?=some 48→l=[48]):l=mo (kp l).toNat:=by
 by_cases hz:l.head?=some 48
 ·rw[h0 hz];rfl
 · -- Oa digits from Oa lowest one on
   have hD:DX (l.map (· - 48)).reverse:=fun x hx=>by
    rw[List.mem_reverse] at hx
    obtain⟨c,hc,rfl⟩:=List.mem_map.1 hx
    have:=h c hc
    omega
   have aqY:Z3 (l.map (· - 48)).reverse=l.reverse:=by
    simp only[Z3, ←List.map_reverse,List.map_map]
    conv=>rhs;rw[←List.map_id l.reverse]
    apply List.map_congr_left
    intro c _
    simp only[Function.comp,id];omega
   have hv:VX (l.map (· - 48)).reverse=kp l:=by rw[←A3,aqY,List.reverse_reverse]
   have aqZ:pd (l.map (· - 48)).reverse=(l.map (· - 48)).reverse:=by
    cases l with
    |nil=>exact absurd rfl hne
    |cons c l=>
     simp only[List.map_cons,List.reverse_cons]
     exact JW (fun e=>hz (by simp;omega)) _
   have hu:=ad2 (B:=10) (by omega) hD aqZ
   rw[show val ((10:Nat):Int) (l.map (· - 48)).reverse=kp l from hv] at hu
   have hnz:(kp l).toNat≠0:=fun e=>by
    rw[e,fj] at hu
    exact hne (by simpa using hu)
   unfold mo
   rw[if_neg hnz,dX, ←hu,aqY,List.reverse_reverse]
theorem acd {m n:Nat}(h:mo m=mo n):m=n:=by
 have h1:=IQ m
 rw[h,IQ n] at h1
 omega
theorem ajS {x y:Int}(h:u6 x=u6 y):x=y:=by
 unfold u6 at h
 have key:∀(m n:Nat),([45]:List Int)++mo m≠ []++mo n:=fun m n e=>by
  have:(45:Int)∈mo n:=by
   rw[List.nil_append] at e
   rw[←e];simp
  have:=tw n _ this
  omega
 split at h<;>split at h
 ·have:=acd (List.append_cancel_left h);omega
 ·exact absurd h (key _ _)
 ·exact absurd h.symm (key _ _)
 ·have:=acd (List.append_cancel_left h);omega
theorem alZ {x y:Int}(h:ju x=ju y):x=y:=ajS (by rw[←fk, ←fk,h])
theorem ad4 {x y:Int}:ju x=ju y↔x=y:=⟨alZ,fun h=>by rw[h]⟩
def j6 (l:List Int):Bool:=l.head?==some 45
def bP (l:List Int):List Int:=if l.head?=some 45 then l.tail else l
def hU (l:List Int):Bool:=
 (bP l).all UY&& !((bP l).isEmpty)&&(!((bP l).head?==some 48)||((bP l).length==1&& !(j6 l)))
def numOf (l:List Int):Int:=if j6 l then -kp (bP l) else kp (bP l)
theorem T1 (z:Int):hU (u6 z)=true∧numOf (u6 z)=z:=by
 have hr:=tw z.natAbs
 have hne:=Z4 z.natAbs
 have hh:=ahh z.natAbs
 by_cases h:z<0
 ·have hb:bP (u6 z)=mo z.natAbs:=by simp[bP,u6,h]
  have hm:j6 (u6 z)=true:=by simp[j6,u6,h]
  have hz:¬(mo z.natAbs).head?=some 48:=fun e=>by have:=hh.1 e;omega
  refine⟨?_, ?_⟩
  ·unfold hU
   rw[hb,hm]
   have h1:(mo z.natAbs).all UY=true:=List.all_eq_true.2 fun c hc=>(Bs c).2 (hr c hc)
   have h2:(mo z.natAbs).isEmpty=false:=by simpa using hne
   have h3:((mo z.natAbs).head?==some 48)=false:=by simpa using hz
   rw[h1,h2,h3];rfl
  ·unfold numOf
   rw[hb,hm,IQ];simp;omega
 ·have hb':(u6 z).head?≠some 45:=by
   simp only[u6,h,if_false,List.nil_append]
   intro e
   have:(45:Int)∈mo z.natAbs:=List.mem_of_mem_head? (by rw[e];rfl)
   have:=hr _ this
   omega
  have hb:bP (u6 z)=mo z.natAbs:=by
   unfold bP;rw[if_neg hb'];simp[u6,h]
  have hm:j6 (u6 z)=false:=by simpa [j6] using hb'
  refine⟨?_, ?_⟩
  ·unfold hU
   rw[hb,hm]
   have h1:(mo z.natAbs).all UY=true:=List.all_eq_true.2 fun c hc=>(Bs c).2 (hr c hc)
   have h2:(mo z.natAbs).isEmpty=false:=by simpa using hne
   rw[h1,h2]
   by_cases h3:(mo z.natAbs).head?=some 48
   ·have:z.natAbs=0:=hh.1 h3
    rw[this];rfl
   ·have h4:((mo z.natAbs).head?==some 48)=false:=by simpa using h3
    rw[h4];rfl
  ·unfold numOf
   rw[hb,hm,IQ];simp;omega
theorem WE {l:List Int}(h:hU l=true):l=u6 (numOf l):=by
 unfold hU at h
 simp only[Bool.and_eq_true,Bool.or_eq_true,Bool.not_eq_true',List.isEmpty_eq_false_iff] at h
 obtain⟨⟨h1,h2⟩,h3⟩:=h
 have hr:∀c∈bP l,48≤c∧c≤57:=fun c hc=>(Bs c).1 (List.all_eq_true.1 h1 c hc)
 have h0:(bP l).head?=some 48→bP l=[48]∧j6 l=false:=fun e=>by
  rcases h3 with h3 |h3
  ·rw[e] at h3;cases h3
  ·refine⟨?_,h3.2⟩
   cases hb:bP l with
   |nil=>exact absurd hb h2
   |cons c r=>
    rw[hb] at e h3
    simp at e h3
    rw[e,h3.1]
 have hn:=ahi hr h2 (fun e=>(h0 e).1)
 have hb:=Ck _ hr
 by_cases hm:l.head?=some 45
 ·have hm':j6 l=true:=by simpa [j6] using hm
  have hnz:kp (bP l)≠0:=fun e=>by
   rw[e] at hn
   have:(bP l).head?=some 48:=by rw[hn];rfl
   have:=(h0 this).2
   rw[hm'] at this;cases this
  have hl:l=45::bP l:=by
   cases l with
   |nil=>cases hm
   |cons c r=>simp at hm;subst hm;simp[bP]
  unfold numOf u6
  rw[if_pos hm',if_pos (by omega)]
  conv=>lhs;rw[hl,hn]
  have:(-kp (bP l)).natAbs=(kp (bP l)).toNat:=by omega
  rw[this];rfl
 ·have hm':j6 l=false:=by simpa [j6] using hm
  have hl:bP l=l:=by unfold bP;rw[if_neg hm]
  unfold numOf u6
  rw[hm',hl]
  rw[hl] at hn hb
  simp only[Bool.false_eq_true,if_false]
  rw[if_neg (by omega),List.nil_append]
  have:(kp l).natAbs=(kp l).toNat:=by omega
  rw[this];exact hn
def nd (z:Int):Nat:=(mo z.natAbs).length
theorem lb (z:Int)(k:Nat)(hk:1≤k):nd z≤k↔z.natAbs<10^k:=by
 unfold nd
 rw[tz]
 have:=aZ (B:=10) (by omega) k z.natAbs
 simp only[dX]
 rw[←this]
 omega
theorem ad5 (z:Int):nd (-z)=nd z:=by unfold nd;rw[Int.natAbs_neg]
theorem ace (z:Int):(ju z).size=nd z+(if z<0 then 1 else 0):=by
 rw[←bz,fk]
 unfold u6 nd
 split<;>simp<;>omega
end Go.Abs
namespace Go.Proofs.YtofjebmoebhiiaaGreatDoor.Ev
open Go.Abs Go.IntWalk
abbrev VU (d:List Int):Int:=val 1000000000 d
abbrev DU (d:List Int):Prop:=jt 1000000000 d
abbrev dU (n:Nat):List Int:=W6 1000000000 n
theorem N1 (n:Nat):DU (dU n):=ZZ (B:=1000000000) (by omega) n
theorem P3 (n:Nat):VU (dU n)=n:=Z0 (B:=1000000000) (by omega) n
theorem afP {d:List Int}(h:DU d):pd d=dU (VU d).toNat:=IP (B:=1000000000) (by omega) d h
theorem A4 {d:List Int}(h:DU d):0≤VU d:=lI (by omega) h
def W (z:Int):Bool×List Int×Unit:=(decide (z<0),dU z.natAbs,())
theorem ahj:∀(n:Nat) (d:List Int),d.length=n→n≤1000000000000000→o6 d=some (pd d):=by
 intro n
 induction n with
 |zero=>
  intro d hd hn
  have:d=[]:=List.length_eq_zero_iff.1 hd
  subst this
  rw[EH,Bh];rfl
 |succ n ih=>
  intro d hd hn
  obtain⟨d',y,rfl⟩:∃d' y,d=d'++[y]:=by
   have hne:d≠ []:=fun e=>by rw[e] at hd;cases hd
   exact⟨d.dropLast,d.getLast hne,(List.dropLast_concat_getLast hne).symm⟩
  have hl:d'.length=n:=by simpa using hd
  have hy:(d'++[y]).getD d'.length 0=y:=by simp[List.getD]
  have ht:(d'++[y]).take d'.length=d':=by simp
  rw[EH,Bh]
  simp only[List.length_append,List.length_cons,List.length_nil]
  simp (disch:=omega) only[i64_in,ajO,cond_true,afO,aqX]
  rw[tq (by omega) (by simp;omega)]
  have e:(((d'.length+(0+1):Nat):Int) - 1).toNat=d'.length:=by omega
  rw[e,hy,ht]
  simp only[Option.bind_some]
  by_cases h0:y=0
  ·subst h0
   rw[GL,ih d' hl (by omega)];rfl
  ·rw[Mq h0,JW h0];rfl
theorem GO {d:List Int}(h:d.length≤1000000000000000):oo d=some (pd d):=by
 rw[TM,Pk];exact ahj _ d rfl h
theorem Hy {neg:Bool}{d:List Int}(hd:DU d)(h:d.length≤1000000000000000):kb neg d=some (W (bif neg then -VU d else VU d)):=by
 rw[Oo,JE,GO h,afP hd]
 have hv:=A4 hd
 obtain⟨v,hv'⟩:=Int.eq_ofNat_of_zero_le hv
 rw[hv']
 simp only[Option.bind_some,Int.toNat_natCast]
 have hl:(0<(dU v).length)↔0<v:=by
  have:=gN (B:=1000000000) (by omega) 0 v
  rw[Nat.pow_zero] at this
  exact this
 cases neg with
 |true=>
  have e:decide (((dU v).length:Int)>0)=decide (-(v:Int)<0):=decide_eq_decide.2 ⟨fun h=>by have:=hl.1 (by omega);omega,fun h=>by have:=hl.2 (by omega);omega⟩
  simp only[cond_true,W,Int.natAbs_neg,Int.natAbs_natCast,e]
 |false=>
  simp only[cond_false,W,Int.natAbs_natCast]
  rw[Ci (by omega)]
theorem ahk {a b:List Int}(ha:DU a)(hb:DU b)(hl:a.length=b.length)(hl':a.length≤1000000000000):∀(k:Nat),k≤a.length→
  o5 a b ((k:Int) - 1)=some (tX (VU (a.take k)) (VU (b.take k))):=by
 intro k
 induction k with
 |zero=>
  intro hk
  rw[EE,Bg]
  simp (disch:=omega) only[aca,cond_false]
  simp[tX]
 |succ k ih=>
  intro hk
  rw[EE,Bg]
  have e:((k+1:Nat):Int) - 1=k:=by omega
  rw[e,eE (show k<a.length by omega),eE (show k<b.length by omega)]
  simp (disch:=omega) only[afL,cond_true,tq,Option.bind_some,Int.toNat_natCast,i64_in]
  have hta:(a.take k).length=(b.take k).length:=by simp;omega
  by_cases h:a.getD k 0=b.getD k 0
  ·rw[ajQ h,ih (by omega)]
   simp only[cond_false,VU,jc,hta,h]
   generalize (1000000000:Int)^(b.take k).length*val 1000000000 [b.getD k 0]=z
   by_cases h1:val 1000000000 (a.take k)<val 1000000000 (b.take k)
   ·rw[vV h1,vV (by omega)]
   ·by_cases h2:val 1000000000 (b.take k)<val 1000000000 (a.take k)
    ·rw[zx h2,zx (by omega)]
    ·rw[Rx (by omega),Rx (by omega)]
  ·rw[ajP h]
   simp only[cond_true]
   by_cases h1:a.getD k 0<b.getD k 0
   ·rw[DJ h1]
    rw[vV (Z1 (by omega) (ha.take k) (hb.take k) hta h1)]
    rfl
   ·rw[Ci h1]
    rw[zx (Z1 (by omega) (hb.take k) (ha.take k) hta.symm (by omega))]
    rfl
theorem Ms {m n:Nat}(hm:(dU m).length≤1000000000000)(hn:(dU n).length≤1000000000000):BG (dU m) (dU n)=some (tX m n):=by
 rw[TK,Ph]
 by_cases h:(dU m).length=(dU n).length
 ·have:=ahk (N1 m) (N1 n) h hm (dU m).length (Nat.le_refl _)
  rw[ajQ (by omega)]
  simp (disch:=omega) only[cond_false,i64_in]
  rw[this,h,List.take_length]
  rw[←h,List.take_length,P3,P3]
 ·rw[ajP (by omega)]
  have l1:=(aZ (B:=1000000000) (by omega) (dU m).length m).1 (Nat.le_refl _)
  have l2:=(aZ (B:=1000000000) (by omega) (dU n).length n).1 (Nat.le_refl _)
  simp only[cond_true]
  by_cases h1:(dU m).length<(dU n).length
  ·rw[DJ (by omega)]
   have:=(gN (B:=1000000000) (by omega) (dU m).length n).1 h1
   rw[vV (by omega)];rfl
  ·rw[Ci (by omega)]
   have:=(gN (B:=1000000000) (by omega) (dU n).length m).1 (show (dU n).length<(dU m).length by omega)
   rw[zx (by omega)];rfl
theorem ajT {m n:Nat}(h:m≤n):(dU m).length≤(dU n).length:=by
 have l2:=(aZ (B:=1000000000) (by omega) (dU n).length n).1 (Nat.le_refl _)
 exact(aZ (B:=1000000000) (by omega) (dU n).length m).2 (by omega)
end Go.Proofs.YtofjebmoebhiiaaGreatDoor.Ev
namespace Go.Proofs.YtofjebmoebhiiaaGreatDoor.Ev
open Go.Abs Go.IntWalk
def Ln (z:Int):Nat:=(dU z.natAbs).length
theorem IS (z:Int)(k:Nat):Ln z≤k↔z.natAbs<1000000000^k:=aZ (B:=1000000000) (by omega) k z.natAbs
theorem afQ (z:Int):z.natAbs<1000000000^Ln z:=(IS z _).1 (Nat.le_refl _)
theorem al0 {x y:Int}(h:x.natAbs≤y.natAbs):Ln x≤Ln y:=ajT h
theorem ajU (x y:Int):Ln (x*y)≤Ln x+Ln y:=by
 rw[IS,Int.natAbs_mul,Nat.pow_add]
 have h1:=afQ x
 have h2:=afQ y
 exact Nat.mul_lt_mul'' h1 h2
theorem GP (z:Int):((W z).1,((W z).2.1,()))=W z:=rfl
theorem W_1 (z:Int):(W z).1=decide (z<0):=rfl
theorem W_2 (z:Int):(W z).2.1=dU z.natAbs:=rfl
theorem w6 (z:Int):(dU z.natAbs).length=Ln z:=rfl
theorem alq {x:Int}(hx:Ln x≤100000000000):vj (W x)=some (W (-x)):=by
 rw[SH,Kg]
 simp only[W_1,W_2]
 rw[Hy (N1 _) (show (dU x.natAbs).length≤_ by rw[w6];omega),P3]
 by_cases h:x<0
 ·rw[DJ h]
  have:(bif !true then -(x.natAbs:Int) else (x.natAbs:Int))= -x:=by simp only[Bool.not_true,cond_false];omega
  rw[this];rfl
 ·rw[Ci h]
  have:(bif !false then -(x.natAbs:Int) else (x.natAbs:Int))= -x:=by simp only[Bool.not_false,cond_true];omega
  rw[this];rfl
theorem am5 (x:Int):((W x).2.1.length:Int)=(Ln x:Int):=rfl
theorem Mt (x:Int):Ln x=0↔x=0:=by
 have:=IS x 0
 rw[Nat.pow_zero] at this
 omega
def ad6 (x:Int):Int:=if x<0 then -1 else if 0<x then 1 else 0
theorem zy (x:Int):jE (W x)=some (ad6 x):=by
 rw[Gj,AL,am5,W_1]
 have h0:=Mt x
 unfold ad6
 by_cases hz:x=0
 ·rw[afM (by omega)];simp[hz]
 ·rw[Mq (by omega)]
  simp only[cond_false]
  by_cases h:x<0
  ·rw[DJ h,if_pos h];rfl
  ·rw[Ci h,if_neg h,if_pos (by omega)];rfl
theorem oV {x y:Int}(hx:Ln x≤100000000000)(hy:Ln y≤100000000000):gM (W x) (W y)=some (tX x y):=by
 rw[Ia,Cy]
 simp only[W_1,W_2]
 rw[Ms (show (dU x.natAbs).length≤_ by rw[w6];omega) (show (dU y.natAbs).length≤_ by rw[w6];omega),
  Ms (show (dU y.natAbs).length≤_ by rw[w6];omega) (show (dU x.natAbs).length≤_ by rw[w6];omega)]
 simp only[Option.bind_some]
 by_cases h1:x<0<;>by_cases h2:y<0
 ·rw[DJ h1,DJ h2]
  simp only[beq_self_eq_true,Bool.not_true,cond_false,cond_true,Option.some.injEq]
  unfold tX
  by_cases h3:x<y
  ·rw[if_pos h3,if_pos (by omega)]
  ·rw[if_neg h3,if_neg (by omega)]
   by_cases h4:y<x
   ·rw[if_pos h4,if_pos (by omega)]
   ·rw[if_neg h4,if_neg (by omega)]
 ·rw[DJ h1,Ci h2,vV (x:=x) (y:=y) (by omega)];rfl
 ·rw[Ci h1,DJ h2,zx (x:=x) (y:=y) (by omega)];rfl
 ·rw[Ci h1,Ci h2]
  simp only[beq_self_eq_true,Bool.not_true,cond_false,Option.some.injEq]
  unfold tX
  by_cases h3:x<y
  ·rw[if_pos h3,if_pos (by omega)]
  ·rw[if_neg h3,if_neg (by omega)]
   by_cases h4:y<x
   ·rw[if_pos h4,if_pos (by omega)]
   ·rw[if_neg h4,if_neg (by omega)]
theorem afR (neg:Bool)(t:Bool)(t2:List Int):∀(n:Nat) (u:Nat) (d:List Int),u<1000000000^n→u<18446744073709551616→d.length+n≤1000→xe u neg d t t2=some (neg,(d++dU u,())):=by
 intro n
 induction n with
 |zero=>
  intro u d hu hu' hd
  have:u=0:=by rw[Nat.pow_zero] at hu;omega
  subst this
  rw[JC,Gh]
  simp[dU,fj]
 |succ n ih=>
  intro u d hu hu' hd
  rw[JC,Gh]
  by_cases h0:u=0
  ·subst h0;simp[dU,fj]
  ·have ht:([(u:Int) % 1000000000]:List Int).length=1:=rfl
   simp (disch:=omega) only[ajO,cond_true,bT,u32_in,u64_quo,ht,UX]
   have e1:((u:Int) / 1000000000)=((u / 1000000000:Nat):Int):=by omega
   have e2:((u:Int) % 1000000000)=((u % 1000000000:Nat):Int):=by omega
   rw[Nat.pow_succ] at hu
   rw[e1,e2,ih (u / 1000000000) _ (by omega) (by omega) (by simp;omega)]
   rw[show dU u=_ from Bq (B:=1000000000) (by omega) (by omega)]
   simp
theorem YM {n:Int}(h0: -9223372036854775808≤n)(h1:n≤9223372036854775807):AA n=some (W n):=by
 rw[YJ,Wn]
 by_cases h:n<0
 ·have e1:IntKind.wrap .u64 n=n+18446744073709551616:=by rw[IntKind.wrap_u64];omega
  have e2:IntKind.wrap .u64 (0 - (n+18446744073709551616))=(n.natAbs:Int):=by rw[IntKind.wrap_u64];omega
  rw[DJ h,e1,e2,afR _ _ _ 3 n.natAbs [] (by omega) (by omega) (by simp)]
  simp[W,h]
 ·have e1:IntKind.wrap .u64 n=(n.natAbs:Int):=by rw[IntKind.wrap_u64];omega
  rw[Ci h,e1,afR _ _ _ 3 n.natAbs [] (by omega) (by omega) (by simp)]
  simp[W,h]
end Go.Proofs.YtofjebmoebhiiaaGreatDoor.Ev
namespace Go.Abs
theorem FI {l:List Int}{n:Nat}{v:Int}(h:n<l.length):(l.set n v).take (n+1)=l.take n++[v]:=by
 rw[eE (by simpa using h),List.take_set_of_le (Nat.le_refl n)]
 simp[List.getD,h]
theorem set_drop {l:List Int}{n:Nat}{v:Int}:(l.set n v).drop (n+1)=l.drop (n+1):=by
 rw[List.drop_set_of_lt (by omega)]
theorem WG (l:List Int)(k:Nat):l=l.take k++l.drop k:=(List.take_append_drop k l).symm
theorem Mu (n j:Nat):(List.replicate n (0:Int)).getD j 0=0:=by
 by_cases h:j<n
 ·simp only[List.getD,List.getElem?_replicate,if_pos h];rfl
 ·exact getD_none (by simp;omega)
theorem ahl {x y:Int}(hx:0≤x∧x<1000000000)(hy:0≤y∧y<1000000000):0≤x*y∧x*y≤999999998000000001:=by
 have h1:=Int.mul_nonneg hx.1 hy.1
 have h2:x*y≤999999999*y:=Int.mul_le_mul_of_nonneg_right (by omega) hy.1
 exact⟨h1,by omega⟩
end Go.Abs
namespace Go.Proofs.YtofjebmoebhiiaaGreatDoor.Ev
open Go.Abs Go.IntWalk
def amL:List Int→Int→List Int→Int→List Int
 | [],x,o::os,c=>c::os
 | [],x,[],c=>[]
 |y::ys,x,o::os,c=>(x*y+o+c) % 1000000000::amL ys x os ((x*y+o+c) / 1000000000)
 |y::ys,x,[],c=>[]
def mlL:List Int→List Int→List Int→List Int
 | [],b,o=>o
 |x::xs,b,o=>match amL b x o 0 with
  | []=>[]
  |h::t=>h::mlL xs b t
theorem P4:∀(b:List Int) (x:Int) (o:List Int) (c:Int),b.length<o.length→(amL b x o c).length=o.length
 | [],x,[],c,h=>by simp at h
 | [],x,o::os,c,h=>by simp[amL]
 |y::ys,x,[],c,h=>by simp at h
 |y::ys,x,o::os,c,h=>by simp only[amL,List.length_cons];rw[P4 ys x os _ (by simpa using h)]
theorem Z5:∀(b:List Int) (x:Int) (o:List Int) (c:Int),b.length<o.length→DU b→DU o→0≤x∧x<1000000000→0≤c∧c<1000000000→o.getD b.length 0=0→
  VU (amL b x o c)=VU o+x*VU b+c∧DU (amL b x o c)∧(amL b x o c).drop (b.length+1)=o.drop (b.length+1)
 | [],x,[],c,h,hb,ho,hx,hc,hz=>by simp at h
 | [],x,o::os,c,h,hb,ho,hx,hc,hz=>by
   have:o=0:=by simpa using hz
   subst this
   simp only[amL]
   exact⟨by simp[VU,val];omega,jt.cons hc.1 hc.2 ho.tail,by simp⟩
 |y::ys,x,[],c,h,hb,ho,hx,hc,hz=>by simp at h
 |y::ys,x,o::os,c,h,hb,ho,hx,hc,hz=>by
  have hy:=hb.head
  have hoo:=ho.head
  have hm:=ahl hx hy
  obtain⟨e1,e2,e3⟩:=Z5 ys x os ((x*y+o+c) / 1000000000) (by simpa using h) hb.tail ho.tail hx (by omega) (by simpa using hz)
  simp only[amL]
  refine⟨?_,jt.cons (by omega) (by omega) e2,by simpa using e3⟩
  simp only[VU,val] at e1 ⊢
  have e4:x*(y+1000000000*val 1000000000 ys)=x*y+1000000000*(x*val 1000000000 ys):=by rw[Int.mul_add,Int.mul_left_comm]
  rw[e1,e4]
  omega
theorem afT:∀(a b o:List Int),o.length=a.length+b.length→DU a→DU b→DU o→(∀j,b.length≤j→o.getD j 0=0)→
  VU (mlL a b o)=VU o+VU a*VU b∧DU (mlL a b o)∧(mlL a b o).length=o.length
 | [],b,o,hl,ha,hb,ho,hz=>by simp[mlL,VU,val];exact ho
 |x::xs,b,o,hl,ha,hb,ho,hz=>by
  have hlt:b.length<o.length:=by simp at hl;omega
  obtain⟨e1,e2,e3⟩:=Z5 b x o 0 hlt hb ho ha.head ⟨by omega,by omega⟩ (hz _ (Nat.le_refl _))
  have e4:=P4 b x o 0 hlt
  simp only[mlL]
  split
  ·rename_i e;rw[e] at e4;simp at e4;omega
  ·rename_i h t e
   rw[e] at e1 e2 e3 e4
   obtain⟨f1,f2,f3⟩:=afT xs b t (by simp at hl e4;omega) ha.tail hb e2.tail (fun j hj=>by
    have h5:(h::t).drop (b.length+1)=t.drop b.length:=rfl
    have h6:t.getD j 0=(t.drop b.length).getD (j - b.length) 0:=by rw[tW];congr 1;omega
    rw[h6, ←h5,e3,tW]
    exact hz _ (by omega))
   refine⟨?_,jt.cons e2.head.1 e2.head.2 f2,by simp[f3] at e4 ⊢;omega⟩
   simp only[VU,val] at e1 f1 ⊢
   rw[f1,Int.add_mul,Int.mul_assoc]
   omega
theorem ahm {a b:List Int}{sa sb:Bool}{t8:List Int}{t7:Bool}{x:Int}{i:Nat}(hb:DU b)(hx:0≤x∧x<1000000000)(hi:i<a.length)(hl:a.length≤1000000000000)(hl':b.length≤1000000000000):
  ∀(m k:Nat) (c:Int) (out:List Int),m+k=b.length→out.length=a.length+b.length→DU out→0≤c∧c<1000000000→
  gA i x c a a.length i b b.length k out sa a sb b t7 t8=dY a a.length (i+1) (out.take (i+k)++amL (b.drop k) x (out.drop (i+k)) c) sa a sb b t7 t8:=by
 intro m
 induction m with
 |zero=>
  intro k c out hk ho hd hc
  have hk':k=b.length:=by omega
  subst hk'
  rw[uH,py]
  simp (disch:=omega) only[Ci,cond_false,i64_in,u32_in]
  rw[tq (by omega) (by omega),WB (show ((i:Int)+b.length).toNat<out.length by omega)]
  have e:((i:Int)+b.length).toNat=i+b.length:=by omega
  simp only[Option.bind_some,e]
  rw[drop_nil (Nat.le_refl _),drop_eq (show i+b.length<out.length by omega)]
  simp only[amL]
  congr 1
  conv=>lhs;rw[WG (out.set (i+b.length) c) (i+b.length+1)]
  rw[FI (by omega),set_drop]
  simp
 |succ m ih=>
  intro k c out hk ho hd hc
  have hy:=hb.getD (by omega) k
  have hoo:=hd.getD (by omega) (i+k)
  have hm:=ahl hx hy
  rw[uH,py]
  have e:((i:Int)+k).toNat=i+k:=by omega
  simp (disch:=omega) only[DJ,cond_true,i64_in,tq,WB,Option.bind_some,u64_in,Int.toNat_natCast,e]
  simp (disch:=omega) only[u64_in,u64_quo,bT,u32_in]
  have ym:=fun c out=>ih (k+1) c out (by omega)
  simp only[Int.natCast_add,Int.natCast_one] at ym
  rw[ym _ _ (by simp[ho]) (hd.set (by omega) (by omega) _) (by omega)]
  congr 1
  rw[drop_eq (show k<b.length by omega),drop_eq (show i+k<out.length by omega)]
  simp only[amL]
  rw[show i+(k+1)=i+k+1 by omega,FI (by omega),set_drop]
  have e2:c+(x*b.getD k 0+out.getD (i+k) 0)=x*b.getD k 0+out.getD (i+k) 0+c:=by omega
  rw[e2]
  simp
theorem ahn {a b:List Int}{sa sb:Bool}{t8:List Int}{t7:Bool}(ha:DU a)(hb:DU b)(hl:a.length≤1000000000000)(hl':b.length≤1000000000000):
  ∀(m i:Nat) (out:List Int),m+i=a.length→out.length=a.length+b.length→DU out→(∀j,b.length≤j→(out.drop i).getD j 0=0)→
  dY a a.length i out sa a sb b t7 t8=kb (!(sa==sb)) (out.take i++mlL (a.drop i) b (out.drop i)):=by
 intro m
 induction m with
 |zero=>
  intro i out hi ho hd hz
  have hi':i=a.length:=by omega
  rw[uG,px]
  simp (disch:=omega) only[Ci,cond_false,drop_nil,mlL,List.take_append_drop]
  cases kb (!(sa==sb)) out<;>rfl
 |succ m ih=>
  intro i out hi ho hd hz
  have hx:=ha.getD (by omega) i
  rw[uG,px]
  simp (disch:=omega) only[DJ,cond_true,tq,Option.bind_some,Int.toNat_natCast]
  have hI:=ahm (a:=a) (sa:=sa) (sb:=sb) (t7:=t7) (t8:=t8) (i:=i) hb hx (by omega) hl hl' b.length 0 0 out (by omega) ho hd ⟨by omega,by omega⟩
  simp only[Int.natCast_zero] at hI
  rw[hI]
  have hlen:(out.drop (i+0)).length=a.length - i+b.length:=by simp;omega
  have hlt:b.length<(out.drop (i+0)).length:=by omega
  obtain⟨e1,e2,e3⟩:=Z5 b (a.getD i 0) (out.drop (i+0)) 0 hlt hb (hd.drop _) hx ⟨by omega,by omega⟩ (hz _ (Nat.le_refl _))
  have e4:=P4 b (a.getD i 0) (out.drop (i+0)) 0 hlt
  have ym:=fun out=>ih (i+1) out (by omega)
  simp only[Int.natCast_add,Int.natCast_one] at ym
  rw[drop_eq (show i<a.length by omega)]
  simp only[mlL,List.drop_zero,Nat.add_zero,Int.natCast_zero] at*
  cases hA:amL b (a.getD i 0) (out.drop i) 0 with
  |nil=>rw[hA] at e4;simp at e4;omega
  |cons h t=>
   rw[hA] at e2 e3 e4
   have htl:(out.take i).length=i:=by simp;omega
   have h7:(out.take i++h::t).drop (i+1)=t:=by
    rw[List.drop_append,htl]
    have:(out.take i).drop (i+1)=[]:=drop_nil (by omega)
    rw[this];simp
   have h8:(out.take i++h::t).take (i+1)=out.take i++[h]:=by
    rw[List.take_append,htl]
    have:(out.take i).take (i+1)=out.take i:=List.take_of_length_le (by omega)
    rw[this];simp
   rw[ym _ (by simp[ho] at e4 ⊢;omega) ((hd.take _).append e2) (fun j hj=>by
    rw[h7]
    have h5:(h::t).drop (b.length+1)=t.drop b.length:=rfl
    have h6:t.getD j 0=(t.drop b.length).getD (j - b.length) 0:=by rw[tW];congr 1;omega
    rw[h6, ←h5,e3,tW]
    exact hz _ (by omega)),h7,h8]
   simp
theorem IT {x y:Int}(hx:Ln x≤100000000000)(hy:Ln y≤100000000000):qG (W x) (W y)=some (W (x*y)):=by
 rw[Ig,CC]
 simp only[W_1,W_2,w6]
 simp (disch:=omega) only[i64_in,Rv,cond_true]
 have auw:(((Ln x:Nat):Int)+(Ln y:Nat)).toNat=Ln x+Ln y:=by omega
 rw[auw]
 have ha:=N1 x.natAbs
 have hb:=N1 y.natAbs
 have h1:=ahn (sa:=decide (x<0)) (sb:=decide (y<0)) (t7:=false) (t8:=[]) ha hb (by rw[w6];omega) (by rw[w6];omega) (Ln x) 0 (List.replicate (Ln x+Ln y) 0) (by rw[w6];omega)
  (by rw[List.length_replicate,w6,w6]) (jt.replicate (by omega) _) (fun j hj=>by
   rw[tW]
   exact Mu _ _)
 rw[w6] at h1
 have h2:dY (dU x.natAbs) (Ln x) 0 (List.replicate (Ln x+Ln y) 0) (decide (x<0)) (dU x.natAbs) (decide (y<0)) (dU y.natAbs) false []=_:=h1
 rw[h2]
 obtain⟨e1,e2,e3⟩:=afT (dU x.natAbs) (dU y.natAbs) (List.replicate (Ln x+Ln y) 0) (by rw[List.length_replicate,w6,w6]) ha hb (jt.replicate (by omega) _) (fun j hj=>by
   exact Mu _ _)
 simp only[List.take_zero,List.nil_append,List.drop_zero]
 rw[Hy e2 (by rw[e3,List.length_replicate];omega),e1,P3,P3]
 simp only[VU,OE,Int.zero_add]
 have key:(bif !(decide (x<0)==decide (y<0)) then -((x.natAbs:Int)*(y.natAbs:Int)) else ((x.natAbs:Int)*(y.natAbs:Int)))=x*y:=by
  by_cases h1:x<0<;>by_cases h2:y<0
  ·rw[DJ h1,DJ h2]
   have e1:(x.natAbs:Int)= -x:=by omega
   have e2:(y.natAbs:Int)= -y:=by omega
   rw[e1,e2];simp[Int.neg_mul,Int.mul_neg]
  ·rw[DJ h1,Ci h2]
   have e1:(x.natAbs:Int)= -x:=by omega
   have e2:(y.natAbs:Int)=y:=by omega
   rw[e1,e2];simp[Int.neg_mul,Int.mul_neg]
  ·rw[Ci h1,DJ h2]
   have e1:(x.natAbs:Int)=x:=by omega
   have e2:(y.natAbs:Int)= -y:=by omega
   rw[e1,e2];simp[Int.neg_mul,Int.mul_neg]
  ·rw[Ci h1,Ci h2]
   have e1:(x.natAbs:Int)=x:=by omega
   have e2:(y.natAbs:Int)=y:=by omega
   rw[e1,e2];simp[Int.neg_mul,Int.mul_neg]
 rw[key]
def UK:List Int→Int→Int→List Int
 | [],k,c=>[c]
 |x::xs,k,c=>(c+x*k) % 1000000000::UK xs k ((c+x*k) / 1000000000)
theorem Z6:∀(a:List Int) (k c:Int),DU a→0≤k∧k<1000000000→0≤c∧c<1000000000→VU (UK a k c)=VU a*k+c∧DU (UK a k c)∧(UK a k c).length=a.length+1
 | [],k,c,ha,hk,hc=>by
   simp only[UK]
   exact⟨by simp[VU,val],jt.cons hc.1 hc.2 jt.nil,rfl⟩
 |x::xs,k,c,ha,hk,hc=>by
  have hm:=ahl ha.head hk
  obtain⟨e1,e2,e3⟩:=Z6 xs k ((c+x*k) / 1000000000) ha.tail hk (by omega)
  simp only[UK]
  refine⟨?_,jt.cons (by omega) (by omega) e2,by simp[e3]⟩
  simp only[VU,val] at e1 ⊢
  rw[e1,Int.add_mul,Int.mul_assoc]
  omega
theorem acf {a:List Int}{k:Int}(ha:DU a)(hk:0≤k∧k<1000000000)(hl:a.length≤1000000000000):∀(m i:Nat) (c:Int) (out:List Int),m+i=a.length→out.length=i→0≤c∧c<1000000000→
  kQ k c a a.length i out=some (out++UK (a.drop i) k c):=by
 intro m
 induction m with
 |zero=>
  intro i c out hi ho hc
  rw[AO,vT]
  simp (disch:=omega) only[Ci,cond_false,UX,cond_true,drop_nil,UK,u32_in]
 |succ m ih=>
  intro i c out hi ho hc
  have hx:=ha.getD (by omega) i
  have hm:=ahl hx hk
  rw[AO,vT]
  simp (disch:=omega) only[DJ,cond_true,tq,Option.bind_some,Int.toNat_natCast,u64_in]
  simp (disch:=omega) only[u64_in,bT,u64_quo,UX,cond_true,i64_in,u32_in]
  have ym:=fun c out=>ih (i+1) c out (by omega)
  simp only[Int.natCast_add,Int.natCast_one] at ym
  rw[ym _ _ (by simp;omega) (by omega),drop_eq (show i<a.length by omega)]
  simp[UK]
theorem OG {a:List Int}{k:Int}(ha:DU a)(hk:0≤k∧k<1000000000)(hl:a.length≤1000000000000):AE a k=some (UK a k 0):=by
 rw[Oq,JF]
 simp (disch:=omega) only[i64_in,Rv,cond_true]
 have:=acf ha hk hl a.length 0 0 [] (by omega) rfl ⟨by omega,by omega⟩
 simpa using this
def FY (b:Int):List Int→List Int×Int
 | []=>([],0)
 |x::xs=>((((FY b xs).2*1000000000+x) / b)::(FY b xs).1,((FY b xs).2*1000000000+x) % b)
theorem Rz {b:Int}(hb:0<b∧b<1000000000):∀(a:List Int),DU a→VU a=VU (FY b a).1*b+(FY b a).2∧0≤(FY b a).2∧(FY b a).2<b∧DU (FY b a).1∧(FY b a).1.length=a.length
 | [],ha=>⟨by simp[FY,VU,val],by simp[FY],by simp[FY];omega,jt.nil,rfl⟩
 |x::xs,ha=>by
  have hx:=ha.head
  obtain⟨e1,e2,e3,e4,e5⟩:=Rz hb xs ha.tail
  have hd:=Int.mul_ediv_add_emod ((FY b xs).2*1000000000+x) b
  have hlt:=Int.emod_lt_of_pos ((FY b xs).2*1000000000+x) hb.1
  have hnn:=Int.emod_nonneg ((FY b xs).2*1000000000+x) (show b≠0 by omega)
  have hq0:0≤((FY b xs).2*1000000000+x) / b:=Int.ediv_nonneg (by omega) (by omega)
  have hq1:((FY b xs).2*1000000000+x) / b<1000000000:=Int.ediv_lt_of_lt_mul hb.1 (by omega)
  simp only[FY]
  refine⟨?_,hnn,hlt,jt.cons hq0 hq1 e4,by simp[e5]⟩
  simp only[VU,val] at e1 ⊢
  have e7:(((FY b xs).2*1000000000+x) / b+1000000000*val 1000000000 (FY b xs).1)*b=b*(((FY b xs).2*1000000000+x) / b)+1000000000*(val 1000000000 (FY b xs).1*b):=by
   rw[Int.add_mul,Int.mul_assoc,Int.mul_comm (_ / b) b]
  rw[e1,e7]
  omega
theorem ad7 {a:List Int}{b:Int}(ha:DU a)(hb:0<b∧b<1000000000)(hl:a.length≤1000000000000):∀(k:Nat) (out:List Int),k≤a.length→out.length=a.length→out.drop k=(FY b (a.drop k)).1→
  mW a b (FY b (a.drop k)).2 ((k:Int) - 1) out=some (FY b a):=by
 intro k
 induction k with
 |zero=>
  intro out hk ho hd
  rw[CD,yI]
  obtain⟨e1,e2,e3,e4,e5⟩:=Rz hb a ha
  simp only[List.drop_zero] at hd ⊢
  simp (disch:=omega) only[aca,cond_false,u32_in]
  rw[hd]
 |succ k ih=>
  intro out hk ho hd
  obtain⟨e1,e2,e3,e4,e5⟩:=Rz hb (a.drop (k+1)) (ha.drop _)
  have hx:=ha.getD (by omega) k
  have hq0:0≤((FY b (a.drop (k+1))).2*1000000000+a.getD k 0) / b:=Int.ediv_nonneg (by omega) (by omega)
  have hq1:((FY b (a.drop (k+1))).2*1000000000+a.getD k 0) / b<1000000000:=Int.ediv_lt_of_lt_mul hb.1 (by omega)
  rw[CD,yI]
  have e:((k+1:Nat):Int) - 1=k:=by omega
  rw[e]
  simp (disch:=omega) only[afL,cond_true,tq,WB,Option.bind_some,Int.toNat_natCast,u64_in]
  simp (disch:=omega) only[u64_in,u64_quo,bT,Mq,cond_false,u32_in,i64_in]
  have h1:FY b (a.drop k)=((((FY b (a.drop (k+1))).2*1000000000+a.getD k 0) / b)::(FY b (a.drop (k+1))).1,((FY b (a.drop (k+1))).2*1000000000+a.getD k 0) % b):=by
   rw[drop_eq (show k<a.length by omega)];rfl
  have h2:=ih (out.set k (((FY b (a.drop (k+1))).2*1000000000+a.getD k 0) / b)) (by omega) (by simpa using ho) (by
   rw[h1,drop_eq (by simp;omega),set_drop,hd]
   simp[List.getD,show k<out.length by omega])
  rw[h1] at h2
  exact h2
theorem RA {a:List Int}{b:Int}(ha:DU a)(hb:0<b∧b<1000000000)(hl:a.length≤1000000000000):xg a b=some (FY b a):=by
 rw[Q3,LK]
 simp (disch:=omega) only[i64_in,Rv,cond_true,Int.toNat_natCast]
 have:=ad7 ha hb hl a.length (List.replicate a.length 0) (Nat.le_refl _) (by simp) (by rw[drop_nil (Nat.le_refl _),drop_nil (by simp)];rfl)
 rw[drop_nil (Nat.le_refl _)] at this
 exact this
end Go.Proofs.YtofjebmoebhiiaaGreatDoor.Ev
namespace Go.Abs
section
variable {P V R vl wl v1 v2 u1 u2 u3 g rest:Int}
theorem ajV (hP:0<P)(hvl:vl<P)(hwl:0≤wl)(hV:V=vl+P*(v2+1000000000*v1))(hR:R=wl+P*(u3+1000000000*(u2+1000000000*u1)))
  (h2:v2<1000000000) (h3:0≤u3) (h4:0≤u2) (hlt:R<V*1000000000):u1≤v1:=by
 by_cases h:u1≤v1
 ·exact h
 ·exfalso
  have e1:P*(v1+1)≤P*u1:=Int.mul_le_mul_of_nonneg_left (by omega) (by omega)
  have e2:P*(v2+1)≤P*1000000000:=Int.mul_le_mul_of_nonneg_left (by omega) (by omega)
  have e3:0≤P*u3:=Int.mul_nonneg (by omega) h3
  have e4:0≤P*u2:=Int.mul_nonneg (by omega) h4
  simp only[Int.mul_add,Int.mul_one,Int.mul_left_comm P 1000000000] at hV hR e1 e2
  omega
theorem aom (hP:0<P)(hV0:0<V)(hvl:0≤vl)(hwl:wl<P)(hV:V=vl+P*(v2+1000000000*v1))(hR:R=wl+P*(u3+1000000000*(u2+1000000000*u1)))
  (hg:0≤g) (ht:u1*1000000000+u2=g*v1+rest) (hlt:R<V*1000000000) (h:g≥1000000000∨g*v2>rest*1000000000+u3):R<g*V:=by
 rcases h with h |h
 ·have e1:V*1000000000≤V*g:=Int.mul_le_mul_of_nonneg_left h (by omega)
  rw[Int.mul_comm V g] at e1
  omega
 ·have e1:0≤g*vl:=Int.mul_nonneg hg hvl
  have e2:P*(rest*1000000000+u3+1)≤P*(g*v2):=Int.mul_le_mul_of_nonneg_left (by omega) (by omega)
  have e3:P*(u1*1000000000+u2)=P*(g*v1+rest):=by rw[ht]
  have e4:g*V=g*vl+(P*(g*v2)+1000000000*(P*(g*v1))):=by
   rw[hV,Int.mul_add,Int.mul_left_comm g P,Int.mul_add g,Int.mul_left_comm g 1000000000,Int.mul_add P,Int.mul_left_comm P 1000000000]
  simp only[Int.mul_add,Int.mul_one, ←Int.mul_assoc,Int.mul_left_comm P 1000000000] at e2 e3 hR e4
  simp only[Int.mul_assoc,Int.mul_comm _ (1000000000:Int),Int.mul_left_comm _ (1000000000:Int)] at e2 e3 hR e4 ⊢
  omega
theorem al3 {G:Int}(hP:0<P)(hvl:0≤vl)(hwl:wl<P)(hV:V=vl+P*(v2+1000000000*v1))(hR:R=wl+P*(u3+1000000000*(u2+1000000000*u1)))
  (Xj:0≤v2) (hu3:u3<1000000000) (hG:0≤G) (ht:u1*1000000000+u2+1≤G*v1):R<G*V:=by
 have h2:=Int.mul_le_mul_of_nonneg_left ht (show (0:Int)≤P by omega)
 have h3:0≤G*vl:=Int.mul_nonneg hG hvl
 have h4:0≤P*(G*v2):=Int.mul_nonneg (by omega) (Int.mul_nonneg hG Xj)
 have h5:G*V=G*vl+(P*(G*v2)+1000000000*(P*(G*v1))):=by
  rw[hV,Int.mul_add,Int.mul_left_comm G P,Int.mul_add G,Int.mul_left_comm G 1000000000,Int.mul_add P,Int.mul_left_comm P 1000000000]
 have h6:P*(u3+1)≤P*1000000000:=Int.mul_le_mul_of_nonneg_left (by omega) (by omega)
 simp only[Int.mul_add,Int.mul_one, ←Int.mul_assoc,Int.mul_left_comm P 1000000000] at h2 h6 h4 hR h5
 simp only[Int.mul_assoc,Int.mul_comm _ (1000000000:Int),Int.mul_left_comm _ (1000000000:Int)] at h2 h6 h4 hR h5 ⊢
 omega
theorem ajW (hP:0<P)(Zo:1≤v1)(Xj:0≤v2)(acg:0≤vl)(hvl:vl<P)(hwl:0≤wl)(hV:V=vl+P*(v2+1000000000*v1))(hR:R=wl+P*(u3+1000000000*(u2+1000000000*u1)))
  (hg:0≤g) (hg':g≤999999999) (ht:u1*1000000000+u2=g*v1+rest) (h:g*v2≤rest*1000000000+u3):g*V<R+V:=by
 have e1:g*vl≤999999999*vl:=Int.mul_le_mul_of_nonneg_right hg' acg
 have e2:P*(g*v2)≤P*(rest*1000000000+u3):=Int.mul_le_mul_of_nonneg_left h (by omega)
 have e3:P*(u1*1000000000+u2)=P*(g*v1+rest):=by rw[ht]
 have e4:g*V=g*vl+(P*(g*v2)+1000000000*(P*(g*v1))):=by
  rw[hV,Int.mul_add,Int.mul_left_comm g P,Int.mul_add g,Int.mul_left_comm g 1000000000,Int.mul_add P,Int.mul_left_comm P 1000000000]
 have e5:P*1≤P*v1:=Int.mul_le_mul_of_nonneg_left Zo (by omega)
 have e6:0≤P*v2:=Int.mul_nonneg (by omega) Xj
 simp only[Int.mul_add,Int.mul_one, ←Int.mul_assoc,Int.mul_left_comm P 1000000000] at e2 e3 hR e4 hV e5
 simp only[Int.mul_assoc,Int.mul_comm _ (1000000000:Int),Int.mul_left_comm _ (1000000000:Int)] at e2 e3 hR e4 hV ⊢
 omega
end
def S1 (g:Int):List Int→List Int→Int→List Int×Int
 |us,[],b=>(us,b)
 | [],_::_,b=>([],b)
 |u::us,v::vs,b=>
  if u - b - g*v % 1000000000<0 then
   if u - b - g*v % 1000000000+1000000000<0 then
    ((u - b - g*v % 1000000000+2000000000)::(S1 g us vs (g*v / 1000000000+2)).1,(S1 g us vs (g*v / 1000000000+2)).2)
   else ((u - b - g*v % 1000000000+1000000000)::(S1 g us vs (g*v / 1000000000+1)).1,(S1 g us vs (g*v / 1000000000+1)).2)
  else ((u - b - g*v % 1000000000)::(S1 g us vs (g*v / 1000000000)).1,(S1 g us vs (g*v / 1000000000)).2)
def Z7:List Int→List Int→Int→List Int×Int
 |us,[],c=>(us,c)
 | [],_::_,c=>([],c)
 |u::us,v::vs,c=>((u+v+c) % 1000000000::(Z7 us vs ((u+v+c) / 1000000000)).1,(Z7 us vs ((u+v+c) / 1000000000)).2)
theorem ach {g:Int}(hg:0≤g∧g<1000000000):∀(us vs:List Int) (hs:List Int) (b:Int),us.length=vs.length→jt 1000000000 us→jt 1000000000 vs→0≤b∧b≤1000000000→
  ∃r b',S1 g (us++hs) vs b=(r++hs,b')∧val 1000000000 us - b - g*val 1000000000 vs=val 1000000000 r - 1000000000^vs.length*b'∧jt 1000000000 r∧r.length=us.length∧0≤b'∧b'≤1000000000
 | [],[],hs,b,hl,hu,hv,hb=>⟨[],b,by simp[S1],by simp[val],jt.nil,rfl,hb⟩
 | [],_::_,hs,b,hl,hu,hv,hb=>by simp at hl
 |_::_,[],hs,b,hl,hu,hv,hb=>by simp at hl
 |u::us,v::vs,hs,b,hl,hu,hv,hb=>by
  have h1:=hu.head
  have h2:=hv.head
  have hm:=ahl hg h2
  have ih:=fun b' hb'=>ach hg us vs hs b' (by simpa using hl) hu.tail hv.tail hb'
  have fin:∀(y c b':Int) (r:List Int),u - b - g*v=y - 1000000000*c→0≤y∧y<1000000000→
    val 1000000000 us - c - g*val 1000000000 vs=val 1000000000 r - 1000000000^vs.length*b'→
    val 1000000000 (u::us) - b - g*val 1000000000 (v::vs)=val 1000000000 (y::r) - 1000000000^(v::vs).length*b':=fun y c b' r e1 hy e2=>by
   simp only[val,List.length_cons,Int.pow_succ]
   have e3:g*(v+1000000000*val 1000000000 vs)=g*v+1000000000*(g*val 1000000000 vs):=by rw[Int.mul_add,Int.mul_left_comm]
   have e4:(1000000000:Int)^vs.length*1000000000*b'=1000000000*(1000000000^vs.length*b'):=by rw[Int.mul_comm ((1000000000:Int)^vs.length),Int.mul_assoc]
   rw[e3,e4]
   omega
  simp only[List.cons_append,S1]
  split
  ·split
   ·obtain⟨r,b',e1,e2,e3,e4,e5⟩:=ih (g*v / 1000000000+2) (by omega)
    refine⟨(u - b - g*v % 1000000000+2000000000)::r,b',by rw[e1];rfl,fin _ _ _ _ (by omega) (by omega) e2,jt.cons (by omega) (by omega) e3,by simp[e4],e5⟩
   ·obtain⟨r,b',e1,e2,e3,e4,e5⟩:=ih (g*v / 1000000000+1) (by omega)
    refine⟨(u - b - g*v % 1000000000+1000000000)::r,b',by rw[e1];rfl,fin _ _ _ _ (by omega) (by omega) e2,jt.cons (by omega) (by omega) e3,by simp[e4],e5⟩
  ·obtain⟨r,b',e1,e2,e3,e4,e5⟩:=ih (g*v / 1000000000) (by omega)
   refine⟨(u - b - g*v % 1000000000)::r,b',by rw[e1];rfl,fin _ _ _ _ (by omega) (by omega) e2,jt.cons (by omega) (by omega) e3,by simp[e4],e5⟩
theorem aci:∀(us vs:List Int) (hs:List Int) (c:Int),us.length=vs.length→jt 1000000000 us→jt 1000000000 vs→0≤c∧c≤1→
  ∃r c',Z7 (us++hs) vs c=(r++hs,c')∧val 1000000000 us+val 1000000000 vs+c=val 1000000000 r+1000000000^vs.length*c'∧jt 1000000000 r∧r.length=us.length∧0≤c'∧c'≤1
 | [],[],hs,c,hl,hu,hv,hc=>⟨[],c,by simp[Z7],by simp[val],jt.nil,rfl,hc⟩
 | [],_::_,hs,c,hl,hu,hv,hc=>by simp at hl
 |_::_,[],hs,c,hl,hu,hv,hc=>by simp at hl
 |u::us,v::vs,hs,c,hl,hu,hv,hc=>by
  have h1:=hu.head
  have h2:=hv.head
  obtain⟨r,c',e1,e2,e3,e4,e5⟩:=aci us vs hs ((u+v+c) / 1000000000) (by simpa using hl) hu.tail hv.tail (by omega)
  refine⟨(u+v+c) % 1000000000::r,c',by simp only[List.cons_append,Z7];rw[e1], ?_,jt.cons (by omega) (by omega) e3,by simp[e4],e5⟩
  simp only[val,List.length_cons,Int.pow_succ]
  have e6:(1000000000:Int)^vs.length*1000000000*c'=1000000000*(1000000000^vs.length*c'):=by rw[Int.mul_comm ((1000000000:Int)^vs.length),Int.mul_assoc]
  rw[e6]
  omega
end Go.Abs
namespace Go.Proofs.YtofjebmoebhiiaaGreatDoor.Ev
open Go.Abs Go.IntWalk
section
variable {k:Int}{v:List Int}{n j:Nat}{q u:List Int}
theorem Z8 {P V R vl wl v1 v2 u1 u2 u3:Int}(hP:0<P)(acg:0≤vl)(hvl:vl<P)(ahp:0≤wl)(hwl:wl<P)(hV:V=vl+P*(v2+1000000000*v1))(hR:R=wl+P*(u3+1000000000*(u2+1000000000*u1)))
  (Zo:500000000≤v1∧v1<1000000000) (Xj:0≤v2∧v2<1000000000) (hu1:0≤u1∧u1<1000000000) (hu2:0≤u2∧u2<1000000000) (hu3:0≤u3∧u3<1000000000) (hlt:R<V*1000000000)
  (hn:2≤n) (hvn:v.length=n) (hun:j+n<u.length) (hul:u.length≤1000000000000)
  (gv1:v.getD (n - 1) 0=v1) (gv2:v.getD (n - 2) 0=v2) (gu3:u.getD (j+n - 2) 0=u3):∀(g:Nat) (rest:Int),u1*1000000000+u2=g*v1+rest→0≤rest→rest<1000000000→R<(g+1)*V→
  ∃g':Int,0≤g'∧g'≤999999999∧R<(g'+1)*V∧g'*V<R+V∧kP k v n j g rest q u=iz k v n j g' 0 n 0 q u:=by
 have auB:=ajV hP hvl ahp hV hR Xj.2 hu3.1 hu2.1 hlt
 have acj:0<V:=by
  have e5:P*1≤P*v1:=Int.mul_le_mul_of_nonneg_left (by omega) (by omega)
  have e6:0≤P*v2:=Int.mul_nonneg (by omega) Xj.1
  simp only[Int.mul_add,Int.mul_one,Int.mul_left_comm P 1000000000] at hV e5
  omega
 have hR0:0≤R:=by
  have e3:0≤P*(u3+1000000000*(u2+1000000000*u1)):=Int.mul_nonneg (by omega) (by omega)
  omega
 intro g
 induction g with
 |zero=>
  intro rest ht h0 h1 hb
  have hz:(0:Int)*v2≤rest*1000000000+u3:=by rw[Int.zero_mul];omega
  refine⟨0,by omega,by omega,by simpa using hb,by simp;omega, ?_⟩
  rw[EK,Bk]
  have e1:((n:Int) - 2).toNat=n - 2:=by omega
  have e2:((j:Int)+n - 2).toNat=j+n - 2:=by omega
  simp (disch:=omega) only[aca,cond_false,i64_in,tq,WB,Option.bind_some,e1,e2,gv2,gu3,Int.natCast_zero,Int.zero_mul,u64_in,am4]
 |succ g ih=>
  intro rest ht h0 h1 hb
  have hgb:(g:Int)+1≤1000000001:=by
   -- g v1 is at most Oa two top digits
   have h5:(g+1:Nat)*v1≤v1*1000000000+999999999:=by
    have:u1*1000000000≤v1*1000000000:=by omega
    omega
   by_cases hc:(g:Int)+1≤1000000001
   ·exact hc
   ·have h6:(1000000002:Int)*v1≤(g+1:Nat)*v1:=Int.mul_le_mul_of_nonneg_right (by omega) (by omega)
    omega
  have e1:((n:Int) - 2).toNat=n - 2:=by omega
  have e1':((n:Int) - 1).toNat=n - 1:=by omega
  have e2:((j:Int)+n - 2).toNat=j+n - 2:=by omega
  have egc:((g+1:Nat):Int)=(g:Int)+1:=by omega
  have aon:(g:Int)+1 - 1=g:=by omega
  rw[egc] at ht hb ⊢
  have awd:0≤((g:Int)+1)*v2∧((g:Int)+1)*v2≤1000000001*999999999:=by
   refine⟨Int.mul_nonneg (by omega) Xj.1, ?_⟩
   have h7:((g:Int)+1)*v2≤1000000001*v2:=Int.mul_le_mul_of_nonneg_right hgb Xj.1
   omega
  have aq1:((g:Int)+1≥1000000000∨((g:Int)+1)*v2>rest*1000000000+u3)→R<((g:Int)+1)*V:=
   aom hP acj acg hwl hV hR (by omega) ht hlt
  -- one step down
  have ack:R<((g:Int)+1)*V→∃g':Int,0≤g'∧g'≤999999999∧R<(g'+1)*V∧g'*V<R+V∧
    (bif decide (rest+v1≥1000000000) then iz k v n j g 0 n 0 q u else kP k v n j g (rest+v1) q u)=iz k v n j g' 0 n 0 q u:=fun hR'=>by
   have ht':u1*1000000000+u2=g*v1+(rest+v1):=by rw[ht,Int.add_mul];omega
   by_cases hbr:rest+v1≥1000000000
   ·have hg9:(g:Int)≤999999999:=by
     by_cases hc:(g:Int)≤999999999
     ·exact hc
     ·exfalso
      have h6:(1000000000:Int)*v1≤(g:Int)*v1:=Int.mul_le_mul_of_nonneg_right (by omega) (by omega)
      have:u1*1000000000≤v1*1000000000:=by omega
      omega
    have hle:(g:Int)*v2≤(rest+v1)*1000000000+u3:=by
     have h7:(g:Int)*v2≤999999999*v2:=Int.mul_le_mul_of_nonneg_right hg9 Xj.1
     omega
    refine⟨g,by omega,hg9,hR',ajW hP (by omega) Xj.1 acg hvl ahp hV hR (by omega) hg9 ht' hle, ?_⟩
    rw[afL hbr,cond_true]
   ·obtain⟨g',h1',h2',h3',h4',h5'⟩:=ih (rest+v1) ht' (by omega) (by omega) hR'
    refine⟨g',h1',h2',h3',h4', ?_⟩
    rw[aca hbr,cond_false];exact h5'
  rw[EK,Bk]
  by_cases hge:(g:Int)+1≥1000000000
  ·obtain⟨g',h1',h2',h3',h4',h5'⟩:=ack (aq1 (.inl hge))
   refine⟨g',h1',h2',h3',h4', ?_⟩
   rw[←h5',tt hge]
   simp (disch:=omega) only[i64_in,eL,e1',gv1,u64_in,aon]
  ·by_cases hgt:((g:Int)+1)*v2>rest*1000000000+u3
   ·obtain⟨g',h1',h2',h3',h4',h5'⟩:=ack (aq1 (.inr hgt))
    refine⟨g',h1',h2',h3',h4', ?_⟩
    rw[←h5',tu hge]
    simp (disch:=omega) only[i64_in,eL,rS,e1,e1',e2,gv1,gv2,gu3,u64_in,aon,cZ]
   ·refine⟨(g:Int)+1,by omega,by omega,hb,ajW hP (by omega) Xj.1 acg hvl ahp hV hR (by omega) (by omega) ht (by omega), ?_⟩
    rw[tu hge]
    simp (disch:=omega) only[i64_in,eL,rS,e1,e1',e2,gv1,gv2,gu3,u64_in,aon,c8]
end
end Go.Proofs.YtofjebmoebhiiaaGreatDoor.Ev
namespace Go.Abs
theorem ahq {l:List Int}{m:Nat}(h:m+2<l.length):val 1000000000 (l.take (m+3))=val 1000000000 (l.take m)+1000000000^m*(l.getD m 0+1000000000*(l.getD (m+1) 0+1000000000*l.getD (m+2) 0)):=by
 rw[eE (show m+2<l.length by omega),eE (show m+1<l.length by omega),eE (show m<l.length by omega),List.append_assoc,List.append_assoc,jc]
 have:(l.take m).length=m:=by simp;omega
 rw[this]
 simp[val]
theorem ahr {l:List Int}{m:Nat}(h:m+1<l.length):val 1000000000 (l.take (m+2))=val 1000000000 (l.take m)+1000000000^m*(l.getD m 0+1000000000*l.getD (m+1) 0):=by
 rw[eE (show m+1<l.length by omega),eE (show m<l.length by omega),List.append_assoc,jc]
 have:(l.take m).length=m:=by simp;omega
 rw[this]
 simp[val]
end Go.Abs
namespace Go.Proofs.YtofjebmoebhiiaaGreatDoor.Ev
open Go.Abs Go.IntWalk
section
variable {k:Int}{v:List Int}{n j:Nat}
theorem Z9 {g:Int}(hg:0≤g∧g<1000000000)(hv:DU v)(hvn:v.length=n):∀(m i:Nat) (b:Int) (u q:List Int),m+i=n→0≤b∧b≤1000000000→DU u→j+n<u.length→u.length≤1000000000000→
  iz k v n j g b n i q u=iz k v n j g (S1 g (u.drop (j+i)) (v.drop i) b).2 n n q (u.take (j+i)++(S1 g (u.drop (j+i)) (v.drop i) b).1):=by
 intro m
 induction m with
 |zero=>
  intro i b u q hi hb hu hju hul
  have:i=n:=by omega
  subst this
  have h1:v.drop i=[]:=drop_nil (by omega)
  have h2:∀(us:List Int),S1 g us [] b=(us,b):=fun us=>by cases us<;>rfl
  rw[h1,h2]
  simp only[List.take_append_drop]
 |succ m ih=>
  intro i b u q hi hb hu hju hul
  have hx:=hu.getD (by omega) (j+i)
  have hy:=hv.getD (by omega) i
  have hm:=ahl hg hy
  have e1:((i:Int)+(j:Int)).toNat=j+i:=by omega
  rw[EL,Bl]
  have ym:=fun b u q=>ih (i+1) b u q (by omega)
  simp only[Int.natCast_add,Int.natCast_one] at ym
  simp (disch:=omega) only[aB,i64_in,eL,rS,e1,Int.toNat_natCast]
  simp (disch:=omega) only[i64_in,bT,nk]
  rw[drop_eq (show i<v.length by omega),drop_eq (show j+i<u.length by omega)]
  simp only[S1]
  by_cases h1:u.getD (j+i) 0 - b - g*v.getD i 0 % 1000000000<0
  ·rw[aB h1,if_pos h1]
   by_cases h2:u.getD (j+i) 0 - b - g*v.getD i 0 % 1000000000+1000000000<0
   ·rw[if_pos h2]
    simp (disch:=omega) only[i64_in,aB,eL,rS,e1,u32_in]
    rw[ym _ _ _ (by omega) (hu.set (by omega) (by omega) _) (by simpa using hju) (by simpa using hul)]
    rw[show j+(i+1)=j+i+1 by omega,FI (by omega),set_drop]
    have e2:g*v.getD i 0 / 1000000000+1+1=g*v.getD i 0 / 1000000000+2:=by omega
    have e3:u.getD (j+i) 0 - b - g*v.getD i 0 % 1000000000+1000000000+1000000000=u.getD (j+i) 0 - b - g*v.getD i 0 % 1000000000+2000000000:=by omega
    rw[e2,e3]
    simp only[List.append_assoc,List.singleton_append]
   ·rw[if_neg h2]
    simp (disch:=omega) only[i64_in,az,eL,rS,e1,u32_in]
    rw[ym _ _ _ (by omega) (hu.set (by omega) (by omega) _) (by simpa using hju) (by simpa using hul)]
    rw[show j+(i+1)=j+i+1 by omega,FI (by omega),set_drop]
    simp only[List.append_assoc,List.singleton_append]
  ·rw[az h1,if_neg h1]
   simp (disch:=omega) only[i64_in,az,eL,rS,e1,u32_in]
   rw[ym _ _ _ (by omega) (hu.set (by omega) (by omega) _) (by simpa using hju) (by simpa using hul)]
   rw[show j+(i+1)=j+i+1 by omega,FI (by omega),set_drop]
   simp only[List.append_assoc,List.singleton_append]
theorem aaa {g x:Int}(hv:DU v)(hvn:v.length=n):∀(m i:Nat) (c:Int) (u q:List Int),m+i=n→0≤c∧c≤1→DU u→j+n<u.length→u.length≤1000000000000→
  mX k v n j g x c n i q u=mX k v n j g x (Z7 (u.drop (j+i)) (v.drop i) c).2 n n q (u.take (j+i)++(Z7 (u.drop (j+i)) (v.drop i) c).1):=by
 intro m
 induction m with
 |zero=>
  intro i b u q hi hb hu hju hul
  have:i=n:=by omega
  subst this
  have h1:v.drop i=[]:=drop_nil (by omega)
  have h2:∀(us:List Int),Z7 us [] b=(us,b):=fun us=>by cases us<;>rfl
  rw[h1,h2]
  simp only[List.take_append_drop]
 |succ m ih=>
  intro i c u q hi hc hu hju hul
  have hx:=hu.getD (by omega) (j+i)
  have hy:=hv.getD (by omega) i
  have e1:((i:Int)+(j:Int)).toNat=j+i:=by omega
  rw[EM,Bm]
  have ym:=fun b u q=>ih (i+1) b u q (by omega)
  simp only[Int.natCast_add,Int.natCast_one] at ym
  simp (disch:=omega) only[aB,i64_in,eL,rS,e1,Int.toNat_natCast,u32_in]
  simp (disch:=omega) only[u32_in,bT,nk]
  rw[drop_eq (show i<v.length by omega),drop_eq (show j+i<u.length by omega)]
  simp only[Z7]
  rw[ym _ _ _ (by omega) (hu.set (by omega) (by omega) _) (by simpa using hju) (by simpa using hul)]
  rw[show j+(i+1)=j+i+1 by omega,FI (by omega),set_drop]
  simp only[List.append_assoc,List.singleton_append]
set_option maxHeartbeats 2000000 in
theorem ahs (hv:DU v)(hvn:v.length=n)(hn:2≤n)(Zo:500000000≤v.getD (n - 1) 0){u q:List Int}(hu:DU u)(hju:j+n<u.length)(hul:u.length≤1000000000000)(hq:j<q.length)(hql:q.length≤1000000000000)
  (hlt:VU ((u.drop j).take (n+1))<VU v*1000000000):
  ∃u',fJ k v n j q u=fJ k v n ((j:Int) - 1) (q.set j (VU ((u.drop j).take (n+1)) / VU v)) u'∧u'.length=u.length∧DU u'∧u'.take j=u.take j∧VU ((u'.drop j).take n)=VU ((u.drop j).take (n+1)) % VU v:=by
 obtain⟨m,rfl⟩:∃m,n=m+2:=⟨n - 2,by omega⟩
 -- Oa digits
 have hdl:(u.drop j).length=u.length - j:=by simp
 have hR:=ahq (l:=u.drop j) (m:=m) (by rw[hdl];omega)
 have hV:=ahr (l:=v) (m:=m) (by omega)
 rw[show v.take (m+2)=v from List.take_of_length_le (by omega)] at hV
 simp only[tW] at hR
 have hP:(0:Int)<1000000000^m:=Int.pow_pos (by omega)
 have ahp:=lI (B:=1000000000) (by omega) ((hu.drop j).take m)
 have hwl:=CP (B:=1000000000) (by omega) ((hu.drop j).take m)
 have acg:=lI (B:=1000000000) (by omega) (hv.take m)
 have hvl:=CP (B:=1000000000) (by omega) (hv.take m)
 rw[show ((u.drop j).take m).length=m by rw[List.length_take,hdl];omega] at hwl
 rw[show (v.take m).length=m by rw[List.length_take];omega] at hvl
 have b1:=hv.getD (by omega) (m+1)
 have b2:=hv.getD (by omega) m
 have c1:=hu.getD (by omega) (j+(m+2))
 have c2:=hu.getD (by omega) (j+(m+1))
 have c3:=hu.getD (by omega) (j+m)
 have auE:500000000≤v.getD (m+1) 0:=Zo
 have auB:=ajV hP hvl ahp hV hR b2.2 c3.1 c2.1 hlt
 have acj:0<VU v:=by
  have e5:(1000000000:Int)^m*1≤1000000000^m*v.getD (m+1) 0:=Int.mul_le_mul_of_nonneg_left (by omega) (by omega)
  have e6:0≤(1000000000:Int)^m*v.getD m 0:=Int.mul_nonneg (by omega) b2.1
  have hV':VU v=_:=hV
  simp only[Int.mul_add,Int.mul_one,Int.mul_left_comm ((1000000000:Int)^m) 1000000000] at hV' e5
  omega
 -- Oa first aq2
 have aq3:0≤u.getD (j+(m+2)) 0*1000000000+u.getD (j+(m+1)) 0:=by omega
 obtain⟨g0,hg0⟩:∃g0:Nat,(u.getD (j+(m+2)) 0*1000000000+u.getD (j+(m+1)) 0) / v.getD (m+1) 0=g0:=Int.eq_ofNat_of_zero_le (Int.ediv_nonneg aq3 (by omega))
 have hdm:=Int.mul_ediv_add_emod (u.getD (j+(m+2)) 0*1000000000+u.getD (j+(m+1)) 0) (v.getD (m+1) 0)
 have hr0:=Int.emod_nonneg (u.getD (j+(m+2)) 0*1000000000+u.getD (j+(m+1)) 0) (show v.getD (m+1) 0≠0 by omega)
 have RZ:=Int.emod_lt_of_pos (u.getD (j+(m+2)) 0*1000000000+u.getD (j+(m+1)) 0) (show 0<v.getD (m+1) 0 by omega)
 rw[hg0,Int.mul_comm] at hdm
 have aoo:val 1000000000 (List.take (m+3) (List.drop j u))<((g0:Int)+1)*VU v:=by
  -- Oa two top digits are less auF (g0+1) v1
  refine al3 hP acg hwl hV hR b2.1 c3.2 (by omega) ?_
  rw[Int.add_mul];omega
 obtain⟨g,hg1,hg2,hg3,hg4,hL1⟩:=Z8 (k:=k) (q:=q) hP acg hvl ahp hwl hV hR ⟨auE,b1.2⟩ b2 c1 c2 c3 hlt hn hvn hju hul rfl rfl rfl g0 _ hdm.symm hr0 (by omega) aoo
 change VU ((u.drop j).take (m+2+1))<(g+1)*VU v at hg3
 change g*VU v<VU ((u.drop j).take (m+2+1))+VU v at hg4
 -- Oa walk as far as Oa acm
 have hgb:(g0:Int)≤1000000001:=by
  by_cases hc:(g0:Int)≤1000000001
  ·exact hc
  ·exfalso
   have h6:(1000000002:Int)*v.getD (m+1) 0≤(g0:Int)*v.getD (m+1) 0:=Int.mul_le_mul_of_nonneg_right (by omega) (by omega)
   omega
 have w1:fJ k v ((m+2:Nat):Int) j q u=kP k v ((m+2:Nat):Int) j g0 ((u.getD (j+(m+2)) 0*1000000000+u.getD (j+(m+1)) 0) % v.getD (m+1) 0) q u:=by
  rw[EJ,Bi]
  have e1:((j:Int)+((m+2:Nat):Int)).toNat=j+(m+2):=by omega
  have e2:((j:Int)+((m+2:Nat):Int) - 1).toNat=j+(m+1):=by omega
  have e3:(((m+2:Nat):Int) - 1).toNat=m+1:=by omega
  simp (disch:=omega) only[tt,i64_in,eL,rS,e1,e2,e3,u64_in,ko,j5]
  simp (disch:=omega) only[u64_in,ko,j5,bT,nk,hg0]
 -- Oa acm
 have hus:((u.drop j).take (m+2)).length=v.length:=by rw[List.length_take,hdl];omega
 have aq4:u.drop j=(u.drop j).take (m+2)++(u.getD (j+(m+2)) 0::u.drop (j+(m+2)+1)):=by
  conv=>lhs;rw[WG (u.drop j) (m+2)]
  rw[List.drop_drop,drop_eq (show j+(m+2)<u.length by omega)]
 obtain⟨r,b',hs1,hs2,hs3,hs4,hs5⟩:=ach (g:=g) ⟨hg1,by omega⟩ ((u.drop j).take (m+2)) v (u.getD (j+(m+2)) 0::u.drop (j+(m+2)+1)) 0 hus ((hu.drop j).take _) hv ⟨by omega,by omega⟩
 have w2:=Z9 (k:=k) (j:=j) (g:=g) ⟨hg1,by omega⟩ hv hvn (m+2) 0 0 u q (by omega) ⟨by omega,by omega⟩ hu hju hul
 simp only[Nat.add_zero,List.drop_zero,Int.natCast_zero] at w2
 rw[aq4,hs1] at w2
 have hRw:VU ((u.drop j).take (m+2+1))=VU ((u.drop j).take (m+2))+1000000000^(m+2)*u.getD (j+(m+2)) 0:=by
  rw[eE (show m+2<(u.drop j).length by rw[hdl];omega),VU,jc,tW,hus,hvn]
  simp[val]
 have am7:=CP (B:=1000000000) (by omega) hs3
 have aq6:=lI (B:=1000000000) (by omega) hs3
 have am8:=CP (B:=1000000000) (by omega) hv
 rw[hs4,hus,hvn] at am7
 rw[hvn] at am8 hs2
 change VU ((u.drop j).take (m+2)) - 0 - g*VU v=VU r - 1000000000^(m+2)*b' at hs2
 change VU r<_ at am7
 change 0≤VU r at aq6
 change VU v<_ at am8
 have hjl:(u.take j).length=j:=by simp;omega
 have hu1:DU (u.take j++(r++u.getD (j+(m+2)) 0::u.drop (j+(m+2)+1))):=(hu.take j).append (hs3.append (jt.cons c1.1 c1.2 (hu.drop _)))
 have aq7:(u.take j++(r++u.getD (j+(m+2)) 0::u.drop (j+(m+2)+1))).length=u.length:=by
  simp[hs4,hus,hvn];omega
 have hx1:(u.take j++(r++u.getD (j+(m+2)) 0::u.drop (j+(m+2)+1))).getD (j+(m+2)) 0=u.getD (j+(m+2)) 0:=by
  have hrl:r.length=m+2:=by rw[hs4,hus,hvn]
  rw[List.getD,List.getElem?_append_right (by omega),List.getElem?_append_right (by omega)]
  simp[hjl,hrl]
 have b9:∀(r:List Int) (y:Int),r.length=m+2→(u.take j++(r++u.getD (j+(m+2)) 0::u.drop (j+(m+2)+1))).set (j+(m+2)) y=u.take j++(r++y::u.drop (j+(m+2)+1)):=fun r y hrl=>by
  rw[List.set_append_right _ _ (by omega),List.set_append_right _ _ (by omega)]
  simp[hjl,hrl]
 have hdt:∀(r:List Int) (y:Int),r.length=m+2→((u.take j++(r++y::u.drop (j+(m+2)+1))).drop j).take (m+2)=r:=fun r y hrl=>by
  have h1:(u.take j++(r++y::u.drop (j+(m+2)+1))).drop j=r++y::u.drop (j+(m+2)+1):=List.drop_left' hjl
  rw[h1];exact List.take_left' hrl
 have htk:∀(l:List Int),(u.take j++l).take j=u.take j:=fun l=>List.take_left' hjl
 have e1:((j:Int)+((m+2:Nat):Int)).toNat=j+(m+2):=by omega
 have hPn:(0:Int)<1000000000^(m+2):=Int.pow_pos (by omega)
 have W2:VU ((u.drop j).take (m+2+1)) - g*VU v=VU r+1000000000^(m+2)*(u.getD (j+(m+2)) 0 - b'):=by
  rw[hRw,Int.mul_sub]
  omega
 rw[w1,hL1,w2,EL,Bl]
 by_cases hneg:u.getD (j+(m+2)) 0 - b'<0
 · -- one too many
   have aq9:VU ((u.drop j).take (m+2+1))<g*VU v:=by
    have h1:(1000000000:Int)^(m+2)*(u.getD (j+(m+2)) 0 - b'+1)≤1000000000^(m+2)*0:=Int.mul_le_mul_of_nonneg_left (by omega) (by omega)
    rw[Int.mul_add,Int.mul_zero,Int.mul_one] at h1
    omega
   have awi:1≤g:=by
    by_cases hc:1≤g
    ·exact hc
    ·exfalso
     have:g=0:=by omega
     subst this
     have:=A4 ((hu.drop j).take (m+2+1))
     rw[Int.zero_mul] at aq9
     omega
   have hq:VU ((u.drop j).take (m+2+1)) / VU v=g - 1∧VU ((u.drop j).take (m+2+1)) % VU v=VU ((u.drop j).take (m+2+1)) - (g - 1)*VU v:=by
    have h1:(g - 1)*VU v=g*VU v - VU v:=by rw[Int.sub_mul,Int.one_mul]
    have h2:VU ((u.drop j).take (m+2+1))=(VU ((u.drop j).take (m+2+1)) - (g - 1)*VU v)+VU v*(g - 1):=by rw[Int.mul_comm (VU v)];omega
    have h3:0≤VU ((u.drop j).take (m+2+1)) - (g - 1)*VU v:=by rw[h1];omega
    have h4:VU ((u.drop j).take (m+2+1)) - (g - 1)*VU v<VU v:=by rw[h1];omega
    constructor
    ·rw[h2,Int.add_mul_ediv_left _ _ (by omega),Int.ediv_eq_zero_of_lt h3 h4];omega
    ·conv=>lhs;rw[h2]
     rw[Int.add_mul_emod_self_left,Int.emod_eq_of_lt h3 h4]
   obtain⟨r2,cc,ha1,ha2,ha3,ha4,ha5⟩:=aci r v (u.getD (j+(m+2)) 0::u.drop (j+(m+2)+1)) 0 (by rw[hs4,hus]) hs3 hv ⟨by omega,by omega⟩
   have w3:=aaa (k:=k) (j:=j) (g:=g - 1) (x:=u.getD (j+(m+2)) 0 - b') hv hvn (m+2) 0 0 _ q (by omega) ⟨by omega,by omega⟩ hu1 (by rw[aq7];exact hju) (by rw[aq7];exact hul)
   have hdj:(u.take j++(r++u.getD (j+(m+2)) 0::u.drop (j+(m+2)+1))).drop j=r++u.getD (j+(m+2)) 0::u.drop (j+(m+2)+1):=List.drop_left' hjl
   simp only[Nat.add_zero,List.drop_zero,Int.natCast_zero] at w3
   rw[hdj,ha1,htk] at w3
   have ajZ:r2.length=m+2:=by rw[ha4,hs4,hus,hvn]
   have hu2:DU (u.take j++(r2++u.getD (j+(m+2)) 0::u.drop (j+(m+2)+1))):=(hu.take j).append (ha3.append (jt.cons c1.1 c1.2 (hu.drop _)))
   have ayn:(u.take j++(r2++u.getD (j+(m+2)) 0::u.drop (j+(m+2)+1))).length=u.length:=by
    simp[ajZ];omega
   refine⟨u.take j++(r2++0::u.drop (j+(m+2)+1)), ?_,by simp[ajZ];omega,(hu.take j).append (ha3.append (jt.cons (by omega) (by omega) (hu.drop _))),htk _, ?_⟩
   ·simp (disch:=omega) only[az,i64_in,eL,rS,e1,hx1]
    simp (disch:=omega) only[aB,i64_in,u64_in]
    rw[w3,EM,Bm,hq.1]
    simp (disch:=omega) only[az,i64_in,eL,rS,e1,u32_in,b9 r2 0 ajZ,Int.toNat_natCast]
   ·rw[hdt r2 0 ajZ,hq.2]
    -- Oa carry takes Oa missing unit
    have aj0:=CP (B:=1000000000) (by omega) ha3
    have aop:=lI (B:=1000000000) (by omega) ha3
    rw[ajZ] at aj0
    rw[hvn] at ha2
    change VU r+VU v+0=VU r2+1000000000^(m+2)*cc at ha2
    change VU r2<_ at aj0
    change 0≤VU r2 at aop
    have h1:VU ((u.drop j).take (m+2+1)) - (g - 1)*VU v=VU r2+1000000000^(m+2)*(u.getD (j+(m+2)) 0 - b'+cc):=by
     rw[Int.sub_mul,Int.one_mul,Int.mul_add]
     omega
    have h3:0≤VU ((u.drop j).take (m+2+1)) - (g - 1)*VU v:=by rw[Int.sub_mul,Int.one_mul];omega
    have h4:VU ((u.drop j).take (m+2+1)) - (g - 1)*VU v<VU v:=by rw[Int.sub_mul,Int.one_mul];omega
    have h5:u.getD (j+(m+2)) 0 - b'+cc=0:=by
     by_cases hp:u.getD (j+(m+2)) 0 - b'+cc≥1
     ·exfalso
      have:=Int.mul_le_mul_of_nonneg_left hp (show (0:Int)≤1000000000^(m+2) by omega)
      rw[Int.mul_one] at this
      omega
     ·by_cases hm:u.getD (j+(m+2)) 0 - b'+cc≤ -1
      ·exfalso
       have:=Int.mul_le_mul_of_nonneg_left hm (show (0:Int)≤1000000000^(m+2) by omega)
       rw[Int.mul_neg,Int.mul_one] at this
       omega
      ·omega
    rw[h1,h5];simp
 · -- ayo right
   have awk:g*VU v≤VU ((u.drop j).take (m+2+1)):=by
    have h1:(0:Int)≤1000000000^(m+2)*(u.getD (j+(m+2)) 0 - b'):=Int.mul_nonneg (by omega) (by omega)
    omega
   have h3:VU ((u.drop j).take (m+2+1)) - g*VU v<VU v:=by
    have:((g:Int)+1)*VU v=g*VU v+VU v:=by rw[Int.add_mul,Int.one_mul]
    rw[this] at hg3
    omega
   have hq:VU ((u.drop j).take (m+2+1)) / VU v=g∧VU ((u.drop j).take (m+2+1)) % VU v=VU ((u.drop j).take (m+2+1)) - g*VU v:=by
    have h2:VU ((u.drop j).take (m+2+1))=(VU ((u.drop j).take (m+2+1)) - g*VU v)+VU v*g:=by rw[Int.mul_comm (VU v)];omega
    constructor
    ·rw[h2,Int.add_mul_ediv_left _ _ (by omega),Int.ediv_eq_zero_of_lt (by omega) h3];omega
    ·conv=>lhs;rw[h2]
     rw[Int.add_mul_emod_self_left,Int.emod_eq_of_lt (by omega) h3]
   have hrl:r.length=m+2:=by rw[hs4,hus,hvn]
   have h5:u.getD (j+(m+2)) 0 - b'=0:=by
    by_cases hp:u.getD (j+(m+2)) 0 - b'≥1
    ·exfalso
     have:=Int.mul_le_mul_of_nonneg_left hp (show (0:Int)≤1000000000^(m+2) by omega)
     rw[Int.mul_one] at this
     omega
    ·omega
   refine⟨u.take j++(r++0::u.drop (j+(m+2)+1)), ?_,by simp[hrl];omega,(hu.take j).append (hs3.append (jt.cons (by omega) (by omega) (hu.drop _))),htk _, ?_⟩
   ·rw[hq.1]
    simp (disch:=omega) only[az,i64_in,eL,rS,e1,hx1]
    simp (disch:=omega) only[az,i64_in,eL,rS,e1,u32_in,b9 r 0 hrl,Int.toNat_natCast]
   ·rw[hdt r 0 hrl,hq.2,W2,h5];simp
end
end Go.Proofs.YtofjebmoebhiiaaGreatDoor.Ev
namespace Go.Abs
theorem IU (l:List Int){m:Nat}(h:m<l.length):val 1000000000 (l.take (m+1))=val 1000000000 (l.take m)+1000000000^m*l.getD m 0:=by
 rw[eE h,jc]
 have:(l.take m).length=m:=by simp;omega
 rw[this]
 simp[val]
theorem aht {b k:Int}(hb:1≤b)(hb':b<1000000000)(hk:k=1000000000 / (b+1)):1≤k∧k*(b+1)≤1000000000∧500000000≤k*b∧k≤500000000:=by
 have h1:=Int.mul_ediv_add_emod 1000000000 (b+1)
 have h2:=Int.emod_nonneg 1000000000 (show b+1≠0 by omega)
 have h3:=Int.emod_lt_of_pos 1000000000 (show 0<b+1 by omega)
 rw[←hk,Int.mul_comm] at h1
 have hk1:1≤k:=by
  by_cases hc:1≤k
  ·exact hc
  ·exfalso
   have:k*(b+1)≤0*(b+1):=Int.mul_le_mul_of_nonneg_right (by omega) (by omega)
   rw[Int.zero_mul] at this
   omega
 have e1:k*(b+1)=k*b+k:=by rw[Int.mul_add,Int.mul_one]
 have e5:k*2≤k*(b+1):=Int.mul_le_mul_of_nonneg_left (by omega) (by omega)
 refine⟨hk1,by omega, ?_,by omega⟩
 by_cases hk2:k=1
 ·subst hk2;omega
 ·have e2:0≤(k - 2)*(b+1 - 2):=Int.mul_nonneg (by omega) (by omega)
  have e3:(k - 2)*(b+1 - 2)=k*b - k - 2*b+2:=by
   rw[show b+1 - 2=b - 1 by omega,Int.sub_mul,Int.mul_sub,Int.mul_sub]
   omega
  omega
end Go.Abs
namespace Go.Proofs.YtofjebmoebhiiaaGreatDoor.Ev
open Go.Abs Go.IntWalk
section
variable {k:Int}{v:List Int}{n:Nat}
theorem ad8 (hv:DU v)(hvn:v.length=n)(hn:2≤n)(Zo:500000000≤v.getD (n - 1) 0):∀(J:Nat) (q u:List Int),DU q→DU u→J≤q.length→J+n≤u.length→u.length≤1000000000000→q.length≤1000000000000→VU ((u.drop J).take n)<VU v→
  ∃q' u',fJ k v n ((J:Int) - 1) q u=fJ k v n (-1) q' u'∧q'.length=q.length∧DU q'∧u'.length=u.length∧DU u'∧q'.drop J=q.drop J∧
   VU (u.take J)+1000000000^J*VU ((u.drop J).take n)=VU v*VU (q'.take J)+VU (u'.take n)∧VU (u'.take n)<VU v:=by
 intro J
 induction J with
 |zero=>
  intro q u hq hu h1 h2 h3 h4 hx
  refine⟨q,u,rfl,rfl,hq,rfl,hu,rfl, ?_,by simpa using hx⟩
  simp[VU,val]
 |succ J ih=>
  intro q u hq hu h1 h2 h3 h4 hx
  have hw:(u.drop J).take (n+1)=u.getD J 0::(u.drop (J+1)).take n:=by
   rw[drop_eq (show J<u.length by omega),List.take_succ_cons]
  have hd:=hu.getD (by omega) J
  have hRv:VU ((u.drop J).take (n+1))=u.getD J 0+1000000000*VU ((u.drop (J+1)).take n):=by rw[hw];rfl
  have hXn:=A4 ((hu.drop (J+1)).take n)
  have auH:VU ((u.drop J).take (n+1))<VU v*1000000000:=by rw[hRv];omega
  obtain⟨u1,s1,s2,s3,s4,s5⟩:=ahs (k:=k) hv hvn hn Zo hu (show J+n<u.length by omega) h3 (show J<q.length by omega) h4 auH
  have acj:0<VU v:=by omega
  have auI:0≤VU ((u.drop J).take (n+1)):=by omega
  have q0:0≤VU ((u.drop J).take (n+1)) / VU v:=Int.ediv_nonneg auI (by omega)
  have q1:VU ((u.drop J).take (n+1)) / VU v<1000000000:=Int.ediv_lt_of_lt_mul acj (by rw[Int.mul_comm];omega)
  obtain⟨q',u',t1,t2,t3,t4,t5,t6,t7,t8⟩:=ih (q.set J (VU ((u.drop J).take (n+1)) / VU v)) u1 (hq.set q0 q1 _) s3 (by simp;omega) (by omega) (by omega) (by simpa using h4) (by rw[s5];exact Int.emod_lt_of_pos _ acj)
  have hJq:J<q'.length:=by rw[t2];simp;omega
  have hqJ:q'.getD J 0=VU ((u.drop J).take (n+1)) / VU v:=by
   have e:(q'.drop J).getD 0 0=((q.set J (VU ((u.drop J).take (n+1)) / VU v)).drop J).getD 0 0:=by rw[t6]
   rw[tW,tW,Nat.add_zero] at e
   rw[e]
   simp[List.getD,show J<q.length by omega]
  refine⟨q',u', ?_,by rw[t2];simp,t3,by rw[t4,s2],t5, ?_, ?_,t8⟩
  ·rw[show ((J+1:Nat):Int) - 1=J by omega,s1,t1]
  ·have e:(q'.drop J).drop 1=((q.set J (VU ((u.drop J).take (n+1)) / VU v)).drop J).drop 1:=by rw[t6]
   rw[List.drop_drop,List.drop_drop,set_drop] at e
   exact e
  ·have e1:=IU u (show J<u.length by omega)
   have e2:=IU q' hJq
   have e3:=Int.mul_ediv_add_emod (VU ((u.drop J).take (n+1))) (VU v)
   rw[s4,s5] at t7
   rw[hqJ] at e2
   change VU (u.take (J+1))=VU (u.take J)+1000000000^J*u.getD J 0 at e1
   change VU (q'.take (J+1))=VU (q'.take J)+1000000000^J*(VU ((u.drop J).take (n+1)) / VU v) at e2
   have e4:(1000000000:Int)^J*VU ((u.drop J).take (n+1))=1000000000^J*u.getD J 0+1000000000^(J+1)*VU ((u.drop (J+1)).take n):=by
    rw[hRv,Int.mul_add,Int.pow_succ,Int.mul_assoc]
   have e5:VU v*VU (q'.take (J+1))=VU v*VU (q'.take J)+1000000000^J*(VU v*(VU ((u.drop J).take (n+1)) / VU v)):=by
    rw[e2,Int.mul_add,Int.mul_left_comm]
   have e6:(1000000000:Int)^J*VU ((u.drop J).take (n+1))=1000000000^J*(VU v*(VU ((u.drop J).take (n+1)) / VU v))+1000000000^J*(VU ((u.drop J).take (n+1)) % VU v):=by
    rw[←Int.mul_add,e3]
   omega
end
theorem YN {N:Nat}{n:Nat}(hl:(dU N).length=n+1){x:Int}(h:x*1000000000^n≤N):x≤(dU N).getD n 0:=by
 have h1:=IU (dU N) (show n<(dU N).length by omega)
 rw[List.take_of_length_le (by omega)] at h1
 have h2:=CP (B:=1000000000) (by omega) ((N1 N).take n)
 rw[show ((dU N).take n).length=n by rw[List.length_take];omega] at h2
 have h3:=P3 N
 rw[VU] at h3
 by_cases hc:x≤(dU N).getD n 0
 ·exact hc
 ·exfalso
  have h4:(1000000000:Int)^n*((dU N).getD n 0+1)≤1000000000^n*x:=Int.mul_le_mul_of_nonneg_left (by omega) (Int.pow_nonneg (by omega))
  rw[Int.mul_add,Int.mul_one,Int.mul_comm _ x] at h4
  omega
theorem ofNat_pow (n:Nat):((1000000000^n:Nat):Int)=(1000000000:Int)^n:=by
 rw[Int.natCast_pow];rfl
theorem acn {A B:Nat}(hl:(dU A).length≤100000000000)(hB:2≤(dU B).length)(hAB:B≤A):
  ∃q r,HO (dU A) (dU B)=some (q,r)∧DU q∧DU r∧VU q=((A / B:Nat):Int)∧VU r=((A % B:Nat):Int)∧q.length≤(dU A).length∧r.length≤(dU A).length:=by
 obtain⟨n,hn⟩:∃n,(dU B).length=n+1:=⟨(dU B).length - 1,by omega⟩
 have ara:0<B:=by
  by_cases h:B=0
  ·subst h;rw[show dU 0=[] from fj _] at hB;simp at hB
  ·omega
 have ays:=ajT hAB
 have hdA:=N1 A
 have hdB:=N1 B
 -- Oa top digit of Oa al4
 have arc:(1000000000^n:Nat)≤B:=(gN (B:=1000000000) (by omega) n B).1 (show n<(dU B).length by omega)
 have ht1:1≤(dU B).getD n 0:=YN hn (by rw[Int.one_mul, ←ofNat_pow];omega)
 have ht2:=hdB.getD (by omega) n
 obtain⟨k,hk⟩:∃k,k=(1000000000:Int) / ((dU B).getD n 0+1):=⟨_,rfl⟩
 obtain⟨hk1,hk2,hk3,hk4⟩:=aht ht1 ht2.2 hk
 obtain⟨K,rfl⟩:=Int.eq_ofNat_of_zero_le (show 0≤k by omega)
 -- Oa scaled numbers
 obtain⟨u1,u2,u3⟩:=Z6 (dU A) K 0 hdA ⟨by omega,by omega⟩ ⟨by omega,by omega⟩
 obtain⟨w1,w2,w3⟩:=Z6 (dU B) K 0 hdB ⟨by omega,by omega⟩ ⟨by omega,by omega⟩
 rw[P3,Int.add_zero] at u1 w1
 have hv:pd (UK (dU B) K 0)=dU (B*K):=by
  rw[afP w2,w1, ←Int.natCast_mul,Int.toNat_natCast]
 -- its length
 have al5:=IU (dU B) (show n<(dU B).length by omega)
 rw[List.take_of_length_le (by omega)] at al5
 have ahu:=CP (B:=1000000000) (by omega) (hdB.take n)
 have awo:=lI (B:=1000000000) (by omega) (hdB.take n)
 rw[show ((dU B).take n).length=n by rw[List.length_take];omega] at ahu
 have hVB:=P3 B
 rw[VU] at hVB
 have hPn:(0:Int)<1000000000^n:=Int.pow_pos (by omega)
 have hBK:B*K<1000000000^(n+1):=by
  have h1:(B:Int)*K≤(1000000000^n*((dU B).getD n 0+1) - 1)*K:=Int.mul_le_mul_of_nonneg_right (by rw[Int.mul_add,Int.mul_one];omega) (by omega)
  have h2:(1000000000:Int)^n*(K*((dU B).getD n 0+1))≤1000000000^n*1000000000:=Int.mul_le_mul_of_nonneg_left hk2 (by omega)
  rw[Int.sub_mul,Int.one_mul,Int.mul_assoc,Int.mul_comm ((dU B).getD n 0+1) (K:Int)] at h1
  have h3:=ofNat_pow (n+1)
  rw[Int.pow_succ] at h3
  have h4:((B*K:Nat):Int)=(B:Int)*K:=Int.natCast_mul _ _
  omega
 have auJ:1000000000^n≤B*K:=Nat.le_trans arc (Nat.le_mul_of_pos_right _ (by omega))
 have hvl:(dU (B*K)).length=n+1:=by
  have h1:=(aZ (B:=1000000000) (by omega) (n+1) (B*K)).2 hBK
  have h2:=(gN (B:=1000000000) (by omega) n (B*K)).2 auJ
  show (W6 1000000000 (B*K)).length=n+1
  omega
 have Zo:500000000≤(dU (B*K)).getD (n+1 - 1) 0:=by
  refine YN (N:=B*K) hvl ?_
  have h1:(K*(dU B).getD n 0)*1000000000^n≤(B:Int)*K:=by
   have h2:1000000000^n*(dU B).getD n 0*K≤(B:Int)*K:=Int.mul_le_mul_of_nonneg_right (by omega) (by omega)
   rw[Int.mul_comm (K*_),Int.mul_comm (K:Int), ←Int.mul_assoc]
   exact h2
  have h3:500000000*(1000000000:Int)^n≤(K*(dU B).getD n 0)*1000000000^n:=Int.mul_le_mul_of_nonneg_right hk3 (by omega)
  rw[Int.natCast_mul]
  omega
 have hvD:=N1 (B*K)
 have hVv:VU (dU (B*K))=(B:Int)*K:=by rw[P3,Int.natCast_mul]
 -- Oa loop
 have hul:(UK (dU A) K 0).length=(dU A).length+1:=u3
 obtain⟨J,hJ⟩:∃J,(dU A).length+1=J+(n+1):=⟨(dU A).length - n,by omega⟩
 have hstart:VU (((UK (dU A) K 0).drop J).take (n+1))<VU (dU (B*K)):=by
  rw[List.take_of_length_le (by rw[List.length_drop];omega),hVv]
  have h1:=jc 1000000000 ((UK (dU A) K 0).take J) ((UK (dU A) K 0).drop J)
  rw[List.take_append_drop,show ((UK (dU A) K 0).take J).length=J by rw[List.length_take];omega] at h1
  have h2:=A4 (u2.take J)
  have h3:=u1
  rw[VU] at h3 h2
  -- a<U^la
  have h4:A<1000000000^(dU A).length:=(aZ (B:=1000000000) (by omega) _ A).1 (Nat.le_refl _)
  rw[show (dU A).length=J+n by omega,Nat.pow_add] at h4
  have h5:((1000000000^J*1000000000^n:Nat):Int)=(1000000000:Int)^J*1000000000^n:=by rw[Int.natCast_mul,ofNat_pow,ofNat_pow]
  have hPJ:(0:Int)<1000000000^J:=Int.pow_pos (by omega)
  have h6:(A:Int)*K<(1000000000^J*1000000000^n)*K:=Int.mul_lt_mul_of_pos_right (by omega) (by omega)
  have h7:(1000000000:Int)^n*K≤(B:Int)*K:=Int.mul_le_mul_of_nonneg_right (by rw[←ofNat_pow];omega) (by omega)
  have h8:(1000000000:Int)^J*val 1000000000 ((UK (dU A) K 0).drop J)<1000000000^J*(1000000000^n*K):=by
   rw[←Int.mul_assoc];omega
  have h9:=Int.lt_of_mul_lt_mul_left h8 (by omega)
  show val 1000000000 ((UK (dU A) K 0).drop J)<_
  omega
 obtain⟨q',u',t1,t2,t3,t4,t5,t6,t7,t8⟩:=ad8 (k:=K) hvD hvl (by omega) Zo J (List.replicate J 0) (UK (dU A) K 0) (jt.replicate (by omega) _) u2 (by simp) (by omega) (by omega) (by simp;omega) hstart
 rw[List.length_replicate] at t2
 have htq:q'.take J=q':=List.take_of_length_le (by omega)
 rw[htq,hVv] at t7
 have hU0:VU ((UK (dU A) K 0).take J)+1000000000^J*VU (((UK (dU A) K 0).drop J).take (n+1))=(A:Int)*K:=by
  rw[List.take_of_length_le (l:=(UK (dU A) K 0).drop J) (by rw[List.length_drop];omega), ←u1]
  have h1:=jc 1000000000 ((UK (dU A) K 0).take J) ((UK (dU A) K 0).drop J)
  rw[List.take_append_drop,show ((UK (dU A) K 0).take J).length=J by rw[List.length_take];omega] at h1
  exact h1.symm
 rw[hU0] at t7
 -- Oa rest is ard
 have hsu:=t5.take (n+1)
 have hshort:=RA (b:=(K:Int)) hsu ⟨by omega,by omega⟩ (by rw[List.length_take];omega)
 obtain⟨s1,s2,s3,s4,s5⟩:=Rz (b:=(K:Int)) ⟨by omega,by omega⟩ _ hsu
 have hQ0:=A4 t3
 have hr0:=A4 s4
 have awp:(0:Int)<K:=by omega
 -- A=B q+r
 have hAq:(A:Int)=B*VU q'+VU (FY K (u'.take (n+1))).1:=by
  have h1:((A:Int) - B*VU q' - VU (FY K (u'.take (n+1))).1)*K=(FY K (u'.take (n+1))).2:=by
   rw[Int.sub_mul,Int.sub_mul]
   have:(B:Int)*VU q'*K=B*K*VU q':=by rw[Int.mul_assoc,Int.mul_comm (VU q'), ←Int.mul_assoc]
   rw[this]
   omega
  have h2:(A:Int) - B*VU q' - VU (FY K (u'.take (n+1))).1=0:=by
   by_cases hp:(A:Int) - B*VU q' - VU (FY K (u'.take (n+1))).1≥1
   ·exfalso
    have:=Int.mul_le_mul_of_nonneg_right hp (show (0:Int)≤K by omega)
    rw[Int.one_mul] at this
    omega
   ·by_cases hm:(A:Int) - B*VU q' - VU (FY K (u'.take (n+1))).1≤ -1
    ·exfalso
     have:=Int.mul_le_mul_of_nonneg_right hm (show (0:Int)≤K by omega)
     rw[Int.neg_mul,Int.one_mul] at this
     omega
    ·omega
  omega
 have hrB:VU (FY K (u'.take (n+1))).1<B:=by
  have h1:VU (FY K (u'.take (n+1))).1*K<(B:Int)*K:=by rw[hVv] at t8;omega
  exact Int.lt_of_mul_lt_mul_right h1 (by omega)
 obtain⟨Q,hQ⟩:=Int.eq_ofNat_of_zero_le hQ0
 obtain⟨r,hr⟩:=Int.eq_ofNat_of_zero_le hr0
 rw[hQ,hr] at hAq
 rw[hr] at hrB
 have hAN:A=B*Q+r:=by
  have:((B*Q+r:Nat):Int)=(B:Int)*Q+r:=by rw[Int.natCast_add,Int.natCast_mul]
  omega
 have hq1:A / B=Q:=by rw[hAN,Nat.mul_add_div ara,Nat.div_eq_of_lt (by omega)];omega
 have RZ:A % B=r:=by rw[hAN,Nat.mul_add_mod,Nat.mod_eq_of_lt (by omega)]
 refine⟨q',(FY K (u'.take (n+1))).1, ?_,t3,s4,by rw[hQ,hq1],by rw[hr,RZ],by omega,by rw[s5,List.length_take];omega⟩
 -- Oa walk
 rw[TN,Pl]
 have e1:(((dU B).length:Int) - 1).toNat=n:=by omega
 simp (disch:=omega) only[i64_in,eL,e1,u64_in,ko,j5,nk]
 rw[←hk]
 simp (disch:=omega) only[u64_in,u32_in]
 rw[OG hdA ⟨by omega,by omega⟩ (by omega),bS,OG hdB ⟨by omega,by omega⟩ (by omega),bS,GO (by omega),bS,hv]
 simp (disch:=omega) only[i64_in,GM,hul,hvl]
 have e2:((((dU A).length+1:Nat):Int) - ((n+1:Nat):Int)).toNat=J:=by omega
 have e3:(((dU A).length+1:Nat):Int) - ((n+1:Nat):Int) - 1=(J:Int) - 1:=by omega
 rw[e2,e3,t1,EJ,Bi]
 simp (disch:=omega) only[tu,JX,Int.toNat_natCast]
 rw[hshort,bS]
end Go.Proofs.YtofjebmoebhiiaaGreatDoor.Ev
namespace Go.Proofs.YtofjebmoebhiiaaGreatDoor.Ev
open Go.Abs Go.IntWalk
theorem aab {A B:Nat}(hl:(dU A).length≤100000000000)(hl':(dU B).length≤100000000000)(hB:0<B):
  ∃q r,AB (dU A) (dU B)=some (q,r)∧DU q∧DU r∧VU q=((A / B:Nat):Int)∧VU r=((A % B:Nat):Int)∧q.length≤1000000000000∧r.length≤1000000000000:=by
 rw[Q2,LI,Ms (by omega) (by omega),bS]
 by_cases h:A<B
 ·rw[vV (by omega),aB (by omega)]
  refine⟨[],dU A,rfl,jt.nil,N1 A, ?_, ?_,by simp,by omega⟩
  ·rw[Nat.div_eq_of_lt h];rfl
  ·rw[Nat.mod_eq_of_lt h,P3]
 ·have hc:¬tX (A:Int) B<0:=by unfold tX;rw[if_neg (by omega)];split<;>omega
  rw[az hc]
  by_cases h1:(dU B).length=1
  ·rw[ur (by omega)]
   have hd:=(N1 B).getD (by omega) 0
   have hBv:(dU B).getD 0 0=B:=by
    have h2:=P3 B
    cases hb:dU B with
    |nil=>rw[hb] at h1;simp at h1
    |cons x xs=>
     rw[hb] at h1 h2
     have:xs=[]:=by simpa using h1
     subst this
     simpa [VU,val] using h2
   rw[hBv] at hd
   obtain⟨s1,s2,s3,s4,s5⟩:=Rz (b:=(B:Int)) ⟨by omega,hd.2⟩ (dU A) (N1 A)
   have ht:pd [(FY (B:Int) (dU A)).2]=dU (FY (B:Int) (dU A)).2.toNat:=by
    have:DU [(FY (B:Int) (dU A)).2]:=jt.cons s2 (by omega) jt.nil
    rw[afP this]
    simp[VU,val]
   simp (disch:=omega) only[eL,Int.toNat_zero,hBv]
   rw[RA (N1 A) ⟨by omega,hd.2⟩ (by omega),bS,GO (by simp),bS,ht]
   obtain⟨r,hr⟩:=Int.eq_ofNat_of_zero_le s2
   obtain⟨Q,hQ⟩:=Int.eq_ofNat_of_zero_le (A4 s4)
   rw[P3,hQ,hr] at s1
   rw[hr] at s3
   have hAN:A=B*Q+r:=by
    have:((B*Q+r:Nat):Int)=(B:Int)*Q+r:=by rw[Int.natCast_add,Int.natCast_mul]
    rw[Int.mul_comm] at s1
    omega
   have hq1:A / B=Q:=by rw[hAN,Nat.mul_add_div hB,Nat.div_eq_of_lt (by omega)];omega
   have RZ:A % B=r:=by rw[hAN,Nat.mul_add_mod,Nat.mod_eq_of_lt (by omega)]
   refine⟨_,_,rfl,s4,N1 _,by rw[hQ,hq1],by rw[P3,hr,RZ];rfl,by omega, ?_⟩
   rw[hr,Int.toNat_natCast]
   have:=(aZ (B:=1000000000) (by omega) 1 r).2 (by omega)
   show (W6 1000000000 r).length≤_
   omega
  ·rw[ko (by omega)]
   have hne:(dU B).length≠0:=fun e=>by
    have:=(nF (B:=1000000000) (n:=B) (by omega)).1 (List.length_eq_zero_iff.1 e)
    omega
   obtain⟨q,r,e1,e2,e3,e4,e5,e6,e7⟩:=acn (A:=A) (B:=B) hl (by omega) (by omega)
   rw[e1,bS]
   exact⟨q,r,rfl,e2,e3,e4,e5,by omega,by omega⟩
theorem ad9:∀(y x:Nat),mV x y=some ((Nat.gcd x y:Nat):Int):=by
 intro y
 induction y using Nat.strongRecOn with
 |ind y ih=>
  intro x
  rw[Kh,EF]
  by_cases h:y=0
  ·subst h;rw[c8 (by omega),Nat.gcd_zero_right]
  ·have e:(x:Int).tmod y=((x % y:Nat):Int):=by rw[bT (by omega),Int.natCast_emod]
   rw[cZ (by omega),j5 (by omega),e,ih _ (Nat.mod_lt _ (by omega)),Nat.gcd_comm y, ←Nat.gcd_rec,Nat.gcd_comm]
theorem YO {d:List Int}(hd:DU d)(hl:d.length≤2):HN d=some (VU d):=by
 rw[TL,Pj]
 match d,hd,hl with
 | [],hd,hl=>
   simp (disch:=omega) only[List.length_nil,i64_in]
   rw[lu,kS,tu (by omega)];rfl
 | [x],hd,hl=>
   have hx:=hd.head
   simp only[List.length_singleton]
   rw[i64_in _ (by omega),lu,kS,tt (by omega),eL (by omega) (by simp)]
   have e:([x]:List Int).getD (((1:Nat):Int) - 1).toNat 0=x:=rfl
   rw[e]
   simp (disch:=omega) only[i64_in]
   rw[lu,kS,tu (by omega)]
   simp[VU,val]
 | [x,y],hd,hl=>
   have hx:=hd.head
   have hy:=hd.tail.head
   simp only[List.length_cons,List.length_nil]
   rw[i64_in _ (by omega),lu,kS,tt (by omega),eL (by omega) (by simp)]
   have e:([x,y]:List Int).getD (((0+1+1:Nat):Int) - 1).toNat 0=y:=rfl
   rw[e]
   simp (disch:=omega) only[i64_in]
   rw[lu,kS,tt (by omega),eL (by omega) (by simp)]
   have e:([x,y]:List Int).getD (((0+1+1:Nat):Int) - 1 - 1).toNat 0=x:=rfl
   rw[e]
   simp (disch:=omega) only[i64_in]
   rw[lu,kS,tu (by omega)]
   simp[VU,val]
   omega
 |_::_::_::_,hd,hl=>simp at hl
theorem aj1 {t:Bool}{t2:List Int}:∀(B A:Nat),(dU A).length≤10000000000→(dU B).length≤10000000000→ac1 (dU A) (dU B) t t2=some (W ((Nat.gcd A B:Nat):Int)):=by
 intro B
 induction B using Nat.strongRecOn with
 |ind B ih=>
  intro A hA hB
  rw[CX,we]
  by_cases h:B=0
  ·subst h
   rw[show dU 0=[] from fj _,c8 (by simp),Nat.gcd_zero_right]
   simp[W]
  ·have hne:(dU B).length≠0:=fun e=>by
    have:=(nF (B:=1000000000) (n:=B) (by omega)).1 (List.length_eq_zero_iff.1 e)
    omega
   rw[cZ (by omega)]
   -- Oa step by a ao5
   have ack:(AB (dU A) (dU B)).bind (fun r6=>(oo r6.2).bind fun r7=>ac1 (dU B) r7 t t2)=some (W ((Nat.gcd A B:Nat):Int)):=by
    obtain⟨q,r,e1,e2,e3,e4,e5,e6,e7⟩:=aab (A:=A) (B:=B) (by omega) (by omega) (by omega)
    have hmod:=Nat.mod_lt A (show B>0 by omega)
    have hm:=ajT (show A % B≤B by omega)
    rw[e1,bS,GO (show r.length≤_ by omega),bS,afP e3,e5,Int.toNat_natCast,ih _ hmod B hB (by omega)]
    rw[Nat.gcd_comm B, ←Nat.gcd_rec,Nat.gcd_comm]
   by_cases ha:(dU A).length≤2
   ·rw[OF (by omega)]
    by_cases hb:(dU B).length≤2
    ·rw[OF (by omega),YO (N1 A) ha,bS,YO (N1 B) hb,bS,P3,P3,Q1,LH,ad9,bS]
     have h1:=(aZ (B:=1000000000) (by omega) 2 B).1 hb
     have h2:=Nat.gcd_le_right A (show 0<B by omega)
     rw[YM (by omega) (by omega),bS,GP]
    ·rw[WC (by omega)];exact ack
   ·rw[WC (by omega)];exact ack
theorem IV {x y:Int}(hx:Ln x≤10000000000)(hy:Ln y≤10000000000):qE (W x) (W y)=some (W ((Int.gcd x y:Nat):Int)):=by
 rw[Ib,Cz,W_2,W_2,aj1 _ _ hx hy]
 rfl
end Go.Proofs.YtofjebmoebhiiaaGreatDoor.Ev
namespace Go.Proofs.YtofjebmoebhiiaaGreatDoor.Ev
open Go.Abs Go.IntWalk
theorem take_one {l:List Int}:l.take 1=[45]↔l.head?=some 45:=by
 cases l<;>simp
theorem aac (s:ByteArray):jR s (bs [45])=some (strOf (bP (bytesOf s)),j6 (bytesOf s)):=by
 have h45:bytesOf (bs [45])=[45]:=rfl
 have hsz:(bs [45]).size=1:=rfl
 have hlen:=bz s
 rw[BS,uI,vv,oC,vw,oD,hsz]
 by_cases h0:1≤s.size
 ·rw[tt (by omega),JX (by omega) (by omega) (by omega),bS,Z2,h45,vW]
  have e1:((0:Int)).toNat=0:=rfl
  have e2:(((1:Nat):Int)).toNat=1:=rfl
  rw[e1,e2,List.drop_zero]
  by_cases hm:(bytesOf s).head?=some 45
  ·have hd:decide ((bytesOf s).take 1=[45])=true:=decide_eq_true (take_one.2 hm)
   rw[hd]
   simp only[Bool.not_true,cF]
   rw[JX (by omega) (by omega) (by omega),bS]
   have hb:bP (bytesOf s)=(bytesOf s).tail:=by unfold bP;rw[if_pos hm]
   have hm':j6 (bytesOf s)=true:=by simpa [j6] using hm
   have hx:s.extract 1 ((s.size:Nat):Int).toNat=strOf (bP (bytesOf s)):=by
    apply tv
    rw[vW,hb,vJ (fun x hx=>nG s x (List.mem_of_mem_tail hx)),Int.toNat_natCast, ←hlen,List.take_length]
    simp
   rw[hm',hx]
  ·have hd:decide ((bytesOf s).take 1=[45])=false:=decide_eq_false (fun e=>hm (take_one.1 e))
   rw[hd]
   simp only[Bool.not_false,cT]
   rw[bS]
   have hb:bP (bytesOf s)=bytesOf s:=by unfold bP;rw[if_neg hm]
   have hm':j6 (bytesOf s)=false:=by simpa [j6] using hm
   rw[hb,hm',XC]
 ·have he:bytesOf s=[]:=List.length_eq_zero_iff.1 (by omega)
  rw[tu (by omega),bS]
  simp only[Bool.not_false,cT]
  rw[bS]
  have:s=strOf (bP (bytesOf s)):=by
   apply tv
   rw[he,vJ]
   ·rfl
   ·rw[show bP ([]:List Int)=[] from rfl];exact jt.nil
  rw[←this,he];rfl
theorem aea {s:ByteArray}{neg:Bool}{e:Int}{t4:Bool}{t5:List Int}{c:List Int}(hc:jt 256 c)(hl:c.length≤9):∀(m k:Nat) (x:Int) (d:List Int),m+k=c.length→x=kp (c.take k)→(∀b∈c.take k,48≤b∧b≤57)→d.length≤100000000000000 / 5→
  oZ s neg e x c c.length k d t4 t5=bif c.all UY then kN s neg (IntKind.wrap .i64 (e - 9)) (d++[kp c]) t4 t5 else some ((false,[],()),false):=by
 intro m
 induction m with
 |zero=>
  intro k x d hk hx hd hdl
  have hk':k=c.length:=by omega
  subst hk'
  rw[List.take_length] at hx hd
  have ha:c.all UY=true:=List.all_eq_true.2 fun b hb=>(Bs b).2 (hd b hb)
  rw[ED,Be,az (by omega),kg (by omega) (by omega),ha,cT,hx]
 |succ m ih=>
  intro k x d hk hx hd hdl
  have hkl:k<c.length:=by omega
  have hb:=hc.getD (by omega) k
  have hxb:=Ck (c.take k) hd
  rw[show (c.take k).length=k by rw[List.length_take];omega] at hxb
  have ayF:(10:Int)^k≤10^8:=Ry (by omega)
  rw[ED,Be,aB (by omega),eL (by omega) (by omega),Int.toNat_natCast]
  by_cases h1:c.getD k 0<48
  ·have ha:c.all UY=false:=by
    rw[List.all_eq_false]
    refine⟨c.getD k 0, ?_,by rw[Bs];omega⟩
    simp only[List.getD,hkl,List.getElem?_eq_getElem,Option.getD_some]
    exact List.getElem_mem hkl
   rw[aB h1,ha,cF]
  ·by_cases h2:c.getD k 0>57
   ·have ha:c.all UY=false:=by
     rw[List.all_eq_false]
     refine⟨c.getD k 0, ?_,by rw[Bs];omega⟩
     simp only[List.getD,hkl,List.getElem?_eq_getElem,Option.getD_some]
     exact List.getElem_mem hkl
    rw[az h1,cZ h2,ha,cF]
   ·rw[az h1,c8 h2]
    simp (disch:=omega) only[u8_in,u32_in,i64_in]
    have ym:=fun x d=>ih (k+1) x d (by omega)
    simp only[Int.natCast_add,Int.natCast_one] at ym
    rw[ym]
    ·rw[eE hkl,GN, ←hx]
     simp[kp];omega
    ·rw[eE hkl]
     intro b hb'
     rcases List.mem_append.1 hb' with h |h
     ·exact hd b h
     ·simp only[List.mem_singleton] at h;subst h;omega
    ·exact hdl
theorem aeb {s:ByteArray}{neg:Bool}{t4:Bool}{t5:List Int}(hs:s.size≤140737488355328):∀(m e:Nat) (d:List Int),e≤m→e≤s.size→DU d→d.length*9+e≤140737488355328+9→
  kN s neg e d t4 t5=bif ((bytesOf s).take e).all UY then some (W (bif neg then -(VU d+1000000000^d.length*kp ((bytesOf s).take e)) else (VU d+1000000000^d.length*kp ((bytesOf s).take e))),true) else some ((false,[],()),false):=by
 intro m
 induction m using Nat.strongRecOn with
 |ind m ih=>
  intro e d hm he hd hdl
  have hbl:=bz s
  rw[EC,Bc]
  by_cases h0:e=0
  ·subst h0
   rw[c8 (by omega),Hy hd (by omega),bS]
   simp only[List.take_zero,List.all_nil,cT,kp,List.foldl_nil,Int.mul_zero,Int.add_zero]
   try rfl
  ·rw[cZ (by omega)]
   -- Oa ar8 begin
   obtain⟨b,hb⟩:∃b:Nat,b=e - 9:=⟨_,rfl⟩
   have e0:(bif decide (IntKind.wrap .i64 ((e:Int) - 9)>0) then IntKind.wrap .i64 ((e:Int) - 9) else 0)=(b:Int):=by
    rw[i64_in _ (by omega)]
    by_cases h:(e:Int) - 9>0
    ·rw[cZ h];omega
    ·rw[c8 h];omega
   rw[e0]
   have hx:bytesOf (s.extract b e)=((bytesOf s).take e).drop b:=vW s b e
   have hxl:(bytesOf (s.extract b e)).length=e - b:=by rw[hx];simp;omega
   have hxs:(s.extract b e).size≤140737488355328:=by rw[←bz,hxl];omega
   simp only[Int.toNat_natCast]
   rw[JX (by omega) (by omega) (by omega),auu hxs]
   have hI:=aea (s:=s) (neg:=neg) (e:=(e:Int)) (t4:=t4) (t5:=t5) (c:=bytesOf (s.extract b e)) (nG _) (by omega) (e - b) 0 0 d (by omega) (by simp[kp]) (by simp) (by omega)
   simp only[Int.natCast_zero] at hI
   rw[hI,hx,i64_in _ (by omega)]
   have S2:(bytesOf s).take e=(bytesOf s).take b++((bytesOf s).take e).drop b:=by
    conv=>lhs;rw[WG ((bytesOf s).take e) b]
    rw[List.take_take,Nat.min_eq_left (by omega)]
   cases hca:(((bytesOf s).take e).drop b).all UY with
   |false=>
    have:((bytesOf s).take e).all UY=false:=by rw[S2,List.all_append,hca,Bool.and_false]
    rw[this,cF,cF]
   |true=>
    rw[cT]
    have hcd:∀x∈((bytesOf s).take e).drop b,48≤x∧x≤57:=fun x hx=>(Bs x).1 (List.all_eq_true.1 hca x hx)
    have hcb:=Ck _ hcd
    have hcl:(((bytesOf s).take e).drop b).length=e - b:=by rw[←hx,hxl]
    rw[hcl] at hcb
    have hpw:(10:Int)^(e - b)≤10^9:=Ry (by omega)
    have hd':DU (d++[kp (((bytesOf s).take e).drop b)]):=hd.append (jt.cons hcb.1 (by omega) jt.nil)
    have hVd:VU (d++[kp (((bytesOf s).take e).drop b)])=VU d+1000000000^d.length*kp (((bytesOf s).take e).drop b):=by
     rw[VU,jc];simp[val]
    by_cases h9:9≤e
    ·have e1:(e:Int) - 9=(b:Int):=by omega
     rw[e1,ih b (by omega) b _ (Nat.le_refl _) (by omega) hd' (by simp;omega),hVd]
     have h4:((bytesOf s).take e).all UY=((bytesOf s).take b).all UY:=by
      conv=>lhs;rw[S2]
      rw[List.all_append,hca,Bool.and_true]
     have h5:kp ((bytesOf s).take e)=kp ((bytesOf s).take b)*1000000000+kp (((bytesOf s).take e).drop b):=by
      conv=>lhs;rw[S2]
      rw[GN,hcl,show e - b=9 by omega]
      rfl
     have h6:VU d+1000000000^d.length*kp (((bytesOf s).take e).drop b)+1000000000^(d++[kp (((bytesOf s).take e).drop b)]).length*kp ((bytesOf s).take b)
       =VU d+1000000000^d.length*kp ((bytesOf s).take e):=by
      rw[h5,List.length_append,List.length_singleton,Int.pow_succ,Int.mul_add,Int.mul_assoc,Int.mul_comm (1000000000:Int) (kp _)]
      omega
     rw[h4,h6]
    · -- Oa last chunk
      have hb0:b=0:=by omega
      subst hb0
      rw[EC,Bc,c8 (by omega),Hy hd' (by simp;omega),bS,hVd]
      rw[List.drop_zero] at hca ⊢
      rw[hca,cT]
      try rfl
theorem xW {s:ByteArray}(hs:s.size≤140737488355328):HL s=bif hU (bytesOf s) then some (W (numOf (bytesOf s)),true) else some ((false,[],()),false):=by
 rw[TI,Pg,aac,bS]
 have hbody:bytesOf (strOf (bP (bytesOf s)))=bP (bytesOf s):=vJ (fun x hx=>nG s x (by
  unfold bP at hx
  split at hx
  ·exact List.mem_of_mem_tail hx
  ·exact hx))
 have hbl:(bP (bytesOf s)).length≤s.size:=by
  rw[←bz]
  unfold bP
  split
  ·simp
  ·exact Nat.le_refl _
 have hsz:(strOf (bP (bytesOf s))).size=(bP (bytesOf s)).length:=by rw[←bz,hbody]
 generalize hB:bP (bytesOf s)=B at*
 generalize hM:j6 (bytesOf s)=M at*
 simp only
 rw[Z2,hbody,XD]
 cases B with
 |nil=>
  have:hU (bytesOf s)=false:=by unfold hU;rw[hB];simp
  rw[this];rfl
 |cons c r=>
  have h1:decide ((c::r:List Int)=[])=false:=by simp
  rw[h1,cF,Br,hbody]
  have h2:idx (c::r) (0:Int)=some c:=rfl
  rw[h2,bS]
  have hout:=aeb (s:=strOf (c::r)) (neg:=M) (t4:=false) (t5:=[]) (by rw[hsz];omega) (c::r).length (c::r).length [] (Nat.le_refl _) (by rw[hsz];exact Nat.le_refl _) jt.nil (by simp at hbl ⊢;omega)
  rw[hbody,List.take_length] at hout
  have adO:kN (strOf (c::r)) M ((c::r).length:Int) [] false []=bif (c::r).all UY then some (W (numOf (bytesOf s)),true) else some ((false,[],()),false):=by
   rw[hout]
   have:(bif M then -(VU []+1000000000^([]:List Int).length*kp (c::r)) else (VU []+1000000000^([]:List Int).length*kp (c::r)))=numOf (bytesOf s):=by
    unfold numOf
    rw[hB,hM]
    cases M<;>simp[VU,val]
   rw[this]
  have hok:hU (bytesOf s)=((c::r).all UY&&(!(c==48)||((c::r).length==1&& !M))):=by
   unfold hU
   rw[hB,hM]
   simp
  by_cases hc:c=48
  ·subst hc
   rw[ur rfl]
   rw[hok]
   by_cases hl:r=[]
   ·subst hl
    rw[hsz,c8 (by simp)]
    cases M with
    |true=>rfl
    |false=>
     rw[cF,adO];rfl
   ·have hr:0<r.length:=List.length_pos_iff.2 hl
    rw[hsz,cZ (by simp;omega)]
    have h5:((48::r:List Int).length==1)=false:=by simp;exact hl
    rw[h5]
    simp
  ·rw[ko hc,hsz,adO,hok]
   have:(c==48)=false:=Mq hc
   rw[this]
   simp
end Go.Proofs.YtofjebmoebhiiaaGreatDoor.Ev
namespace Go.Abs
theorem al6 {n:Nat}(h:0<n):(dX n).length=(dX (n / 10)).length+1:=by
 rw[dX,Bq (by omega) h,List.length_cons]
theorem YP (n c:Nat):(10:Nat)^(9*n+c)=1000000000^n*10^c:=by
 rw[Nat.pow_add,Nat.pow_mul]
def g9:Nat→Int→List Int
 |0,_=>[]
 |k+1,x=>x % 10::g9 k (x / 10)
theorem akR:∀k x,(g9 k x).length=k
 |0,_=>rfl
 |k+1,x=>by simp[g9,akR k]
theorem awj:∀k x,DX (g9 k x)
 |0,_=>jt.nil
 |k+1,x=>jt.cons (by omega) (by omega) (awj k _)
theorem arQ:∀k (x:Int),0≤x→x<10^k→VX (g9 k x)=x
 |0,x,h0,h1=>by simp at h1;simp[g9,VX,val];omega
 |k+1,x,h0,h1=>by
  rw[Int.pow_succ] at h1
  have ih:=arQ k (x / 10) (by omega) (by omega)
  simp only[g9,VX,val] at ih ⊢
  rw[ih];omega
def akZ (d:List Int):List Int:=d.flatMap (g9 9)
theorem alm:∀d:List Int,(akZ d).length=9*d.length
 | []=>rfl
 |x::d=>by
  have:=alm d
  simp only[akZ,List.flatMap_cons,List.length_append,akR,List.length_cons] at this ⊢
  omega
theorem am3:∀d:List Int,DX (akZ d)
 | []=>jt.nil
 |x::d=>by simp only[akZ,List.flatMap_cons];exact(awj 9 x).append (am3 d)
theorem amZ:∀d:List Int,jt 1000000000 d→VX (akZ d)=val 1000000000 d
 | [],_=>rfl
 |x::d,h=>by
  have ih:=amZ d h.tail
  have hx:=h.head
  simp only[akZ,List.flatMap_cons] at ih ⊢
  rw[VX,jc,akR]
  have:=arQ 9 x hx.1 (by simpa using hx.2)
  rw[VX] at this ih
  rw[this,ih,val]
  rfl
theorem aec (d e:List Int):Z3 (d++e)=Z3 d++Z3 e:=by simp[Z3]
theorem ahc (d:List Int):(Z3 d).length=d.length:=by simp[Z3]
end Go.Abs
namespace Go.Proofs.YtofjebmoebhiiaaGreatDoor.Ev
open Go.Abs Go.IntWalk
theorem aco:∀(x n:Nat),x<1000000000→n+x≤1000000000000000→eA n x=some (((n+(dX x).length:Nat)):Int):=by
 intro x
 induction x using Nat.strongRecOn with
 |ind x ih=>
  intro n hx hn
  rw[yJ,qL]
  by_cases h:x=0
  ·subst h;rw[c8 (by omega),show dX 0=[] from fj _];rfl
  ·have e:IntKind.wrap .u32 ((x:Int).tdiv 10)=((x / 10:Nat):Int):=by rw[u32_quo _ _ (by omega)];omega
   have e2:IntKind.wrap .i64 ((n:Int)+1)=((n+1:Nat):Int):=by rw[i64_in _ (by omega)];omega
   rw[cZ (by omega),e,e2,ih (x / 10) (Nat.div_lt_self (by omega) (by omega)) (n+1) (by omega) (by omega),al6 (n:=x) (by omega)]
   congr 2;omega
theorem N2 {z:Int}(hz:Ln z≤20000000000000):adb (W z)=some ((dX z.natAbs).length:Int):=by
 rw[C2,wk,am5]
 by_cases h:z=0
 ·subst h
  have:Ln 0=0:=(Mt 0).2 rfl
  rw[this,ur (by omega),show dX (Int.natAbs 0)=[] from fj _];rfl
 ·have hpos:Ln z≠0:=fun e=>h ((Mt z).1 e)
  obtain⟨n,hn⟩:∃n,Ln z=n+1:=⟨Ln z - 1,by omega⟩
  have hd:=N1 z.natAbs
  have hl:(dU z.natAbs).length=n+1:=hn
  have al5:=hd.getD (by omega) n
  rw[ko (by omega)]
  simp only[W_2,w6]
  have e1:((Ln z:Int) - 1).toNat=n:=by omega
  simp (disch:=omega) only[i64_in,eL,e1,w6]
  obtain⟨t,ht⟩:=Int.eq_ofNat_of_zero_le al5.1
  rw[ht] at al5 ⊢
  have e2:(9:Int)*((Ln z:Int) - 1)=((9*n:Nat):Int):=by omega
  rw[e2,aco t (9*n) (by omega) (by omega)]
  congr 2
  -- Oa number ayG ar9 two auM
  have h1:=IU (dU z.natAbs) (show n<(dU z.natAbs).length by omega)
  rw[List.take_of_length_le (by omega),ht] at h1
  have h2:=CP (B:=1000000000) (by omega) (hd.take n)
  have h3:=lI (B:=1000000000) (by omega) (hd.take n)
  rw[show ((dU z.natAbs).take n).length=n by rw[List.length_take];omega] at h2
  have h4:=P3 z.natAbs
  rw[VU] at h4
  have ht0:0<t:=by
   have hne:dU z.natAbs=(dU z.natAbs).take n++[(t:Int)]:=by
    conv=>lhs;rw[←List.take_of_length_le (l:=dU z.natAbs) (i:=n+1) (by omega)]
    rw[eE (by omega),ht]
   have:=T0 (B:=1000000000) (by omega) hne
   omega
  have hc:(dX t).length≠0:=fun e=>by
   have:=(nF (B:=10) (n:=t) (by omega)).1 (List.length_eq_zero_iff.1 e)
   omega
  obtain⟨c,hcc⟩:∃c,(dX t).length=c+1:=⟨(dX t).length - 1,by omega⟩
  have h5:=(aZ (B:=10) (by omega) (c+1) t).1 (by rw[←hcc];exact Nat.le_refl _)
  have h6:=(gN (B:=10) (by omega) c t).1 (by show c<(dX t).length;omega)
  have h7:z.natAbs<10^(9*n+(c+1)):=by
   rw[YP]
   have:((1000000000:Nat)^n)*(t+1)≤1000000000^n*10^(c+1):=Nat.mul_le_mul_left _ h5
   rw[Nat.mul_add,Nat.mul_one] at this
   have e:=ofNat_pow n
   have e':((1000000000^n*t:Nat):Int)=1000000000^n*(t:Int):=by rw[Int.natCast_mul,e]
   omega
  have h8:10^(9*n+c)≤z.natAbs:=by
   rw[YP]
   have:((1000000000:Nat)^n)*10^c≤1000000000^n*t:=Nat.mul_le_mul_left _ h6
   have e:=ofNat_pow n
   have e':((1000000000^n*t:Nat):Int)=1000000000^n*(t:Int):=by rw[Int.natCast_mul,e]
   omega
  have h9:=(aZ (B:=10) (by omega) (9*n+(c+1)) z.natAbs).2 h7
  have h10:=(gN (B:=10) (by omega) (9*n+c) z.natAbs).2 h8
  show 9*n+(dX t).length=(W6 10 z.natAbs).length
  omega
def YQ (z:Int):Bool:=decide (1000<nd z)
theorem GQ {z:Int}(hz:Ln z≤20000000000000):ou (W z)=some (YQ z):=by
 rw[Gl,AN]
 show (adb (W z)).bind _=_
 rw[N2 hz,bS]
 congr 1
 unfold YQ nd
 rw[tz]
 exact decide_eq_decide.2 (by omega)
theorem aoS {t:List Int}{t2 t3:Int}{a:Bool}{a2:List Int}:∀(m k:Nat) (x:Int) (out:List Int),m+k=9→0≤x→x<1000000000→out.length+m≤10000000000000→
  gS x t t2 t3 k out a a2=gR t t2 (IntKind.wrap .i64 (t3+1)) (out++Z3 (g9 m x)) a a2:=by
 intro m
 induction m with
 |zero=>
  intro k x out hk h0 h1 ho
  rw[LD,CZ,az (by omega)]
  simp[g9,Z3]
 |succ m ih=>
  intro k x out hk h0 h1 ho
  rw[LD,CZ,aB (by omega)]
  simp (disch:=omega) only[bT,u32_in,u8_in,u32_quo,kg,i64_in]
  have ym:=fun x out=>ih (k+1) x out (by omega)
  simp only[Int.natCast_add,Int.natCast_one] at ym
  rw[ym _ _ (by omega) (by omega) (by simp;omega)]
  simp only[g9,Z3,List.map_cons,List.append_assoc,List.singleton_append,Int.add_comm (48:Int)]
theorem aoT {d:List Int}{a:Bool}{a2:List Int}(hd:DU d)(hl:d.length≤1000000000000):∀(m i:Nat) (out:List Int),m+i=d.length→out.length=9*i→
  gR d d.length i out a a2=gT (out++Z3 (akZ (d.drop i))) a a2:=by
 intro m
 induction m with
 |zero=>
  intro i out hi ho
  rw[LC,CY,az (by omega),drop_nil (by omega)]
  simp[akZ,Z3]
 |succ m ih=>
  intro i out hi ho
  have hx:=hd.getD (by omega) i
  rw[LC,CY,aB (by omega),eL (by omega) (by omega),Int.toNat_natCast]
  have hI:=aoS (t:=d) (t2:=d.length) (t3:=i) (a:=a) (a2:=a2) 9 0 (d.getD i 0) out rfl hx.1 hx.2 (by omega)
  simp only[Int.natCast_zero] at hI
  have ym:=fun out=>ih (i+1) out (by omega)
  simp only[Int.natCast_add,Int.natCast_one] at ym
  rw[hI,i64_in _ (by omega),ym _ (by rw[List.length_append,ahc,akR];omega),drop_eq (show i<d.length by omega)]
  simp only[akZ,List.flatMap_cons,aec,List.append_assoc]
theorem arR:∀(m:Nat) (M A C:List Int),M.length=m→A.length=C.length→(A++M++C).length≤1000000000000000→
  gU A.length ((A.length:Int)+M.length - 1) (A++M++C)=some (strOf (A++M.reverse++C)):=by
 intro m
 induction m using Nat.strongRecOn with
 |ind m ih=>
  intro M A C hm hac hl
  rw[LG,C1]
  by_cases h:M.length≤1
  ·rw[az (by omega)]
   have:M.reverse=M:=by
    match M,h with
    | [],_=>rfl
    | [x],_=>rfl
    |_::_::_,h=>simp at h
   rw[this]
  ·obtain⟨x,M1,rfl⟩:∃x M1,M=x::M1:=by
    cases M with
    |nil=>simp at h
    |cons x M1=>exact⟨x,M1,rfl⟩
   have hne:M1≠ []:=fun e=>by rw[e] at h;simp at h
   obtain⟨M2,y,rfl⟩:∃M2 y,M1=M2++[y]:=⟨M1.dropLast,M1.getLast hne,(List.dropLast_concat_getLast hne).symm⟩
   have hlen:(A++x::(M2++[y])++C).length=A.length+M2.length+2+C.length:=by simp;omega
   have hM:(x::(M2++[y])).length=M2.length+2:=by simp
   rw[hM]
   rw[hlen] at hl
   have ej:((A.length:Int)+((M2.length+2:Nat):Int) - 1).toNat=A.length+M2.length+1:=by omega
   have hL:A++x::(M2++[y])++C=A++(x::(M2++(y::C))):=by simp
   rw[hL] at hlen ⊢
   have gx:(A++(x::(M2++(y::C)))).getD A.length 0=x:=by simp[List.getD]
   have gy:(A++(x::(M2++(y::C)))).getD (A.length+M2.length+1) 0=y:=by
    rw[List.getD,List.getElem?_append_right (by omega)]
    have:A.length+M2.length+1 - A.length=M2.length+1:=by omega
    rw[this]
    simp
   have s1:(A++(x::(M2++(y::C)))).set A.length y=A++(y::(M2++(y::C))):=by
    rw[List.set_append_right _ _ (by omega)];simp
   have s2:(A++(y::(M2++(y::C)))).set (A.length+M2.length+1) x=(A++[y])++M2++(x::C):=by
    rw[List.set_append_right _ _ (by omega)]
    have:A.length+M2.length+1 - A.length=M2.length+1:=by omega
    rw[this,List.set_cons_succ,List.set_append_right _ _ (by omega)]
    simp
   have afG:(A++(y::(M2++(y::C)))).length=A.length+M2.length+2+C.length:=by simp;omega
   rw[aB (by omega)]
   simp (disch:=omega) only[eL,rS,ej,Int.toNat_natCast,gx,gy,s1,s2,i64_in]
   have:=ih M2.length (by simp at hm;omega) M2 (A++[y]) (x::C) rfl (by simp;omega) (by simp;omega)
   have e1:((A++[y]).length:Int)=(A.length:Int)+1:=by simp
   rw[e1] at this
   have e2:(A.length:Int)+1+M2.length - 1=(A.length:Int)+((M2.length+2:Nat):Int) - 1 - 1:=by omega
   rw[e2] at this
   rw[this]
   simp
theorem am0 (o:List Int)(hl:o.length≤1000000000000000):gU 0 ((o.length:Int) - 1) o=some (strOf o.reverse):=by
 have:=arR o.length o [] [] rfl rfl (by simpa using hl)
 simpa using this
theorem aoU {a:Bool}{a2:List Int}:∀(n:Nat) (ds:List Int),ds.length=n→n≤100000000000000→DX ds→VX ds≠0→
  gT (Z3 ds) a a2=some (strOf ((if a then [45] else [])++(Z3 (pd ds)).reverse)):=by
 intro n
 induction n with
 |zero=>
  intro ds hn _ _ hv
  have:ds=[]:=List.length_eq_zero_iff.1 hn
  subst this
  exact absurd rfl hv
 |succ n ih=>
  intro ds hn hl hd hv
  have hne:ds≠ []:=fun e=>by rw[e] at hn;cases hn
  obtain⟨d',y,rfl⟩:∃d' y,ds=d'++[y]:=⟨ds.dropLast,ds.getLast hne,(List.dropLast_concat_getLast hne).symm⟩
  have hn':d'.length=n:=by simpa using hn
  have hy:=hd.right.head
  rw[aec,LF,C0]
  have hcl:(Z3 d'++Z3 [y]).length=d'.length+1:=by simp[ahc]
  have e1:(((d'.length+1:Nat):Int) - 1).toNat=d'.length:=by omega
  have g1:(Z3 d'++Z3 [y]).getD d'.length 0=y+48:=by
   rw[List.getD,List.getElem?_append_right (by rw[ahc];omega),ahc]
   simp[Z3]
  simp (disch:=omega) only[hcl,i64_in,eL,rS,e1,g1]
  by_cases h0:y=0
  ·subst h0
   have hv':VX d'≠0:=fun e=>hv (by rw[VX,jc,show val 10 d'=0 from e];simp[val])
   have ht:(Z3 d'++Z3 [0]).take d'.length=Z3 d':=List.take_left' (ahc _)
   rw[ur (by omega),JX (by omega) (by omega) (by omega),ht,ih d' hn' (by omega) hd.left hv',GL]
  ·rw[ko (by omega),JW h0, ←aec]
   have axH:(Z3 (d'++[y])).length=d'.length+1:=by simp[ahc]
   cases a with
   |true=>
    rw[cT,kg (by omega) (by omega)]
    have e5:IntKind.wrap .i64 (((Z3 (d'++[y])++[45]).length:Int) - 1)=((Z3 (d'++[y])++[45]).length:Int) - 1:=i64_in _ (by simp[ahc];omega)
    rw[e5,am0 _ (by simp[ahc];omega)]
    simp
   |false=>
    rw[cF]
    have:=am0 (Z3 (d'++[y])) (by omega)
    rw[axH] at this
    rw[this]
    simp
theorem aiR {z:Int}(hz:Ln z≤10000000000):sL (W z)=some (ju z):=by
 rw[Q0,Ie,am5,W_1,W_2]
 by_cases h:z=0
 ·subst h
  have:Ln 0=0:=(Mt 0).2 rfl
  rw[this,ur (by omega)]
  rfl
 ·have hpos:Ln z≠0:=fun e=>h ((Mt z).1 e)
  rw[ko (by omega)]
  simp (disch:=omega) only[i64_in,GM]
  have hd:=N1 z.natAbs
  have h1:=aoT (a:=decide (z<0)) (a2:=dU z.natAbs) hd (by rw[w6];omega) (dU z.natAbs).length 0 [] (by omega) rfl
  simp only[Int.natCast_zero,List.drop_zero,List.nil_append,w6] at h1
  have hv:VX (akZ (dU z.natAbs))=z.natAbs:=by rw[amZ _ hd];exact P3 _
  rw[h1,aoU _ _ rfl (by rw[alm,w6];omega) (am3 _) (by rw[hv];omega),YL (am3 _),hv,Int.toNat_natCast]
  unfold ju u6 mo
  rw[if_neg (show ¬z.natAbs=0 by omega)]
  congr 3
  by_cases h2:z<0<;>simp[h2]
end Go.Proofs.YtofjebmoebhiiaaGreatDoor.Ev
namespace Go.Proofs.YtofjebmoebhiiaaGreatDoor.Ev
open Go.Abs Go.IntWalk
theorem aj2 {z:Int}{k:Nat}(h:nd z≤k):Ln z≤k / 9+1:=by
 rw[IS]
 have h1:=(lb z (k+1) (by omega)).1 (by omega)
 have h2:10^(k+1)≤10^(9*(k / 9+1)):=Nat.pow_le_pow_right (by omega) (by omega)
 rw[Nat.pow_mul] at h2
 exact Nat.lt_of_lt_of_le h1 h2
def Sm (z:Int):Prop:=nd z≤1000
instance (z:Int):Decidable (Sm z):=inferInstanceAs (Decidable (nd z≤1000))
theorem Sm.Ln {z:Int}(h:Sm z):Ln z≤112:=aj2 h
theorem aed (z:Int):Sm z↔z.natAbs<10^1000:=lb z 1000 (by omega)
theorem Sm.mono {x y:Int}(h:Sm y)(hxy:x.natAbs≤y.natAbs):Sm x:=(aed x).2 (Nat.lt_of_le_of_lt hxy ((aed y).1 h))
theorem Sm.neg {x:Int}(h:Sm x):Sm (-x):=h.mono (by omega)
def zA (s:ByteArray):Prop:=s.size≤140737488355328
section
variable {a b:ByteArray}{x y:Int}(ha:zA a)(hb:zA b)(hx:Sm x)(hy:Sm y)
include hx hy
end
section
variable {x:Int}(hx:Sm x)
include hx
end
section
variable {a b:ByteArray}(ha:zA a)(hb:zA b)
include ha
include hb
end
end Go.Proofs.YtofjebmoebhiiaaGreatDoor.Ev
namespace Go.Proofs.YtofjebmoebhiiaaGreatDoor.Ev
open Go.Abs Go.IntWalk
theorem aee:∀(n:Nat) (d:List Int),d.length=n→n≤1000000000000000→eY d=some (pd d):=by
 intro n
 induction n with
 |zero=>
  intro d hd hn
  have:d=[]:=List.length_eq_zero_iff.1 hd
  subst this
  rw[qW,nc];rfl
 |succ n ih=>
  intro d hd hn
  obtain⟨d',y,rfl⟩:∃d' y,d=d'++[y]:=by
   have hne:d≠ []:=fun e=>by rw[e] at hd;cases hd
   exact⟨d.dropLast,d.getLast hne,(List.dropLast_concat_getLast hne).symm⟩
  have hl:d'.length=n:=by simpa using hd
  have hy:(d'++[y]).getD d'.length 0=y:=by simp[List.getD]
  have ht:(d'++[y]).take d'.length=d':=by simp
  rw[qW,nc]
  simp only[List.length_append,List.length_cons,List.length_nil]
  simp (disch:=omega) only[i64_in,cZ,JX,aqX]
  rw[tq (by omega) (by simp;omega)]
  have e:(((d'.length+(0+1):Nat):Int) - 1).toNat=d'.length:=by omega
  rw[e,hy,ht,bS]
  by_cases h0:y=0
  ·subst h0
   rw[GL,ih d' hl (by omega),ur rfl]
  ·rw[ko h0,JW h0]
theorem Mv {d:List Int}(h:d.length≤1000000000000000):bJ d=some (pd d):=by
 rw[EU,yU];exact aee _ d rfl h
theorem aef {d:List Int}(hd:DX d)(hl:d.length≤100000000000000):∀(k:Nat) (out:List Int),k≤d.length→out.length+k≤1000000000000000 / 10→
  eT d ((k:Int) - 1) out=some (strOf (out++(Z3 (d.take k)).reverse)):=by
 intro k
 induction k with
 |zero=>
  intro out hk ho
  rw[qU,afv,tu (by omega)]
  simp[Z3]
 |succ k ih=>
  intro out hk ho
  have hx:=hd.getD (by omega) k
  have e:((k+1:Nat):Int) - 1=k:=by omega
  rw[qU,afv,e,tt (by omega),eL (by omega) (by omega),Int.toNat_natCast]
  simp (disch:=omega) only[i64_in,u8_in,kg]
  rw[ih _ (by omega) (by simp;omega),eE (show k<d.length by omega),aec]
  simp[Z3,Int.add_comm]
theorem zD {minus:Bool}{d:List Int}(hd:DX d)(hl:d.length≤10000000000000):aA minus d=some (ju (if minus then -VX d else VX d)):=by
 obtain⟨v,hv⟩:=Int.eq_ofNat_of_zero_le (M3 hd)
 rw[ER,yP,Mv (by omega),bS,YL hd,hv,Int.toNat_natCast]
 have hlen:=DW d
 rw[YL hd,hv,Int.toNat_natCast] at hlen
 by_cases h0:v=0
 ·subst h0
  rw[show dX 0=[] from fj _,ur (by rfl)]
  cases minus<;>rfl
 ·have hne:(dX v).length≠0:=fun e=>h0 ((nF (B:=10) (by omega)).1 (List.length_eq_zero_iff.1 e))
  rw[ko (by omega)]
  have hw:=aef (JY v) (by omega) (dX v).length
  have e5:IntKind.wrap .i64 (((dX v).length:Int) - 1)=((dX v).length:Int) - 1:=i64_in _ (by omega)
  cases minus with
  |true=>
   rw[cT,kg (by omega) (by omega),e5,hw _ (Nat.le_refl _) (by simp;omega),List.take_length]
   unfold ju u6 mo
   simp only[if_true]
   rw[if_pos (by omega),if_neg (by omega)]
   have:(-(v:Int)).natAbs=v:=by omega
   rw[this]
   simp
  |false=>
   rw[cF,e5,hw _ (Nat.le_refl _) (by simp;omega),List.take_length]
   unfold ju u6 mo
   simp only[Bool.false_eq_true,if_false]
   rw[if_neg (by omega),if_neg (by omega)]
   simp
def Nd (k:Nat)(z:Int):Prop:=z.natAbs<10^k
theorem Nd.mono {k l:Nat}{z:Int}(h:Nd k z)(hkl:k≤l):Nd l z:=Nat.lt_of_lt_of_le h (Nat.pow_le_pow_right (by omega) hkl)
theorem Nd.add {k l:Nat}{x y:Int}(hx:Nd k x)(hy:Nd l y):Nd (max k l+1) (x+y):=by
 have h1:=hx.mono (Nat.le_max_left k l)
 have h2:=hy.mono (Nat.le_max_right k l)
 unfold Nd at*
 rw[Nat.pow_succ]
 omega
theorem Nd.neg {k:Nat}{x:Int}(hx:Nd k x):Nd k (-x):=by unfold Nd at*;omega
theorem Nd.sub {k l:Nat}{x y:Int}(hx:Nd k x)(hy:Nd l y):Nd (max k l+1) (x - y):=hx.add hy.neg
theorem Nd.mul {k l:Nat}{x y:Int}(hx:Nd k x)(hy:Nd l y):Nd (k+l) (x*y):=by
 unfold Nd at*
 rw[Int.natAbs_mul,Nat.pow_add]
 exact Nat.mul_lt_mul'' hx hy
theorem Nd.Sm {k:Nat}{x:Int}(hx:Nd k x)(hk:k≤1000):Sm x:=(aed x).2 (hx.mono hk)
end Go.Proofs.YtofjebmoebhiiaaGreatDoor.Ev
namespace Go.Proofs.YtofjebmoebhiiaaGreatDoor.Ev
open Go.Abs Go.IntWalk
theorem M5 (x y:Int):((ju x).toList==(ju y).toList)=decide (x=y):=by
 rw[WD]
 exact decide_eq_decide.2 ad4
theorem YR {x y:Int}(h:x=y):((ju x).toList==(ju y).toList)=true:=by rw[M5];exact decide_eq_true h
theorem YS {x y:Int}(h:¬x=y):((ju x).toList==(ju y).toList)=false:=by rw[M5];exact decide_eq_false h
theorem aj3 {l:List Nat}{z:Int}(h:hU (bytesOf (bs l))=true)(hz:numOf (bytesOf (bs l))=z):bs l=ju z:=
 tv (by rw[fk, ←hz];exact WE h)
theorem arf:bs [48]=ju 0:=aj3 rfl rfl
theorem auO:bs [49]=ju 1:=aj3 rfl rfl
section
variable {x y:Int}(hx:Sm x)(hy:Sm y)
include hx hy
end
end Go.Proofs.YtofjebmoebhiiaaGreatDoor.Ev
namespace Go.Proofs.YtofjebmoebhiiaaGreatDoor.Ev
open Go.Abs
end Go.Proofs.YtofjebmoebhiiaaGreatDoor.Ev
namespace Go.Abs
def S3 (l:List Int):List Int:=((l.filter (fun c=>c != 45)).reverse).map (· - 48)
theorem T2 (l m:List Int):S3 (l++m)=S3 m++S3 l:=by simp[S3]
theorem arh {c:Int}(h:¬c=45):([c]:List Int).filter (fun c=>c != 45)=[c]:=by simp[List.filter_cons,h]
theorem ari {c:Int}(h:¬c=45):S3 [c]=[c - 48]:=by simp[S3,List.filter_cons,h]
theorem GR (n:Nat):(mo n).filter (fun c=>c != 45)=mo n:=by
 apply List.filter_eq_self.2
 intro c hc
 have:=tw n c hc
 simp;omega
theorem ahv (n:Nat):pd (S3 (mo n))=dX n:=by
 unfold S3
 rw[GR]
 unfold mo
 split
 ·rename_i h;subst h;rw[dX,fj];rfl
 ·rw[List.reverse_reverse]
  have:(Z3 (dX n)).map (· - 48)=dX n:=by
   simp only[Z3,List.map_map]
   conv=>rhs;rw[←List.map_id (dX n)]
   apply List.map_congr_left
   intro c _
   simp only[Function.comp,id];omega
  rw[this]
  exact Rw (B:=10) (by omega) n
theorem ahw (z:Int):pd (S3 (u6 z))=dX z.natAbs:=by
 unfold u6
 rw[T2]
 have:S3 (if z<0 then [45] else [])=[]:=by split<;>rfl
 rw[this,List.append_nil,ahv]
theorem OH (z:Int):(dX z.natAbs).length≤nd z:=by unfold nd;rw[tz];omega
theorem YT {m n:Nat}(h:m≤n):(dX m).length≤(dX n).length:=by
 have l2:=(aZ (B:=10) (by omega) (dX n).length n).1 (Nat.le_refl _)
 exact(aZ (B:=10) (by omega) (dX n).length m).2 (by omega)
theorem RC {x y:Int}(h:x.natAbs≤y.natAbs):nd x≤nd y:=by
 unfold nd;rw[tz,tz]
 have:=YT h
 omega
theorem aeg (z:Int):1≤nd z:=by unfold nd;rw[tz];omega
theorem aj4 (z:Int):z.natAbs<10^nd z:=(lb z _ (aeg z)).1 (Nat.le_refl _)
theorem aj5 (x y:Int):nd (x*y)≤nd x+nd y:=by
 rw[lb _ _ (by have:=aeg x;omega),Int.natAbs_mul,Nat.pow_add]
 exact Nat.mul_lt_mul'' (aj4 x) (aj4 y)
theorem RD {x:Int}(h:x.natAbs<10):nd x=1:=by
 have h1:=(lb x 1 (by omega)).2 (by omega)
 have:=aeg x
 omega
def Bd (z:Int):Prop:=nd z≤100000
end Go.Abs
namespace Go.Proofs.YtofjebmoebhiiaaGreatDoor.Ev
open Go.Abs Go.IntWalk
theorem aad {s:ByteArray}{minus:Bool}(hs:s.size≤100000000000):∀(k:Nat) (d:List Int),k≤s.size→d.length+k≤1000000000000→
  dD s minus ((k:Int) - 1) d=some (minus,pd (d++S3 ((bytesOf s).take k))):=by
 intro k
 induction k with
 |zero=>
  intro d hk hd
  rw[oE,ky,tu (by omega),Mv (by omega),bS]
  simp[S3]
 |succ k ih=>
  intro d hk hd
  have hb:=(nG s).getD (by omega) k
  have hl:=bz s
  have e:((k+1:Nat):Int) - 1=k:=by omega
  rw[oE,ky,e,tt (by omega),Br,tq (by omega) (by omega),bS,Int.toNat_natCast,eE (show k<(bytesOf s).length by omega),T2]
  by_cases h:(bytesOf s).getD k 0=45
  ·rw[pe h,i64_in _ (by omega),ih d (by omega) (by omega)]
   have:S3 [(bytesOf s).getD k 0]=[]:=by rw[h];rfl
   rw[this,List.nil_append]
  ·rw[Cj h,bS]
   simp (disch:=omega) only[i64_in,kg]
   rw[ih _ (by omega) (by simp;omega)]
   rw[ari h,List.append_assoc]
theorem WH (z:Int):(ju z).size>0∧(bytesOf (ju z)).getD 0 0=(if z<0 then 45 else (mo z.natAbs).getD 0 0):=by
 have hn:=Z4 z.natAbs
 constructor
 ·rw[←bz,fk]
  unfold u6
  have:0<(mo z.natAbs).length:=List.length_pos_iff.2 hn
  simp;omega
 ·rw[fk]
  unfold u6
  split<;>rfl
theorem aeh (n:Nat):(mo n).getD 0 0≠45:=by
 have hn:=Z4 n
 have h1:=tw n
 cases h:mo n with
 |nil=>exact absurd h hn
 |cons c r=>
  rw[h] at h1
  have:=h1 c (by simp)
  simp;omega
theorem YU (z:Int):((bytesOf (ju z)).getD 0 0==45)=decide (z<0):=by
 rw[(WH z).2]
 by_cases h:z<0
 ·rw[if_pos h,decide_eq_true h];rfl
 ·rw[if_neg h,decide_eq_false h]
  exact Mq (aeh _)
theorem Mw (z:Int):(ju z).size≤nd z+1:=by rw[ace];split<;>omega
theorem nH {z:Int}(hz:Bd z):aD (ju z)=some (decide (z<0),dX z.natAbs):=by
 have h1:=(WH z).1
 have hsz:=Mw z
 unfold Bd at hz
 have hl:=bz (ju z)
 rw[BV,uK,cZ (by omega),Br,tq (by omega) (by omega),bS]
 have e0:(0:Int).toNat=0:=rfl
 rw[e0,YU,i64_in _ (by omega),aad (by omega) _ [] (Nat.le_refl _) (by simp;omega),List.nil_append, ←hl,List.take_length,fk,ahw]
theorem WI {s:ByteArray}(hs:zA s):fK s=some ((bP (bytesOf s)).length:Int):=by
 have hl:=bz s
 unfold zA at hs
 rw[BY,uN]
 by_cases h:s.size>0
 ·rw[cZ (by omega),Br,tq (by omega) (by omega),bS]
  have e0:(0:Int).toNat=0:=rfl
  rw[e0]
  cases hb:bytesOf s with
  |nil=>rw[hb] at hl;simp at hl;omega
  |cons c r=>
   rw[hb] at hl
   have:(c::r).getD 0 0=c:=rfl
   rw[this]
   by_cases hc:c=45
   ·subst hc
    rw[ur rfl,i64_in _ (by omega)]
    have:bP (45::r)=r:=by simp[bP]
    rw[this]
    simp at hl
    congr 1;omega
   ·rw[ko hc]
    have:bP (c::r)=c::r:=by unfold bP;rw[if_neg (by simp;exact hc)]
    rw[this,hl]
 ·have hb:bytesOf s=[]:=List.length_eq_zero_iff.1 (by omega)
  rw[c8 (by omega),hb]
  have:s.size=0:=by omega
  rw[this];rfl
theorem aj6 {s:ByteArray}(hs:zA s):kc s=some (decide ((bP (bytesOf s)).length>1000)):=by
 rw[ES,yQ,WI hs,bS]
 congr 1
 exact decide_eq_decide.2 (by omega)
theorem aj7 (z:Int):bP (bytesOf (ju z))=mo z.natAbs:=by
 rw[fk]
 unfold bP u6
 by_cases h:z<0
 ·simp[h]
 ·have:(mo z.natAbs).head?≠some 45:=by
   intro e
   have:(45:Int)∈mo z.natAbs:=List.mem_of_mem_head? (by rw[e];rfl)
   have:=tw _ _ this
   omega
  simp[h,this]
theorem acp {s:ByteArray}(hs:s.size≤140737488355328):∀(m k:Nat),m+k=s.size→di s k=some (((bytesOf s).drop k).all UY):=by
 intro m
 have hl:=bz s
 induction m with
 |zero=>
  intro k hk
  rw[pG,lV,az (by omega),drop_nil (by omega)];rfl
 |succ m ih=>
  intro k hk
  have hb:=(nG s).getD (by omega) k
  have ym:=ih (k+1) (by omega)
  simp only[Int.natCast_add,Int.natCast_one] at ym
  rw[pG,lV,aB (by omega),Br,tq (by omega) (by omega),bS,Int.toNat_natCast,drop_eq (show k<(bytesOf s).length by omega),List.all_cons,bS]
  by_cases h1:(bytesOf s).getD k 0<48
  ·have:UY ((bytesOf s).getD k 0)=false:=by
    cases hd:UY ((bytesOf s).getD k 0) with
    |false=>rfl
    |true=>have:=(Bs _).1 hd;omega
   rw[aB h1,this];rfl
  ·rw[az h1]
   by_cases h2:(bytesOf s).getD k 0>57
   ·have:UY ((bytesOf s).getD k 0)=false:=by
     cases hd:UY ((bytesOf s).getD k 0) with
     |false=>rfl
     |true=>have:=(Bs _).1 hd;omega
    rw[cZ h2,this];rfl
   ·rw[c8 h2,(Bs _).2 (by omega),Bool.true_and,i64_in _ (by omega),ym]
theorem S4 {s:ByteArray}(hs:zA s):k8 s=some (hU (bytesOf s)):=by
 have hl:=bz s
 unfold zA at hs
 have ana:∀t:ByteArray,t.size≤140737488355328→di t 0=some ((bytesOf t).all UY):=fun t ht=>by
  have:=acp ht t.size 0 (by omega)
  simpa using this
 rw[C4,wz]
 have e0:(0:Int).toNat=0:=rfl
 by_cases h:s.size>0
 ·rw[cZ (by omega),Br,tq (by omega) (by omega),bS,e0]
  cases hb:bytesOf s with
  |nil=>rw[hb] at hl;simp at hl;omega
  |cons c r=>
   rw[hb] at hl
   have hgc:(c::r).getD 0 0=c:=rfl
   rw[hgc]
   by_cases hc:c=45
   ·subst hc
    have hbo:bP (45::r)=r:=by simp[bP]
    have hmo:j6 (45::r)=true:=rfl
    have e1:(1:Int).toNat=1:=rfl
    have hx:bytesOf (s.extract 1 s.size)=r:=by
     rw[vW,hb, ←hl,List.take_length];rfl
    have hxs:(s.extract 1 s.size).size=r.length:=by rw[←bz,hx]
    have hrl:r.length+1=s.size:=by simpa using hl
    rw[ur rfl,JX (by omega) (by omega) (by omega)]
    simp only[e1,Int.toNat_natCast]
    have hok:hU (45::r)=(r.all UY&& !r.isEmpty&&(!(r.head?==some 48)||(r.length==1&&false))):=by
     unfold hU;rw[hbo,hmo];rfl
    rw[hxs,hok]
    cases r with
    |nil=>
     simp only[List.length_nil]
     rw[c8 (by omega),ur (by rfl)]
     try rfl
    |cons c2 r2=>
     rw[cZ (by simp),Br,hx]
     have hi:idx (c2::r2) (0:Int)=some c2:=rfl
     rw[hi,bS]
     by_cases h48:c2=48
     ·subst h48
      rw[ur rfl]
      simp
     ·rw[ko h48,ko (by simp;omega),bS,ko h48,ana _ (by rw[hxs];omega),hx]
      have:(some c2==some 48)=false:=by simpa using h48
      simp[this,h48]
   ·have hbo:bP (c::r)=c::r:=by unfold bP;rw[if_neg (by simp;exact hc)]
    have hmo:j6 (c::r)=false:=by simpa [j6] using hc
    have hok:hU (c::r)=((c::r).all UY&&(!(c==48)||(c::r).length==1)):=by
     unfold hU;rw[hbo,hmo];simp
    rw[ko hc,ko (by omega),bS,ana _ hs,hb,hok]
    by_cases h48:c=48
    ·subst h48
     rw[ur rfl]
     cases r with
     |nil=>rw[c8 (by rw[←hl];simp)];rfl
     |cons c2 r2=>rw[cZ (by rw[←hl];simp;omega)];simp
    ·rw[ko h48]
     have:(c==48)=false:=Mq h48
     simp[this]
 ·have hb:bytesOf s=[]:=List.length_eq_zero_iff.1 (by omega)
  rw[c8 (by omega),ur (by omega),hb];rfl
theorem aei:∀(k u:Nat) (d:List Int),u<10^k→u≤9223372036854775807→d.length+k≤1000→dG u d=(aA false (d++dX u)).bind fun r=>some r:=by
 intro k
 induction k with
 |zero=>
  intro u d hu hu' hd
  have:u=0:=by rw[Nat.pow_zero] at hu;omega
  subst this
  rw[oG,kA,c8 (by omega),show dX 0=[] from fj _,List.append_nil]
 |succ k ih=>
  intro u d hu hu' hd
  rw[oG,kA]
  by_cases h0:u=0
  ·subst h0
   rw[c8 (by omega),show dX 0=[] from fj _,List.append_nil]
  ·rw[cZ (by omega),kg (by omega) (by omega),i64_quo _ _ (by omega),bT (by omega)]
   have e1:((u:Int) / 10)=((u / 10:Nat):Int):=by omega
   have e2:((u:Int) % 10)=((u % 10:Nat):Int):=by omega
   rw[Nat.pow_succ] at hu
   rw[e1,e2,ih (u / 10) _ (by omega) (by omega) (by simp;omega),show dX u=_ from Bq (B:=10) (by omega) (by omega)]
   simp
theorem aej:∀(k u:Nat) (d:List Int),u<10^k→u≤9223372036854775807→d.length+k≤1000→dF u d=(aA true (d++dX u)).bind fun r=>some r:=by
 intro k
 induction k with
 |zero=>
  intro u d hu hu' hd
  have:u=0:=by rw[Nat.pow_zero] at hu;omega
  subst this
  rw[oF,kz,c8 (by omega),show dX 0=[] from fj _,List.append_nil]
 |succ k ih=>
  intro u d hu hu' hd
  rw[oF,kz]
  by_cases h0:u=0
  ·subst h0
   rw[c8 (by omega),show dX 0=[] from fj _,List.append_nil]
  ·rw[cZ (by omega),kg (by omega) (by omega),i64_quo _ _ (by omega),bT (by omega)]
   have e1:((u:Int) / 10)=((u / 10:Nat):Int):=by omega
   have e2:((u:Int) % 10)=((u % 10:Nat):Int):=by omega
   rw[Nat.pow_succ] at hu
   rw[e1,e2,ih (u / 10) _ (by omega) (by omega) (by simp;omega),show dX u=_ from Bq (B:=10) (by omega) (by omega)]
   simp
theorem nI {n:Int}(h0: -9223372036854775808≤n)(h1:n≤9223372036854775807):b8 n=some (ju n):=by
 rw[BW,uL]
 by_cases h:n<0
 ·obtain⟨u,hu⟩:∃u:Nat,(u:Int)= -n:=⟨n.natAbs,by omega⟩
  have hm:n.tmod 10= -((u % 10:Nat):Int):=by
   have:n= -(u:Int):=by omega
   rw[this,Int.neg_tmod,bT (by omega)];omega
  have hq:n.tdiv 10= -((u / 10:Nat):Int):=by
   have:n= -(u:Int):=by omega
   rw[this,Int.neg_tdiv,nk (by omega)];omega
  have e1:IntKind.wrap .i64 (0 - n.tmod 10)=((u % 10:Nat):Int):=by rw[hm,i64_in _ (by omega)];omega
  have e2:IntKind.wrap .i64 (n.tdiv 10)= -((u / 10:Nat):Int):=by rw[hq,i64_in _ (by omega)]
  have e3:IntKind.wrap .i64 (0 - -((u / 10:Nat):Int))=((u / 10:Nat):Int):=by rw[i64_in _ (by omega)];omega
  have hl:([((u % 10:Nat):Int)]:List Int).length=1:=rfl
  rw[aB h]
  simp only[e1,e2,e3]
  rw[kg (by omega) (by first |omega | (rw[hl];omega)),List.nil_append,aej 19 (u / 10) _ (by omega) (by omega) (by simp)]
  have hd:DX ([((u % 10:Nat):Int)]++dX (u / 10)):=(jt.cons (by omega) (by omega) jt.nil).append (JY _)
  have hv:VX ([((u % 10:Nat):Int)]++dX (u / 10))=u:=by
   have:=Mr (u / 10)
   simp only[VX,List.singleton_append,val] at this ⊢
   rw[this];omega
  have hlen:(dX (u / 10)).length≤19:=(aZ (B:=10) (by omega) 19 (u / 10)).2 (by omega)
  rw[zD hd (by simp;omega),bS,hv]
  congr 2
  rw[if_pos rfl];omega
 ·obtain⟨u,rfl⟩:=Int.eq_ofNat_of_zero_le (show 0≤n by omega)
  have hlen:(dX u).length≤19:=(aZ (B:=10) (by omega) 19 u).2 (by omega)
  rw[az h,aei 19 u [] (by omega) (by omega) (by simp),List.nil_append,zD (JY u) (by omega),bS,Mr]
  rfl
theorem acq {z:Int}(hz:nd z≤9):∀(m k:Nat) (n:Int),m+k=(ju z).size→n=kp (((bytesOf (ju z)).take k).filter (fun c=>c != 45))→
  ab5 (ju z) n k=some (z,true):=by
 intro m
 have hsz:=Mw z
 have hl:=bz (ju z)
 have hh:=WH z
 induction m with
 |zero=>
  intro k n hk hn
  have hk':k=(bytesOf (ju z)).length:=by omega
  rw[hk',List.take_length] at hn
  have hf:(bytesOf (ju z)).filter (fun c=>c != 45)=mo z.natAbs:=by
   rw[fk]
   unfold u6
   rw[List.filter_append,GR]
   split<;>rfl
  rw[hf,IQ] at hn
  have e0:(0:Int).toNat=0:=rfl
  rw[pH,lW,az (by omega),cZ (by omega),Br,tq (by omega) (by omega),bS,e0,YU]
  have hzb:z.natAbs<10^9:=(lb z 9 (by omega)).1 hz
  by_cases h:z<0
  ·rw[decide_eq_true h,cT,i64_in _ (by omega)]
   congr 2;omega
  ·rw[decide_eq_false h,cF]
   congr 2;omega
 |succ m ih=>
  intro k n hk hn
  have hkl:k<(bytesOf (ju z)).length:=by omega
  have hb:=(nG (ju z)).getD (by omega) k
  have ym:=fun n=>ih (k+1) n (by omega)
  simp only[Int.natCast_add,Int.natCast_one] at ym
  rw[pH,lW,aB (by omega),Br,tq (by omega) (by omega),bS,Int.toNat_natCast]
  -- all asa but Oa sign are digits
  have hmem:∀c∈(bytesOf (ju z)).filter (fun c=>c != 45),48≤c∧c≤57:=by
   rw[fk]
   unfold u6
   rw[List.filter_append,GR]
   intro c hc
   rcases List.mem_append.1 hc with h |h
   ·exfalso
    split at h
    ·simp at h
    ·cases h
   ·exact tw _ c h
  have hlen:(((bytesOf (ju z)).take k).filter (fun c=>c != 45)).length≤9:=by
   have h1:(((bytesOf (ju z)).take k).filter (fun c=>c != 45)).length≤((bytesOf (ju z)).filter (fun c=>c != 45)).length:=
    ((List.take_sublist k (bytesOf (ju z))).filter _).length_le
   have h2:(bytesOf (ju z)).filter (fun c=>c != 45)=mo z.natAbs:=by
    rw[fk]
    unfold u6
    rw[List.filter_append,GR]
    split<;>rfl
   rw[h2] at h1
   unfold nd at hz
   omega
  have hnb:=Ck (((bytesOf (ju z)).take k).filter (fun c=>c != 45)) (fun c hc=>hmem c (((List.take_sublist k _).filter _).subset hc))
  have hp:=Ry hlen
  rw[←hn] at hnb
  have hts:(bytesOf (ju z)).take (k+1)=(bytesOf (ju z)).take k++[(bytesOf (ju z)).getD k 0]:=eE hkl
  by_cases h:(bytesOf (ju z)).getD k 0=45
  ·rw[pe h,i64_in _ (by omega),ym n (by rw[hts,List.filter_append,h];simpa using hn)]
  ·rw[Cj h,bS]
   simp (disch:=omega) only[i64_in]
   rw[ym]
   rw[hts,List.filter_append,arh h,GN, ←hn]
   simp only[kp,List.foldl_cons,List.foldl_nil,List.length_singleton,Int.mul_zero,Int.zero_add,Int.pow_one]
   omega
theorem D0 {z:Int}(hz:Bd z):dZ (ju z)=some (if nd z≤9 then (z,true) else (0,false)):=by
 unfold Bd at hz
 have aoo:zA (ju z):=by unfold zA;have:=Mw z;omega
 rw[C5,wA,WI aoo,bS,aj7]
 have e:(mo z.natAbs).length=nd z:=rfl
 rw[e]
 by_cases h:nd z≤9
 ·rw[c8 (by omega),if_pos h]
  have:=acq h (ju z).size 0 0 (by omega) (by simp[kp])
  simpa using this
 ·rw[cZ (by omega),if_neg h]
end Go.Proofs.YtofjebmoebhiiaaGreatDoor.Ev
namespace Go.Proofs.YtofjebmoebhiiaaGreatDoor.Ev
open Go.Abs Go.IntWalk
theorem aek {a b:List Int}(ha:DX a)(hb:DX b)(hl:a.length=b.length)(hl':a.length≤1000000000000):∀(k:Nat),k≤a.length→
  eX a b ((k:Int) - 1)=some (tX (VX (a.take k)) (VX (b.take k))):=by
 intro k
 induction k with
 |zero=>
  intro hk
  rw[qV,nb]
  simp (disch:=omega) only[tu]
  simp[tX]
 |succ k ih=>
  intro hk
  have e:((k+1:Nat):Int) - 1=k:=by omega
  rw[qV,nb,e,eE (show k<a.length by omega),eE (show k<b.length by omega)]
  simp (disch:=omega) only[tt,eL,Int.toNat_natCast,i64_in]
  have hta:(a.take k).length=(b.take k).length:=by simp;omega
  by_cases h1:a.getD k 0<b.getD k 0
  ·rw[aB h1,vV (Z1 (by omega) (ha.take k) (hb.take k) hta h1)]
  ·rw[az h1]
   by_cases h2:a.getD k 0>b.getD k 0
   ·rw[cZ h2,zx (Z1 (by omega) (hb.take k) (ha.take k) hta.symm h2)]
   ·have h:a.getD k 0=b.getD k 0:=by omega
    rw[c8 h2,ih (by omega)]
    simp only[VX,jc,hta,h]
    generalize (10:Int)^(b.take k).length*val 10 [b.getD k 0]=z
    by_cases h1:val 10 (a.take k)<val 10 (b.take k)
    ·rw[vV h1,vV (by omega)]
    ·by_cases h2:val 10 (b.take k)<val 10 (a.take k)
     ·rw[zx h2,zx (by omega)]
     ·rw[Rx (by omega),Rx (by omega)]
theorem RE {m n:Nat}(hm:(dX m).length≤1000000000000)(hn:(dX n).length≤1000000000000):dQ (dX m) (dX n)=some (tX m n):=by
 rw[ET,yS]
 by_cases h:(dX m).length=(dX n).length
 ·have:=aek (JY m) (JY n) h hm (dX m).length (Nat.le_refl _)
  rw[pe (by omega)]
  simp (disch:=omega) only[i64_in]
  rw[this,List.take_length]
  rw[h,List.take_length,Mr,Mr]
 ·rw[Cj (by omega)]
  have l1:=(aZ (B:=10) (by omega) (dX m).length m).1 (Nat.le_refl _)
  have l2:=(aZ (B:=10) (by omega) (dX n).length n).1 (Nat.le_refl _)
  by_cases h1:(dX m).length<(dX n).length
  ·rw[aB (by omega)]
   have:=(gN (B:=10) (by omega) (dX m).length n).1 h1
   rw[vV (by omega)]
  ·rw[az (by omega)]
   have:=(gN (B:=10) (by omega) (dX n).length m).1 (show (dX n).length<(dX m).length by omega)
   rw[zx (by omega)]
def rsL:List Int→List Int→Int→List Int
 | [],[],c=>if c>0 then [c % 10] else []
 |x::xs,[],c=>(c+x) % 10::rsL xs [] ((c+x) / 10)
 | [],y::ys,c=>(c+y) % 10::rsL [] ys ((c+y) / 10)
 |x::xs,y::ys,c=>(c+x+y) % 10::rsL xs ys ((c+x+y) / 10)
theorem ahx {a b:List Int}(ha:DX a)(hb:DX b)(hl:a.length≤1000000000000)(hl':b.length≤1000000000000):∀(m k:Nat) (c:Int) (out:List Int),m+k=max a.length b.length→out.length=k→0≤c∧c≤1→
  fL a b c k out=some (out++rsL (a.drop k) (b.drop k) c):=by
 intro m
 induction m with
 |zero=>
  intro k c out hk ho hc
  have hka:a.length≤k:=by omega
  have hkb:b.length≤k:=by omega
  rw[drop_nil hka,drop_nil hkb,nf,kj]
  rw[az (by omega),az (by omega)]
  by_cases h:c>0
  ·have hc1:c=1:=by omega
   subst hc1
   simp (disch:=omega) only[cZ,az,kg,bT,nk,i64_in]
   rw[nf,kj]
   simp (disch:=omega) only[az,c8]
   simp[rsL]
  ·rw[c8 h]
   have:c=0:=by omega
   subst this
   simp[rsL]
 |succ m ih=>
  intro k c out hk ho hc
  have hx:=ha.getD (by omega) k
  have hy:=hb.getD (by omega) k
  have ym:=fun c out=>ih (k+1) c out (by omega)
  simp only[Int.natCast_add,Int.natCast_one] at ym
  rw[nf,kj]
  by_cases hka:k<a.length
  ·by_cases hkb:k<b.length
   ·rw[drop_eq hka,drop_eq hkb]
    simp (disch:=omega) only[aB,eL,Int.toNat_natCast,i64_in,bT,nk,kg]
    rw[ym _ _ (by simp;omega) (by omega)]
    simp[rsL]
   ·have hd:b.drop (k+1)=[]:=drop_nil (by omega)
    rw[drop_eq hka,drop_nil (show b.length≤k by omega)]
    simp (disch:=omega) only[aB,az,eL,Int.toNat_natCast,i64_in,bT,nk,kg]
    rw[ym _ _ (by simp;omega) (by omega),hd]
    simp[rsL]
  ·have hkb:k<b.length:=by omega
   have hd:a.drop (k+1)=[]:=drop_nil (by omega)
   rw[drop_eq hkb,drop_nil (show a.length≤k by omega)]
   simp (disch:=omega) only[aB,az,eL,Int.toNat_natCast,i64_in,bT,nk,kg]
   rw[ym _ _ (by simp;omega) (by omega),hd]
   simp[rsL]
theorem UZ:∀(a b:List Int) (c:Int),DX a→DX b→0≤c∧c≤1→VX (rsL a b c)=VX a+VX b+c∧DX (rsL a b c)∧(rsL a b c).length≤max a.length b.length+1
 | [],[],c,ha,hb,hc=>by
   simp only[rsL]
   split
   ·exact⟨by simp[VX,val];omega,jt.cons (by omega) (by omega) jt.nil,by simp⟩
   ·exact⟨by simp[VX,val];omega,jt.nil,by simp⟩
 |x::xs,[],c,ha,hb,hc=>by
  have hx:=ha.head
  obtain⟨e1,e2,e3⟩:=UZ xs [] ((c+x) / 10) ha.tail jt.nil (by omega)
  simp only[rsL]
  refine⟨?_,jt.cons (by omega) (by omega) e2,by simp at e3 ⊢;omega⟩
  simp only[VX,val] at e1 ⊢
  rw[e1];omega
 | [],y::ys,c,ha,hb,hc=>by
   have hy:=hb.head
   obtain⟨e1,e2,e3⟩:=UZ [] ys ((c+y) / 10) jt.nil hb.tail (by omega)
   simp only[rsL]
   refine⟨?_,jt.cons (by omega) (by omega) e2,by simp at e3 ⊢;omega⟩
   simp only[VX,val] at e1 ⊢
   rw[e1];omega
 |x::xs,y::ys,c,ha,hb,hc=>by
  have hx:=ha.head
  have hy:=hb.head
  obtain⟨e1,e2,e3⟩:=UZ xs ys ((c+x+y) / 10) ha.tail hb.tail (by omega)
  simp only[rsL]
  refine⟨?_,jt.cons (by omega) (by omega) e2,by simp at e3 ⊢;omega⟩
  simp only[VX,val] at e1 ⊢
  rw[e1];omega
theorem al7 {a b:List Int}(ha:DX a)(hb:DX b)(hl:a.length≤1000000000000)(hl':b.length≤1000000000000):
  ∃r,jG a b=some r∧VX r=VX a+VX b∧DX r∧r.length≤max a.length b.length+1:=by
 obtain⟨e1,e2,e3⟩:=UZ a b 0 ha hb ⟨by omega,by omega⟩
 have:=ahx ha hb hl hl' (max a.length b.length) 0 0 [] (by omega) rfl ⟨by omega,by omega⟩
 refine⟨rsL a b 0, ?_,by omega,e2,e3⟩
 rw[Gr,AT]
 simpa using this
def YV:List Int→List Int→Int→List Int
 | [],_,_=>[]
 |x::xs,[],c=>if x - c<0 then (x - c+10)::YV xs [] 1 else (x - c)::YV xs [] 0
 |x::xs,y::ys,c=>if x - c - y<0 then (x - c - y+10)::YV xs ys 1 else (x - c - y)::YV xs ys 0
theorem ael {a b:List Int}(ha:DX a)(hb:DX b)(hl:a.length≤1000000000000):∀(m k:Nat) (c:Int) (out:List Int),m+k=a.length→out.length=k→0≤c∧c≤1→
  b4 a b c k out=(bJ (out++YV (a.drop k) (b.drop k) c)).bind fun r=>some r:=by
 intro m
 induction m with
 |zero=>
  intro k c out hk ho hc
  rw[kB,ac5,az (by omega),drop_nil (show a.length≤k by omega)]
  simp[YV]
 |succ m ih=>
  intro k c out hk ho hc
  have hx:=ha.getD (by omega) k
  have hy:=hb.getD (by omega) k
  have ym:=fun c out=>ih (k+1) c out (by omega)
  simp only[Int.natCast_add,Int.natCast_one] at ym
  rw[kB,ac5,aB (by omega),eL (by omega) (by omega),Int.toNat_natCast,drop_eq (show k<a.length by omega)]
  have hl1:∀z:Int,([z]:List Int).length=1:=fun z=>rfl
  by_cases hkb:k<b.length
  ·rw[drop_eq hkb,aB (by omega),eL (by omega) (by omega),Int.toNat_natCast]
   simp (disch:=omega) only[i64_in,hl1]
   by_cases h:a.getD k 0 - c - b.getD k 0<0
   ·rw[aB h,kg (by omega) (by omega),ym _ _ (by simp;omega) ⟨by omega,by omega⟩]
    simp only[YV,if_pos h];simp
   ·rw[az h,kg (by omega) (by omega),ym _ _ (by simp;omega) ⟨by omega,by omega⟩]
    simp only[YV,if_neg h];simp
  ·have hd:b.drop (k+1)=[]:=drop_nil (by omega)
   rw[drop_nil (show b.length≤k by omega),az (by omega)]
   simp (disch:=omega) only[i64_in]
   by_cases h:a.getD k 0 - c<0
   ·rw[aB h,kg (by omega) (by omega),ym _ _ (by simp;omega) ⟨by omega,by omega⟩,hd]
    simp only[YV,if_pos h];simp
   ·rw[az h,kg (by omega) (by omega),ym _ _ (by simp;omega) ⟨by omega,by omega⟩,hd]
    simp only[YV,if_neg h];simp
theorem U0:∀(a b:List Int) (c:Int),b.length≤a.length→DX a→DX b→0≤c∧c≤1→
  ∃c',0≤c'∧VX (YV a b c)=VX a - VX b - c+c'*10^a.length∧DX (YV a b c)∧(YV a b c).length=a.length
 | [],[],c,hl,ha,hb,hc=>⟨c,hc.1,by simp[YV,VX,val];omega,jt.nil,rfl⟩
 | [],y::ys,c,hl,ha,hb,hc=>by simp at hl
 |x::xs,[],c,hl,ha,hb,hc=>by
  have hx:=ha.head
  have key:∀d:Int,(0≤d∧d≤1)→∃c',0≤c'∧VX (YV xs [] d)=VX xs - d+c'*10^xs.length∧DX (YV xs [] d)∧(YV xs [] d).length=xs.length:=fun d hd=>by
   obtain⟨c',h2,h3,h4,h5⟩:=U0 xs [] d (by simp) ha.tail jt.nil hd
   exact⟨c',h2,by simpa [VX,val] using h3,h4,h5⟩
  simp only[YV]
  split
  ·obtain⟨c',h2,h3,h4,h5⟩:=key 1 ⟨by omega,by omega⟩
   refine⟨c',h2, ?_,jt.cons (by omega) (by omega) h4,by simp[h5]⟩
   simp only[VX,val,List.length_cons,Int.pow_succ] at h3 ⊢
   rw[←Int.mul_assoc,h3];omega
  ·obtain⟨c',h2,h3,h4,h5⟩:=key 0 ⟨by omega,by omega⟩
   refine⟨c',h2, ?_,jt.cons (by omega) (by omega) h4,by simp[h5]⟩
   simp only[VX,val,List.length_cons,Int.pow_succ] at h3 ⊢
   rw[←Int.mul_assoc,h3];omega
 |x::xs,y::ys,c,hl,ha,hb,hc=>by
  have hx:=ha.head
  have hy:=hb.head
  simp only[YV]
  split
  ·obtain⟨c',h2,h3,h4,h5⟩:=U0 xs ys 1 (by simp at hl;omega) ha.tail hb.tail ⟨by omega,by omega⟩
   refine⟨c',h2, ?_,jt.cons (by omega) (by omega) h4,by simp[h5]⟩
   simp only[VX,val,List.length_cons,Int.pow_succ] at h3 ⊢
   rw[←Int.mul_assoc,h3];omega
  ·obtain⟨c',h2,h3,h4,h5⟩:=U0 xs ys 0 (by simp at hl;omega) ha.tail hb.tail ⟨by omega,by omega⟩
   refine⟨c',h2, ?_,jt.cons (by omega) (by omega) h4,by simp[h5]⟩
   simp only[VX,val,List.length_cons,Int.pow_succ] at h3 ⊢
   rw[←Int.mul_assoc,h3];omega
theorem acs {m n:Nat}(hl:(dX m).length≤1000000000000)(h:n≤m):bw (dX m) (dX n)=some (dX (m - n)):=by
 have ha:=JY m
 have hb:=JY n
 obtain⟨c',h1,h2,h3,h4⟩:=U0 (dX m) (dX n) 0 (YT h) ha hb ⟨by omega,by omega⟩
 have hv:VX (YV (dX m) (dX n) 0)=((m - n:Nat):Int):=by
  have h5:=CP (B:=10) (by omega) h3
  rw[h4] at h5
  change VX _<_ at h5
  rw[Mr,Mr] at h2
  by_cases hc:c'=0
  ·subst hc;simp at h2;omega
  ·exfalso
   have hp:(0:Int)≤10^(dX m).length:=Int.pow_nonneg (by omega)
   have h8:1*(10:Int)^(dX m).length≤c'*10^(dX m).length:=Int.mul_le_mul_of_nonneg_right (by omega) hp
   rw[Int.one_mul] at h8
   omega
 have:=ael ha hb hl (dX m).length 0 0 [] (by omega) rfl ⟨by omega,by omega⟩
 simp only[Int.natCast_zero,List.drop_zero,List.nil_append] at this
 rw[vy,oJ,this,Mv (by omega),bS,YL h3,hv,Int.toNat_natCast]
theorem ahy {m n:Nat}{s:Bool}(hm:(dX m).length≤1000000000000)(hn:(dX n).length≤1000000000000):
  ((jG (dX m) (dX n)).bind fun r5=>(aA s r5).bind fun r6=>some r6)=some (ju (if s then -((m:Int)+n) else (m:Int)+n)):=by
 obtain⟨r,e1,e2,e3,e4⟩:=al7 (JY m) (JY n) hm hn
 rw[e1,bS,zD e3 (by omega),bS,e2,Mr,Mr]
theorem WJ {m n:Nat}{s:Bool}(hm:(dX m).length≤1000000000000)(h:n≤m):
  ((bw (dX m) (dX n)).bind fun r5=>(aA s r5).bind fun r6=>some r6)=some (ju (if s then -((m:Int) - n) else (m:Int) - n)):=by
 have:=YT (show m - n≤m by omega)
 rw[acs hm h,bS,zD (JY _) (by omega),bS,Mr]
 have:((m - n:Nat):Int)=(m:Int) - n:=by omega
 rw[this]
theorem acu {x y:Int}(hx:Bd x)(hy:Bd y):iA (ju x) (ju y)=some (ju (x+y)):=by
 have hlx:=OH x
 have hly:=OH y
 rw[EV,yY,D0 hx,bS,D0 hy,bS]
 unfold Bd at hx hy
 -- Oa S5 way
 have S5:((aD (ju x)).bind fun r3=>(aD (ju y)).bind fun r4=>
   bif (r3.1==r4.1) then
    (jG r3.2 r4.2).bind fun r5=>(aA r3.1 r5).bind fun r6=>some r6
   else
    (dQ r3.2 r4.2).bind fun r7=>
    bif (decide (r7<(0:Int))) then
     (bw r4.2 r3.2).bind fun r8=>(aA r4.1 r8).bind fun r9=>some r9
    else
     (bw r3.2 r4.2).bind fun Qb=>(aA r3.1 Qb).bind fun r11=>some r11)=some (ju (x+y)):=by
  rw[nH hx,bS,nH hy,bS]
  simp only
  by_cases hs:(x<0↔y<0)
  ·have:(decide (x<0)==decide (y<0))=true:=beq_iff_eq.2 (decide_eq_decide.2 hs)
   rw[this,cT,ahy (by omega) (by omega)]
   congr 2
   by_cases h:x<0
   ·rw[decide_eq_true h,if_pos rfl];omega
   ·rw[decide_eq_false h,if_neg (by simp)];omega
  ·have:(decide (x<0)==decide (y<0))=false:=by simpa using hs
   rw[this,cF,RE (by omega) (by omega),bS]
   by_cases hc:x.natAbs<y.natAbs
   ·rw[aB (P2.2 (by omega)),WJ (by omega) (by omega)]
    congr 2
    by_cases h:y<0
    ·rw[decide_eq_true h,if_pos rfl];omega
    ·rw[decide_eq_false h,if_neg (by simp)];omega
   ·rw[az (fun e=>by have:=P2.1 e;omega),WJ (by omega) (by omega)]
    congr 2
    by_cases h:x<0
    ·rw[decide_eq_true h,if_pos rfl];omega
    ·rw[decide_eq_false h,if_neg (by simp)];omega
 by_cases h1:nd x≤9
 ·rw[if_pos h1]
  simp only[cT]
  by_cases h2:nd y≤9
  ·rw[if_pos h2]
   simp only[cT]
   have b1:=(lb x 9 (by omega)).1 h1
   have b2:=(lb y 9 (by omega)).1 h2
   rw[i64_in _ (by omega),nI (by omega) (by omega),bS]
  ·rw[if_neg h2]
   simp only[cF]
   exact S5
 ·rw[if_neg h1]
  simp only[cF]
  exact S5
theorem aae {x:Int}(hx:Bd x):aaJ (ju x)=some (ju (-x)):=by
 have hlx:=OH x
 rw[yO,qR,nH hx,bS]
 unfold Bd at hx
 rw[zD (JY _) (by omega),bS,Mr]
 congr 2
 by_cases h:x<0
 ·rw[decide_eq_true h,if_neg (by simp)];omega
 ·rw[decide_eq_false h,if_pos (by rfl)];omega
theorem ahz {x y:Int}(hx:Bd x)(hy:Bd y):k9 (ju x) (ju y)=some (ju (x - y)):=by
 rw[C6,wB,aae hy,bS,acu hx (by unfold Bd at*;rw[ad5];exact hy),bS]
 rfl
theorem RF {x:Int}(hx:Bd x):iu (ju x)=some (ju x.natAbs):=by
 have hlx:=OH x
 rw[yX,qY,nH hx,bS]
 unfold Bd at hx
 rw[zD (JY _) (by omega),bS,Mr]
 rfl
theorem Mx {x y:Int}(hx:Bd x)(hy:Bd y):cg (ju x) (ju y)=some (tX x y):=by
 have hlx:=OH x
 have hly:=OH y
 rw[ah7,sX,nH hx,bS,nH hy,bS]
 unfold Bd at hx hy
 simp only
 rw[RE (by omega) (by omega),RE (by omega) (by omega),bS,bS]
 rcases (show x<y∨x=y∨y<x by omega) with h |h |h
 all_goals
  by_cases h1:x<0<;>by_cases h2:y<0
  all_goals simp only[h1,h2,decide_true,decide_false,beq_self_eq_true,Bool.not_true,Bool.not_false,cT,cF,show (true==false)=false from rfl,show (false==true)=false from rfl,Option.some.injEq]
  all_goals unfold tX
  all_goals (repeat' split)<;>omega
def pmL:List Int→Int→List Int→List Int
 | [],x,os=>os
 |y::ys,x,o::os=>(o+x*y)::pmL ys x os
 |_::_,_,[]=>[]
def ptL:List Int→List Int→List Int→List Int
 | [],b,o=>o
 |x::xs,b,o=>match pmL b x o with
  | []=>[]
  |h::t=>h::ptL xs b t
def T3:List Int→List Int
 | []=>[]
 | [o]=>[o]
 |o::p::r=>o % 10::T3 ((p+o / 10)::r)
termination_by l=>l.length
theorem P5:∀(b:List Int) (x:Int) (o:List Int),b.length≤o.length→(pmL b x o).length=o.length
 | [],x,o,h=>by simp[pmL]
 |y::ys,x,[],h=>by simp at h
 |y::ys,x,o::os,h=>by simp only[pmL,List.length_cons];rw[P5 ys x os (by simpa using h)]
theorem afU:∀(b:List Int) (x:Int) (o:List Int),b.length≤o.length→VX (pmL b x o)=VX o+x*VX b
 | [],x,o,h=>by simp[pmL,VX,val]
 |y::ys,x,[],h=>by simp at h
 |y::ys,x,o::os,h=>by
  have ih:=afU ys x os (by simpa using h)
  simp only[pmL,VX,val] at ih ⊢
  have e:x*(y+10*val 10 ys)=x*y+10*(x*val 10 ys):=by rw[Int.mul_add,Int.mul_left_comm]
  rw[ih,e];omega
def FZ (M:Int)(l:List Int):Prop:=∀x∈l,0≤x∧x≤M
theorem FZ.mono {M M':Int}{l:List Int}(h:FZ M l)(hM:M≤M'):FZ M' l:=fun x hx=>by have:=h x hx;omega
theorem FZ.getD {M:Int}{l:List Int}(h:FZ M l)(hM:0≤M)(k:Nat):0≤l.getD k 0∧l.getD k 0≤M:=by
 by_cases hk:k<l.length
 ·have:l.getD k 0=l[k]:=by simp[List.getD,hk]
  rw[this];exact h _ (List.getElem_mem hk)
 ·rw[getD_none (by omega)];omega
theorem FZ.take {M:Int}{l:List Int}(h:FZ M l)(k:Nat):FZ M (l.take k):=fun x hx=>h x (List.mem_of_mem_take hx)
theorem FZ.drop {M:Int}{l:List Int}(h:FZ M l)(k:Nat):FZ M (l.drop k):=fun x hx=>h x (List.mem_of_mem_drop hx)
theorem FZ.append {M:Int}{l m:List Int}(h:FZ M l)(h':FZ M m):FZ M (l++m):=fun x hx=>by
 rcases List.mem_append.1 hx with hx |hx
 ·exact h x hx
 ·exact h' x hx
theorem acv {M x:Int}(hx:0≤x∧x≤9):∀(b o:List Int),DX b→FZ M o→FZ (M+81) (pmL b x o)
 | [],o,hb,ho=>ho.mono (by omega)
 |y::ys,[],hb,ho=>fun z hz=>by cases hz
 |y::ys,o::os,hb,ho=>by
  have hy:=hb.head
  have h1:=Int.mul_nonneg hx.1 hy.1
  have h2:x*y≤9*y:=Int.mul_le_mul_of_nonneg_right hx.2 hy.1
  have h3:=ho o (by simp)
  have ih:=acv hx ys os hb.tail (fun z hz=>ho z (by simp[hz]))
  intro z hz
  simp only[pmL,List.mem_cons] at hz
  rcases hz with rfl |hz
  ·omega
  ·exact ih z hz
theorem aaf {p q:Bool}{x y:List Int}{i:Nat}(hy:DX y)(hx:0≤x.getD i 0∧x.getD i 0≤9)(hi:i<x.length)(hlx:x.length≤10000000)(hly:y.length≤10000000):
  ∀(m k:Nat) (M:Int) (out:List Int),m+k=y.length→out.length=x.length+y.length+1→FZ M out→0≤M→M+81*m≤1000000000000000→
  ee p x q y i k out=bW p x q y (i+1) (out.take (i+k)++pmL (y.drop k) (x.getD i 0) (out.drop (i+k))):=by
 intro m
 induction m with
 |zero=>
  intro k M out hk ho hu h0 hM
  rw[pC,lS,az (by omega),drop_nil (show y.length≤k by omega),i64_in _ (by omega)]
  simp[pmL]
 |succ m ih=>
  intro k M out hk ho hu h0 hM
  have hyk:=hy.getD (by omega) k
  have hok:=hu.getD h0 (i+k)
  have h1:=Int.mul_nonneg hx.1 hyk.1
  have h2:x.getD i 0*y.getD k 0≤9*y.getD k 0:=Int.mul_le_mul_of_nonneg_right hx.2 hyk.1
  have e1:((i:Int)+k).toNat=i+k:=by omega
  have ym:=fun M out=>ih (k+1) M out (by omega)
  simp only[Int.natCast_add,Int.natCast_one] at ym
  rw[pC,lS]
  simp (disch:=omega) only[aB,i64_in,eL,rS,e1,Int.toNat_natCast]
  have b9:FZ (M+81) (out.set (i+k) (out.getD (i+k) 0+x.getD i 0*y.getD k 0)):=fun z hz=>by
   rcases List.mem_or_eq_of_mem_set hz with hz |rfl
   ·have:=hu z hz;omega
   ·omega
  rw[ym (M+81) _ (by simp[ho]) b9 (by omega) (by omega),drop_eq (show k<y.length by omega),drop_eq (show i+k<out.length by omega)]
  simp only[pmL]
  rw[show i+(k+1)=i+k+1 by omega,FI (by omega),set_drop]
  simp
theorem afV:∀(a b o:List Int),o.length=a.length+b.length+1→DX a→VX (ptL a b o)=VX o+VX a*VX b∧(ptL a b o).length=o.length
 | [],b,o,hl,ha=>by simp[ptL,VX,val]
 |x::xs,b,o,hl,ha=>by
  have hlen:=P5 b x o (by simp at hl;omega)
  have hval:=afU b x o (by simp at hl;omega)
  simp only[ptL]
  split
  ·rename_i e;rw[e] at hlen;simp at hlen hl;omega
  ·rename_i h t e
   rw[e] at hlen hval
   obtain⟨f1,f2⟩:=afV xs b t (by simp at hl hlen;omega) ha.tail
   refine⟨?_,by simp[f2] at hlen ⊢;omega⟩
   simp only[VX,val] at hval f1 ⊢
   rw[f1,Int.add_mul,Int.mul_assoc]
   omega
theorem aag {p q:Bool}{x y:List Int}(hxd:DX x)(hy:DX y)(hlx:x.length≤10000000)(hly:y.length≤10000000):
  ∀(m i:Nat) (out:List Int),m+i=x.length→out.length=x.length+y.length+1→FZ (81*i) out→
  ∃o',bW p x q y i out=dh p q 0 o'∧o'=out.take i++ptL (x.drop i) y (out.drop i)∧FZ 1000000000000 o':=by
 intro m
 induction m with
 |zero=>
  intro i out hi ho hu
  refine⟨out, ?_, ?_,hu.mono (by omega)⟩
  ·rw[pB,lR,az (by omega)]
  ·rw[drop_nil (show x.length≤i by omega)];simp[ptL]
 |succ m ih=>
  intro i out hi ho hu
  have hx:=hxd.getD (by omega) i
  have hI:=aaf (p:=p) (q:=q) (i:=i) hy ⟨hx.1,by omega⟩ (by omega) hlx hly y.length 0 (81*i) out (by omega) ho hu (by omega) (by omega)
  simp only[Int.natCast_zero,Nat.add_zero,List.drop_zero] at hI
  rw[pB,lR,aB (by omega),hI]
  have ym:=fun out=>ih (i+1) out (by omega)
  simp only[Int.natCast_add,Int.natCast_one] at ym
  have aj8:=P5 y (x.getD i 0) (out.drop i) (by rw[List.length_drop];omega)
  have hup:FZ (81*((i:Int)+1)) (out.take i++pmL y (x.getD i 0) (out.drop i)):=((hu.take i).mono (by omega)).append ((acv ⟨hx.1,by omega⟩ y (out.drop i) hy (hu.drop i)).mono (by omega))
  obtain⟨o',e1,e2,e3⟩:=ym (out.take i++pmL y (x.getD i 0) (out.drop i)) (by rw[List.length_append,aj8,List.length_take,List.length_drop];omega) hup
  refine⟨o',e1, ?_,e3⟩
  rw[e2,drop_eq (show i<x.length by omega)]
  simp only[ptL]
  cases hp:pmL y (x.getD i 0) (out.drop i) with
  |nil=>rw[hp] at aj8;simp at aj8;omega
  |cons h t=>
   have htl:(out.take i).length=i:=by simp;omega
   have h7:(out.take i++h::t).drop (i+1)=t:=by
    rw[List.drop_append,htl]
    have:(out.take i).drop (i+1)=[]:=drop_nil (by omega)
    rw[this];simp
   have h8:(out.take i++h::t).take (i+1)=out.take i++[h]:=by
    rw[List.take_append,htl]
    have:(out.take i).take (i+1)=out.take i:=List.take_of_length_le (by omega)
    rw[this];simp
   rw[h7,h8];simp
theorem afW (o:Int):T3 [o]=[o]:=by rw[T3]
theorem afX (o p:Int)(r:List Int):T3 (o::p::r)=o % 10::T3 ((p+o / 10)::r):=by rw[T3]
theorem afY:∀(n:Nat) (l:List Int),l.length=n→(∀x∈l,0≤x)→VX (T3 l)=VX l∧(T3 l).length=l.length∧(∀x∈T3 l,0≤x)∧DX (T3 l).dropLast
 |0,l,hl,h=>by
  have:l=[]:=List.length_eq_zero_iff.1 hl
  subst this
  rw[T3];exact⟨rfl,rfl,h,jt.nil⟩
 |1,l,hl,h=>by
  obtain⟨o,rfl⟩:∃o,l=[o]:=by
   cases l with
   |nil=>cases hl
   |cons o r=>exact⟨o,by have:r=[]:=List.length_eq_zero_iff.1 (by simpa using hl);rw[this]⟩
  rw[afW];exact⟨rfl,rfl,h,jt.nil⟩
 |n+2,l,hl,h=>by
  match l,hl,h with
  |o::q::r,hl,h=>
   have h1:=h o (by simp)
   have h2:=h q (by simp)
   obtain⟨e1,e2,e3,e4⟩:=afY (n+1) ((q+o / 10)::r) (by simpa using hl) (fun x hx=>by
    rcases List.mem_cons.1 hx with rfl |hx
    ·omega
    ·exact h x (by simp[hx]))
   rw[afX]
   refine⟨?_,by simp[e2], ?_, ?_⟩
   ·simp only[VX,val] at e1 ⊢
    rw[e1];omega
   ·intro x hx
    rcases List.mem_cons.1 hx with rfl |hx
    ·omega
    ·exact e3 x hx
   ·have hne:T3 ((q+o / 10)::r)≠ []:=fun e=>by rw[e] at e2;simp at e2
    rw[List.dropLast_cons_of_ne_nil hne]
    exact jt.cons (by omega) (by omega) e4
theorem aah {p q:Bool}:∀(n:Nat) (A l:List Int),l.length=n+1→(A++l).length≤100000000→(∀x∈l,0≤x)→(∀x∈l.tail,x≤1000000000000)→l.getD 0 0≤2000000000000→
  dh p q A.length (A++l)=(aA (!(p==q)) (A++T3 l)).bind fun r=>some r:=by
 intro n
 induction n with
 |zero=>
  intro A l hl hlen h0 h1 h2
  obtain⟨o,rfl⟩:∃o,l=[o]:=by
   cases l with
   |nil=>cases hl
   |cons o r=>exact⟨o,by have:r=[]:=List.length_eq_zero_iff.1 (by simpa using hl);rw[this]⟩
  have afe:(A++[o]).length=A.length+1:=by simp
  rw[pD,lU,i64_in _ (by omega),az (by omega),afW]
 |succ n ih=>
  intro A l hl hlen h0 h1 h2
  match l,hl,hlen,h0,h1,h2 with
  |o::t::r,hl,hlen,h0,h1,h2=>
   have ho:=h0 o (by simp)
   have ht:=h0 t (by simp)
   have ht1:=h1 t (by simp)
   have ho1:o≤2000000000000:=h2
   have afe:(A++o::t::r).length=A.length+r.length+2:=by simp;omega
   have e1:((A.length:Int)+1).toNat=A.length+1:=by omega
   have g0:(A++o::t::r).getD A.length 0=o:=by simp[List.getD]
   have g1:(A++o::t::r).getD (A.length+1) 0=t:=by
    rw[List.getD,List.getElem?_append_right (by omega),show A.length+1 - A.length=1 by omega];rfl
   have s1:∀z,(A++o::t::r).set (A.length+1) z=A++o::z::r:=fun z=>by
    rw[List.set_append_right _ _ (by omega),show A.length+1 - A.length=1 by omega];rfl
   have s2:∀z w,(A++o::z::r).set A.length w=A++w::z::r:=fun z w=>by
    rw[List.set_append_right _ _ (by omega),show A.length - A.length=0 by omega];rfl
   have afG:∀z,(A++o::z::r).length=A.length+r.length+2:=fun z=>by simp;omega
   have g2:∀z,(A++o::z::r).getD A.length 0=o:=fun z=>by simp[List.getD]
   rw[pD,lU]
   simp (disch:=omega) only[i64_in,aB,eL,rS,e1,g0,g1,s1,Int.toNat_natCast,nk,bT]
   have hl2:=afG (t+o / 10)
   simp (disch:=omega) only[eL,rS,g2,s2,Int.toNat_natCast,bT]
   have:=ih (A++[o % 10]) ((t+o / 10)::r) (by simpa using hl) (by simp at hlen ⊢;omega) (fun x hx=>by
    rcases List.mem_cons.1 hx with rfl |hx
    ·omega
    ·exact h0 x (by simp[hx])) (fun x hx=>h1 x (by simp at hx ⊢;exact .inr hx)) (by show t+o / 10≤_;omega)
   have e3:((A++[o % 10]).length:Int)=(A.length:Int)+1:=by simp
   rw[e3] at this
   simp only[List.append_assoc,List.singleton_append] at this
   rw[afX]
   exact this
theorem acw {m n:Nat}{s t:Bool}(hm:(dX m).length≤10000000)(hn:(dX n).length≤10000000):
  bW s (dX m) t (dX n) 0 (List.replicate ((dX m).length+(dX n).length+1) 0)=some (ju (if s=t then (m:Int)*n else -((m:Int)*n))):=by
 have hdm:=JY m
 have hdn:=JY n
 obtain⟨o',e1,e2,e3⟩:=aag (p:=s) (q:=t) hdm hdn hm hn (dX m).length 0 (List.replicate ((dX m).length+(dX n).length+1) 0) (by omega) (by simp) (fun x hx=>by
  obtain⟨_,rfl⟩:=List.mem_replicate.1 hx;omega)
 simp only[Int.natCast_zero,List.take_zero,List.nil_append,List.drop_zero] at e1 e2
 obtain⟨v1,v2⟩:=afV (dX m) (dX n) (List.replicate ((dX m).length+(dX n).length+1) 0) (by simp) hdm
 rw[←e2,List.length_replicate] at v2
 rw[←e2,Mr,Mr] at v1
 simp only[VX,OE,Int.zero_add] at v1
 have hnn:∀x∈o',0≤x:=fun x hx=>(e3 x hx).1
 obtain⟨c1,c2,c3,c4⟩:=afY _ o' rfl hnn
 have hc:=aah (p:=s) (q:=t) ((dX m).length+(dX n).length) [] o' (by omega) (by simp;omega) hnn (fun x hx=>(e3 x (List.mem_of_mem_tail hx)).2) (by have:=(e3.getD (by omega) 0).2;omega)
 simp only[List.nil_append,List.length_nil,Int.natCast_zero] at hc
 rw[e1,hc]
 -- Oa last entry is a digit,too
 have hne:T3 o'≠ []:=fun e=>by rw[e] at c2;simp at c2;omega
 have S2:T3 o'=(T3 o').dropLast++[(T3 o').getLast hne]:=(List.dropLast_concat_getLast hne).symm
 have hvs:VX (T3 o')=VX (T3 o').dropLast+10^(T3 o').dropLast.length*(T3 o').getLast hne:=by
  conv=>lhs;rw[S2]
  rw[VX,jc];simp[val]
 have hdl:(T3 o').dropLast.length=(dX m).length+(dX n).length:=by rw[List.length_dropLast,c2,v2];omega
 have ahu:=M3 c4
 have arj:=c3 _ (List.getLast_mem hne)
 have aor:(T3 o').getLast hne<10:=by
  by_cases hcc:(T3 o').getLast hne<10
  ·exact hcc
  ·exfalso
   have h1:=(aZ (B:=10) (by omega) (dX m).length m).1 (Nat.le_refl _)
   have h2:=(aZ (B:=10) (by omega) (dX n).length n).1 (Nat.le_refl _)
   have h3:m*n<10^(dX m).length*10^(dX n).length:=Nat.mul_lt_mul'' h1 h2
   rw[←Nat.pow_add] at h3
   have h4:((m*n:Nat):Int)<((10^((dX m).length+(dX n).length):Nat):Int):=Int.ofNat_lt.2 h3
   rw[JZ,Int.natCast_mul] at h4
   have h5:(10:Int)^((dX m).length+(dX n).length)*1≤10^((dX m).length+(dX n).length)*(T3 o').getLast hne:=Int.mul_le_mul_of_nonneg_left (by omega) (Int.pow_nonneg (by omega))
   rw[hdl] at hvs
   rw[c1] at hvs
   change VX o'=_ at v1
   omega
 have hD:DX (T3 o'):=by
  rw[S2]
  exact c4.append (jt.cons arj aor jt.nil)
 rw[zD hD (by rw[c2,v2];omega),bS,c1]
 change VX o'=_ at v1
 rw[v1]
 congr 2
 cases s<;>cases t<;>simp
theorem YW {x y:Int}(hx:Bd x)(hy:Bd y):gz (ju x) (ju y)=some (ju (x*y)):=by
 have hlx:=OH x
 have hly:=OH y
 rw[C3,wy,D0 hx,bS,D0 hy,bS]
 unfold Bd at hx hy
 have S5:((aD (ju x)).bind fun r3=>(aD (ju y)).bind fun r4=>
   bif (gK 8 (IntKind.wrap .i64 ((IntKind.wrap .i64 ((r3.2.length:Int)+(r4.2.length:Int)))+(1:Int))) (IntKind.wrap .i64 ((IntKind.wrap .i64 ((r3.2.length:Int)+(r4.2.length:Int)))+(1:Int)))) then
   bW r3.1 r3.2 r4.1 r4.2 (0:Int) (List.replicate (IntKind.wrap .i64 ((IntKind.wrap .i64 ((r3.2.length:Int)+(r4.2.length:Int)))+(1:Int))).toNat (0:Int))
   else none)=some (ju (x*y)):=by
  rw[nH hx,bS,nH hy,bS]
  simp only
  simp (disch:=omega) only[i64_in,GM]
  have e1:(((dX x.natAbs).length:Int)+(dX y.natAbs).length+1).toNat=(dX x.natAbs).length+(dX y.natAbs).length+1:=by omega
  rw[e1,acw (by omega) (by omega)]
  congr 2
  by_cases h1:x<0<;>by_cases h2:y<0
  ·have a1:(x.natAbs:Int)= -x:=by omega
   have a2:(y.natAbs:Int)= -y:=by omega
   rw[decide_eq_true h1,decide_eq_true h2,if_pos rfl,a1,a2];simp[Int.neg_mul,Int.mul_neg]
  ·have a1:(x.natAbs:Int)= -x:=by omega
   have a2:(y.natAbs:Int)=y:=by omega
   rw[decide_eq_true h1,decide_eq_false h2,if_neg (by simp),a1,a2];simp[Int.neg_mul,Int.mul_neg]
  ·have a1:(x.natAbs:Int)=x:=by omega
   have a2:(y.natAbs:Int)= -y:=by omega
   rw[decide_eq_false h1,decide_eq_true h2,if_neg (by simp),a1,a2];simp[Int.neg_mul,Int.mul_neg]
  ·have a1:(x.natAbs:Int)=x:=by omega
   have a2:(y.natAbs:Int)=y:=by omega
   rw[decide_eq_false h1,decide_eq_false h2,if_pos rfl,a1,a2]
 by_cases h1:nd x≤9
 ·rw[if_pos h1]
  simp only[cT]
  by_cases h2:nd y≤9
  ·rw[if_pos h2]
   simp only[cT]
   have b1:=(lb x 9 (by omega)).1 h1
   have b2:=(lb y 9 (by omega)).1 h2
   have b3:(x*y).natAbs<10^9*10^9:=by rw[Int.natAbs_mul];exact Nat.mul_lt_mul'' b1 b2
   rw[i64_in _ (by omega),nI (by omega) (by omega),bS]
  ·rw[if_neg h2]
   simp only[cF]
   exact S5
 ·rw[if_neg h1]
  simp only[cF]
  exact S5
end Go.Proofs.YtofjebmoebhiiaaGreatDoor.Ev
namespace Go.Abs
theorem aj9 {x y:Int}(hy:y≠0){Q R:Int}(hQ:Q=((x.natAbs / y.natAbs:Nat):Int))(hR:R=((x.natAbs % y.natAbs:Nat):Int)):
  (x.fdiv y=if (x<0↔y<0) then Q else if R=0 then -Q else -Q - 1)∧
  (x.fmod y=if (x<0↔y<0) then (if x<0 then -R else R) else if R=0 then 0 else (if x<0 then -R else R)+y):=by
 have hdm:=Nat.div_add_mod x.natAbs y.natAbs
 have hlt:=Nat.mod_lt x.natAbs (show y.natAbs>0 by omega)
 obtain⟨A,hA⟩:∃A,A=x.natAbs:=⟨_,rfl⟩
 obtain⟨B,hB⟩:∃B,B=y.natAbs:=⟨_,rfl⟩
 rw[←hA, ←hB] at hdm hlt hQ hR
 have ayJ:(B:Int)*Q+R=A:=by rw[hQ,hR, ←Int.natCast_mul, ←Int.natCast_add,hdm]
 have hR0:0≤R:=by rw[hR];exact Int.natCast_nonneg _
 have hRB:R<B:=by rw[hR];exact Int.ofNat_lt.2 hlt
 by_cases h1:x<0<;>by_cases h2:y<0
 ·have hx':x= -(A:Int):=by omega
  have hy':y= -(B:Int):=by omega
  have hu:=(Int.fdiv_fmod_unique' (a:=x) (b:=y) (r:= -R) (q:=Q) h2).2 ⟨by rw[hx',hy',Int.neg_mul];omega,by omega,by omega⟩
  rw[hu.1,hu.2]
  simp[h1,h2]
 ·have hx':x= -(A:Int):=by omega
  have hy':y=(B:Int):=by omega
  by_cases hz:R=0
  ·have hu:=(Int.fdiv_fmod_unique (a:=x) (b:=y) (r:= -R) (q:= -Q) (by omega)).2 ⟨by rw[hx',hy',Int.mul_neg];omega,by omega,by omega⟩
   rw[hu.1,hu.2]
   simp[h1,h2,hz]
  ·have hu:=(Int.fdiv_fmod_unique (a:=x) (b:=y) (r:= -R+y) (q:= -Q - 1) (by omega)).2 ⟨by rw[hx',hy',Int.mul_sub,Int.mul_neg];omega,by omega,by omega⟩
   rw[hu.1,hu.2]
   simp[h1,h2,hz]
 ·have hx':x=(A:Int):=by omega
  have hy':y= -(B:Int):=by omega
  by_cases hz:R=0
  ·have hu:=(Int.fdiv_fmod_unique' (a:=x) (b:=y) (r:=R) (q:= -Q) (by omega)).2 ⟨by rw[hx',hy',Int.neg_mul_neg];omega,by omega,by omega⟩
   rw[hu.1,hu.2]
   simp[h1,h2,hz]
  ·have hu:=(Int.fdiv_fmod_unique' (a:=x) (b:=y) (r:=R+y) (q:= -Q - 1) (by omega)).2 ⟨by rw[hx',hy',Int.mul_sub,Int.neg_mul_neg];omega,by omega,by omega⟩
   rw[hu.1,hu.2]
   simp[h1,h2,hz]
 ·have hx':x=(A:Int):=by omega
  have hy':y=(B:Int):=by omega
  have hu:=(Int.fdiv_fmod_unique (a:=x) (b:=y) (r:=R) (q:=Q) (by omega)).2 ⟨by rw[hx',hy'];omega,by omega,by omega⟩
  rw[hu.1,hu.2]
  simp[h1,h2]
end Go.Abs
namespace Go.Proofs.YtofjebmoebhiiaaGreatDoor.Ev
open Go.Abs Go.IntWalk
section
variable {b:ByteArray}{p s:Bool}
theorem ark {x:List Int}{B:Nat}(hB:0<B)(hBl:(dX B).length≤10000000){i:Int}{q:List Int}(hq:q.length≤10000000):∀(S k:Nat),(dX S).length≤10000001→k+S / B≤1000→
  cX b p x s (dX B) (dX S) i k q=bN b p x s (dX B) (dX (S % B)) (IntKind.wrap .i64 (i - 1)) (q++[((k+S / B:Nat):Int)]):=by
 intro S
 induction S using Nat.strongRecOn with
 |ind S ih=>
  intro k hS hk
  rw[ui,nA,RE (by omega) (by omega),bS]
  by_cases h:B≤S
  ·have hc:tX (S:Int) B≥0:=by
    by_cases hh:tX (S:Int) B≥0
    ·exact hh
    ·have:=P2.1 (show tX (S:Int) B<0 by omega)
     omega
   have e1:=Nat.mod_eq_sub_mod h
   have e2:S / B=(S - B) / B+1:=Nat.div_eq_sub_div hB h
   obtain⟨D,hD⟩:∃D,(S - B) / B=D:=⟨_,rfl⟩
   rw[e2,hD] at hk
   rw[tt hc,acs (by omega) h,bS,i64_in _ (by omega)]
   have:=ih (S - B) (by omega) (k+1) (by have:=YT (show S - B≤S by omega);omega) (by rw[hD];omega)
   simp only[Int.natCast_add,Int.natCast_one] at this
   rw[this, ←e1,e2]
   congr 3
   omega
  ·have hc:¬tX (S:Int) B≥0:=by rw[vV (by omega)];omega
   rw[tu hc,kg (by omega) (by omega),Nat.mod_eq_of_lt (by omega),Nat.div_eq_of_lt (by omega),Nat.add_zero]
theorem arl {x:List Int}(hx:DX x){B:Nat}(hB:0<B)(hBl:(dX B).length≤10000000)(hxl:x.length≤10000000):∀(k:Nat) (R:Nat) (q:List Int),k≤x.length→R<B→q.length+k≤10000000→DX q→
  VX (x.drop k)=B*VX q.reverse+R→
  ∃q' R',bN b p x s (dX B) (dX R) ((k:Int) - 1) q=aT b p s (dX R') 0 q'∧R'<B∧DX q'∧VX x=B*VX q'.reverse+R'∧q'.length≤10000000:=by
 intro k
 induction k with
 |zero=>
  intro R q hk hR hql hq hv
  refine⟨q,R, ?_,hR,hq,by simpa using hv,by omega⟩
  rw[mH,jq,tu (by omega)]
 |succ k ih=>
  intro R q hk hR hql hq hv
  have hxk:=hx.getD (by omega) k
  have hRl:=YT (show R≤B by omega)
  have e:((k+1:Nat):Int) - 1=k:=by omega
  obtain⟨c,hc⟩:=Int.eq_ofNat_of_zero_le hxk.1
  rw[hc] at hxk
  have hDc:DX ([(c:Int)]++dX R):=(jt.cons hxk.1 hxk.2 jt.nil).append (JY R)
  have hVc:VX ([(c:Int)]++dX R)=((c+10*R:Nat):Int):=by
   have:=Mr R
   simp only[VX,List.singleton_append,val] at this ⊢
   rw[this];omega
  have hlen:(dX (c+10*R)).length≤10000001:=by
   have h1:=DW ([(c:Int)]++dX R)
   rw[YL hDc,hVc,Int.toNat_natCast] at h1
   simp at h1
   show (dX (c+10*R)).length≤_
   omega
  have hdiv:(c+10*R) / B<10:=by
   rw[Nat.div_lt_iff_lt_mul hB]
   omega
  have hmod:=Nat.mod_lt (c+10*R) hB
  have hdm:=Nat.div_add_mod (c+10*R) B
  rw[mH,jq,e,tt (by omega),eL (by omega) (by omega),Int.toNat_natCast,hc,kg (by omega) (by omega),Mv (by simp;omega),bS,YL hDc,hVc,Int.toNat_natCast]
  have h1:=ark (b:=b) (p:=p) (s:=s) (x:=x) hB hBl (i:=k) (q:=q) (by omega) (c+10*R) 0 hlen (by omega)
  simp only[Int.natCast_zero,Nat.zero_add] at h1
  rw[h1,i64_in _ (by omega)]
  refine ih _ _ (by omega) hmod (by simp;omega) (hq.append (jt.cons (Int.natCast_nonneg _) (Int.ofNat_lt.2 hdiv) jt.nil)) ?_
  rw[drop_eq (show k<x.length by omega),hc,List.reverse_append,List.reverse_singleton,List.singleton_append]
  simp only[VX,val] at hv ⊢
  rw[hv]
  have h2:((B*((c+10*R) / B)+(c+10*R) % B:Nat):Int)=((c+10*R:Nat):Int):=by rw[hdm]
  rw[Int.natCast_add,Int.natCast_mul] at h2
  have h3:(B:Int)*(((c+10*R) / B:Nat)+10*val 10 q.reverse)=B*((c+10*R) / B:Nat)+10*(B*val 10 q.reverse):=by rw[Int.mul_add,Int.mul_left_comm]
  rw[h3]
  omega
theorem aos {r:List Int}:∀(m:Nat) (M A C:List Int),M.length=m→A.length=C.length→(A++M++C).length≤1000000000→
  aT b p s r A.length (A++M++C)=aT b p s r (((A++M++C).length:Int) / 2) (A++M.reverse++C):=by
 intro m
 induction m using Nat.strongRecOn with
 |ind m ih=>
  intro M A C hm hac hl
  by_cases h:M.length≤1
  ·have hrev:M.reverse=M:=by
    match M,h with
    | [],_=>rfl
    | [x],_=>rfl
    |_::_::_,h=>simp at h
   have:((A++M++C).length:Int) / 2=A.length:=by simp;omega
   rw[hrev,this]
  ·obtain⟨x,M1,rfl⟩:∃x M1,M=x::M1:=by
    cases M with
    |nil=>simp at h
    |cons x M1=>exact⟨x,M1,rfl⟩
   have hne:M1≠ []:=fun e=>by rw[e] at h;simp at h
   obtain⟨M2,y,rfl⟩:∃M2 y,M1=M2++[y]:=⟨M1.dropLast,M1.getLast hne,(List.dropLast_concat_getLast hne).symm⟩
   have hlen:(A++x::(M2++[y])++C).length=A.length+M2.length+2+C.length:=by simp;omega
   rw[hlen] at hl
   have hL:A++x::(M2++[y])++C=A++(x::(M2++(y::C))):=by simp
   have hR:A++(x::(M2++[y])).reverse++C=(A++[y])++M2.reverse++(x::C):=by simp
   have arn:((A++[y])++M2++(x::C)).length=A.length+M2.length+2+C.length:=by simp;omega
   have ZB:=ih M2.length (by simp at hm;omega) M2 (A++[y]) (x::C) rfl (by simp;omega) (by omega)
   have e1:((A++[y]).length:Int)=(A.length:Int)+1:=by simp
   rw[e1,arn] at ZB
   rw[hlen,hR, ←ZB,hL]
   rw[hL] at hlen
   have gx:(A++(x::(M2++(y::C)))).getD A.length 0=x:=by simp[List.getD]
   have gy:(A++(x::(M2++(y::C)))).getD (A.length+M2.length+1) 0=y:=by
    rw[List.getD,List.getElem?_append_right (by omega)]
    have:A.length+M2.length+1 - A.length=M2.length+1:=by omega
    rw[this]
    simp
   have s1:(A++(x::(M2++(y::C)))).set A.length y=A++(y::(M2++(y::C))):=by
    rw[List.set_append_right _ _ (by omega)];simp
   have s2:(A++(y::(M2++(y::C)))).set (A.length+M2.length+1) x=(A++[y])++M2++(x::C):=by
    rw[List.set_append_right _ _ (by omega)]
    have:A.length+M2.length+1 - A.length=M2.length+1:=by omega
    rw[this,List.set_cons_succ,List.set_append_right _ _ (by omega)]
    simp
   have afG:(A++(y::(M2++(y::C)))).length=A.length+M2.length+2+C.length:=by simp;omega
   have ej:(((A.length+M2.length+2+C.length:Nat):Int) - 1 - A.length).toNat=A.length+M2.length+1:=by omega
   rw[mI,js]
   simp only[hlen]
   rw[nk (by omega)]
   simp (disch:=omega) only[aB,i64_in,eL,rS,ej,Int.toNat_natCast,gx,gy,s1,s2]
theorem al8 {r q:List Int}(hl:q.length≤1000000000):aT b p s r 0 q=aT b p s r ((q.length:Int) / 2) q.reverse:=by
 have:=aos (b:=b) (p:=p) (s:=s) (r:=r) q.length q [] [] rfl rfl (by simpa using hl)
 simpa using this
end
theorem aai {x y:Int}(hx:Bd x)(hy:Bd y)(hy0:y≠0):acr (ju x) (ju y)=some (ju (x.fdiv y),ju (x.fmod y)):=by
 have hlx:=OH x
 have hly:=OH y
 obtain⟨fq,fr⟩:=aj9 (x:=x) (y:=y) hy0 rfl rfl
 have hdm:=Nat.div_add_mod x.natAbs y.natAbs
 have hlt:=Nat.mod_lt x.natAbs (show y.natAbs>0 by omega)
 have hbx:=hx
 have hby:=hy
 rw[yW,qX,D0 hx,bS,D0 hy,bS]
 unfold Bd at hx hy
 -- Oa S5 way
 have S5:((aD (ju x)).bind fun r9=>(aD (ju y)).bind fun Qb=>
   let V5:Int:=(IntKind.wrap .i64 ((Qb.2.length:Int) - (1:Int)))
   let e12:Int:=(bif decide (V5>(0:Int)) then V5 else (0:Int))
   let O8:Int:=(bif decide ((IntKind.wrap .i64 ((r9.2.length:Int) - e12))>(0:Int)) then (IntKind.wrap .i64 ((r9.2.length:Int) - e12)) else (0:Int))
   bif (dN r9.2.length O8 (r9.2.length:Int)) then
   bif (aP 8 1 0 (cut r9.2 O8 (r9.2.length:Int)).length) then
   let e14:List Int:=(([]:List Int)++(cut r9.2 O8 (r9.2.length:Int)))
   (bJ e14).bind fun TO=>
   bN (ju y) r9.1 r9.2 Qb.1 Qb.2 TO (IntKind.wrap .i64 (O8 - (1:Int))) ([]:List Int)
   else none
   else none)=some (ju (x.fdiv y),ju (x.fmod y)):=by
  rw[nH hbx,bS,nH hby,bS]
  simp only
  obtain⟨LX,hLX⟩:∃LX,LX=(dX x.natAbs).length:=⟨_,rfl⟩
  obtain⟨LY,hLY⟩:∃LY,LY=(dX y.natAbs).length:=⟨_,rfl⟩
  have ayL:0<LY:=by
   have:(dX y.natAbs).length≠0:=fun e=>by
    have:=(nF (B:=10) (n:=y.natAbs) (by omega)).1 (List.length_eq_zero_iff.1 e)
    omega
   omega
  obtain⟨st,hst⟩:∃st:Nat,st=LX - (LY - 1):=⟨_,rfl⟩
  rw[←hLX, ←hLY]
  have V5:IntKind.wrap .i64 ((LY:Int) - 1)=((LY - 1:Nat):Int):=by rw[i64_in _ (by omega)];omega
  have e12:(bif decide (((LY - 1:Nat):Int)>0) then ((LY - 1:Nat):Int) else 0)=((LY - 1:Nat):Int):=by
   by_cases h:((LY - 1:Nat):Int)>0
   ·rw[cZ h]
   ·rw[c8 h];omega
  have O8:(bif decide (IntKind.wrap .i64 ((LX:Int) - ((LY - 1:Nat):Int))>0) then IntKind.wrap .i64 ((LX:Int) - ((LY - 1:Nat):Int)) else 0)=(st:Int):=by
   rw[i64_in _ (by omega)]
   by_cases h:(LX:Int) - ((LY - 1:Nat):Int)>0
   ·rw[cZ h];omega
   ·rw[c8 h];omega
  have aka:cut (dX x.natAbs) (st:Int) (LX:Int)=(dX x.natAbs).drop st:=by
   unfold cut
   rw[Int.toNat_natCast,Int.toNat_natCast,hLX,List.take_length]
  simp only[V5,e12,O8,aka]
  have hdl:((dX x.natAbs).drop st).length=LX - st:=by rw[List.length_drop,hLX]
  have hDd:=(JY x.natAbs).drop st
  obtain⟨R0,hR0⟩:=Int.eq_ofNat_of_zero_le (M3 hDd)
  rw[JX (by omega) (by omega) (by omega),kg (by omega) (by omega),List.nil_append,Mv (by omega),bS,YL hDd,hR0,Int.toNat_natCast,i64_in _ (by omega)]
  -- Oa first digits are less auF Oa al4
  have auT:R0<y.natAbs:=by
   have h1:VX ((dX x.natAbs).drop st)<10^((dX x.natAbs).drop st).length:=CP (B:=10) (by omega) hDd
   have h2:=Ry (show ((dX x.natAbs).drop st).length≤LY - 1 by omega)
   have h3:=(gN (B:=10) (by omega) (LY - 1) y.natAbs).1 (by show LY - 1<(dX y.natAbs).length;omega)
   have h4:((10^(LY - 1):Nat):Int)≤(y.natAbs:Int):=Int.ofNat_le.2 h3
   rw[JZ] at h4
   omega
  obtain⟨q',R',w1,w2,w3,w4,w5⟩:=arl (b:=ju y) (p:=decide (x<0)) (s:=decide (y<0)) (JY x.natAbs) (B:=y.natAbs) (by omega) (by omega) (by omega) st R0 [] (by omega) auT (by simp;omega) jt.nil (by rw[hR0];simp[VX,val])
  have hq0:=M3 (show DX q'.reverse from fun z hz=>w3 z (List.mem_reverse.1 hz))
  obtain⟨Q,hQ⟩:=Int.eq_ofNat_of_zero_le hq0
  rw[Mr,hQ] at w4
  have hAN:x.natAbs=y.natAbs*Q+R':=by
   have:((y.natAbs*Q+R':Nat):Int)=(y.natAbs:Int)*Q+R':=by rw[Int.natCast_add,Int.natCast_mul]
   omega
  have hq1:x.natAbs / y.natAbs=Q:=by rw[hAN,Nat.mul_add_div (by omega),Nat.div_eq_of_lt w2];omega
  have RZ:x.natAbs % y.natAbs=R':=by rw[hAN,Nat.mul_add_mod,Nat.mod_eq_of_lt w2]
  rw[hq1,RZ] at fq
  rw[RZ] at fr
  have ayM:=YT (show R'≤y.natAbs by omega)
  rw[w1,al8 (by omega),mI,js]
  have hql:(q'.reverse).length=q'.length:=by simp
  rw[hql,nk (by omega)]
  simp (disch:=omega) only[i64_in,az]
  have hD':DX q'.reverse:=fun z hz=>w3 z (List.mem_reverse.1 hz)
  rw[zD hD' (by rw[hql];omega),bS,zD (JY R') (by omega),bS,hQ,Mr,arf]
  have auU:nd (Q:Int)≤100000:=by
   have:Q≤x.natAbs:=by rw[←hq1];exact Nat.div_le_self _ _
   have:=RC (x:=(Q:Int)) (y:=x) (by omega)
   omega
  have aro:nd (R':Int)≤100000:=by
   have:=RC (x:=(R':Int)) (y:=y) (by omega)
   omega
  have b1:Bd 1:=by unfold Bd;rw[RD (by decide)];omega
  by_cases hs:(x<0↔y<0)
  ·have hd:(decide (x<0)==decide (y<0))=true:=beq_iff_eq.2 (decide_eq_decide.2 hs)
   rw[if_pos hs] at fq fr
   rw[hd,Bool.not_true,fq,fr]
   simp only[Bool.false_eq_true,if_false,cF,decide_eq_true_eq]
   cases ((ju (if x<0 then -(R':Int) else (R':Int))).toList==(ju 0).toList)<;>rfl
  ·have hd:(decide (x<0)==decide (y<0))=false:=by
    cases hh:(decide (x<0)==decide (y<0)) with
    |false=>rfl
    |true=>exact absurd (decide_eq_decide.1 (beq_iff_eq.1 hh)) hs
   rw[if_neg hs] at fq fr
   rw[hd,Bool.not_false,fq,fr]
   simp only[if_true,cT,decide_eq_true_eq]
   by_cases hz:R'=0
   ·subst hz
    have:(if x<0 then -((0:Nat):Int) else ((0:Nat):Int))=0:=by split<;>rfl
    rw[this,YR rfl,Bool.not_true,cF,if_pos (by rfl),if_pos (by rfl)]
   ·have h1:¬(if x<0 then -(R':Int) else (R':Int))=0:=by split<;>omega
    rw[YS h1,Bool.not_false,cT,if_neg (show ¬((R':Nat):Int)=0 by omega),if_neg (show ¬((R':Nat):Int)=0 by omega),auO,ahz (by unfold Bd;rw[ad5];exact auU) b1,bS,acu (by
     unfold Bd
     split
     ·rw[ad5];exact aro
     ·exact aro) hby,bS]
 by_cases h1:nd x≤9
 ·rw[if_pos h1]
  simp only[cT]
  by_cases h2:nd y≤9
  ·rw[if_pos h2]
   simp only[cT]
   have c1:=(lb x 9 (by omega)).1 h1
   have c2:=(lb y 9 (by omega)).1 h2
   have auV:=Nat.div_le_self x.natAbs y.natAbs
   -- truncated arp by Oa absolute values
   have eq1:x.tdiv y=if (x<0↔y<0) then ((x.natAbs / y.natAbs:Nat):Int) else -((x.natAbs / y.natAbs:Nat):Int):=by
    by_cases a:x<0<;>by_cases b:y<0
    ·have hx':x= -(x.natAbs:Int):=by omega
     have hy':y= -(y.natAbs:Int):=by omega
     rw[if_pos (by simp[a,b])]
     conv=>lhs;rw[hx',hy']
     rw[Int.neg_tdiv,Int.tdiv_neg,Int.neg_neg,nk (by omega),Int.natCast_ediv]
    ·have hx':x= -(x.natAbs:Int):=by omega
     have hy':y=(y.natAbs:Int):=by omega
     rw[if_neg (by simp[a,b])]
     conv=>lhs;rw[hx',hy']
     rw[Int.neg_tdiv,nk (by omega),Int.natCast_ediv]
    ·have hx':x=(x.natAbs:Int):=by omega
     have hy':y= -(y.natAbs:Int):=by omega
     rw[if_neg (by simp[a,b])]
     conv=>lhs;rw[hx',hy']
     rw[Int.tdiv_neg,nk (by omega),Int.natCast_ediv]
    ·have hx':x=(x.natAbs:Int):=by omega
     have hy':y=(y.natAbs:Int):=by omega
     rw[if_pos (by simp[a,b])]
     conv=>lhs;rw[hx',hy']
     rw[nk (by omega),Int.natCast_ediv]
   have eq2:x.tmod y=if x<0 then -((x.natAbs % y.natAbs:Nat):Int) else ((x.natAbs % y.natAbs:Nat):Int):=by
    have key:x.tmod y=x.tmod (y.natAbs:Int):=by
     by_cases b:y<0
     ·have hy':y= -(y.natAbs:Int):=by omega
      conv=>lhs;rw[hy']
      rw[Int.tmod_neg]
     ·have hy':y=(y.natAbs:Int):=by omega
      conv=>lhs;rw[hy']
    rw[key]
    by_cases a:x<0
    ·have hx':x= -(x.natAbs:Int):=by omega
     rw[if_pos a]
     conv=>lhs;rw[hx']
     rw[Int.neg_tmod,bT (by omega),Int.natCast_emod]
    ·have hx':x=(x.natAbs:Int):=by omega
     rw[if_neg a]
     conv=>lhs;rw[hx']
     rw[bT (by omega),Int.natCast_emod]
   obtain⟨Q,hQ⟩:∃Q,Q=x.natAbs / y.natAbs:=⟨_,rfl⟩
   obtain⟨R,hR⟩:∃R,R=x.natAbs % y.natAbs:=⟨_,rfl⟩
   rw[j5 hy0,j5 hy0,eq1,eq2,fq,fr]
   rw[←hQ, ←hR] at hdm
   rw[←hR] at hlt
   rw[←hQ] at auV
   rw[←hQ, ←hR]
   clear hQ hR fq fr eq1 eq2
   by_cases hz:R=0
   ·subst hz
    have e0:(if x<0 then -((0:Nat):Int) else ((0:Nat):Int))=0:=by split<;>rfl
    rw[e0,pe rfl]
    by_cases hs:(x<0↔y<0)
    ·rw[if_pos hs,if_pos hs,if_pos hs,i64_in _ (by omega),nI (by omega) (by omega),bS,nI (by omega) (by omega),bS]
    ·rw[if_neg hs,if_neg hs,if_neg hs,if_pos (by rfl),if_pos (by rfl),i64_in _ (by omega),nI (by omega) (by omega),bS,nI (by omega) (by omega),bS]
   ·have hr0:¬(if x<0 then -(R:Int) else (R:Int))=0:=by split<;>omega
    rw[Cj hr0]
    have hsg:(decide ((if x<0 then -(R:Int) else (R:Int))<0))=decide (x<0):=decide_eq_decide.2 (by split<;>omega)
    rw[hsg]
    by_cases hs:(x<0↔y<0)
    ·have hd:(decide (x<0)==decide (y<0))=true:=beq_iff_eq.2 (decide_eq_decide.2 hs)
     rw[hd,Bool.not_true,cF,if_pos hs,if_pos hs,if_pos hs,i64_in _ (by omega),nI (by omega) (by omega),bS,nI (by split<;>omega) (by split<;>omega),bS]
    ·have hd:(decide (x<0)==decide (y<0))=false:=by
      cases hh:(decide (x<0)==decide (y<0)) with
      |false=>rfl
      |true=>exact absurd (decide_eq_decide.1 (beq_iff_eq.1 hh)) hs
     rw[hd,Bool.not_false,cT,if_neg hs,if_neg hs,if_neg hs,if_neg (show ¬((R:Nat):Int)=0 by omega),if_neg (show ¬((R:Nat):Int)=0 by omega)]
     have w1:IntKind.wrap .i64 (-(Q:Int))= -(Q:Int):=i64_in _ (by omega)
     have w2:IntKind.wrap .i64 (-(Q:Int) - 1)= -(Q:Int) - 1:=i64_in _ (by omega)
     have w3:IntKind.wrap .i64 ((if x<0 then -(R:Int) else (R:Int))+y)=(if x<0 then -(R:Int) else (R:Int))+y:=i64_in _ (by split<;>omega)
     simp only[w1,w2,w3]
     rw[nI (by omega) (by omega),bS,nI (by split<;>omega) (by split<;>omega),bS]
  ·rw[if_neg h2]
   simp only[cF]
   exact S5
 ·rw[if_neg h1]
  simp only[cF]
  exact S5
end Go.Proofs.YtofjebmoebhiiaaGreatDoor.Ev
namespace Go.Proofs.YtofjebmoebhiiaaGreatDoor.Ev
open Go.Abs Go.IntWalk
theorem Sm.Bd {z:Int}(h:Sm z):Bd z:=by unfold Sm at h;unfold Go.Abs.Bd;omega
theorem FJ {z:Int}{k:Nat}(h:nd z≤k)(hk:k≤100000):Bd z:=by unfold Bd;omega
theorem akb {z:Int}(h:z.natAbs<10):Bd z:=FJ (Nat.le_of_eq (RD h)) (by omega)
theorem XE:∀(y x:Nat),Bd x→Bd y→dd (ju x) (ju y)=some (ju ((Nat.gcd x y:Nat):Int)):=by
 intro y
 induction y using Nat.strongRecOn with
 |ind y ih=>
  intro x hx hy
  rw[vx,oH,arf]
  by_cases h:y=0
  ·subst h
   rw[YR (by rfl),Bool.not_true,cF,Nat.gcd_zero_right]
  ·have e:(x:Int).fmod y=((x % y:Nat):Int):=by rw[Int.fmod_eq_emod_of_nonneg _ (by omega),Int.natCast_emod]
   have hlt:=Nat.mod_lt x (show y>0 by omega)
   rw[YS (by omega),Bool.not_false,cT,aai hx hy (by omega),bS,e,ih _ hlt y hy (FJ (RC (x:=((x % y:Nat):Int)) (y:=(y:Int)) (by simp;omega)) hy),Nat.gcd_comm y, ←Nat.gcd_rec,Nat.gcd_comm]
theorem acx {x y:Int}(hx:Bd x)(hy:Bd y):eW (ju x) (ju y)=some (ju ((Int.gcd x y:Nat):Int)):=by
 rw[ah9,sY,RF hx,bS,RF hy,bS,XE y.natAbs x.natAbs (FJ (RC (y:=x) (by simp)) hx) (FJ (RC (y:=y) (by simp)) hy)]
 rfl
section
variable {x y:Int}(hx:Sm x)(hy:Sm y)
include hx hy
end
section
variable {x:Int}(hx:Sm x)
include hx
end
end Go.Proofs.YtofjebmoebhiiaaGreatDoor.Ev
namespace Go.Proofs.YtofjebmoebhiiaaGreatDoor.Ev
open Go.Abs Go.IntWalk
def fs:List Int→Option Nat
 | []=>none
 |x::r=>if x=47 then some 0 else (fs r).map (· +1)
theorem ane:∀{l:List Int} {k:Nat},fs l=some k→k<l.length
 |x::r,k,h=>by
  simp only[fs] at h
  split at h
  ·cases h;simp
  ·cases hr:fs r with
   |none=>rw[hr] at h;cases h
   |some j=>rw[hr] at h;cases h;have:=ane hr;simp;omega
theorem afZ:∀(l:List UInt8) (i:Nat),Xo 47 i l=match fs (l.map fun b=>(b.toNat:Int)) with
  |none=> -1
  |some k=>((i+k:Nat):Int)
 | [],i=>rfl
 |x::r,i=>by
  simp only[Xo,List.map_cons,fs]
  by_cases h:(x.toNat:Int)=47
  ·rw[afM h,cT,if_pos h];rfl
  ·rw[Mq h,cF,if_neg h,afZ r (i+1)]
   cases fs (r.map fun b=>(b.toNat:Int)) with
   |none=>rfl
   |some k=>show ((i+1+k:Nat):Int)=((i+(k+1):Nat):Int);congr 1;omega
theorem aaj (s:ByteArray):fO s 47=some (match fs (bytesOf s) with
  |none=> -1
  |some k=>((k:Nat):Int)):=by
 have h:fO s 47=(bif decide ((0:Int)≤47)&&decide ((47:Int)<256) then some (Xo 47 0 s.data.toList) else none):=Ju T B (Go.Abs.look fns) 165 (s,47)
 rw[h]
 have e:(decide ((0:Int)≤47)&&decide ((47:Int)<256))=true:=rfl
 rw[e,cT,afZ]
 unfold bytesOf
 cases fs (s.data.toList.map fun b=>(b.toNat:Int)) with
 |none=>rfl
 |some k=>simp
theorem auW:bytesOf (bs [47])=[47]:=rfl
theorem akc {s:ByteArray}(hs:s.size≤100000):xd s (bs [47])=some (match fs (bytesOf s) with
  |none=>(s,ByteArray.empty,false)
  |some k=>(s.extract 0 k,s.extract (k+1) s.size,true)):=by
 have hi:jU s (bs [47])=some (match fs (bytesOf s) with
  |none=> -1
  |some k=>((k:Nat):Int)):=by
  rw[BT,uJ]
  have e1:((bs [47]).size:Int)=1:=rfl
  rw[e1,ko (by omega),WD, ]
  by_cases hq:bs [47]=s
  ·subst hq
   rw[decide_eq_true rfl,cT,auW]
   rfl
  ·rw[decide_eq_false hq,cF,ur rfl]
   have e2:uw (bs [47]) 0=some 47:=rfl
   rw[e2,bS,aaj,bS]
 rw[LN,Hh,EO,yM,hi,bS]
 cases hf:fs (bytesOf s) with
 |none=>simp only;rw[tu (by omega),bS]
 |some k=>
  have hk:=ane hf
  rw[bz] at hk
  simp only
  have e1:((bs [47]).size:Int)=1:=rfl
  rw[e1,tt (by omega),JX (by omega) (by omega) (by omega),i64_in _ (by omega),JX (by omega) (by omega) (by omega),bS]
  have e2:((k:Int)+1).toNat=k+1:=by omega
  have e3:((k:Int)).toNat=k:=by omega
  have e4:((s.size:Int)).toNat=s.size:=by omega
  rw[e2,e3,e4]
  rfl
theorem aem {s:ByteArray}(hs:s.size≤100000):∀(m i:Nat),m+i=s.size→ab3 s i=some (match fs ((bytesOf s).drop i) with
  |none=>(s,bs [49],false)
  |some k=>(s.extract 0 (i+k),s.extract (i+k+1) s.size,true)):=by
 intro m
 induction m with
 |zero=>
  intro i hi
  have hl:=bz s
  rw[pI,lZ,az (by omega),List.drop_eq_nil_of_le (by omega)]
  rfl
 |succ m ih=>
  intro i hi
  have hl:=bz s
  have hd:(bytesOf s).drop i=(bytesOf s).getD i 0::(bytesOf s).drop (i+1):=drop_eq (by omega)
  rw[pI,lZ,aB (by omega),Br,eL (by omega) (by omega),hd]
  have e0:((i:Int)).toNat=i:=by omega
  simp only[e0,fs]
  by_cases hc:(bytesOf s).getD i 0=47
  ·rw[ur hc,JX (by omega) (by omega) (by omega),i64_in _ (by omega),JX (by omega) (by omega) (by omega),if_pos hc]
   have e2:((i:Int)+1).toNat=i+1:=by omega
   have e4:((s.size:Int)).toNat=s.size:=by omega
   rw[e2,e4]
   rfl
  ·have e1:(i:Int)+1=((i+1:Nat):Int):=by omega
   rw[ko hc,i64_in _ (by omega),e1,ih (i+1) (by omega),if_neg hc]
   cases fs ((bytesOf s).drop (i+1)) with
   |none=>rfl
   |some k=>
    show some (s.extract 0 (i+1+k),s.extract (i+1+k+1) s.size,true)=some (s.extract 0 (i+(k+1)),s.extract (i+(k+1)+1) s.size,true)
    have e:i+1+k=i+(k+1):=by omega
    rw[e]
theorem WK {s:ByteArray}(hs:s.size≤100000):dp s=some (match fs (bytesOf s) with
  |none=>(s,bs [49],false)
  |some k=>(s.extract 0 k,s.extract (k+1) s.size,true)):=by
 rw[C8,wD]
 have:=aem hs s.size 0 (by omega)
 simp only[List.drop_zero,Nat.zero_add] at this
 exact this
theorem xX {s:ByteArray}(h:hU (bytesOf s)=true):s=ju (numOf (bytesOf s)):=tv (by rw[fk];exact WE h)
theorem WL (z:Int):hU (bytesOf (ju z))=true:=by rw[fk];exact(T1 z).1
theorem M6 (z:Int):numOf (bytesOf (ju z))=z:=by rw[fk];exact(T1 z).2
theorem GS (z:Int):nd z≤(ju z).size:=by rw[ace];omega
theorem My (z:Int):Ln z≤nd z:=by
 rw[IS]
 have h1:1≤nd z:=by
  have:=tz z.natAbs
  unfold nd;omega
 have h:=(lb z (nd z) h1).1 (Nat.le_refl _)
 exact Nat.lt_of_lt_of_le h (Nat.pow_le_pow_left (by omega) _)
inductive Rt:ByteArray→Int→Int→Prop
 |whole (n:Int):Rt (ju n) n 1
 |ahA {s:ByteArray} {k:Nat} {n d:Int} (hk:fs (bytesOf s)=some k) (h1:s.extract 0 k=ju n) (h2:s.extract (k+1) s.size=ju d) (hn:n≠0) (hd:2≤d) (hg:Int.gcd n d=1):Rt s n d
def zE (s:ByteArray):Bool:=match fs (bytesOf s) with
 |none=>hU (bytesOf s)
 |some k=>hU (bytesOf (s.extract 0 k))&&hU (bytesOf (s.extract (k+1) s.size))&& !(numOf (bytesOf (s.extract 0 k))==0)&&decide (2≤numOf (bytesOf (s.extract (k+1) s.size)))&&(Int.gcd (numOf (bytesOf (s.extract 0 k))) (numOf (bytesOf (s.extract (k+1) s.size)))==1)
theorem ahB {l:List Int}(h:∀x∈l,x≠47):fs l=none:=by
 induction l with
 |nil=>rfl
 |cons x r ih=>simp only[fs];rw[if_neg (h x (by simp)),ih fun y hy=>h y (by simp[hy])];rfl
theorem aak (z:Int):fs (bytesOf (ju z))=none:=by
 rw[fk]
 refine ahB fun x hx=> ?_
 unfold u6 at hx
 rcases List.mem_append.1 hx with hx |hx
 ·split at hx
  ·simp at hx;omega
  ·cases hx
 ·have:=tw _ x hx;omega
theorem IW {s:ByteArray}:zE s=true↔∃n d,Rt s n d:=by
 constructor
 ·intro h
  unfold zE at h
  cases hf:fs (bytesOf s) with
  |none=>
   rw[hf] at h
   exact⟨numOf (bytesOf s),1,by have:=Rt.whole (numOf (bytesOf s));rw[←xX h] at this;exact this⟩
  |some k=>
   rw[hf] at h
   simp only[Bool.and_eq_true,decide_eq_true_eq,Bool.not_eq_true',beq_eq_false_iff_ne,beq_iff_eq] at h
   obtain⟨⟨⟨⟨h1,h2⟩,h3⟩,h4⟩,h5⟩:=h
   exact⟨_,_,Rt.ahA hf (xX h1) (xX h2) h3 h4 h5⟩
 ·rintro ⟨n,d,h⟩
  unfold zE
  cases h with
  |whole=>rw[aak];exact WL _
  |ahA hk h1 h2 hn hd hg=>
   rw[hk]
   simp only[h1,h2,WL,M6,hg,Bool.and_eq_true,decide_eq_true_eq,Bool.not_eq_true',beq_eq_false_iff_ne,beq_iff_eq]
   exact⟨⟨⟨⟨trivial,trivial⟩,hn⟩,hd⟩,trivial⟩
theorem extract_size (s:ByteArray)(a b:Nat):(s.extract a b).size≤s.size:=by
 rw[ByteArray.size_extract];omega
theorem Rt.bounds {s:ByteArray}{n d:Int}(h:Rt s n d)(hs:s.size≤1000):nd n≤1000∧nd d≤1000∧0<d:=by
 cases h with
 |whole=>exact⟨by have:=GS n;omega,by have:=RD (x:=1) (by decide);omega,by omega⟩
 |ahA hk h1 h2 hn hd hg=>
  refine⟨?_, ?_,by omega⟩
  ·have e1:=GS n;rw[←h1] at e1;exact Nat.le_trans e1 (Nat.le_trans (extract_size s _ _) hs)
  ·have e1:=GS d;rw[←h2] at e1;exact Nat.le_trans e1 (Nat.le_trans (extract_size s _ _) hs)
def u7 (s:ByteArray):Int×Int:=match fs (bytesOf s) with
 |none=>(numOf (bytesOf s),1)
 |some k=>(numOf (bytesOf (s.extract 0 k)),numOf (bytesOf (s.extract (k+1) s.size)))
theorem Rt.val {s:ByteArray}{n d:Int}(h:Rt s n d):u7 s=(n,d):=by
 unfold u7
 cases h with
 |whole=>rw[aak,M6]
 |ahA hk h1 h2 hn hd hg=>rw[hk];simp only[h1,h2,M6]
abbrev WR (n d:Int):(Bool×List Int×Unit)×(Bool×List Int×Unit)×Unit:=(W n,(W d,()))
theorem akd:AA 1=some (W 1):=YM (by omega) (by omega)
theorem ake:Ln 1≤100000000000:=by have:=My 1;have:=RD (x:=1) (by decide);omega
theorem YX {s:ByteArray}{n d:Int}(hs:s.size≤1000)(h:Rt s n d):jD s=some (WR n d,true):=by
 obtain⟨b1,b2,b3⟩:=h.bounds hs
 have l1:=My n
 have l2:=My d
 rw[EB,Bb,akc (by omega),bS]
 cases h with
 |whole=>
  rw[aak]
  simp only
  rw[xW (by omega),WL,cT,bS,M6]
  simp only
  rw[Bool.not_true,cF,Bool.not_false,cT,akd,bS]
 |ahA hk h1 h2 hn hd hg=>
  rw[hk]
  simp only
  rw[h1,xW (by have:=GS n;rw[←h1] at this ⊢;exact Nat.le_trans (extract_size s _ _) (by omega)),WL,cT,bS,M6]
  simp only
  rw[Bool.not_true,cF,cF,h2,xW (by rw[←h2];exact Nat.le_trans (extract_size s _ _) (by omega)),WL,cT,bS,M6]
  simp only
  rw[Bool.not_true,cF,GP,zy,bS]
  have hs0:¬ad6 n=0:=by unfold ad6;split<;>(try split)<;>omega
  rw[ko hs0,akd,bS]
  simp only[GP]
  rw[oV (by omega) ake,bS,zx (by omega),WC (by omega),IV (by omega) (by omega),bS,hg,bS]
  simp only[GP]
  have e1:((1:Nat):Int)=1:=rfl
  rw[e1,oV ake ake,bS,Rx rfl,pe rfl]
theorem YY {s:ByteArray}(hs:s.size≤1000)(h:zE s=false):∃j,jD s=some (j,false):=by
 rw[EB,Bb,akc (by omega),bS]
 unfold zE at h
 cases hf:fs (bytesOf s) with
 |none=>
  rw[hf] at h
  simp only at h ⊢
  rw[xW (by omega),h,cF,bS]
  simp only
  rw[Bool.not_false,cT,akd,bS]
  exact⟨_,rfl⟩
 |some k=>
  rw[hf] at h
  simp only at h ⊢
  have q1:=extract_size s 0 k
  have q2:=extract_size s (k+1) s.size
  rw[xW (by omega)]
  by_cases o1:hU (bytesOf (s.extract 0 k))=true
  ·rw[o1,cT,bS]
   simp only
   rw[Bool.not_true,cF,cF,xW (by omega)]
   by_cases o2:hU (bytesOf (s.extract (k+1) s.size))=true
   ·rw[o2,cT,bS]
    simp only
    have s1:=xX o1
    have s2:=xX o2
    rw[o1,o2] at h
    generalize numOf (bytesOf (s.extract 0 k))=n at h s1 ⊢
    generalize numOf (bytesOf (s.extract (k+1) s.size))=d at h s2 ⊢
    have b1:=GS n
    have b2:=GS d
    rw[←s1] at b1
    rw[←s2] at b2
    have l1:=My n
    have l2:=My d
    rw[Bool.not_true,cF,GP,zy,bS]
    by_cases hn:n=0
    ·rw[ur (by subst hn;rfl)];exact⟨_,rfl⟩
    ·have hs0:¬ad6 n=0:=by unfold ad6;split<;>(try split)<;>omega
     rw[ko hs0,akd,bS]
     simp only[GP]
     rw[oV (by omega) ake,bS]
     by_cases hd:2≤d
     ·rw[zx (by omega),WC (by omega),IV (by omega) (by omega),bS,bS]
      simp only[GP]
      have hg:¬Int.gcd n d=1:=fun e=>by
       rw[Mq hn,e,decide_eq_true hd] at h
       cases h
      have lg:Ln ((Int.gcd n d:Nat):Int)≤Ln n:=al0 (by
       have h1:Int.gcd n d ∣ n.natAbs:=Nat.gcd_dvd_left _ _
       simp only[Int.natAbs_natCast]
       exact Nat.le_of_dvd (by omega) h1)
      rw[oV (by omega) ake,bS,Cj (by unfold tX;split<;>(try split)<;>omega)]
      exact⟨_,rfl⟩
     ·rw[OF (by unfold tX;split<;>(try split)<;>omega)];exact⟨_,rfl⟩
   ·have o2':hU (bytesOf (s.extract (k+1) s.size))=false:=by simpa using o2
    rw[o2',cF,bS]
    simp only
    rw[Bool.not_false,cT]
    exact⟨_,rfl⟩
  ·have o1':hU (bytesOf (s.extract 0 k))=false:=by simpa using o1
   rw[o1',cF,bS]
   simp only
   rw[Bool.not_false,cT,akd,bS]
   exact⟨_,rfl⟩
theorem al9 {n d:Int}(h1:nd n≤1000)(h2:nd d≤1000):oq (WR n d)=some false:=by
 have l1:=My n
 have l2:=My d
 have e1:YQ n=false:=by unfold YQ;exact decide_eq_false (by omega)
 have e2:YQ d=false:=by unfold YQ;exact decide_eq_false (by omega)
 rw[Gk,AM]
 simp only[GP]
 rw[GQ (by omega),bS,e1,cF,GQ (by omega),bS,e2]
theorem WM {s:ByteArray}(hs:s.size≤1000):xb s=some (zE s):=by
 rw[LM,Hd,Ot,JH]
 cases h:zE s with
 |true=>
  obtain⟨n,d,hr⟩:=IW.1 h
  obtain⟨b1,b2,b3⟩:=hr.bounds hs
  rw[YX hs hr,bS]
  simp only
  rw[cT]
  simp only[GP]
  rw[al9 b1 b2,bS,bS]
  rfl
 |false=>
  obtain⟨j,hj⟩:=YY hs h
  rw[hj,bS]
  simp only
  rw[cF,bS]
theorem akf {n d:Int}(hd:0<d):kO (WR n d)=some (W d):=by
 rw[Ic,CA]
 simp only[GP]
 rw[zy,bS,ko (by unfold ad6;split<;>(try split)<;>omega)]
theorem aot {n d m k:Int}(h1:nd n≤1000)(h2:nd d≤1000)(h3:nd m≤1000)(h4:nd k≤1000)(hd:0<d)(hk:0<k):qD (WR n d) (WR m k)=some (tX (n*k) (m*d)):=by
 have l1:=My n
 have l2:=My d
 have l3:=My m
 have l4:=My k
 have l5:=ajU n k
 have l6:=ajU m d
 rw[HZ,Cx]
 simp only[GP]
 rw[akf hk,bS]
 simp only[GP]
 rw[IT (by omega) (by omega),bS,akf hd,bS]
 simp only[GP]
 rw[IT (by omega) (by omega),bS,oV (by omega) (by omega),bS]
theorem S6 {s:ByteArray}{z:Int}(h:hU (bytesOf s)=true)(e:numOf (bytesOf s)=z):s=ju z:=by rw[←e];exact xX h
theorem akg:bs [49]=ju 1:=S6 rfl rfl
theorem arq:bs [50]=ju 2:=S6 rfl rfl
theorem aou:bs [48]=ju 0:=S6 rfl rfl
theorem ama {s:ByteArray}(hs:s.size≤1000):qF s=some (zE s):=by
 rw[Io,CK,WK (by omega),bS]
 unfold zE
 cases hf:fs (bytesOf s) with
 |none=>
  simp only
  rw[S4 (show zA s by unfold zA;omega),bS]
  cases hU (bytesOf s) with
  |true=>rw[Bool.not_true,cF,Bool.not_false,cT]
  |false=>rw[Bool.not_false,cT]
 |some k=>
  have q1:=extract_size s 0 k
  have q2:=extract_size s (k+1) s.size
  simp only
  rw[S4 (show zA (s.extract 0 k) by unfold zA;omega),bS]
  cases o1:hU (bytesOf (s.extract 0 k)) with
  |false=>rw[Bool.not_false,cT];rfl
  |true=>
   rw[Bool.not_true,cF,cF,S4 (show zA (s.extract (k+1) s.size) by unfold zA;omega),bS]
   cases o2:hU (bytesOf (s.extract (k+1) s.size)) with
   |false=>rw[cF];rfl
   |true=>
    have s1:=xX o1
    have s2:=xX o2
    have b1:=GS (numOf (bytesOf (s.extract 0 k)))
    have b2:=GS (numOf (bytesOf (s.extract (k+1) s.size)))
    rw[←s1] at b1
    rw[←s2] at b2
    rw[cT]
    generalize numOf (bytesOf (s.extract 0 k))=n at s1 b1 ⊢
    generalize numOf (bytesOf (s.extract (k+1) s.size))=d at s2 b2 ⊢
    rw[s1,s2,aou,akg,arq,M5]
    by_cases hn:n=0
    ·rw[decide_eq_true hn,Bool.not_true,cF,afM hn]
     simp
    ·rw[decide_eq_false hn,Bool.not_false,cT,Mq hn,Mx (FJ (k:=1000) (by omega) (by omega)) (akb (by decide)),bS]
     by_cases hd:2≤d
     ·rw[tt (by unfold tX;split<;>(try split)<;>omega),acx (FJ (k:=1000) (by omega) (by omega)) (FJ (k:=1000) (by omega) (by omega)),bS,M5,decide_eq_true hd]
      congr 1
      simp only[Bool.not_false,Bool.and_true,Bool.true_and]
      rw[Bool.eq_iff_iff,decide_eq_true_eq,beq_iff_eq]
      omega
     ·rw[tu (by rw[vV (by omega)];omega),decide_eq_false hd]
      simp
theorem ahC (l:List Int):(bP l).length≤l.length:=by
 unfold bP;split
 ·rw[List.length_tail];omega
 ·exact Nat.le_refl _
theorem U1 {s:ByteArray}(hs:s.size≤1000):kc s=some false:=by
 rw[aj6 (show zA s by unfold zA;omega)]
 have:=ahC (bytesOf s)
 rw[bz] at this
 congr 1
 exact decide_eq_false (by omega)
theorem aen {s:ByteArray}(hs:s.size≤1000):mN s=some false:=by
 rw[EW,yZ,WK (by omega),bS]
 cases hf:fs (bytesOf s) with
 |none=>
  simp only
  have e:(bs [49]).size=1:=rfl
  rw[U1 hs,bS,cF,U1 (by rw[e];omega),bS]
 |some k=>
  have q1:=extract_size s 0 k
  have q2:=extract_size s (k+1) s.size
  simp only
  rw[U1 (by omega),bS,cF,U1 (by omega),bS]
theorem P6 {s:ByteArray}(hs:s.size≤1000):dW s=some (zE s):=by
 rw[C7,wC,aen hs,bS,Bool.not_false,cT,ama hs,bS]
theorem Rt.split {s:ByteArray}{n d:Int}(h:Rt s n d)(hs:s.size≤1000):∃b,dp s=some (ju n,ju d,b):=by
 rw[WK (by omega)]
 cases h with
 |whole=>rw[aak];exact⟨false,by simp only;rw[akg]⟩
 |ahA hk h1 h2 hn hd hg=>rw[hk];exact⟨true,by simp only[h1,h2]⟩
theorem Rt.akh {s:ByteArray}{n d:Int}(h:Rt s n d):(s.toList==(bs [105,110,102]).toList)=false:=by
 rw[WD]
 refine decide_eq_false fun e=> ?_
 have h2:=IW.2 ⟨n,d,h⟩
 rw[e] at h2
 exact absurd h2 (by decide)
theorem RG {a b:ByteArray}{n d m k:Int}(h:Rt a n d)(g:Rt b m k)(ha:a.size≤1000)(hb:b.size≤1000):bD a b=some (tX (n*k) (m*d)):=by
 obtain⟨a1,a2,a3⟩:=h.bounds ha
 obtain⟨b1,b2,b3⟩:=g.bounds hb
 obtain⟨x,hx⟩:=h.split ha
 obtain⟨y,hy⟩:=g.split hb
 have p1:=aj5 n k
 have p2:=aj5 m d
 rw[z6,s7,h.akh,cF,cF,g.akh,cF,hx,bS,hy,bS]
 simp only
 rw[akg,M5,M5]
 have S5:((gz (ju n) (ju k)).bind fun r12=>(gz (ju m) (ju d)).bind fun r13=>(cg r12 r13).bind fun r14=>some r14)=some (tX (n*k) (m*d)):=by
  rw[YW (FJ (k:=1000) (by omega) (by omega)) (FJ (k:=1000) (by omega) (by omega)),bS,YW (FJ (k:=1000) (by omega) (by omega)) (FJ (k:=1000) (by omega) (by omega)),bS,Mx (FJ (k:=3000) (by omega) (by omega)) (FJ (k:=3000) (by omega) (by omega)),bS]
 by_cases h1:d=1
 ·rw[decide_eq_true h1,cT]
  by_cases h2:k=1
  ·rw[decide_eq_true h2,cT,Mx (FJ (k:=1000) (by omega) (by omega)) (FJ (k:=1000) (by omega) (by omega)),bS,h1,h2,Int.mul_one,Int.mul_one]
  ·rw[decide_eq_false h2,cF];exact S5
 ·rw[decide_eq_false h1,cF];exact S5
end Go.Proofs.YtofjebmoebhiiaaGreatDoor.Ev
namespace Go.Abs
abbrev Tm:=Int×Int×Unit
abbrev Tr2:=Int×(Int×Int×Unit)×Unit
theorem O7 {α:Type}{a:α}{r:List α}:idx (a::r) 0=some a:=rfl
theorem ahD {α:Type}{a:α}{r:List α}{n:Int}(h:n=((a::r).length:Int)):cut (a::r) 1 n=r:=by
 subst h;simp[cut]
theorem qA {α:Type}(d:α){l:List α}{k:Nat}(h:k<l.length):l.drop k=l.getD k d::l.drop (k+1):=by
 rw[List.drop_eq_getElem_cons h]
 simp[List.getD,h]
theorem WN {α β:Type}(d:α){xs:List α}{i:Int}{f:α→Option β}(h0:0≤i)(h:i<xs.length):(idx xs i).bind f=f (xs.getD i.toNat d):=by
 rw[afN d h0 h];exact bS _ _
theorem iT {α β:Type}(d:α){xs:List α}{k:Nat}{f:α→Option β}(h:k<xs.length):(idx xs (k:Int)).bind f=f (xs.getD k d):=by
 rw[afN d (by omega) (by omega),Int.toNat_natCast];exact bS _ _
def cf:List Tm→Int→Int
 | [],_=>0
 |t::r,i=>if t.1=i then t.2.1 else cf r i
theorem WO (i:Int):cf [] i=0:=rfl
theorem M7 (t:Tm)(r:List Tm)(i:Int):cf (t::r) i=if t.1=i then t.2.1 else cf r i:=rfl
def Sr:Int→List Tm→Prop
 |_,[]=>True
 |lo,t::r=>lo<t.1∧Sr t.1 r
theorem Sr.mono {lo lo':Int}{l:List Tm}(h:Sr lo l)(g:lo'≤lo):Sr lo' l:=by
 cases l with
 |nil=>trivial
 |cons t r=>exact⟨by have:=h.1;omega,h.2⟩
theorem Sr.cf0:∀{l:List Tm} {lo i:Int},Sr lo l→i≤lo→cf l i=0
 | [],lo,i,h,hi=>rfl
 |t::r,lo,i,h,hi=>by
  have h1:=h.1
  rw[cf,if_neg (by omega)]
  exact Sr.cf0 h.2 (by omega)
theorem Sr.mem:∀{l:List Tm} {lo:Int},Sr lo l→∀t∈l,lo<t.1
 |u::r,lo,h,t,ht=>by
  rcases List.mem_cons.1 ht with rfl |ht
  ·exact h.1
  ·have:=Sr.mem h.2 t ht;have:=h.1;omega
structure Vc (p n:Int) (l:List Tm):Prop where
 s:Sr (-1) l
 r:∀t∈l,t.1<n∧1≤t.2.1∧t.2.1<p
def Cp (p:Int)(l:List Tm):Prop:=∀t∈l,1≤t.2.1∧t.2.1<p
theorem Vc.c {p n:Int}{l:List Tm}(h:Vc p n l):Cp p l:=fun t ht=>(h.r t ht).2
theorem Vc.nil {p n:Int}:Vc p n []:=⟨trivial,fun t ht=>by cases ht⟩
theorem Vc.mono {p n m:Int}{l:List Tm}(h:Vc p n l)(g:n≤m):Vc p m l:=⟨h.s,fun t ht=>by have:=h.r t ht;omega⟩
theorem RH {p:Int}(hp:0<p):∀{l:List Tm},Cp p l→∀i,0≤cf l i∧cf l i<p
 | [],h,i=>⟨by simp[cf],by simpa [cf] using hp⟩
 |t::r,h,i=>by
  have h1:=h t (by simp)
  have h2:=RH hp (l:=r) (fun u hu=>h u (by simp[hu])) i
  rw[cf];split
  ·omega
  ·exact h2
theorem Mz:∀{l:List Tm} {lo:Int},Sr lo l→∀t∈l,cf l t.1=t.2.1
 |u::r,lo,h,t,ht=>by
  rcases List.mem_cons.1 ht with rfl |ht
  ·rw[cf,if_pos rfl]
  ·have:=Sr.mem h.2 t ht
   rw[cf,if_neg (by omega)]
   exact Mz h.2 t ht
theorem ang:∀{l:List Tm} {i:Int},cf l i≠0→∃t∈l,t.1=i
 | [],i,h=>by simp[cf] at h
 |t::r,i,h=>by
  rw[cf] at h
  split at h
  ·rename_i e;exact⟨t,by simp,e⟩
  ·obtain⟨u,hu,e⟩:=ang h;exact⟨u,by simp[hu],e⟩
theorem Sr.ext:∀{a b:List Tm} {lo p:Int},Sr lo a→Sr lo b→Cp p a→Cp p b→(∀i,cf a i=cf b i)→a=b
 | [],[],_,_,_,_,_,_,_=>rfl
 | [],t::r,lo,p,ha,hb,ca,cb,h=>by
   have:=h t.1;rw[WO,M7,if_pos rfl] at this
   have h1:=cb t (by simp)
   omega
 |t::r,[],lo,p,ha,hb,ca,cb,h=>by
  have:=h t.1;rw[WO,M7,if_pos rfl] at this
  have h1:=ca t (by simp)
  omega
 |t::r,u::s,lo,p,ha,hb,ca,cb,h=>by
  have h1:=ca t (by simp)
  have h2:=cb u (by simp)
  have e:t.1=u.1:=by
   rcases Int.lt_trichotomy t.1 u.1 with hl |hl |hl
   ·have:=h t.1
    rw[cf,if_pos rfl,cf,if_neg (by omega),Sr.cf0 hb.2 (by omega)] at this
    omega
   ·exact hl
   ·have:=h u.1
    rw[cf,if_neg (by omega),Sr.cf0 ha.2 (by omega),cf,if_pos rfl] at this
    omega
  have e2:t.2.1=u.2.1:=by
   have:=h t.1
   rw[cf,if_pos rfl,cf,if_pos e.symm] at this
   exact this
  have e3:r=s:=by
   refine Sr.ext (lo:=t.1) ha.2 (by rw[e];exact hb.2) (fun x hx=>ca x (by simp[hx])) (fun x hx=>cb x (by simp[hx])) fun i=> ?_
   have:=h i
   rw[cf,cf] at this
   by_cases hi:t.1=i
   ·rw[Sr.cf0 ha.2 (by omega),Sr.cf0 hb.2 (by omega)]
   ·rw[if_neg hi,if_neg (by omega)] at this
    exact this
  obtain⟨t1,t2,t3⟩:=t
  obtain⟨u1,u2,u3⟩:=u
  simp only at e e2
  subst e e2 e3
  rfl
def mg:List Tm→List Tm→List Tr2
 | [],[]=>[]
 |a::r,[]=>(a.1,((a.2.1,((0:Int),())),()))::mg r []
 | [],b::s=>(b.1,(((0:Int),(b.2.1,())),()))::mg [] s
 |a::r,b::s=>if a.1<b.1 then (a.1,((a.2.1,((0:Int),())),()))::mg r (b::s)
  else if b.1<a.1 then (b.1,(((0:Int),(b.2.1,())),()))::mg (a::r) s
  else (a.1,((a.2.1,(b.2.1,())),()))::mg r s
termination_by a b=>a.length+b.length
def fl (p k:Int):List Tr2→List Tm
 | []=>[]
 |x::r=>if (x.2.1.1+k*x.2.1.2.1) % p≠0 then (x.1,((x.2.1.1+k*x.2.1.2.1) % p,()))::fl p k r else fl p k r
def xY (p:Int)(a:List Tm)(k:Int)(b:List Tm):List Tm:=fl p k (mg a b)
theorem RI {p k:Int}{x:Tr2}{r:List Tr2}{lo:Int}(hlo:lo<x.1)(hr:Sr x.1 (fl p k r)):
  Sr lo (fl p k (x::r))∧∀i,cf (fl p k (x::r)) i=if x.1=i then (x.2.1.1+k*x.2.1.2.1) % p else cf (fl p k r) i:=by
 rw[fl]
 split
 ·exact⟨⟨hlo,hr⟩,fun i=>by rw[cf]⟩
 ·rename_i h
  refine⟨hr.mono (by omega),fun i=> ?_⟩
  split
  ·rename_i e;rw[Sr.cf0 hr (by omega)];omega
  ·rfl
theorem amb {p k:Int}(hp:0<p):∀(a b:List Tm) (lo:Int),Sr lo a→Sr lo b→Cp p a→
  Sr lo (xY p a k b)∧∀i,cf (xY p a k b) i=(cf a i+k*cf b i) % p:=by
 intro a b
 induction a,b using mg.induct with
 |case1=>intro lo ha hb ca;exact⟨by unfold xY;rw[mg];trivial,fun i=>by simp[xY,mg,fl,cf]⟩
 |case2 a r ih=>
  intro lo ha hb ca
  obtain⟨h1,h2⟩:=ih a.1 ha.2 trivial fun t ht=>ca t (by simp[ht])
  unfold xY at h1 h2 ⊢
  rw[mg]
  obtain⟨g1,g2⟩:=RI (p:=p) (k:=k) (x:=(a.1,((a.2.1,((0:Int),())),()))) (lo:=lo) ha.1 h1
  refine⟨g1,fun i=> ?_⟩
  rw[g2,h2,cf]
  simp only[cf,Int.mul_zero,Int.add_zero]
  split<;>rfl
 |case3 b s ih=>
  intro lo ha hb ca
  obtain⟨h1,h2⟩:=ih b.1 trivial hb.2 fun t ht=>ca t ht
  unfold xY at h1 h2 ⊢
  rw[mg]
  obtain⟨g1,g2⟩:=RI (p:=p) (k:=k) (x:=(b.1,(((0:Int),(b.2.1,())),()))) (lo:=lo) hb.1 h1
  refine⟨g1,fun i=> ?_⟩
  rw[g2,h2]
  simp only[cf,Int.zero_add]
  split<;>rfl
 |case4 a r b s hlt ih=>
  intro lo ha hb ca
  obtain⟨h1,h2⟩:=ih a.1 ha.2 ⟨hlt,hb.2⟩ fun t ht=>ca t (by simp[ht])
  unfold xY at h1 h2 ⊢
  rw[mg,if_pos hlt]
  obtain⟨g1,g2⟩:=RI (p:=p) (k:=k) (x:=(a.1,((a.2.1,((0:Int),())),()))) (lo:=lo) ha.1 h1
  refine⟨g1,fun i=> ?_⟩
  rw[g2,h2,M7 a r i]
  simp only[Int.mul_zero,Int.add_zero]
  split
  ·rename_i e;rw[Sr.cf0 (lo:=a.1) (l:=b::s) ⟨hlt,hb.2⟩ (by omega),Int.mul_zero,Int.add_zero]
  ·rfl
 |case5 a r b s hlt hgt ih=>
  intro lo ha hb ca
  obtain⟨h1,h2⟩:=ih b.1 ⟨hgt,ha.2⟩ hb.2 ca
  unfold xY at h1 h2 ⊢
  rw[mg,if_neg hlt,if_pos hgt]
  obtain⟨g1,g2⟩:=RI (p:=p) (k:=k) (x:=(b.1,(((0:Int),(b.2.1,())),()))) (lo:=lo) hb.1 h1
  refine⟨g1,fun i=> ?_⟩
  rw[g2,h2,M7 b s i]
  simp only[Int.zero_add]
  split
  ·rename_i e;rw[Sr.cf0 (lo:=b.1) (l:=a::r) ⟨hgt,ha.2⟩ (by omega),Int.zero_add]
  ·rfl
 |case6 a r b s hlt hgt ih=>
  intro lo ha hb ca
  have e:a.1=b.1:=by omega
  obtain⟨h1,h2⟩:=ih a.1 ha.2 (by rw[e];exact hb.2) fun t ht=>ca t (by simp[ht])
  unfold xY at h1 h2 ⊢
  rw[mg,if_neg hlt,if_neg hgt]
  obtain⟨g1,g2⟩:=RI (p:=p) (k:=k) (x:=(a.1,((a.2.1,(b.2.1,())),()))) (lo:=lo) ha.1 h1
  refine⟨g1,fun i=> ?_⟩
  rw[g2,h2,cf,cf, ←e]
  split<;>rfl
theorem aeo {p k:Int}(hp:0<p):∀{l:List Tr2} {t:Tm},t∈fl p k l→(1≤t.2.1∧t.2.1<p)∧∃x∈l,x.1=t.1
 |x::r,t,h=>by
  rw[fl] at h
  split at h
  ·rename_i hne
   rcases List.mem_cons.1 h with rfl |h
   ·have h1:=Int.emod_nonneg (x.2.1.1+k*x.2.1.2.1) (show p≠0 by omega)
    have h2:=Int.emod_lt_of_pos (x.2.1.1+k*x.2.1.2.1) hp
    exact⟨⟨by simp only;omega,h2⟩,x,by simp,rfl⟩
   ·obtain⟨h1,y,hy,e⟩:=aeo hp h
    exact⟨h1,y,by simp[hy],e⟩
  ·obtain⟨h1,y,hy,e⟩:=aeo hp h
   exact⟨h1,y,by simp[hy],e⟩
theorem aov:∀(a b:List Tm) (x:Tr2),x∈mg a b→(∃t∈a,t.1=x.1)∨∃t∈b,t.1=x.1:=by
 intro a b
 induction a,b using mg.induct with
 |case1=>intro x h;rw[mg] at h;cases h
 |case2 a r ih=>
  intro x h
  rw[mg] at h
  rcases List.mem_cons.1 h with rfl |h
  ·exact .inl ⟨a,by simp,rfl⟩
  ·rcases ih x h with ⟨t,ht,e⟩ | ⟨t,ht,e⟩
   ·exact .inl ⟨t,by simp[ht],e⟩
   ·exact .inr ⟨t,ht,e⟩
 |case3 b s ih=>
  intro x h
  rw[mg] at h
  rcases List.mem_cons.1 h with rfl |h
  ·exact .inr ⟨b,by simp,rfl⟩
  ·rcases ih x h with ⟨t,ht,e⟩ | ⟨t,ht,e⟩
   ·exact .inl ⟨t,ht,e⟩
   ·exact .inr ⟨t,by simp[ht],e⟩
 |case4 a r b s hlt ih=>
  intro x h
  rw[mg,if_pos hlt] at h
  rcases List.mem_cons.1 h with rfl |h
  ·exact .inl ⟨a,by simp,rfl⟩
  ·rcases ih x h with ⟨t,ht,e⟩ | ⟨t,ht,e⟩
   ·exact .inl ⟨t,by simp[ht],e⟩
   ·exact .inr ⟨t,ht,e⟩
 |case5 a r b s hlt hgt ih=>
  intro x h
  rw[mg,if_neg hlt,if_pos hgt] at h
  rcases List.mem_cons.1 h with rfl |h
  ·exact .inr ⟨b,by simp,rfl⟩
  ·rcases ih x h with ⟨t,ht,e⟩ | ⟨t,ht,e⟩
   ·exact .inl ⟨t,ht,e⟩
   ·exact .inr ⟨t,by simp[ht],e⟩
 |case6 a r b s hlt hgt ih=>
  intro x h
  rw[mg,if_neg hlt,if_neg hgt] at h
  rcases List.mem_cons.1 h with rfl |h
  ·exact .inl ⟨a,by simp,rfl⟩
  ·rcases ih x h with ⟨t,ht,e⟩ | ⟨t,ht,e⟩
   ·exact .inl ⟨t,by simp[ht],e⟩
   ·exact .inr ⟨t,by simp[ht],e⟩
theorem M8 {p k n:Int}(hp:0<p){a b:List Tm}(ha:Vc p n a)(hb:Vc p n b):Vc p n (xY p a k b)∧∀i,cf (xY p a k b) i=(cf a i+k*cf b i) % p:=by
 obtain⟨h1,h2⟩:=amb (k:=k) hp a b (-1) ha.s hb.s ha.c
 refine⟨⟨h1,fun t ht=> ?_⟩,h2⟩
 obtain⟨g1,x,hx,e⟩:=aeo hp ht
 refine⟨?_,g1⟩
 rcases aov a b x hx with ⟨u,hu,e'⟩ | ⟨u,hu,e'⟩
 ·have:=(ha.r u hu).1;omega
 ·have:=(hb.r u hu).1;omega
end Go.Abs
namespace Go.Proofs.YtofjebmoebhiiaaGreatDoor.Ev
open Go.Abs Go.IntWalk
theorem IX {α:Type}(a:α)(r:List α):(((a::r).length:Nat):Int)=(r.length:Int)+1:=by simp
theorem acy:∀(t t2:List Tm) (trace:List Tr2),eZ t t2 trace=some (trace++mg t t2):=by
 intro t t2
 induction t,t2 using mg.induct with
 |case1=>
  intro trace
  rw[eD,dI,List.length_nil,c8 (by omega),c8 (by omega),mg,List.append_nil]
 |case2 a r ih=>
  intro trace
  rw[eD,dI,List.length_nil,IX]
  rw[cZ (by omega),ur (by omega),O7,bS,bS,JX (by omega) (by omega) (Int.le_of_eq (IX _ _).symm),ahD (IX _ _).symm,ih,mg,List.append_assoc]
  rfl
 |case3 b s ih=>
  intro trace
  rw[eD,dI,List.length_nil,IX]
  rw[c8 (by omega),cZ (by omega),ko (by omega),c8 (by omega),ur (by omega),O7,bS,bS,JX (by omega) (by omega) (Int.le_of_eq (IX _ _).symm),ahD (IX _ _).symm,ih,mg,List.append_assoc]
  rfl
 |case4 a r b s hlt ih=>
  intro trace
  rw[eD,dI,IX,IX]
  rw[cZ (by omega),ko (by omega),cZ (by omega),O7,bS,O7,bS,aB hlt,bS,bS,JX (by omega) (by omega) (Int.le_of_eq (IX _ _).symm),ahD (IX _ _).symm,ih,mg,if_pos hlt,List.append_assoc]
  rfl
 |case5 a r b s hlt hgt ih=>
  intro trace
  rw[eD,dI,IX,IX]
  rw[cZ (by omega),ko (by omega),cZ (by omega),O7,bS,O7,bS,az hlt,ko (by omega),bS,bS,aB hgt,bS,bS,JX (by omega) (by omega) (Int.le_of_eq (IX _ _).symm),ahD (IX _ _).symm,ih,mg,if_neg hlt,if_pos hgt,List.append_assoc]
  rfl
 |case6 a r b s hlt hgt ih=>
  intro trace
  rw[eD,dI,IX,IX]
  rw[cZ (by omega),ko (by omega),cZ (by omega),O7,bS,O7,bS,az hlt,ko (by omega),bS,bS,az hgt,bS,bS,bS,JX (by omega) (by omega) (Int.le_of_eq (IX _ _).symm),JX (by omega) (by omega) (Int.le_of_eq (IX _ _).symm),ahD (IX _ _).symm,ahD (IX _ _).symm,ih,mg,if_neg hlt,if_neg hgt,List.append_assoc]
  rfl
theorem S7 {p k:Int}(hp:0<p∧p≤251)(hk:0≤k∧k<p):∀(rest:List Tr2) (row:List Tm),(∀x∈rest,(0≤x.2.1.1∧x.2.1.1<p)∧0≤x.2.1.2.1∧x.2.1.2.1<p)→row.length+rest.length≤1000000000→
  jF row p k rest=some (row++fl p k rest)
 | [],row,h,hl=>by
   rw[yA,tR,fl,List.append_nil]
 |x::r,row,h,hl=>by
  obtain⟨⟨h1,h2⟩,h3,h4⟩:=h x (by simp)
  have hm:0≤k*x.2.1.2.1∧k*x.2.1.2.1≤251*251:=⟨Int.mul_nonneg (by omega) (by omega),Int.mul_le_mul (by omega) (by omega) (by omega) (by omega)⟩
  rw[yA,tR]
  simp only
  rw[i64_in (k*x.2.1.2.1) (by omega),i64_in _ (by omega),j5 (by omega),bT (by omega),fl]
  by_cases hz:(x.2.1.1+k*x.2.1.2.1) % p=0
  ·rw[pe hz,if_neg (by omega)]
   exact S7 hp hk r row (fun y hy=>h y (by simp[hy])) (by simp at hl;omega)
  ·rw[Cj hz,if_pos hz,kg (by omega) (by simp at hl;omega),S7 hp hk r _ (fun y hy=>h y (by simp[hy])) (by simp at hl ⊢;omega),List.append_assoc]
   rfl
theorem aki {p:Int}(hp:0<p):∀(a b:List Tm),Cp p a→Cp p b→∀x∈mg a b,(0≤x.2.1.1∧x.2.1.1<p)∧0≤x.2.1.2.1∧x.2.1.2.1<p:=by
 intro a b
 induction a,b using mg.induct with
 |case1=>intro ha hb x h;rw[mg] at h;cases h
 |case2 a r ih=>
  intro ha hb x h
  rw[mg] at h
  rcases List.mem_cons.1 h with rfl |h
  ·have:=ha a (by simp);simp only;omega
  ·exact ih (fun t ht=>ha t (by simp[ht])) hb x h
 |case3 b s ih=>
  intro ha hb x h
  rw[mg] at h
  rcases List.mem_cons.1 h with rfl |h
  ·have:=hb b (by simp);simp only;omega
  ·exact ih ha (fun t ht=>hb t (by simp[ht])) x h
 |case4 a r b s hlt ih=>
  intro ha hb x h
  rw[mg,if_pos hlt] at h
  rcases List.mem_cons.1 h with rfl |h
  ·have:=ha a (by simp);simp only;omega
  ·exact ih (fun t ht=>ha t (by simp[ht])) hb x h
 |case5 a r b s hlt hgt ih=>
  intro ha hb x h
  rw[mg,if_neg hlt,if_pos hgt] at h
  rcases List.mem_cons.1 h with rfl |h
  ·have:=hb b (by simp);simp only;omega
  ·exact ih ha (fun t ht=>hb t (by simp[ht])) x h
 |case6 a r b s hlt hgt ih=>
  intro ha hb x h
  rw[mg,if_neg hlt,if_neg hgt] at h
  rcases List.mem_cons.1 h with rfl |h
  ·have h1:=ha a (by simp);have h2:=hb b (by simp);simp only;omega
  ·exact ih (fun t ht=>ha t (by simp[ht])) (fun t ht=>hb t (by simp[ht])) x h
theorem ahE:∀(a b:List Tm),(mg a b).length≤a.length+b.length:=by
 intro a b
 induction a,b using mg.induct with
 |case1=>rw[mg];simp
 |case2 a r ih=>rw[mg];simp only[List.length_cons] at ih ⊢;omega
 |case3 b s ih=>rw[mg];simp only[List.length_cons] at ih ⊢;omega
 |case4 a r b s hlt ih=>rw[mg,if_pos hlt];simp only[List.length_cons] at ih ⊢;omega
 |case5 a r b s hlt hgt ih=>rw[mg,if_neg hlt,if_pos hgt];simp only[List.length_cons] at ih ⊢;omega
 |case6 a r b s hlt hgt ih=>rw[mg,if_neg hlt,if_neg hgt];simp only[List.length_cons] at ih ⊢;omega
theorem WQ {p k:Int}(hp:0<p∧p≤251)(hk:0≤k∧k<p){a b:List Tm}(ha:Cp p a)(hb:Cp p b)(hl:a.length+b.length≤1000000000):xf p a k b=some (xY p a k b):=by
 rw[LA,G7,HW,Cw,bS,Ez,yB,acy,bS]
 have:=ahE a b
 rw[List.nil_append,S7 hp hk _ _ (aki hp.1 a b ha hb) (by simp;omega)]
 rfl
def ob:Option Int→Int→Bool
 |none,_=>false
 |some q,x=>decide (x≤q)
def OI (p:Int):Option Int→List Tm→Int
 |_,[]=>0
 |q,t::r=>if t.1<0∨t.1≥1024∨t.2.1<1∨t.2.1≥p then 1 else if ob q t.1=true then 6 else OI p (some t.1) r
abbrev nY:Tm:=(0,(0,()))
def prev (c:List Tm):Nat→Option Int
 |0=>none
 |i+1=>some (c.getD i nY).1
theorem acz {p:Int}{c:List Tm}(hl:c.length≤1000000000):∀(m i:Nat),m+i=c.length→iy p c c (c.length:Int) i=some (OI p (prev c i) (c.drop i)):=by
 intro m
 induction m with
 |zero=>intro i hi;rw[wb,sh,az (by omega),List.drop_eq_nil_of_le (by omega)];rfl
 |succ m ih=>
  intro i hi
  rw[wb,sh,aB (by omega),iT nY (by omega),qA nY (by omega),OI]
  have e1:IntKind.wrap .i64 ((i:Int)+1)=((i+1:Nat):Int):=by rw[i64_in _ (by omega)];omega
  have ym:=ih (i+1) (by omega)
  have ep:prev c (i+1)=some (c.getD i nY).1:=rfl
  rw[ep] at ym
  generalize c.getD i nY=t at ym ⊢
  by_cases h1:t.1<0
  ·rw[aB h1,if_pos (.inl h1)]
  ·rw[az h1]
   by_cases h2:t.1≥1024
   ·rw[tt h2,if_pos (.inr (.inl h2))]
   ·rw[tu h2]
    by_cases h3:t.2.1<1
    ·rw[aB h3,if_pos (.inr (.inr (.inl h3)))]
    ·rw[az h3]
     by_cases h4:t.2.1≥p
     ·rw[tt h4,if_pos (.inr (.inr (.inr h4)))]
     ·rw[tu h4,if_neg (by omega),e1,ym]
      cases i with
      |zero=>rw[c8 (by omega),if_neg (by intro h;cases h)]
      |succ j=>
       have e2:IntKind.wrap .i64 (((j+1:Nat):Int) - 1)=(j:Int):=by rw[i64_in _ (by omega)];omega
       rw[cZ (by omega),e2,iT nY (by omega)]
       by_cases h5:t.1≤(c.getD j nY).1
       ·rw[OF h5,if_pos (show ob (prev c (j+1)) t.1=true from decide_eq_true h5)]
       ·rw[WC h5,if_neg (by intro h;exact h5 (of_decide_eq_true h))]
theorem aal {p:Int}{c:List Tm}(hl:c.length≤1000000000):∀(m i:Nat),m+i=c.length→gu p c i=some (OI p (prev c i) (c.drop i)):=by
 intro m
 induction m with
 |zero=>intro i hi;rw[xF,qd,az (by omega),List.drop_eq_nil_of_le (by omega)];rfl
 |succ m ih=>
  intro i hi
  have hb:∀{β:Type} {f:Tm→Option β},(idx c (i:Int)).bind f=f (c.getD i nY):=iT nY (by omega)
  rw[xF,qd,aB (by omega),hb,hb,hb,hb,hb,qA nY (by omega),OI]
  have e1:IntKind.wrap .i64 ((i:Int)+1)=((i+1:Nat):Int):=by rw[i64_in _ (by omega)];omega
  have ym:=ih (i+1) (by omega)
  have ep:prev c (i+1)=some (c.getD i nY).1:=rfl
  rw[ep] at ym
  generalize c.getD i nY=t at ym ⊢
  by_cases h1:t.1<0
  ·rw[aB h1,if_pos (.inl h1)]
  ·rw[az h1]
   by_cases h2:t.1≥1024
   ·rw[tt h2,if_pos (.inr (.inl h2))]
   ·rw[tu h2]
    by_cases h3:t.2.1<1
    ·rw[aB h3,if_pos (.inr (.inr (.inl h3)))]
    ·rw[az h3]
     by_cases h4:t.2.1≥p
     ·rw[tt h4,if_pos (.inr (.inr (.inr h4)))]
     ·rw[tu h4,if_neg (by omega),e1,ym]
      cases i with
      |zero=>rw[c8 (by omega),if_neg (by intro h;cases h)]
      |succ j=>
       have e2:IntKind.wrap .i64 (((j+1:Nat):Int) - 1)=(j:Int):=by rw[i64_in _ (by omega)];omega
       rw[cZ (by omega),e2,iT nY (by omega)]
       by_cases h5:t.1≤(c.getD j nY).1
       ·rw[OF h5,if_pos (show ob (prev c (j+1)) t.1=true from decide_eq_true h5)]
       ·rw[WC h5,if_neg (by intro h;exact h5 (of_decide_eq_true h))]
def XF (p:Int)(c:List Tm):Int:=OI p none c
theorem aep {p:Int}{c:List Tm}(hl:c.length≤1000000000):se p c=some (XF p c):=by
 rw[L4,aie]
 exact aal hl c.length 0 (by omega)
theorem acA {p:Int}:∀{c:List Tm} {q:Option Int},OI p q c=0→(∀t∈c,0≤t.1∧t.1<1024∧1≤t.2.1∧t.2.1<p)∧Sr (q.getD (-1)) c
 | [],q,h=>⟨fun t ht=>(by cases ht),trivial⟩
 |t::r,q,h=>by
  rw[OI] at h
  split at h
  ·cases h
  ·rename_i h1
   split at h
   ·cases h
   ·rename_i h2
    obtain⟨g1,g2⟩:=acA h
    refine⟨fun u hu=> ?_, ?_,g2⟩
    ·rcases List.mem_cons.1 hu with rfl |hu
     ·omega
     ·exact g1 u hu
    ·cases q with
     |none=>simp only[Option.getD_none];omega
     |some q=>
      simp only[Option.getD_some]
      have:¬t.1≤q:=fun g=>h2 (decide_eq_true g)
      omega
theorem acB {p:Int}:∀{c:List Tm} {q:Option Int},(∀t∈c,0≤t.1∧t.1<1024∧1≤t.2.1∧t.2.1<p)→Sr (q.getD (-1)) c→OI p q c=0
 | [],q,h,g=>rfl
 |t::r,q,h,g=>by
  have h1:=h t (by simp)
  have h2:=g.1
  rw[OI,if_neg (by omega),if_neg (by
   cases q with
   |none=>intro h;cases h
   |some q=>simp only[Option.getD_some] at h2;intro h;have:=of_decide_eq_true h;omega)]
  exact acB (q:=some t.1) (fun u hu=>h u (by simp[hu])) g.2
theorem MA {p:Int}{c:List Tm}:XF p c=0↔Vc p 1024 c:=by
 constructor
 ·intro h
  obtain⟨g1,g2⟩:=acA h
  exact⟨g2,fun t ht=>by have:=g1 t ht;omega⟩
 ·intro h
  refine acB (fun t ht=> ?_) h.s
  have h1:=h.r t ht
  have h2:=Sr.mem h.s t ht
  omega
end Go.Proofs.YtofjebmoebhiiaaGreatDoor.Ev
namespace Go.Proofs.YtofjebmoebhiiaaGreatDoor.Ev
open Go.Abs Go.IntWalk
def prB (p:Nat):Bool:=Nat.ble 2 p&&Nat.ble p 251&&(List.range 14).all fun d=> !(p % (d+2)==0)||p==d+2
def Pr (p:Int):Prop:=2≤p∧p≤251∧prB p.toNat=true
instance (p:Int):Decidable (Pr p):=by unfold Pr;infer_instance
theorem af0 {α:Type}{f g:Nat→α}{n:Nat}(h:(List.range n).map f=(List.range n).map g){i:Nat}(hi:i<n):f i=g i:=by
 have:=congrArg (fun l=>l[i]?) h
 simpa [hi] using this
theorem acC:(List.range 250).map (fun i=>zl 400 ((i+2:Nat):Int))=(List.range 250).map fun i=>some (prB (i+2)):=by kernel_rfl
theorem aam:(List.range 250).map (fun i=>wW 400 ((i+2:Nat):Int))=(List.range 250).map fun i=>some (prB (i+2)):=by kernel_rfl
theorem akj {i:Nat}(hi:i<250):decide (Pr ((i+2:Nat):Int))=prB (i+2):=by
 rw[Bool.eq_iff_iff,decide_eq_true_eq]
 unfold Pr
 rw[Int.toNat_natCast]
 exact⟨fun h=>h.2.2,fun h=>⟨by omega,by omega,h⟩⟩
theorem aeq {p:Int}(hp:p≤1∨251<p):∀(m t:Nat),m+t=16→kM p t=some false:=by
 intro m
 induction m with
 |zero=>
  intro t ht
  rw[AI,vR,az (by omega)]
  rcases hp with h |h
  ·rw[c8 (by omega)]
  ·rw[cZ (by omega),ajN (by omega)]
 |succ m ih=>
  intro t ht
  have e1:IntKind.wrap .i64 ((t:Int)+1)=((t+1:Nat):Int):=by rw[i64_in _ (by omega)];omega
  rw[AI,vR,aB (by omega),e1,ih (t+1) (by omega)]
  by_cases h:(t:Int)>1
  ·rw[cZ h,j5 (by omega)]
   cases (p.tmod t==0)<;>cases (p != (t:Int))<;>rfl
  ·rw[c8 h]
theorem Bt (p:Int):nt p=some (decide (Pr p)):=by
 by_cases h:2≤p∧p≤251
 ·obtain⟨i,hi⟩:=Int.eq_ofNat_of_zero_le (show 0≤p - 2 by omega)
  have e:p=((i+2:Nat):Int):=by omega
  subst e
  have:=af0 acC (show i<250 by omega)
  rw[Bn] at this
  rw[this,akj (by omega)]
 ·have hf:decide (Pr p)=false:=decide_eq_false fun g=>h ⟨g.1,g.2.1⟩
  rw[On,JB,hf]
  exact aeq (by omega) 16 0 rfl
theorem YZ (p:Int):fu p=some (decide (Pr p)):=by
 by_cases h:2≤p∧p≤251
 ·obtain⟨i,hi⟩:=Int.eq_ofNat_of_zero_le (show 0≤p - 2 by omega)
  have e:p=((i+2:Nat):Int):=by omega
  subst e
  have:=af0 aam (show i<250 by omega)
  rw[Du] at this
  rw[this,akj (by omega)]
 ·have hf:decide (Pr p)=false:=decide_eq_false fun g=>h ⟨g.1,g.2.1⟩
  rw[Dp,wV,hf,zg,rH]
  by_cases h1:2<p
  ·rw[aB h1,WC (by omega),tt (by omega),ajN (by omega)]
  ·rw[az h1,tu (by omega)]
theorem aan {p a:Int}(hp:2≤p∧p≤251):fo p a=some (a % p):=by
 have h1:=Int.tmod_lt_of_pos a (show 0<p by omega)
 have h2:=Int.lt_tmod_of_pos a (show 0<p by omega)
 rw[EA,yD,j5 (by omega),j5 (by omega),i64_in _ (by omega),bT (by omega),Int.add_emod_right]
 congr 1
 rw[Int.tmod_def,Int.sub_mul_emod_self_left]
theorem T4 {p:Int}(hp:Pr p)(a:Int):vk p a=some (a % p):=by
 rw[TH,Pd,Pe,MZ,Bt,bS,decide_eq_true hp,Bool.not_true,cF,bS,pe rfl,aan ⟨hp.1,hp.2.1⟩,bS]
def iv (p a:Int):Int:=((a.toNat^(p.toNat - 2) % p.toNat:Nat):Int)
theorem aer {f:Nat}(hf:2≤f∧f≤251):∀(n o b:Nat),o<f→b<f→n≤1000→eo f n o b=some ((o*b^n % f:Nat):Int):=by
 intro n
 induction n using Nat.strongRecOn with
 |ind n ih=>
  intro o b ho hb hn
  rw[yE,qK]
  by_cases h0:n=0
  ·subst h0
   rw[c8 (by omega),Nat.pow_zero,Nat.mul_one,Nat.mod_eq_of_lt ho]
  ·have e1:((n:Int).tmod 2)=((n % 2:Nat):Int):=by rw[bT (by omega),Int.natCast_emod];rfl
   have e2:IntKind.wrap .i64 ((n:Int).tdiv 2)=((n / 2:Nat):Int):=by rw[nk (by omega),i64_in _ (by omega)];omega
   have bb:b*b≤251*251:=Nat.mul_le_mul (by omega) (by omega)
   have ob:o*b≤251*251:=Nat.mul_le_mul (by omega) (by omega)
   have c1:((b:Int)*(b:Int))=((b*b:Nat):Int):=by rw[Int.natCast_mul]
   have c2:((o:Int)*(b:Int))=((o*b:Nat):Int):=by rw[Int.natCast_mul]
   have e3:(IntKind.wrap .i64 ((b:Int)*(b:Int))).tmod (f:Int)=((b*b % f:Nat):Int):=by
    rw[c1,i64_in _ (by omega),bT (by omega),Int.natCast_emod]
   have e4:(IntKind.wrap .i64 ((o:Int)*(b:Int))).tmod (f:Int)=((o*b % f:Nat):Int):=by
    rw[c2,i64_in _ (by omega),bT (by omega),Int.natCast_emod]
   have hpw:(b*b)^(n / 2)=b^(2*(n / 2)):=by rw[Nat.pow_mul,Nat.pow_two]
   rw[cZ (by omega),e1,e2,e3,e4]
   by_cases h1:n % 2=1
   ·rw[h1,ur (by rfl),j5 (by omega),j5 (by omega),ih (n / 2) (by omega) _ _ (Nat.mod_lt _ (by omega)) (Nat.mod_lt _ (by omega)) (by omega)]
    congr 2
    rw[Nat.mul_mod,Nat.mod_mod, ←Nat.pow_mod, ←Nat.mul_mod,hpw,Nat.mul_assoc, ←Nat.pow_succ']
    have:(2*(n / 2)).succ=n:=by omega
    rw[this]
   ·have h2:n % 2=0:=by omega
    rw[h2,ko (by omega),j5 (by omega),ih (n / 2) (by omega) _ _ ho (Nat.mod_lt _ (by omega)) (by omega)]
    congr 2
    rw[Nat.mul_mod, ←Nat.pow_mod, ←Nat.mul_mod,hpw]
    have:2*(n / 2)=n:=by omega
    rw[this]
theorem akk:((List.range 252).all fun p=> !(prB p)||(List.range p).all fun a=>a==0||a*(a^(p - 2) % p) % p==1)=true:=by kernel_rfl
theorem aao {p a:Int}(hp:Pr p)(ha:1≤a∧a<p):a*iv p a % p=1:=by
 obtain⟨h1,h2,h3⟩:=hp
 have h:=List.all_eq_true.1 akk p.toNat (List.mem_range.2 (by omega))
 rw[h3,Bool.not_true,Bool.false_or] at h
 have h:=List.all_eq_true.1 h a.toNat (List.mem_range.2 (by omega))
 rw[Bool.or_eq_true] at h
 rcases h with h |h
 ·have:=beq_iff_eq.1 h;omega
 ·have h:=beq_iff_eq.1 h
  unfold iv
  have e1:(a.toNat:Int)=a:=by omega
  have e2:(p.toNat:Int)=p:=by omega
  have h':((a.toNat*(a.toNat^(p.toNat - 2) % p.toNat) % p.toNat:Nat):Int)=1:=by rw[h];rfl
  rw[Int.natCast_emod,Int.natCast_mul,e1,e2] at h'
  exact h'
theorem RJ {p a:Int}(hp:Pr p)(ha:1≤a∧a<p):1≤iv p a∧iv p a<p:=by
 have h:=aao hp ha
 obtain⟨h1,h2,h3⟩:=hp
 have h4:iv p a<p:=by
  unfold iv
  have:=Nat.mod_lt (a.toNat^(p.toNat - 2)) (show 0<p.toNat by omega)
  omega
 have h5:0≤iv p a:=by unfold iv;omega
 refine⟨?_,h4⟩
 by_cases h0:iv p a=0
 ·rw[h0,Int.mul_zero,Int.zero_emod] at h;omega
 ·omega
theorem acD {p a:Int}(hp:Pr p)(ha:1≤a∧a<p):BF p a=some (iv p a,0):=by
 obtain⟨h1,h2,h3⟩:=hp
 have hm:a % p=a:=Int.emod_eq_of_lt (by omega) ha.2
 rw[TG,Pc,Pe,MZ,Bt,bS,decide_eq_true ⟨h1,h2,h3⟩,Bool.not_true,cF,bS,pe rfl,aan ⟨h1,h2⟩,bS,hm,ko (by omega),zZ,sS,CW,wc,aan ⟨h1,h2⟩,bS,hm]
 obtain⟨q,hq⟩:=Int.eq_ofNat_of_zero_le (show 0≤p by omega)
 obtain⟨b,hb⟩:=Int.eq_ofNat_of_zero_le (show 0≤a by omega)
 subst hq hb
 have e:IntKind.wrap .i64 ((q:Int) - 2)=((q - 2:Nat):Int):=by rw[i64_in _ (by omega)];omega
 have:=aer (f:=q) (by omega) (q - 2) 1 b (by omega) (by omega) (by omega)
 rw[Nat.one_mul] at this
 have e1:((1:Nat):Int)=1:=rfl
 rw[e1] at this
 rw[e,this,bS,bS]
 unfold iv
 rw[Int.toNat_natCast,Int.toNat_natCast]
theorem aap {p a:Int}(hp:2≤p∧p≤251)(ha:1≤a∧a<p){w:Int}(hw:1≤w∧w<p)(hm:a*w % p=1)(hu:∀b,1≤b→b<p→a*b % p=1→b=w):∀(m:Nat) (b:Int),1≤b→b≤w→w - b=m→fN p a b=some w:=by
 intro m
 induction m with
 |zero=>
  intro b h1 h2 h3
  have:b=w:=by omega
  subst this
  have hb:0≤a*b∧a*b≤251*251:=⟨Int.mul_nonneg (by omega) (by omega),Int.mul_le_mul (by omega) (by omega) (by omega) (by omega)⟩
  rw[vB,oN,aB (by omega),j5 (by omega),i64_in _ (by omega),bT (by omega),ur hm]
 |succ m ih=>
  intro b h1 h2 h3
  have hb:0≤a*b∧a*b≤251*251:=⟨Int.mul_nonneg (by omega) (by omega),Int.mul_le_mul (by omega) (by omega) (by omega) (by omega)⟩
  rw[vB,oN,aB (by omega),j5 (by omega),i64_in (a*b) (by omega),bT (by omega),ko (fun e=>by have:=hu b h1 (by omega) e;omega),i64_in _ (by omega)]
  exact ih (b+1) (by omega) (by omega) (by omega)
theorem ahF {p a b w:Int}(hp:2≤p)(hb:0≤b∧b<p)(hw:0≤w∧w<p)(h1:a*b % p=1)(h2:a*w % p=1):b=w:=by
 have e1:b*(a*w) % p=b:=by
  rw[Int.mul_emod,h2,Int.mul_one,Int.emod_emod_of_dvd _ (Int.dvd_refl p),Int.emod_eq_of_lt hb.1 hb.2]
 have e2:w*(a*b) % p=w:=by
  rw[Int.mul_emod,h1,Int.mul_one,Int.emod_emod_of_dvd _ (Int.dvd_refl p),Int.emod_eq_of_lt hw.1 hw.2]
 have e3:b*(a*w)=w*(a*b):=by
  rw[←Int.mul_assoc,Int.mul_comm b a,Int.mul_assoc,Int.mul_comm b w, ←Int.mul_assoc,Int.mul_comm a w,Int.mul_assoc]
 rw[←e1,e3,e2]
theorem WS {p a:Int}(hp:Pr p)(ha:1≤a∧a<p):i6 p a=some (iv p a):=by
 have hr:=RJ hp ha
 rw[KM,B3]
 refine aap ⟨hp.1,hp.2.1⟩ ha hr (aao hp ha) (fun b h1 h2 h3=>ahF hp.1 (by omega) (by omega) h3 (aao hp ha)) (iv p a - 1).toNat 1 (by omega) (by omega) (by omega)
theorem CQ {p:Int}(hp:Pr p){c:List Tm}(hl:c.length≤1000000000):mS p c=some (XF p c):=by
 rw[Kd,Ew,Bt,bS,decide_eq_true hp,Bool.not_true,cF]
 exact acz hl c.length 0 (by omega)
theorem OJ {p k:Int}(hp:Pr p){a b:List Tm}(ha:Vc p 1024 a)(hb:Vc p 1024 b)(hla:a.length≤100000000)(hlb:b.length≤100000000):ka p a k b=some (xY p a (k % p) b,0):=by
 have h0:∀{x y:List Tm},([x,y]:List (List Tm)).length=2:=rfl
 rw[Ol,JA,Ey,yz,h0,lP,jJ,aB (by omega)]
 have i0:idx ([a,b]:List (List Tm)) 0=some a:=rfl
 have i1:idx ([a,b]:List (List Tm)) 1=some b:=rfl
 have w1:IntKind.wrap .i64 ((0:Int)+1)=1:=rfl
 have w2:IntKind.wrap .i64 ((1:Int)+1)=2:=rfl
 rw[i0,bS,CQ hp (by omega),bS,MA.2 ha,pe rfl,w1,lP,jJ,aB (by omega),i1,bS,CQ hp (by omega),bS,MA.2 hb,pe rfl,w2,lP,jJ,az (by omega),bS,pe rfl,T4 hp,bS]
 have h1:=Int.emod_nonneg k (show p≠0 by have:=hp.1;omega)
 have h2:=Int.emod_lt_of_pos k (show 0<p by have:=hp.1;omega)
 rw[WQ ⟨by have:=hp.1;omega,hp.2.1⟩ ⟨h1,h2⟩ ha.c hb.c (by omega),bS]
theorem akl {c:List Tm}(hl:c.length≤1000000000):j9 c=some (match c.getLast? with |some t=>(t.1,true) |none=>(0,false)):=by
 rw[akY,Jz]
 by_cases h:c=[]
 ·subst h;rw[List.length_nil,ur (by rfl)];rfl
 ·have hn:c.length≠0:=fun e=>h (List.length_eq_zero_iff.1 e)
  have e:IntKind.wrap .i64 ((c.length:Int) - 1)=((c.length - 1:Nat):Int):=by rw[i64_in _ (by omega)];omega
  rw[ko (by omega)]
  simp only[e]
  rw[iT nY (by omega),List.getLast?_eq_getElem?]
  have:c[c.length - 1]? =some (c.getD (c.length - 1) nY):=by simp[List.getD,show c.length - 1<c.length by omega]
  rw[this]
end Go.Proofs.YtofjebmoebhiiaaGreatDoor.Ev
namespace Go.Abs
abbrev Cl:=Int×ByteArray×List Tm×Unit
abbrev sB:Cl:=(0,(ByteArray.empty,([],())))
theorem zF {l:List Int}{k j:Nat}{v:Int}:(l.set k v).getD j 0=if k=j∧k<l.length then v else l.getD j 0:=by
 simp only[List.getD,List.getElem?_set]
 by_cases h:k=j
 ·subst h
  by_cases hk:k<l.length
  ·simp[hk]
  ·simp[hk]
 ·simp[h]
theorem Cm (n j:Nat):(List.replicate n (0:Int)).getD j 0=0:=by
 simp only[List.getD,List.getElem?_replicate];split<;>rfl
structure Vr (n:Nat) (l:List Tm) (v:List Int):Prop where
 len:v.length=n
 at_:∀j:Nat,j<n→v.getD j 0=cf l j
def mw (out:List Int):List Tm→List Int
 | []=>out
 |t::r=>mw (out.set t.1.toNat t.2.1) r
theorem J0:∀(l:List Tm) (out:List Int),(mw out l).length=out.length
 | [],out=>rfl
 |t::r,out=>by rw[mw,J0 r];simp
theorem RK {p:Int}:∀{l:List Tm} {lo:Int} {out:List Int} {j:Nat},Sr lo l→ -1≤lo→Cp p l→(∀t∈l,t.1<out.length)→(mw out l).getD j 0=if cf l j=0 then out.getD j 0 else cf l j
 | [],lo,out,j,h,h0,hc,hn=>by rw[mw,WO,if_pos rfl]
 |t::r,lo,out,j,h,h0,hc,hn=>by
  have h1:=h.1
  have h2:=hn t (by simp)
  have h3:=hc t (by simp)
  rw[mw,RK (lo:=t.1) (p:=p) h.2 (by omega) (fun u hu=>hc u (by simp[hu])) (fun u hu=>by rw[List.length_set];exact hn u (by simp[hu])),zF,M7]
  by_cases e:t.1=j
  ·rw[if_pos e,Sr.cf0 h.2 (by omega),if_pos rfl,if_pos (by omega),if_neg (by omega)]
  ·rw[if_neg e,if_neg (show ¬(t.1.toNat=j∧t.1.toNat<out.length) by omega)]
def XG (i:Nat):List Int→List Tm
 | []=>[]
 |x::r=>if x≠0 then ((i:Int),(x,()))::XG (i+1) r else XG (i+1) r
theorem af1:∀{v:List Int} {i:Nat},XG i v=[]↔∀j:Nat,v.getD j 0=0
 | [],i=>by simp[XG]
 |x::r,i=>by
  rw[XG]
  split
  ·rename_i h
   constructor
   ·intro e;cases e
   ·intro g;exact absurd (g 0) (by simpa using h)
  ·rename_i h
   have h:x=0:=by omega
   rw[af1]
   constructor
   ·intro g j
    cases j with
    |zero=>simpa using h
    |succ j=>simpa using g j
   ·intro g j;simpa using g (j+1)
theorem aes:∀(v:List Int) (i:Nat) (lo:Int),lo<i→Sr lo (XG i v)
 | [],i,lo,h=>trivial
 |x::r,i,lo,h=>by
  rw[XG];split
  ·exact⟨h,aes r (i+1) i (by omega)⟩
  ·exact aes r (i+1) lo (by omega)
theorem aaq:∀{v:List Int} {i:Nat} {t:Tm},t∈XG i v→(i:Int)≤t.1∧t.1<i+v.length∧t.2.1∈v∧t.2.1≠0
 |x::r,i,t,h=>by
  rw[XG] at h
  split at h
  ·rename_i hx
   rcases List.mem_cons.1 h with rfl |h
   ·exact⟨by simp,by simp;omega,by simp,hx⟩
   ·have:=aaq h
    exact⟨by omega,by simp only[List.length_cons];omega,by simp[this.2.2.1],this.2.2.2⟩
  ·have:=aaq h
   exact⟨by omega,by simp only[List.length_cons];omega,by simp[this.2.2.1],this.2.2.2⟩
theorem alU:∀(v:List Int) (i:Nat),(XG i v).length≤v.length
 | [],i=>by simp[XG]
 |x::r,i=>by rw[XG];have:=alU r (i+1);split<;>simp<;>omega
def adL (p:Int)(out:List Int)(c:Int):List Tm→List Int
 | []=>out
 |u::r=>adL p (out.set u.1.toNat ((out.getD u.1.toNat 0+c*u.2.1) % p)) c r
theorem P7 {p c:Int}:∀(l:List Tm) (out:List Int),(adL p out c l).length=out.length
 | [],out=>rfl
 |t::r,out=>by rw[adL,P7 r];simp
def Rs (p:Int)(out:List Int):Prop:=∀j:Nat,0≤out.getD j 0∧out.getD j 0<p
theorem Rs.set {p v:Int}{out:List Int}(h:Rs p out)(hv:0≤v∧v<p)(k:Nat):Rs p (out.set k v):=fun j=>by
 rw[zF];split
 ·exact hv
 ·exact h j
theorem aet {p c:Int}(hp:0<p):∀(l:List Tm) (out:List Int),Rs p out→Rs p (adL p out c l)
 | [],out,h=>h
 |u::r,out,h=>by
  rw[adL]
  exact aet hp r _ (h.set ⟨Int.emod_nonneg _ (by omega),Int.emod_lt_of_pos _ hp⟩ _)
theorem acE {p c:Int}(hp:0<p):∀{l:List Tm} {lo:Int} {out:List Int} {j:Nat},Sr lo l→ -1≤lo→Rs p out→(∀t∈l,t.1<out.length)→(adL p out c l).getD j 0=(out.getD j 0+c*cf l j) % p
 | [],lo,out,j,h,h0,hr,hn=>by rw[adL,WO,Int.mul_zero,Int.add_zero,Int.emod_eq_of_lt (hr j).1 (hr j).2]
 |u::r,lo,out,j,h,h0,hr,hn=>by
  have h1:=h.1
  have h2:=hn u (by simp)
  have hv:0≤(out.getD u.1.toNat 0+c*u.2.1) % p∧(out.getD u.1.toNat 0+c*u.2.1) % p<p:=⟨Int.emod_nonneg _ (by omega),Int.emod_lt_of_pos _ hp⟩
  rw[adL,acE hp (lo:=u.1) h.2 (by omega) (hr.set hv _) (fun t ht=>by rw[List.length_set];exact hn t (by simp[ht])),zF,M7]
  by_cases e:u.1=j
  ·rw[if_pos e,if_pos (by omega),Sr.cf0 h.2 (by omega),Int.mul_zero,Int.add_zero,Int.emod_emod_of_dvd _ (Int.dvd_refl p)]
   have:u.1.toNat=j:=by omega
   rw[this]
  ·rw[if_neg e,if_neg (show ¬(u.1.toNat=j∧u.1.toNat<out.length) by omega)]
def oW (ah:List Cl)(r:Int):List Tm:=(ah.getD r.toNat sB).2.2.1
def XI (p:Int)(ah:List Cl)(out:List Int):List Tm→List Int
 | []=>out
 |t::r=>XI p ah (adL p out t.2.1 (oW ah t.1)) r
def RL (p:Int)(ah:List Cl)(out:List Tm):List Tm→List Tm
 | []=>out
 |t::r=>RL p ah (xY p out (t.2.1 % p) (oW ah t.1)) r
theorem OK:∀{l:List Tm} {lo:Int} {n:Int},Sr lo l→(∀t∈l,t.1<n)→lo<n→(l.length:Int)≤n - lo - 1
 | [],lo,n,h,hn,hl=>by simp;omega
 |t::r,lo,n,h,hn,hl=>by
  have:=OK h.2 (fun u hu=>hn u (by simp[hu])) (hn t (by simp))
  have:=h.1
  simp only[List.length_cons];omega
theorem Vc.length {p n:Int}{l:List Tm}(h:Vc p n l)(hn:0≤n):(l.length:Int)≤n:=by
 have:=OK h.s (fun t ht=>(h.r t ht).1) (by omega);omega
theorem af2 {p:Int}(hp:0<p){ah:List Cl}{n:Nat}:∀{x:List Tm} {S:List Tm} {v:List Int},(∀t∈x,Vc p n (oW ah t.1))→Vc p n S→Vr n S v→Rs p v→
  Vc p n (RL p ah S x)∧Vr n (RL p ah S x) (XI p ah v x)∧Rs p (XI p ah v x)
 | [],S,v,hx,hS,hv,hr=>⟨hS,hv,hr⟩
 |t::r,S,v,hx,hS,hv,hr=>by
  have hb:=hx t (by simp)
  obtain⟨h1,h2⟩:=M8 (k:=t.2.1 % p) hp hS hb
  rw[RL,XI]
  refine af2 hp (x:=r) (S:=xY p S (t.2.1 % p) (oW ah t.1)) (v:=adL p v t.2.1 (oW ah t.1)) (fun u hu=>hx u (by simp[hu])) h1 ⟨by rw[P7,hv.len],fun j hj=> ?_⟩ (aet hp _ _ hr)
  rw[acE hp hb.s (by omega) hr (fun u hu=>by rw[hv.len];exact(hb.r u hu).1),h2,hv.at_ j hj,Int.add_emod,Int.mul_emod, ←Int.add_emod (cf S j),Int.add_emod (cf S j) (t.2.1 % p*cf (oW ah t.1) j),Int.mul_emod (t.2.1 % p),Int.emod_emod_of_dvd _ (Int.dvd_refl p), ←Int.add_emod]
theorem amc {p:Int}{n:Nat}{S:List Tm}{v:List Int}(hS:Vc p n S)(hv:Vr n S v):S=[]↔XG 0 v=[]:=by
 rw[af1]
 constructor
 ·intro e j
  subst e
  by_cases hj:j<n
  ·rw[hv.at_ j hj];rfl
  ·have:=hv.len
   simp only[List.getD]
   rw[List.getElem?_eq_none (by omega)];rfl
 ·intro h
  cases hS':S with
  |nil=>rfl
  |cons t r=>
   exfalso
   have h1:=hS.r t (by rw[hS'];simp)
   have h2:=Sr.mem hS.s t (by rw[hS'];simp)
   have h3:=Mz hS.s t (by rw[hS'];simp)
   have h4:=hv.at_ t.1.toNat (by omega)
   rw[h] at h4
   have e:((t.1.toNat:Nat):Int)=t.1:=by omega
   rw[e] at h4
   omega
end Go.Abs
namespace Go.Proofs.YtofjebmoebhiiaaGreatDoor.Ev
open Go.Abs Go.IntWalk
theorem cq {i:Nat}(h:i≤1000000000):IntKind.wrap .i64 ((i:Int)+1)=((i+1:Nat):Int):=by rw[i64_in _ (by omega)];omega
theorem aeu {x:List Tm}{n:Nat}(hl:x.length≤1000000000)(hx:∀t∈x,0≤t.1∧t.1<n):∀(m i:Nat) (out:List Int),m+i=x.length→out.length=n→ic x i out=some (mw out (x.drop i)):=by
 intro m
 induction m with
 |zero=>intro i out hi ho;rw[zh,rJ,az (by omega),List.drop_eq_nil_of_le (by omega)];rfl
 |succ m ih=>
  intro i out hi ho
  have hb:∀{β:Type} {f:Tm→Option β},(idx x (i:Int)).bind f=f (x.getD i nY):=iT nY (by omega)
  have hm:x.getD i nY∈x:=by
   have:x.getD i nY=x[i]'(by omega):=by simp[List.getD,show i<x.length by omega]
   rw[this];exact List.getElem_mem _
  have hr:=hx _ hm
  rw[zh,rJ,aB (by omega),hb,hb,eL (by omega) (by omega),rS (by omega),cq (by omega),ih (i+1) _ (by omega) (by simpa using ho),qA nY (show i<x.length by omega),mw]
theorem acF {p:Int}{x:List Tm}{n:Nat}(hn:n≤1000000)(hx:Vc p n x):∃v,tG x n=some v∧Vr n x v∧(0<p→Rs p v):=by
 have hl:=hx.length (by omega)
 have hx':∀t∈x,0≤t.1∧t.1<n:=fun t ht=>⟨by have:=Sr.mem hx.s t ht;omega,(hx.r t ht).1⟩
 have hg:∀j:Nat,(mw (List.replicate n 0) x).getD j 0=cf x j:=fun j=>by
  rw[RK hx.s (by omega) hx.c (fun t ht=>by rw[List.length_replicate];exact(hx' t ht).2),Cm]
  split<;>omega
 refine⟨mw (List.replicate n 0) x, ?_,⟨by rw[J0,List.length_replicate],fun j _=>hg j⟩,fun hp j=>by rw[hg];exact RH hp hx.c j⟩
 rw[NI,Fc,GM (by omega) (by omega) (by omega),Int.toNat_natCast]
 exact aeu (by omega) hx' x.length 0 _ (by omega) (by simp)
theorem acG {v:List Int}(hl:v.length≤1000000):∀(m i:Nat) (out:List Tm),m+i=v.length→out.length≤i→gr v i out=some (out++XG i (v.drop i)):=by
 intro m
 induction m with
 |zero=>intro i out hi ho;rw[xE,qc,az (by omega),List.drop_eq_nil_of_le (by omega),XG,List.append_nil]
 |succ m ih=>
  intro i out hi ho
  rw[xE,qc,aB (by omega),eL (by omega) (by omega),Int.toNat_natCast,drop_eq (by omega),XG,cq (by omega)]
  by_cases h:v.getD i 0=0
  ·rw[pe h,ih (i+1) out (by omega) (by omega),if_neg (by omega)]
  ·rw[Cj h,eL (by omega) (by omega),Int.toNat_natCast,kg (by omega) (by omega),if_pos h]
   simp only
   rw[ih (i+1) _ (by omega) (by simp;omega),List.append_assoc]
   rfl
theorem ahH {v:List Int}(hl:v.length≤1000000):sc v=some (XG 0 v):=by
 rw[L3,Dr]
 have:=acG hl v.length 0 [] (by omega) (by simp)
 simpa using this
theorem aar {p:Int}(hp:2≤p∧p≤251){x:List Tm}{i:Nat}{b:List Tm}{c2:List Cl}(hi:i<x.length)(hxi:0≤(x.getD i nY).2.1∧(x.getD i nY).2.1≤251)(hbl:b.length≤1000000):
  ∀(m k:Nat) (out:List Int),m+k=b.length→Rs p out→(∀t∈b,(0≤t.1∧t.1<out.length)∧0≤t.2.1∧t.2.1≤251)→out.length≤1000000→
   ij x i b k out p c2=fD x (IntKind.wrap .i64 ((i:Int)+1)) (adL p out (x.getD i nY).2.1 (b.drop k)) p c2:=by
 intro m
 induction m with
 |zero=>intro k out hk hr hb ho;rw[zj,rN,az (by omega),List.drop_eq_nil_of_le (by omega),adL]
 |succ m ih=>
  intro k out hk hr hb ho
  have hbk:∀{β:Type} {f:Tm→Option β},(idx b (k:Int)).bind f=f (b.getD k nY):=iT nY (by omega)
  have hm:b.getD k nY∈b:=by
   have:b.getD k nY=b[k]'(by omega):=by simp[List.getD,show k<b.length by omega]
   rw[this];exact List.getElem_mem _
  obtain⟨h1,h2⟩:=hb _ hm
  have hv:=hr (b.getD k nY).1.toNat
  have hmul:0≤(x.getD i nY).2.1*(b.getD k nY).2.1∧(x.getD i nY).2.1*(b.getD k nY).2.1≤251*251:=⟨Int.mul_nonneg (by omega) (by omega),Int.mul_le_mul (by omega) (by omega) (by omega) (by omega)⟩
  rw[zj,rN,aB (by omega),hbk,hbk,eL (by omega) (by omega),rS (by omega),iT nY hi,hbk]
  simp only
  rw[i64_in ((x.getD i nY).2.1*(b.getD k nY).2.1) (by omega),i64_in (out.getD (b.getD k nY).1.toNat 0+(x.getD i nY).2.1*(b.getD k nY).2.1) (by omega),j5 (by omega),eL (by omega) (by omega),rS (by omega),bT (by omega),cq (i:=k) (by omega)]
  rw[ih (k+1) _ (by omega) (hr.set ⟨Int.emod_nonneg _ (by omega),Int.emod_lt_of_pos _ (by omega)⟩ _) (fun t ht=>by rw[List.length_set];exact hb t ht) (by rw[List.length_set];exact ho),qA nY (show k<b.length by omega),adL]
theorem aas {p:Int}(hp:2≤p∧p≤251){x:List Tm}{c2:List Cl}{n:Nat}(hn:n≤1000000)(hxl:x.length≤1000000)(hx:∀t∈x,(0≤t.1∧t.1<c2.length)∧(0≤t.2.1∧t.2.1≤251)∧Vc p n (oW c2 t.1)):
  ∀(m i:Nat) (out:List Int),m+i=x.length→Rs p out→out.length=n→fD x i out p c2=some (XI p c2 out (x.drop i)):=by
 intro m
 induction m with
 |zero=>intro i out hi hr ho;rw[zi,rL,az (by omega),List.drop_eq_nil_of_le (by omega),XI]
 |succ m ih=>
  intro i out hi hr ho
  have hm:x.getD i nY∈x:=by
   have:x.getD i nY=x[i]'(by omega):=by simp[List.getD,show i<x.length by omega]
   rw[this];exact List.getElem_mem _
  obtain⟨h1,h2,h3⟩:=hx _ hm
  have hl:=h3.length (by omega)
  rw[zi,rL,aB (by omega),iT nY (by omega),WN sB (by omega) (by omega)]
  have e:(c2.getD (x.getD i nY).1.toNat sB).2.2.1=oW c2 (x.getD i nY).1:=rfl
  rw[e]
  have:=aar hp (b:=oW c2 (x.getD i nY).1) (c2:=c2) (show i<x.length by omega) h2 (by omega) (oW c2 (x.getD i nY).1).length 0 out (by omega) hr (fun t ht=>by
   have g1:=Sr.mem h3.s t ht
   have g2:=h3.r t ht
   omega) (by omega)
  have e0:((0:Nat):Int)=0:=rfl
  rw[e0] at this
  rw[this,cq (by omega),List.drop_zero,ih (i+1) _ (by omega) (aet (by omega) _ _ hr) (by rw[P7];exact ho),qA nY (show i<x.length by omega),XI]
theorem ahI {p:Int}(hp:2≤p∧p≤251){x:List Tm}{c2:List Cl}(hn:c2.length≤1000000)(hxl:x.length≤1000000)(hx:∀t∈x,(0≤t.1∧t.1<c2.length)∧(0≤t.2.1∧t.2.1≤251)∧Vc p c2.length (oW c2 t.1)):
  tL (p,(c2,())) x=some (XI p c2 (List.replicate c2.length 0) x):=by
 rw[NJ,Fe]
 simp only
 rw[GM (by omega) (by omega) (by omega),Int.toNat_natCast]
 exact aas hp (n:=c2.length) hn hxl hx x.length 0 _ (by omega) (fun j=>by rw[Cm];omega) (by simp)
theorem acH {p:Int}(hp:Pr p){x:List Tm}{c2:List Cl}(hxl:x.length≤1000000)(hx:∀t∈x,(0≤t.1∧t.1<c2.length)∧Vc p 1024 (oW c2 t.1)):
  ∀(m i:Nat) (S:List Tm),m+i=x.length→Vc p 1024 S→fX S x (x.length:Int) i p c2=some (RL p c2 S (x.drop i)):=by
 intro m
 induction m with
 |zero=>intro i S hi hS;rw[po,mZ,az (by omega),List.drop_eq_nil_of_le (by omega),RL]
 |succ m ih=>
  intro i S hi hS
  have hm:x.getD i nY∈x:=by
   have:x.getD i nY=x[i]'(by omega):=by simp[List.getD,show i<x.length by omega]
   rw[this];exact List.getElem_mem _
  obtain⟨h1,h3⟩:=hx _ hm
  have hl:=h3.length (by omega)
  have hl2:=hS.length (by omega)
  rw[po,mZ,aB (by omega),iT nY (by omega),WN sB (by omega) (by omega)]
  have e:(c2.getD (x.getD i nY).1.toNat sB).2.2.1=oW c2 (x.getD i nY).1:=rfl
  rw[e,OJ hp hS h3 (by omega) (by omega),bS,cq (by omega)]
  simp only
  rw[ih (i+1) _ (by omega) (M8 (by have:=hp.1;omega) hS h3).1,qA nY (show i<x.length by omega),RL]
theorem ahJ {p:Int}(hp:Pr p){x:List Tm}{c2:List Cl}(hxl:x.length≤1000000)(hx:∀t∈x,(0≤t.1∧t.1<c2.length)∧Vc p 1024 (oW c2 t.1)):xc (p,(c2,())) x=some (RL p c2 [] x):=by
 have h:=acH hp hxl hx x.length 0 [] (by omega) Vc.nil
 rw[Ly,G4]
 simp only
 have e:oi x (x.length:Int) 0 [] p c2=fX [] x (x.length:Int) 0 p c2:=by
  rw[Gf,AF,po,mZ]
 rw[e]
 simpa using h
end Go.Proofs.YtofjebmoebhiiaaGreatDoor.Ev
namespace Go.Proofs.YtofjebmoebhiiaaGreatDoor.Ev
open Go.Abs Go.IntWalk
def nM (ah:List Cl)(j:Nat):ByteArray:=(ah.getD j sB).2.1
def aat (ah:List Cl)(j:Nat):Bool:=decide (0<j)&&decide (tX ((u7 (nM ah j)).1*(u7 (nM ah (j - 1))).2) ((u7 (nM ah (j - 1))).1*(u7 (nM ah j)).2)<0)
def rT (p:Int)(ah:List Cl)(j:Nat):Int:=
 if (ah.getD j sB).1<0∨4<(ah.getD j sB).1∨zE (nM ah j)=false then 1
 else if XF p (ah.getD j sB).2.2.1≠0 then XF p (ah.getD j sB).2.2.1
 else if ((ah.getD j sB).2.2.1.any fun t=>decide (t.1≥(j:Int)))=true then 7
 else if ((ah.getD j sB).2.2.1.any fun t=>(ah.getD t.1.toNat sB).1 != (ah.getD j sB).1 - 1)=true then 10
 else if (RL p ah [] (ah.getD j sB).2.2.1)≠ [] then 11
 else if aat ah j=true then 6 else 0
def T5 (p:Int)(ah:List Cl)(j:Nat):Nat→Int
 |0=>0
 |m+1=>if rT p ah j≠0 then rT p ah j else T5 p ah (j+1) m
def iN (p:Int)(ah:List Cl):Int:=if Pr p then (if 1024<ah.length then 3 else T5 p ah 0 ah.length) else 8
structure Good (p:Int) (ah:List Cl) (j:Nat):Prop where
 W4:0≤(ah.getD j sB).1∧(ah.getD j sB).1≤4
 at_:zE (nM ah j)=true
 bd:Vc p j (oW ah j)
 low:j≤1024→Vc p 1024 (oW ah j)
 ayR:∀t∈oW ah j,(ah.getD t.1.toNat sB).1=(ah.getD j sB).1 - 1
 cyc:RL p ah [] (oW ah j)=[]
 ord:aat ah j=false
theorem IY (ah:List Cl)(j:Nat):oW ah j=(ah.getD j sB).2.2.1:=by unfold oW;rw[Int.toNat_natCast]
theorem U2 {p:Int}{ah:List Cl}{j:Nat}(h:rT p ah j=0):Good p ah j:=by
 unfold rT at h
 split at h
 ·cases h
 ·rename_i h1
  split at h
  ·rename_i h2;exact absurd h h2
  ·rename_i h2
   split at h
   ·cases h
   ·rename_i h3
    split at h
    ·cases h
    ·rename_i h4
     split at h
     ·cases h
     ·rename_i h5
      split at h
      ·cases h
      ·rename_i h6
       have hv:=MA.1 (show XF p (ah.getD j sB).2.2.1=0 by omega)
       refine⟨by omega, ?_, ?_,fun _=>by rw[IY];exact hv, ?_, ?_,by simpa using h6⟩
       ·cases hh:zE (nM ah j) with
        |true=>rfl
        |false=>exact absurd (.inr (.inr hh)) h1
       ·rw[IY]
        refine⟨hv.s,fun t ht=>⟨?_,(hv.r t ht).2⟩⟩
        have:¬t.1≥(j:Int):=fun g=>h3 (List.any_eq_true.2 ⟨t,ht,decide_eq_true g⟩)
        omega
       ·intro t ht
        rw[IY] at ht
        have:¬((ah.getD t.1.toNat sB).1 != (ah.getD j sB).1 - 1)=true:=fun g=>h4 (List.any_eq_true.2 ⟨t,ht,g⟩)
        simpa using this
       ·rw[IY]
        exact Decidable.not_not.1 h5
structure Sz (ah:List Cl):Prop where
 at_:∀j,(nM ah j).size≤1000
 bd:∀j,((ah.getD j sB).2.2.1).length≤1000
theorem aev {s:List Tm}{j:Int}(hl:s.length≤1000000):∀(m i:Nat),m+i=s.length→∃r:Int,cC s j (s.length:Int) i=some r∧decide (r≥0)=(s.drop i).any fun t=>decide (t.1≥j):=by
 intro m
 induction m with
 |zero=>
  intro i hi
  rw[lv,iI,az (by omega),List.drop_eq_nil_of_le (by omega)]
  exact⟨-1,rfl,rfl⟩
 |succ m ih=>
  intro i hi
  rw[lv,iI,aB (by omega),iT nY (by omega),HP,Cq,bS,qA nY (show i<s.length by omega),List.any_cons]
  by_cases h:(s.getD i nY).1≥j
  ·rw[tt h,decide_eq_true h]
   exact⟨i,rfl,by rw[Bool.true_or];exact decide_eq_true (by omega)⟩
  ·rw[tu h,decide_eq_false h,Bool.false_or,cq (by omega)]
   exact ih (i+1) (by omega)
theorem art {s:List Tm}{j:Int}(hl:s.length≤1000000):fw s j=some (s.any fun t=>decide (t.1≥j)):=by
 obtain⟨r,h1,h2⟩:=aev (j:=j) hl s.length 0 (by omega)
 have e0:((0:Nat):Int)=0:=rfl
 rw[e0] at h1
 rw[ug,afJ,xm,pz,h1,bS,h2,List.drop_zero]
theorem aew {s:List Tm}{p d:Int}{ah:List Cl}{a:ByteArray}{b:List Tm}(hd:0≤d∧d≤4)(hl:s.length≤1000000)(hs:∀t∈s,0≤t.1∧t.1<ah.length):∀(m i:Nat),m+i=s.length→
  ∃r:Int,cD s p ah d a b (s.length:Int) i=some r∧decide (r≥0)=(s.drop i).any fun t=>(ah.getD t.1.toNat sB).1 != d - 1:=by
 intro m
 induction m with
 |zero=>
  intro i hi
  rw[lx,iJ,az (by omega),List.drop_eq_nil_of_le (by omega)]
  exact⟨-1,rfl,rfl⟩
 |succ m ih=>
  intro i hi
  have hm:s.getD i nY∈s:=by
   have:s.getD i nY=s[i]'(by omega):=by simp[List.getD,show i<s.length by omega]
   rw[this];exact List.getElem_mem _
  have h1:=hs _ hm
  rw[lx,iJ,aB (by omega),iT nY (by omega),HQ,Ct]
  simp only
  rw[WN sB h1.1 h1.2,bS,i64_in (d - 1) (by omega),qA nY (show i<s.length by omega),List.any_cons]
  cases hc:((ah.getD (s.getD i nY).1.toNat sB).1 != d - 1) with
  |true=>
   rw[cT]
   exact⟨i,rfl,by rw[Bool.true_or];exact decide_eq_true (by omega)⟩
  |false=>
   rw[cF,Bool.false_or,cq (by omega)]
   exact ih (i+1) (by omega)
theorem aru {s:List Tm}{p d:Int}{ah:List Cl}{a:ByteArray}{b:List Tm}(hd:0≤d∧d≤4)(hl:s.length≤1000000)(hs:∀t∈s,0≤t.1∧t.1<ah.length):
  fx s ((p,(ah,())),(d,(a,(b,()))))=some (s.any fun t=>(ah.getD t.1.toNat sB).1 != d - 1):=by
 obtain⟨r,h1,h2⟩:=aew (p:=p) (a:=a) (b:=b) hd hl hs s.length 0 (by omega)
 have e0:((0:Nat):Int)=0:=rfl
 rw[e0] at h1
 rw[uh,afK,xn,pA]
 simp only
 rw[h1,bS,h2,List.drop_zero]
theorem GU {s:ByteArray}(h:zE s=true)(hs:s.size≤1000):Rt s (u7 s).1 (u7 s).2∧nd (u7 s).1≤1000∧nd (u7 s).2≤1000∧0<(u7 s).2:=by
 obtain⟨n,d,hr⟩:=IW.1 h
 rw[hr.val]
 exact⟨hr,hr.bounds hs⟩
theorem akm {p:Int}{ah:List Cl}{j:Nat}{b:List Tm}(hj:j<ah.length)(hl:ah.length≤1024)(hI:∀i,i<j→rT p ah i=0)(hb:Vc p 1024 b)(hr:∀t∈b,t.1<j):
  ∀t∈b,(0≤t.1∧t.1<ah.length)∧Vc p ah.length (oW ah t.1):=fun t ht=>by
 have h1:=hr t ht
 have h2:=Sr.mem hb.s t ht
 have e:t.1=((t.1.toNat:Nat):Int):=by omega
 have h3:=(U2 (hI t.1.toNat (by omega))).bd
 refine⟨by omega, ?_⟩
 rw[e]
 exact h3.mono (by omega)
theorem acI {p:Int}(hp:Pr p){ah:List Cl}(hs:Sz ah)(hl:ah.length≤1024){j:Nat}{l:(Bool×List Int×Unit)×(Bool×List Int×Unit)×Unit}(hj:j<ah.length)(hI:∀i,i<j→rT p ah i=0)(hL:0<j→l=WR (u7 (nM ah (j - 1))).1 (u7 (nM ah (j - 1))).2)(E:Int)(hE:rT p ah j=E):
  eR ah (ah.length:Int) j p ah l.1.1 l.1.2.1 l.2.1.1 l.2.1.2.1=if E=0 then eR ah (ah.length:Int) ((j+1:Nat):Int) p ah (W (u7 (nM ah j)).1).1 (W (u7 (nM ah j)).1).2.1 (W (u7 (nM ah j)).2).1 (W (u7 (nM ah j)).2).2.1 else some E:=by
 have ea:(ah.getD j sB).2.1=nM ah j:=rfl
 have ha:=hs.at_ j
 have hb:=hs.bd j
 generalize hK:eR ah (ah.length:Int) ((j+1:Nat):Int) p ah (W (u7 (nM ah j)).1).1 (W (u7 (nM ah j)).1).2.1 (W (u7 (nM ah j)).2).1 (W (u7 (nM ah j)).2).2.1=K
 rw[yt,tO,aB (by omega),iT sB (by omega),ea]
 unfold rT at hE
 generalize hx:ah.getD j sB=x at hE hb ⊢
 cases aex:zE (nM ah j) with
 |false=>
  obtain⟨jk,hjk⟩:=YY ha aex
  rw[if_pos (.inr (.inr aex))] at hE
  subst hE
  rw[hjk,bS]
  simp only
  rw[Bool.not_false,cT,if_neg (by omega)]
  cases decide (x.1<0)<;>cases decide (x.1>4)<;>rfl
 |true=>
  obtain⟨hrt,n1,n2,n3⟩:=GU aex ha
  rw[YX ha hrt,bS]
  simp only
  by_cases h1:x.1<0
  ·rw[if_pos (.inl h1)] at hE
   subst hE
   rw[aB h1,if_neg (by omega)]
  rw[az h1]
  by_cases h2:x.1>4
  ·rw[if_pos (.inr (.inl h2))] at hE
   subst hE
   rw[cZ h2,if_neg (by omega)]
  have hc1:¬(x.1<0∨4<x.1∨zE (nM ah j)=false):=by
   rintro (h |h |h)
   ·exact h1 h
   ·exact h2 h
   ·rw[aex] at h;cases h
  rw[if_neg hc1] at hE
  rw[c8 h2,Bool.not_true,cF,WM ha,bS,aex,Bool.not_true,cF,CQ hp (by omega),bS]
  by_cases h3:XF p x.2.2.1=0
  ·rw[if_neg (show ¬XF p x.2.2.1≠0 by omega)] at hE
   rw[pe h3,art (by omega),bS]
   have hv:=MA.1 h3
   cases h4:(x.2.2.1.any fun t=>decide (t.1≥(j:Int))) with
   |true=>
    rw[h4,if_pos rfl] at hE
    subst hE
    rw[cT,if_neg (by omega)]
   |false=>
    rw[h4,if_neg (by decide)] at hE
    rw[cF]
    have hr:∀t∈x.2.2.1,t.1<j:=fun t ht=>by
     have:=List.any_eq_false.1 h4 t ht
     have:¬t.1≥(j:Int):=fun g=>this (decide_eq_true g)
     omega
    have hin:=akm hj hl hI hv hr
    rw[aru (by omega) (by omega) (fun t ht=>(hin t ht).1),bS]
    cases h5:(x.2.2.1.any fun t=>(ah.getD t.1.toNat sB).1 != x.1 - 1) with
    |true=>
     rw[h5,if_pos rfl] at hE
     subst hE
     rw[cT,if_neg (by omega)]
    |false=>
     rw[h5,if_neg (by decide)] at hE
     rw[cF,ahJ hp (by omega) (fun t ht=>⟨(hin t ht).1,(hin t ht).2.mono (by omega)⟩),bS]
     by_cases h6:RL p ah [] x.2.2.1=[]
     ·rw[h6,if_neg (by simp)] at hE
      rw[h6,List.length_nil,c8 (by omega),cq (by omega),hK]
      simp only[GP]
      unfold aat at hE
      by_cases h7:0<j
      ·have hg:=U2 (hI (j - 1) (by omega))
       obtain⟨arv,m1,m2,m3⟩:=GU hg.at_ (hs.at_ (j - 1))
       have hl':=hL h7
       subst hl'
       rw[cZ (by omega),aot n1 n2 m1 m2 n3 m3,bS]
       rw[decide_eq_true h7,Bool.true_and] at hE
       by_cases h8:tX ((u7 (nM ah j)).1*(u7 (nM ah (j - 1))).2) ((u7 (nM ah (j - 1))).1*(u7 (nM ah j)).2)<0
       ·rw[decide_eq_true h8,if_pos rfl] at hE
        subst hE
        rw[aB h8,if_neg (by omega)]
       ·rw[decide_eq_false h8,if_neg (by decide)] at hE
        subst hE
        rw[az h8,if_pos rfl]
      ·rw[decide_eq_false h7,Bool.false_and,if_neg (by decide)] at hE
       subst hE
       rw[c8 (by omega),if_pos rfl]
     ·rw[if_pos h6] at hE
      subst hE
      have hlen:0<(RL p ah [] x.2.2.1).length:=by
       cases hq:RL p ah [] x.2.2.1 with
       |nil=>exact absurd hq h6
       |cons a b=>simp
      rw[cZ (by omega),if_neg (by omega)]
  ·rw[if_pos h3] at hE
   subst hE
   rw[Cj h3,if_neg h3]
theorem ahK {p:Int}(hp:Pr p){ah:List Cl}(hs:Sz ah)(hl:ah.length≤1024):∀(m j:Nat) (l:(Bool×List Int×Unit)×(Bool×List Int×Unit)×Unit),m+j=ah.length→(∀i,i<j→rT p ah i=0)→(0<j→l=WR (u7 (nM ah (j - 1))).1 (u7 (nM ah (j - 1))).2)→
  eR ah (ah.length:Int) j p ah l.1.1 l.1.2.1 l.2.1.1 l.2.1.2.1=some (T5 p ah j m):=by
 intro m
 induction m with
 |zero=>intro j l hj hI hL;rw[yt,tO,az (by omega)];rfl
 |succ m ih=>
  intro j l hj hI hL
  rw[acI hp hs hl (by omega) hI hL _ rfl,T5]
  by_cases h:rT p ah j=0
  ·rw[if_pos h,if_neg (show ¬rT p ah j≠0 by omega)]
   exact ih (j+1) (WR (u7 (nM ah j)).1 (u7 (nM ah j)).2) (by omega) (fun i hi=>by
    by_cases e:i=j
    ·rw[e];exact h
    ·exact hI i (by omega)) (fun _=>by rw[Nat.add_sub_cancel])
  ·rw[if_neg h,if_pos h]
theorem MB {p:Int}{ah:List Cl}(hs:Sz ah):kL (p,(ah,()))=some (iN p ah):=by
 rw[Lx,G3]
 simp only
 unfold iN
 rw[Bt,bS]
 by_cases hp:Pr p
 ·rw[decide_eq_true hp,Bool.not_true,cF,if_pos hp]
  by_cases hl:1024<ah.length
  ·rw[cZ (by omega),if_pos hl]
  ·rw[c8 (by omega),if_neg hl]
   have:=ahK hp hs (by omega) ah.length 0 ((false,([],())),((false,([],())),())) (by omega) (fun i hi=>by omega) (fun h=>by omega)
   exact this
 ·rw[decide_eq_false hp,Bool.not_false,cT,if_neg hp]
theorem arw {p d:Int}{ah:List Cl}{a:ByteArray}{b:List Tm}{j:Int}(hl:b.length≤1000000):∀(m i:Nat),m+i=b.length→
  gq j i p ah d a b=bif (b.drop i).any (fun t=>decide (t.1≥j)) then some 7 else cW j 0 p ah d a b:=by
 intro m
 induction m with
 |zero=>intro i hi;rw[xC,p8,az (by omega),List.drop_eq_nil_of_le (by omega),List.any_nil,cF]
 |succ m ih=>
  intro i hi
  rw[xC,p8,aB (by omega),iT nY (by omega),qA nY (show i<b.length by omega),List.any_cons]
  by_cases h:(b.getD i nY).1≥j
  ·rw[tt h,decide_eq_true h,Bool.true_or,cT]
  ·rw[tu h,decide_eq_false h,Bool.false_or,cq (by omega),ih (i+1) (by omega)]
theorem arx {p d:Int}{ah:List Cl}{a:ByteArray}{b:List Tm}{j:Int}(hd:0≤d∧d≤4)(hl:b.length≤1000000)(hb:∀t∈b,0≤t.1∧t.1<ah.length):∀(m i:Nat),m+i=b.length→
  cW j i p ah d a b=bif (b.drop i).any (fun t=>(ah.getD t.1.toNat sB).1 != d - 1) then some 10 else cW j (b.length:Int) p ah d a b:=by
 intro m
 induction m with
 |zero=>
  intro i hi
  have:i=b.length:=by omega
  subst this
  rw[List.drop_eq_nil_of_le (Nat.le_refl _),List.any_nil,cF]
 |succ m ih=>
  intro i hi
  have hm:b.getD i nY∈b:=by
   have:b.getD i nY=b[i]'(by omega):=by simp[List.getD,show i<b.length by omega]
   rw[this];exact List.getElem_mem _
  have h1:=hb _ hm
  have ym:=ih (i+1) (by omega)
  generalize hE:cW j (b.length:Int) p ah d a b=E at ym ⊢
  rw[xD,qb,aB (by omega),iT nY (by omega),WN sB h1.1 h1.2,i64_in (d - 1) (by omega),cq (by omega),ym,qA nY (show i<b.length by omega),List.any_cons]
  cases hc:((ah.getD (b.getD i nY).1.toNat sB).1 != d - 1) with
  |true=>rw[cT,Bool.true_or,cT]
  |false=>rw[cF,Bool.false_or]
theorem aey {p:Int}(hp:Pr p){ah:List Cl}(hs:Sz ah)(hl:ah.length≤1024){j:Nat}(hj:j<ah.length)(hI:∀i,i<j→rT p ah i=0):rZ (p,(ah,())) j=some (rT p ah j):=by
 have ha:=hs.at_ j
 have hb:=hs.bd j
 have ea:(ah.getD j sB).2.1=nM ah j:=rfl
 rw[L0,Dq]
 simp only
 rw[iT sB hj,ea]
 unfold rT
 generalize hx:ah.getD j sB=x at*
 by_cases h1:x.1<0
 ·rw[aB h1,if_pos (.inl h1)]
 rw[az h1]
 by_cases h2:x.1>4
 ·rw[cZ h2,if_pos (.inr (.inl h2))]
 rw[c8 h2,P6 ha,bS]
 cases aex:zE (nM ah j) with
 |false=>rw[Bool.not_false,cT,if_pos (.inr (.inr rfl))]
 |true=>
  have hc1:¬(x.1<0∨4<x.1∨true=false):=by
   rintro (h |h |h)
   ·exact h1 h
   ·exact h2 h
   ·cases h
  rw[Bool.not_true,cF,aep (by omega),bS,if_neg hc1]
  by_cases h3:XF p x.2.2.1=0
  ·have hv:=MA.1 h3
   have h0:=arw (p:=p) (d:=x.1) (ah:=ah) (a:=nM ah j) (j:=(j:Int)) (show x.2.2.1.length≤1000000 by omega) x.2.2.1.length 0 (by omega)
   have e0:((0:Nat):Int)=0:=rfl
   rw[e0,List.drop_zero] at h0
   rw[pe h3,if_neg (show ¬XF p x.2.2.1≠0 by omega),h0]
   cases h4:(x.2.2.1.any fun t=>decide (t.1≥(j:Int))) with
   |true=>rw[cT,if_pos rfl]
   |false=>
    have hr:∀t∈x.2.2.1,t.1<j:=fun t ht=>by
     have:=List.any_eq_false.1 h4 t ht
     have:¬t.1≥(j:Int):=fun g=>this (decide_eq_true g)
     omega
    have hin:=akm hj hl hI hv hr
    have h5':=arx (p:=p) (d:=x.1) (ah:=ah) (a:=nM ah j) (j:=(j:Int)) (by omega) (show x.2.2.1.length≤1000000 by omega) (fun t ht=>(hin t ht).1) x.2.2.1.length 0 (by omega)
    rw[e0,List.drop_zero] at h5'
    rw[cF,if_neg (by decide),h5']
    cases h5:(x.2.2.1.any fun t=>(ah.getD t.1.toNat sB).1 != x.1 - 1) with
    |true=>rw[cT,if_pos rfl]
    |false=>
     have hpp:0<p:=by have:=hp.1;omega
     obtain⟨g1,g2,g3⟩:=af2 hpp (ah:=ah) (n:=ah.length) (x:=x.2.2.1) (S:=[]) (v:=List.replicate ah.length 0) (fun t ht=>(hin t ht).2) Vc.nil ⟨by simp,fun k hk=>by rw[Cm];rfl⟩ (fun k=>by rw[Cm];omega)
     rw[cF,if_neg (by decide),xD,qb,az (by omega),ahI ⟨hp.1,hp.2.1⟩ (by omega) (by omega) (fun t ht=>⟨(hin t ht).1,by have:=hv.r t ht;have:=hp.2.1;omega,(hin t ht).2⟩),bS,ahH (by rw[g2.len];omega),bS]
     have hn:=amc g1 g2
     by_cases h6:RL p ah [] x.2.2.1=[]
     ·rw[hn.1 h6,List.length_nil,c8 (by omega),if_neg (by rw[h6];simp)]
      unfold aat
      by_cases h7:0<j
      ·have hg:=U2 (hI (j - 1) (by omega))
       obtain⟨hrt,n1,n2,n3⟩:=GU aex ha
       obtain⟨arv,m1,m2,m3⟩:=GU hg.at_ (hs.at_ (j - 1))
       have e1:IntKind.wrap .i64 ((j:Int) - 1)=((j - 1:Nat):Int):=by rw[i64_in _ (by omega)];omega
       have e2:(ah.getD (j - 1) sB).2.1=nM ah (j - 1):=rfl
       rw[cZ (by omega),e1,iT sB (by omega),e2,RG hrt arv ha (hs.at_ (j - 1)),bS,decide_eq_true h7,Bool.true_and]
       by_cases h8:tX ((u7 (nM ah j)).1*(u7 (nM ah (j - 1))).2) ((u7 (nM ah (j - 1))).1*(u7 (nM ah j)).2)<0
       ·rw[aB h8,decide_eq_true h8,if_pos rfl]
       ·rw[az h8,decide_eq_false h8,if_neg (by decide)]
      ·rw[c8 (by omega),decide_eq_false h7,Bool.false_and,if_neg (by decide)]
     ·have hlen:0<(XG 0 (XI p ah (List.replicate ah.length 0) x.2.2.1)).length:=by
       cases hq:XG 0 (XI p ah (List.replicate ah.length 0) x.2.2.1) with
       |nil=>exact absurd (hn.2 hq) h6
       |cons a b=>simp
      rw[cZ (by omega),if_pos h6]
  ·rw[Cj h3,if_pos h3]
theorem ahL {p:Int}(hp:Pr p){ah:List Cl}(hs:Sz ah)(hl:ah.length≤1024):∀(m j:Nat),m+j=ah.length→(∀i,i<j→rT p ah i=0)→ia j p ah=some (T5 p ah j m):=by
 intro m
 induction m with
 |zero=>intro j hj hI;rw[zf,rF,az (by omega)];rfl
 |succ m ih=>
  intro j hj hI
  rw[zf,rF,aB (by omega),aey hp hs hl (by omega) hI,bS,T5]
  by_cases h:rT p ah j=0
  ·rw[pe h,if_neg (show ¬rT p ah j≠0 by omega),cq (by omega)]
   exact ih (j+1) (by omega) fun i hi=>by
    by_cases e:i=j
    ·rw[e];exact h
    ·exact hI i (by omega)
  ·rw[Cj h,if_pos h]
theorem ahM {p:Int}{ah:List Cl}(hs:Sz ah):tD (p,(ah,()))=some (iN p ah):=by
 rw[NC,E9]
 simp only
 unfold iN
 rw[YZ,bS]
 by_cases hp:Pr p
 ·rw[decide_eq_true hp,Bool.not_true,cF,if_pos hp]
  by_cases hl:1024<ah.length
  ·rw[cZ (by omega),if_pos hl]
  ·rw[c8 (by omega),if_neg hl]
   exact ahL hp hs (by omega) ah.length 0 (by omega) (fun i hi=>by omega)
 ·rw[decide_eq_false hp,Bool.not_false,cT,if_neg hp]
theorem ako {p:Int}{ah:List Cl}(h:iN p ah=0):Pr p∧ah.length≤1024∧∀j,j<ah.length→Good p ah j:=by
 unfold iN at h
 split at h
 ·rename_i hp
  split at h
  ·cases h
  ·rename_i hl
   have key:∀(m j:Nat),m+j=ah.length→T5 p ah j m=0→∀i,j≤i→i<ah.length→rT p ah i=0:=by
    intro m
    induction m with
    |zero=>intro j hj h i h1 h2;omega
    |succ m ih=>
     intro j hj h i h1 h2
     rw[T5] at h
     split at h
     ·rename_i hne;exact absurd h hne
     ·rename_i hne
      by_cases e:i=j
      ·subst e;omega
      ·exact ih (j+1) (by omega) h i (by omega) h2
   exact⟨hp,by omega,fun j hj=>U2 (key ah.length 0 (by omega) h j (by omega) hj)⟩
 ·cases h
end Go.Proofs.YtofjebmoebhiiaaGreatDoor.Ev
namespace Go.Abs
theorem WT {l:List Tm}{t:Tm}(h:l.getLast?=some t):∃r,l=r++[t]:=by
 cases hl:l with
 |nil=>subst hl;cases h
 |cons a r=>
  have hne:l≠ []:=by rw[hl];simp
  rw[List.getLast?_eq_some_getLast hne] at h
  have h:=Option.some.inj h
  exact⟨l.dropLast,by rw[←hl, ←h,List.dropLast_concat_getLast hne]⟩
theorem fm {l:List Tm}{t:Tm}(h:l.getLast?=some t):t∈l:=by
 obtain⟨r,rfl⟩:=WT h;simp
theorem acJ:∀{l:List Tm} {lo:Int} {t:Tm},Sr lo l→l.getLast?=some t→∀u∈l,u.1≤t.1
 |a::r,lo,t,h,hl,u,hu=>by
  cases r with
  |nil=>
   simp at hl hu;subst hl hu;exact Int.le_refl _
  |cons b s=>
   have hl':(b::s).getLast?=some t:=by simpa [List.getLast?_cons_cons] using hl
   have ih:=acJ h.2 hl'
   rcases List.mem_cons.1 hu with rfl |hu
   ·have:=ih b (by simp);have:=h.2.1;omega
   ·exact ih u hu
theorem aau {l:List Tm}{lo:Int}{t:Tm}(h:Sr lo l)(hl:l.getLast?=some t){i:Int}(hi:t.1<i):cf l i=0:=by
 by_cases h0:cf l i=0
 ·exact h0
 ·obtain⟨u,hu,e⟩:=ang h0
  have:=acJ h hl u hu
  omega
def aez (x:List Tm):Int×Bool:=match x.getLast? with
 |some t=>(t.1,true)
 |none=>(0,false)
structure Sto (p:Int) (n:Nat) (st:List (Option (List Tm))):Prop where
 len:st.length=n
 ok:∀i y,st.getD i none=some y→Vc p n y∧∃u,y.getLast?=some u∧u.1=i
theorem auY {α:Type}{l:List (Option α)}{i:Nat}(h:i<l.length):l[i]? =some (l.getD i none):=by
 simp[List.getD,h]
def pf (p:Int)(st:List (Option (List Tm))):Nat→List Tm→Int→List Tm×Int
 |0,x,a=>(x,a)
 |f+1,x,a=>match x.getLast? with
  |none=>(x,a)
  |some t=>match st.getD t.1.toNat none with
   |none=>(x,a)
   |some y=>pf p st f (xY p x ((-t.2.1*Go.Proofs.YtofjebmoebhiiaaGreatDoor.Ev.iv p ((y.getLast?.getD (0,(0,()))).2.1)) % p) y) (a+1)
end Go.Abs
namespace Go.Proofs.YtofjebmoebhiiaaGreatDoor.Ev
open Go.Abs Go.IntWalk
theorem kill {p c d:Int}(hp:Pr p)(hc:1≤c∧c<p)(hd:1≤d∧d<p):(c+(-c*iv p d) % p*d) % p=0:=by
 have h:=aao hp hd
 have h0:p≠0:=by have:=hp.1;omega
 rw[Int.add_emod,Int.mul_emod,Int.emod_emod_of_dvd _ (Int.dvd_refl p), ←Int.mul_emod, ←Int.add_emod]
 have e:c+ -c*iv p d*d=c*(1 - d*iv p d):=by
  rw[Int.mul_sub,Int.mul_one,Int.neg_mul,Int.neg_mul,Int.mul_assoc,Int.mul_comm (iv p d) d]
  omega
 rw[e,Int.mul_emod,Int.sub_emod,h]
 have h1:(1:Int) % p=1:=Int.emod_eq_of_lt (by omega) (by have:=hp.1;omega)
 rw[h1]
 simp
theorem acK {p:Int}(hp:Pr p){n:Nat}{x y:List Tm}{t u:Tm}(hx:Vc p n x)(hy:Vc p n y)(ht:x.getLast?=some t)(hu:y.getLast?=some u)(e:t.1=u.1):
  ∀s∈xY p x ((-t.2.1*iv p u.2.1) % p) y,s.1<t.1:=fun s hs=>by
 have hpp:0<p:=by have:=hp.1;omega
 obtain⟨h1,h2⟩:=M8 (k:=(-t.2.1*iv p u.2.1) % p) hpp hx hy
 have h3:=Mz h1.s s hs
 have h4:=h1.r s hs
 rw[h2] at h3
 have ct:=Mz hx.s t (fm ht)
 have cu:=Mz hy.s u (fm hu)
 rcases Int.lt_trichotomy s.1 t.1 with h |h |h
 ·exact h
 ·exfalso
  rw[h,ct,e,cu,kill hp (hx.r t (fm ht)).2 (hy.r u (fm hu)).2] at h3
  omega
 ·exfalso
  rw[aau hx.s ht h,aau hy.s hu (by omega)] at h3
  simp at h3;omega
theorem akp {x:List Tm}(h:x≠ []):va [] (.pg (.st (.pair (.int .i64) (.pair (.int .i64) (.unit))))) [⟨.slice (.st (.pair (.int .i64) (.pair (.int .i64) (.unit)))),x⟩]=some (some x):=by
 cases x with
 |nil=>exact absurd rfl h
 |cons a r=>rfl
theorem ahN {x:List Int}(h:x≠ []):va [] (.pg (.int .i64)) [⟨.slice (.int .i64),x⟩]=some (some x):=by
 cases x with
 |nil=>exact absurd rfl h
 |cons a r=>rfl
theorem aav {α β:Type}{xs:List (Option α)}{k:Nat}{f:Option α→Option β}(h:k<xs.length):(xs[k]?).bind f=f (xs.getD k none):=by rw[auY h];exact bS _ _
theorem RM {α β:Type}{xs:List (Option α)}{i:Int}{f:Option α→Option β}(h0:0≤i)(h:i<xs.length):(idx xs i).bind f=f (xs.getD i.toNat none):=WN none h0 h
abbrev Hp3:=List (Option (List Tm))
end Go.Proofs.YtofjebmoebhiiaaGreatDoor.Ev
