/- Functions of the program and of the document, as the abstract reading walks them, part 13. No condition. -/
import Derived.Test.YtlcojgogfjlceaaGreatDoorEB12
import Derived.Test.YtlcojgogfjlceaaGreatDoorEB6
import Derived.Test.YtlcojgogfjlceaaGreatDoorEB8
set_option maxRecDepth 20000
set_option maxHeartbeats 8000000
set_option linter.all false
noncomputable section
namespace Go.Ab
theorem pwi {x a b:Int} (h1:a≤x) (h2:x≤b):aL Pg 255 [.int .i64 x,.int .i64 a,.int .i64 b] (.bl true):=by
 refine ae.intro (aC R.tv.2) (by simp[R.tv]) ?_;simp[R.tv,aj,av,h1];refine aA.plain [] ?_;simp[h2]
theorem cpi {s:St} {d:Option Nat} {x a b:Int} {K:St->Prop} {t:Tg K} (h1:a≤x) (h2:x≤b) (h:K (s.put d (.bl true))):ai Pg s d 255 [.int .i64 x,.int .i64 a,.int .i64 b] K t:=ai.rA (pwi h1 h2) h
def VT:zt:=⟨1152921504606846976,18446744073709543423,120000,180000,90000,5000,10000,120000,20,4⟩
theorem alY:aL Pg 81 [c9 VT] (.bl true):=by
 have h:aL Pg 166 [c9 VT] (.bl true):=by
  refine ae.intro (aC R.u5.2) (by simp[R.u5]) ?_;simp[R.u5,aj,av,VT]
  repeat
   refine cpi (by decide) (by decide) ?_
   simp
  refine aA.plain [] ?_;simp
 refine ae.intro (aC R.nq.2) (by simp[R.nq]) ?_;simp[R.nq,aj,av];refine ai.rA h ?_;simp;refine aA.plain [] ?_;simp
theorem alZ (a:bM):ae Pg 270 [.rs KB [] 0 1 1 464 .tip,.int .i64 0,.int .i64 1,.fn (.func 88) [] []] [.arr 464 [aP a]] (λr fp=>r= .tup []∧fp=[.arr 464 [aP a]]):=by
 refine ae.intro T.bR (by simp[F.bR]) ?_;simp[F.bR,aj,av];refine mH.G3 0 (mH.z λK=> ?_);simp[↓al];refine aA.with [] [KB] ?_;simp[dh,ab,ah,az,aS]
theorem al0:aL Pg 181 [.int .u64 1] (.int .i64 1):=by
 have h:aL Pg 279 [.int .u64 1] (.int .i64 1):=by
  refine ae.intro (aC R.oU.2) (by simp[R.oU]) ?_;simp[R.oU,aj,av];refine aA.plain [] ?_;simp
 refine ae.intro (aC R.rR.2) (by simp[R.rR]) ?_;simp[R.rR,aj,av];refine ai.rA h ?_;simp;refine aA.plain [] ?_;simp
theorem al1 (a:bM):ae Pg 180 [.rs KB [] 0 1 1 464 .tip,.int .i64 0,.int .i64 1,.int .i64 1,.fn (.func 88) [] []] [.arr 464 [aP a]] (λr fp=>r= .tup []∧fp=[.arr 464 [aP a]]):=by
 refine ae.intro T.cQ (by simp[F.cQ]) ?_;have hi:=alZ a;have hp:=iu a;generalize aP a=x at*;simp[F.cQ,aj,av];refine mH.G3 0 (mH.z λK=> ?_);simp[↓al];refine ai.gA [KB] [] [.arr 464 [x]] hi (by simp[ab,ah,hp.refs]) (by simp[az,aS,hp.aE]) (by simp[ab,af,ah,hp.refs]) ?_;simp[aI,az,aE,aS,hp.aE];refine aA.with [] [KB] ?_;simp[dh,ab,ah,hp.refs,az,aS,hp.aE]
theorem acN (a:bM):ae Pg 87 [.rs KB [] 0 1 1 464 .tip,.fn (.func 88) [] []] [.arr 464 [aP a]] (λr fp=>r= .tup []∧fp=[.arr 464 [aP a]]):=by
 refine ae.intro (aC R.eo.2) (by simp[R.eo]) ?_;have hi:=al1 a;have hp:=iu a;generalize aP a=x at*;simp[R.eo,aj,av];refine ai.rA al0 ?_;simp;refine ai.gA [KB] [] [.arr 464 [x]] hi (by simp[ab,ah,hp.refs]) (by simp[az,aS,hp.aE]) (by simp[ab,af,ah,hp.refs]) ?_;simp[aI,az,aE,aS,hp.aE];refine aA.with [] [KB] ?_;simp[dh,ab,ah,hp.refs,az,aS,hp.aE]
theorem VU {d:bh} {m:Nat} {L:List PV} (hL:au L) {o:PV} (ho:Pure o) {V:PV} (hV:Pure V) (h4:aO V [.f 4 83]=some (.int .i64 0)):
  ae Pg 86 [.pt KB [] 0,.pt (KB+2) [] 0] [.box (Gq d (.rs (KB+1) [] 0 m m 464 .tip) o),.arr 464 L,.box V]
   (λr fp=>r= .tup []∧fp=[.box (Gq d (.rs (KB+1) [] 0 m m 464 .tip) o),.arr 464 L,.box V]):=by
 refine ae.intro (aC R.cP.2) (by simp[R.cP]) ?_;simp[R.cP,aj,av,h4];refine aA.with [] [KB,KB+1,KB+2] ?_;simp[dh,hL.refs,hL.aE,ho.refs,ho.aE,ab,af,az,aE,hV.refs,hV.aE]
noncomputable def F.QF:cZ:=⟨F.kz.nt,F.kz.res,mP F.kz.code [1,1,1]⟩
theorem T.QF:mX Pg [] [] 32=some F.QF.er:=EY [1,1,1] T.kz
theorem al2 {r:zt} (hv:aL Pg 81 [c9 r] (.bl true)) {c:Lz} {p:Bh} {x:xt} (hva:aL Pg 82 [lH c] (.int .i64 0)) (hc:c.an=[p]) (ha:p.allowed=[x]) (hx:vZ x=true) (hk:p.iH=0) (k:Key) {now:Int} (NY:0≤now) (Hb:now≤1099511627776):
  aL Pg 32 [c9 r,lH c,aG k,.int .i64 now] (.tup [gP (Dk r c (uh k.l fa) now now [qp p] [⟨x,p.b8⟩] [] (Gf k.l fa).fv),.int .i64 0]):=by
 refine ae.intro T.QF (by simp[F.QF,F.kz]) ?_;have k1:¬now<0:=by omega
 have k2:¬(1099511627776:Int)<now:=by omega
 simp[F.QF,F.kz,mP,aj,av];refine ai.rA hv ?_;simp[k1,k2];refine ai.rA hva ?_;simp;obtain⟨M,hM⟩:∃M:St->Prop,∀s',M s'↔s'=⟨[(5,.pt 5 [] 0),(8,.pt 8 [] 0),(9,.int .i64 0),(11,.pt 48 [] 0)],[(5,.box (lH c)),(8,.box zPs),(48,.box (Gq (Dk r c k now now [] [] [] Ly) (.rs 90 [] 0 0 0 464 .tip) (.sl 86 [] false))),(90,.arr 464 [])]⟩:=⟨_,λ_=>Iff.rfl⟩
 refine N8.of M ?_ ?_
 ·simp;refine aM.rA (jl c.ju) ?_;simp;refine⟨[.keep [5,8,9,11],.dr 4,.dr 6,.vb 48 [.f 0 0,.f 6 108] 90 464,.wb 48],?_⟩;simp;exact(hM _).2 rfl
 intro s' Bk;have Bm:=(hM _).1 Bk;subst Bm;clear Bk hM M;have hdr:=acO (d:=Dk r c k now now [] [] [] Ly) (k:=k) rfl (m:=0) (L:=[]) (by simp) (o:= .sl 86 [] false) (by simp);have hdn:Nn (Dk r c k now now [] [] [] Ly) (uh k.l fa)=Dk r c (uh k.l fa) now now [] [] [] Ly:=rfl;rw[hdn]at hdr;generalize uh k.l fa=kA at*;generalize Gf k.l fa=kB at*;simp;refine ai.gA [48,90] [] [.box (Gq (Dk r c k now now [] [] [] Ly) (.rs 90 [] 0 0 0 464 .tip) (.sl 86 [] false)),.arr 464 []] hdr (by simp[ab,af,ah]) (by simp[az,aE,aS]) (by simp[ab,af,ah,cY]) ?_;have e10:∀q,zC (Dk r c kA now now [] [] [] Ly) q (aG kB)=aY (Dk r c kA now now [] [] [] kB.fv) q:=λ_=>rfl;simp[aI,az,aE,aS,cL,e10,hc,oO];refine mH.G3 1 (mH.s ?_);simp[↓al];refine lv.run [] rfl ?_;simp;rw[atB];have Xj:(.st 464 [aG p.b8,aG p.shared,.bl p.fD,gZ p.ep,.int .i64 p.iH,(.ar 1 12 (zr 12 (.int .u8 0))),(.bl false),(.int .i64 0),(.st 100 [(.bl false),(.int .u32 0),(.ar 1 32 (zr 32 (.int .u8 0))),(.st 64 [(.ar 1 32 (zr 32 (.int .u8 0))),(.ar 1 32 (zr 32 (.int .u8 0)))]),(.int .i64 0),(.int .i64 0)]),(.bl false),(.ar 1 16 (zr 16 (.int .u8 0))),(.int .i64 0),(.ar 1 16 (zr 16 (.int .u8 0))),(.st 231 [(.st 77 [(.bl false),(.st 76 [(.int .u32 0),(.int .u32 0),(.ar 1 32 (zr 32 (.int .u8 0))),(.ar 1 32 (zr 32 (.int .u8 0))),(.int .u64 0),(.int .u64 0),(.st 6 [(.bl false),(.int .u64 0),(.ar 1 4 (zr 4 (.int .u64 0)))]),(.int .i64 0),(.bl false)])]),(.st 77 [(.bl false),(.st 76 [(.int .u32 0),(.int .u32 0),(.ar 1 32 (zr 32 (.int .u8 0))),(.ar 1 32 (zr 32 (.int .u8 0))),(.int .u64 0),(.int .u64 0),(.st 6 [(.bl false),(.int .u64 0),(.ar 1 4 (zr 4 (.int .u64 0)))]),(.int .i64 0),(.bl false)])]),(.st 77 [(.bl false),(.st 76 [(.int .u32 0),(.int .u32 0),(.ar 1 32 (zr 32 (.int .u8 0))),(.ar 1 32 (zr 32 (.int .u8 0))),(.int .u64 0),(.int .u64 0),(.st 6 [(.bl false),(.int .u64 0),(.ar 1 4 (zr 4 (.int .u64 0)))]),(.int .i64 0),(.bl false)])])]),.sl 1 [] true]:PV)=Ns p:=rfl;simp only[Xj];clear Xj;simp[oA,ha];refine mH.G3 1 (mH.s ?_);simp[↓al,Dk];refine aM.rA (alX hx p.b8) ?_;simp;refine⟨[.keep [5,8,9,11,13,14,56,57,58,86,87,88],.dr 16],?_⟩;simp;refine mH.z ?_;simp[↓al];obtain⟨D,hD⟩:∃D:bh,D=⟨r,c.ju.fv,(kN c.ju iY).fv,c.port,kA.fv,now,[],[⟨x,p.b8⟩],[],[],kB.fv,now,[],[],0⟩:=⟨_,rfl⟩
 have Tf:au [aP (qp p)]:=by simp
 have hVp:Pure (Ns p):=by simp
 have N0:=VU (d:=D) (m:=1) Tf (o:= .sl 86 [] false) (by simp) hVp (by rw[←hk];simp[Ns,aO]);have Xb:=acN (qp p);rw[←hD];have Ak:aY D (.sl 464 [aP (qp p)] false)=gP ⟨r,c.ju.fv,(kN c.ju iY).fv,c.port,kA.fv,now,[qp p],[⟨x,p.b8⟩],[],[],kB.fv,now,[],[],0⟩:=by rw[hD];rfl
 have hpu:Pure (aY D (.sl 464 [aP (qp p)] false)):=by rw[Ak];exact EP _
 rw[←Ak];clear Ak hD;generalize aP (qp p)=q at*;generalize Ns p=V at*;have hq:=(au.forget Tf) q (by simp);refine ai.gA [48,90,14] [] [.box (Gq D (.rs 90 [] 0 1 1 464 .tip) (.sl 86 [] false)),.arr 464 [q],.box V] N0 (by simp[ab,af,ah,bT,idx,hq.refs,hVp.refs]) (by simp[az,aE,aS,bz,idx,hq.aE,hVp.aE]) (by simp[ab,af,ah,cY,hq.refs,hVp.refs]) ?_;simp[aI,az,aE,aS,cL,hq.aE,hVp.aE];simp[↓al];refine⟨[.keep [5,8,9,11,56,57,58],.dr 13,.dr 14],?_⟩;simp[hq.refs,hVp.refs];refine mH.z ?_;simp[↓al];refine ai.gA [90] [] [.arr 464 [q]] Xb (by simp[ab,ah,hq.refs]) (by simp[az,aS,hq.aE]) (by simp[ab,af,ah,hq.refs]) ?_;simp[aI,az,aE,aS,hq.aE];refine aA.plain [.keep [8,9],.fz 90] ?_;simp[hq.refs];exact hpu
theorem al3 {d:bh} (hm:Qo d) {d':bh} {Aj:List bM} {O:List PV} (hO:au O) {b:List UInt8} (hT:MC 26 [aQ b] (uY d).1 d.an (.bl true) d' Aj O) (hN:O.length≤1000000)
  {x y:PV} (hx:Pure x) (hw:x.width=18) (hwk:wk x=x) (hy:Pure y) (S9:wk y=y) (a:Int):
  aL Pg 7 [gP d,.st 22 [.int .i64 1,x,aQ b,.int .i64 a,y]] (.tup [gP (G4 (d',Aj)),.sl 86 O false]):=by
 refine ae.intro T.Gm (by simp[F.Gm,F.gj]) ?_;simp[F.Gm,F.gj,mP,aj,av];refine N8.of (λs'=>s'=⟨[(3,.pt 3 [] 0),(4,.pt 4 [] 0),(5,.sl 86 [] true),(6,.pt 11 [] 0)],[(3,.box (.st 22 [.int .i64 1,x,aQ b,.int .i64 a,y])),(4,.box zPs),(11,.box (tq d 108 d.an.length 200 0)),(108,.arr 464 (d.an.map aP)),(200,.arr 86 [])]⟩) ?_ ?_
 ·simp;refine ai.gA [] [108] [] (ky hm) (by simp) (by simp) (by simp[ab,af,cY]) ?_;simp[aI,az,aE,cL];refine⟨[.keep [3,4,5,6],.dr 2,.vb 11 [.f 1 148] 200 86],?_⟩;simp[bn,bU,af,ab,ah];exact⟨⟨hx.refs _,hy.refs _⟩,rfl,rfl⟩
 rintro s' rfl;rw[Qn];generalize hs:uY d=s at*;simp[hw];refine ai.mo 11 108 200 (L:=[]) (hT [] (by simp) (by simpa using hN)) (by simp) (by simp) (by simp) (by simp) vI (by simp[ah,af,bT,idx]) (by simp[aS,aE,bz,idx]) ?_;rintro r fp ⟨rfl,rfl⟩;refine⟨_,_,_,rfl,by simp,hO,?_⟩;simp;refine lv.run [4] rfl ?_;simp;refine aA.plain [.keep [4,5],.dr 3,.dr 11,.fz 108,.fz 200] ?_;simp[bn,bU,af,ab,hO.refs,hO.iQ];exact⟨hO,rfl⟩
theorem QG {a b:Key} (h:a.fv=b.fv):a=b:=by
 have h:aG a=aG b:=congrArg FV.p h;have e:=wG a b;rw[←h,wG a a]at e;simpa using e.symm
theorem LB {s:uV} (h:s.1.an=[]):uY (G4 s)=s:=by
 obtain⟨d,ps⟩:=s;cases d;simp only at h;subst h;rfl
theorem al4 {n i:Nat} {p:PV} (h:i<(zr n p).length):(zr n p)[i]=p:=by
 have:∀l:List PV,l=List.replicate n p->∀h:i<l.length,l[i]=p:=by rintro _ rfl h;simp
 exact this _ (by rw[cm]) h
def Kc:Bh:=⟨iY,zK,true,u6 0,0,[⟨fU 1 0,16⟩]⟩
def C24:Lz:=⟨k1,0,[Kc]⟩
def LC:bh:=Dk VT C24 R1 0 0 [qp Kc] [Db (fU 1 0) iY] [] (Gf k2.l fa).fv
theorem VV:aL Pg 33 [] (c9 VT):=by
 refine ae.intro (aC R.nr.2) (by simp[R.nr]) ?_;simp[R.nr,aj,av];refine aA.plain [] ?_;simp;rfl
theorem al5:aL Pg 32 [c9 VT,lH C24,aG k2,.int .i64 0] (.tup [gP LC,.int .i64 0]):=
 al2 (r:=VT) alY (VS (c:=C24) (QE (p:=Kc) rfl rfl (by decide) (by decide) (by decide) rfl rfl (by decide)) rfl rfl (by decide) (by decide)) rfl rfl (by decide) rfl k2 (by decide) (by decide)
theorem Dq:qJ (yE (qp Kc)):=by
 refine⟨rfl,⟨List.replicate 16 0,rfl,?_⟩,?_,zO,?_,?_,.inl rfl,by simp[yE],?_⟩
 ·show PV.ar 1 16 (zr 16 (.int .u8 0))=_;rw[cm];rfl
 ·show(0:Int)≤yC.born;decide
 ·show(0:Int)≤yC.rem∧yC.rem≤4294967295;decide
 ·show(0:Int)≤yC.next;decide
 ·intro b hb;have:b=Ij:=by simpa[yE]using hb
  subst this;decide
theorem step1:∃(d':bh) (p':bM) (b:List UInt8),b.length=148∧MC 26 [aQ Ij] (uY LC).1 LC.an (.bl true) d' [p'] [lG (yE (qp Kc)) (aG zK) 0 b]∧
  d'= {(uY LC).1 with random:=R3.fv,aR:=d'.aR,timers:=[⟨5000,iY,1⟩]}∧d'.aR.length≤1∧p'= {yE (qp Kc)with hand:=p'.hand,G1:=p'.G1}∧p'.hand.started=0:=by
 have hn:=nz3;obtain⟨ck,BT,Mk⟩:=Dq.rG;obtain⟨d',p',O,hB,hM⟩:=Gh (d:=(uY LC).1) (by decide) (by decide) (ps:=[yE (qp Kc)]) (i:=0) (by simp) (k:=R1) (pr:=k1) rfl rfl Dq.xr BT Mk;rcases hB with⟨hb,_⟩|⟨_,hI⟩
 ·have:Ic (uY LC).1 [yE (qp Kc)][0]=true:=rfl;rw[this]at hb;simp at hb
 ·have cS:=hI.ok (by decide) (show kN e1 iY≠zK from hn.1) (show kN k1 iY≠zK from hn.2.2);rcases hI.out with⟨_,_,h⟩|⟨et,hh,N0,qH,b,hb,hOe⟩
  ·exact absurd h cS
  ·have et2:d'.timers=[⟨5000,iY,1⟩]:=by
    rw[et];unfold lj;rw[if_pos (by rfl)];rfl
   have hr:=hI.Vk;have hrn:d'.random=R3.fv:=hI.xf;rw[hrn,et2]at hr;have hO:au O:=(sE hI).1;have hF:=VJ (d:=(uY LC).1) (ps:=[yE (qp Kc)]) (i:=0) (by simp) rfl rfl (by decide) (by decide) Dq.born rfl hO hM;have hP:=VK (d:=(uY LC).1) (d':=d') (a:=fU 1 0) (k:=iY) rfl rfl (by decide) (by decide) (p:=qp Kc) (p':=p') rfl rfl rfl hO hF;refine⟨d',p',b,hb,?_,hr,hI.Y8.2,hI.Bg,qH⟩;have hO2:O=[lG (yE (qp Kc)) (aG zK) 0 b]:=hOe;rw[hO2]at hP;exact hP
theorem step2 {d':bh} {p':bM} (hd:d'= {(uY LC).1 with random:=R3.fv,aR:=d'.aR,timers:=[⟨5000,iY,1⟩]}) (hs:d'.aR.length≤1) (hp:p'= {yE (qp Kc)with hand:=p'.hand,G1:=p'.G1}) (qH:p'.hand.started=0):
  qK (d',[p'])∧∃b:List UInt8,b.length=148∧Ends 5000 (d',[p']) 1∧(tr 1 (d',[p'])).2=[lG p' (aG zK) 0 b]:=by
 have hn:=nz3;have ht:d'.timers=[⟨5000,iY,1⟩]:=by rw[hd]
 have h0:d'.now=0:=by rw[hd];rfl
 have xy:d'.rules=VT:=by rw[hd];rfl
 have hrn:d'.random=R3.fv:=by rw[hd]
 have aog:d'.ju=k1.fv:=by rw[hd];rfl
 have GX:p'.b8=iY:=by rw[hp];rfl
 have avL:p'.iH=0:=by rw[hp];rfl
 have hI:qK (d',[p']):=by
  refine⟨by show 0≤d'.now;omega,by show 0<d'.rules.ret;rw[xy];decide,by show d'.rules.ret≤_;rw[xy];decide,⟨R3,hrn⟩,⟨k1,aog⟩,by show d'.aR.length≤1000;omega,?_,by simp,by show SM d'.timers;rw[ht];simp[SM],?_⟩
  ·intro p rf;have:p=p':=by simpa using rf
   subst this;have h:=Dq;rw[hp];exact⟨h.1,h.2,h.3,h.4,h.5,h.6,h.7,h.8,h.9⟩
  ·intro t htm;have htm:t∈d'.timers:=htm;rw[ht]at htm;have:t=⟨5000,iY,1⟩:=by simpa using htm
   subst this;exact⟨by decide,0,by simp,by simp[kU,GX],by simp⟩
 refine⟨hI,?_⟩;have aoh:mj d'.timers 5000=true:=by rw[ht];rfl
 obtain⟨hA,_⟩:=BI hI (to:=5000) aoh (by show d'.now≤5000;omega) (by decide);have hm:kO d'.timers=⟨5000,iY,1⟩:=by rw[ht];rfl
 have hA:Nr (lp d') [p'] (kO d'.timers) (xf (d',[p'])):=hA
 have Oo:(lp d').now=5000:=by
  show max d'.now (kO d'.timers).at_=5000;rw[hm,h0];rfl
 have avM:(lp d').timers=[]:=by
  show bc d'.timers (kO d'.timers).peer (kO d'.timers).kind=[]
  rw[hm,ht];simp[bc,nX]
 rw[hm]at hA;have N0:tr 1 (d',[p'])=((xf (d',[p'])).1,[]++(xf (d',[p'])).2):=rfl;rw[N0];generalize hr:xf (d',[p'])=r at*;obtain⟨i,hi,hf,p2,_,⟨k,pr,hk,uu,hKR⟩,hO,_⟩:=hA;have hi0:i=0:=by simp at hi;omega
 subst hi0;have hk:R3.fv=k.fv:=by rw[←hrn];exact hk
 have uu:k1.fv=pr.fv:=by rw[←aog];exact uu
 have hk:=QG hk;have uu:=QG uu;subst hk uu;rcases hKR with⟨_,h⟩|⟨h,_⟩|⟨h,_⟩|⟨h,_⟩|⟨h,_⟩
 case inr.inl=>simp at h
 case inr.inr.inl=>simp at h
 case inr.inr.inr.inl=>simp at h
 case inr.inr.inr.inr=>simp at h
 rcases h with⟨_,hI2⟩|⟨hb,_⟩
 ·have Oi:(lp d').aR=d'.aR:=rfl;have cS:=hI2.ok (by rw[Oi];omega) (by show kN e2 p'.b8≠zK;rw[GX];exact hn.2.1) (by show kN k1 p'.b8≠zK;rw[GX];exact hn.2.2);rcases hI2.out with⟨_,_,h⟩|⟨et,_,_,_,b,hb,hOe⟩
  ·exact absurd h cS
  ·have et2:r.1.1.timers=[⟨10000,iY,1⟩]:=by
    rw[et];unfold lj;rw[if_pos (by show p'.iH=0;exact avL)];show iI (lp d').timers ⟨IntKind.i64.wrap ((lp d').now+d'.rules.ret),p'.b8,1⟩=_;rw[avM,Oo,xy,GX];rfl
   refine⟨b,hb,⟨λi hi=> ?_,?_⟩,hOe⟩
   ·have:i=0:=by omega
    subst this;exact aoh
   ·rw[N0];show mj r.1.1.timers 5000=false;rw[et2];rfl
 ·have:J8 (lp d') p'=true:=by
   unfold J8;rw[Oo,qH,show(lp d').rules=VT from xy];rfl
  have hb:J8 (lp d') p'=false:=hb;rw[this]at hb;simp at hb
theorem acP {d:bh} (h1:d.an.length≤10) (h2:d.bQ.length≤1000) (h3:d.aR.length≤1000) (h4:d.timers.length≤1000) (h5:d.fg.length≤1000) (h6:d.buckets.length≤1000) (h7:∀p∈d.an,qJ p):Qo d:=
 ⟨by omega,by omega,by omega,by omega,by omega,by omega,λp hp=>⟨by have:=(h7 p hp).stl;omega,λb hb=>by have:=(h7 p hp).stb b hb;omega⟩⟩
theorem acQ:PV.ar 1 32 ((zr 32 (.int .u8 0)).set 0 (.int .u8 9))=aG iY:=by rw[cm];rfl
theorem al6:PV.ar 1 32 ((zr 32 (.int .u8 0)).set 0 (.int .u8 1))=aG k1:=by rw[cm];rfl
theorem al7:PV.ar 1 32 ((zr 32 (.int .u8 0)).set 0 (.int .u8 2))=aG k2:=by rw[cm];rfl
theorem VW:aL Pg 10 [] (.bl true):=by
 have hAt:aL Pg 17 [.int .i64 0] (gZ (u6 0)):=jE (i:=0) (by omega);have hH:aL Pg 21 [.int .i64 1,.int .i64 0] (cN (fU 1 0)):=eQ 1 0;have hM:=di (a:=fU 1 0) (tw 1);have hN:=al5;have hH1:aL Pg 21 [.int .i64 0,.int .i64 1] (cN (fU 0 1)):=eQ 0 1;have hH2:aL Pg 21 [.int .i64 1,.int .i64 1] (cN (fU 1 1)):=eQ 1 1;obtain⟨d',p',b,hb,hMM,hd,hs,hp,qH⟩:=step1;obtain⟨hI,b2,AU,hE,hO2⟩:=step2 hd hs hp qH
 have hsm:Qo LC:=acP (by decide) (by decide) (by decide) (by decide) (by decide) (by decide) (by
  intro p hp;have:p=qp Kc:=by simpa[LC,Dk]using hp
  subst this;have h:=Dq;exact⟨h.1,h.2,h.3,h.4,h.5,h.6,h.7,by simp[qp],by simp[qp]⟩)
 have hP:=al3 hsm (O:=[lG (yE (qp Kc)) (aG zK) 0 b]) (by simp[lG]) hMM (by simp) (x:= .st 18 [.st 17 [.bl false,.ar 1 16 (zr 16 (.int .u8 0))],.int .i64 0]) (by simp) (by simp[PV.width]) (by simp[wk,fP]) (y:= .str []) (by simp) (by simp[wk]) 0;have Sa:d'.an=[]:=by rw[hd];rfl
 have Xm:uY (G4 (d',[p']))=(d',[p']):=LB Sa;have hdt:(G4 (d',[p'])).timers=[⟨5000,iY,1⟩]:=by show d'.timers=_;rw[hd]
 have hdn:(G4 (d',[p'])).now=0:=by show d'.now=_;rw[hd];rfl
 have avN:Qo (G4 (d',[p'])):=acP (by show [p'].length≤10;simp) (by rw[show(G4 (d',[p'])).bQ=(uY LC).1.bQ by show d'.bQ=_;rw[hd]];decide) (by show d'.aR.length≤1000;omega) (by rw[hdt];decide) (by rw[show(G4 (d',[p'])).fg=(uY LC).1.fg by show d'.fg=_;rw[hd]];decide) (by rw[show(G4 (d',[p'])).buckets=(uY LC).1.buckets by show d'.buckets=_;rw[hd]];decide) hI.Bg;have hT:=Zh avN (by rw[Xm];exact hI) (to:=5000) (by omega) (by decide) (by omega) (N:=1) (by rw[Xm];exact hE) (by rw[Xm,hO2];simp) (x:= .st 18 [.st 17 [.bl false,.ar 1 16 (zr 16 (.int .u8 0))],.int .i64 0]) (y:= .str []) (b:=[]) (by simp) (by simp[PV.width]) (by simp[wk,fP]) (by simp) (by simp[wk]);rw[Xm,hO2]at hT;have hq:Pure (lG (yE (qp Kc)) (aG zK) 0 b):=by simp[lG]
 have hq2:Pure (lG p' (aG zK) 0 b2):=by simp[lG]
 refine ae.intro T.ie (by simp[F.ie]) ?_;simp[F.ie,aj,av];refine ai.rA VV ?_;simp[al4,al6,acQ];refine ai.rA hAt ?_;simp;refine ai.rA hH ?_;simp;refine ai.rA hM ?_;simp[al4,al7];refine ai.ret hN (by simp[te];rfl) (by simp) (by simp) ?_;simp;refine aM.rA hH1 ?_;simp;refine aM.rA hH2 ?_;simp;refine aM.rA VG ?_;simp;refine aM.ret hP (by simp) (by simp) (by simp[hq]) ?_;simp;refine ai.ret hT (by simp[aQ]) (by simp) (by simp[hq2]) ?_;have aoi:(b.length:Int)=148:=by omega
 have aes:(b2.length:Int)=148:=by omega
 simp(maxSteps:=2000000) [lG,aoi,aes];refine aA.plain [] ?_;simp
theorem VM.inv {d:bh} {m:Nat} (h:VM d m):qK (uY d):=by
 obtain⟨q1,q2,q3,q4,q5,_⟩:=h.vd.ru;have oJ:=h.vd.DT.1;have DQ:=h.vd.sls.len oJ;refine⟨h.vd.n0,by show 0<d.rules.ret;omega,by show d.rules.ret≤_;omega,h.vd.kr,h.vd.kp,by show d.aR.length≤1000;omega,?_,by show d.an.length≤10;omega,h.ti.un,?_⟩
 ·intro p hp;have hp:=h.vd.Bg p hp;refine⟨hp.xr,⟨List.replicate 16 0,rfl,?_⟩,?_,?_,?_,?_,?_,by rw[hp.ej];simp,by rw[hp.ej];simp⟩
  ·rw[hp.rG];show PV.ar 1 16 (zr 16 (.int .u8 0))=_;rw[cm];rfl
  ·rcases hp.rc with⟨_,h⟩|⟨_,h⟩
   ·exact h.b0
   ·rw[h];show(0:Int)≤yC.born;decide
  ·rcases hp.rc with⟨_,h⟩|⟨_,h⟩
   ·exact h.sk
   ·rw[h];exact zO
  ·rcases hp.rc with⟨_,h⟩|⟨_,h⟩
   ·exact h.rm
   ·rw[h];show(0:Int)≤yC.rem∧yC.rem≤4294967295;decide
  ·rcases hp.rc with⟨_,h⟩|⟨_,h⟩
   ·exact h.n0
   ·rw[h];show(0:Int)≤yC.next;decide
  ·rcases hp.iH with h|h
   ·exact .inl h
   ·exact .inr ⟨by omega,by omega⟩
 ·intro t ht;obtain⟨r1,r2,r3,r4,i,hi,r5,r6⟩:=h.ti.rg t ht;refine⟨⟨by omega,r2⟩,i,hi,?_,r6⟩;refine sD hi (λx hx=> ?_) ?_
  ·rw[JpQ]at hx;obtain⟨j,hj,rfl⟩:=hx;have Er:j<d.an.length:=by omega
   show decide (d.an[j].b8=t.peer)=false;rw[h.vd.DT.2 j Er,r5];simp only[decide_eq_false_iff_not];intro e;have:=vP (by omega) (by omega) e;omega
  ·show decide (d.an[i].b8=t.peer)=true;rw[h.vd.DT.2 i hi,r5];simp
theorem atP {l:List UInt8} (hl:l.length≤9223372036854775807) {n:Nat} (hn:n≤1000000):ae Pg 6 [aQ l,.int .i64 n] [] (λr fp=>r= .pt KB [] 0∧fp=[.box (eu ⟨l.take n,0⟩)]):=by
 refine ae.intro (aC R.qv.2) (by simp[R.qv]) ?_;simp[R.qv,aj,av];have wA:(min (l.length:Int) (n:Int))=((min l.length n:Nat):Int):=by omega
 have ht:(List.map u8 l).take (min l.length n)=(l.take n).map u8:=by
  rw[←JfQ];congr 1;rcases Nat.le_total l.length n with h|h
  ·rw[JdW h,JcX,tJ h]
  ·rw[Nat.min_eq_right h]
 simp(disch:=omega) [aQ,wA,ht];refine⟨by omega,?_⟩;refine aA.with [] [12] ?_;simp[ab,af,ah,az,aE,aS];simp[eu,aQ]
theorem yD.fin {s s':uV} (h:yD s s') (to:Int):yD s (Ab.fin to s'):=by
 have:=congrArg (λe:bh=>({e with now:=to}:bh)) h;exact this
theorem yD.trans {s s' s2:uV} (h:yD s s') (g:yD s' s2):yD s s2:=by
 unfold yD at*;rw[g];generalize s2.1=e at*;rw[h]
theorem atQ {d:bh} {m:Nat} (h:VM d m) {s:uV} (hI:qK s) (hS:yD (uY d) s):Qo (G4 s):=by
 have h1:=congrArg bh.bQ hS;have h2:=congrArg bh.fg hS;have h3:=congrArg bh.buckets hS;have h4:=hI.tl;have h5:=hI.len;have h6:=h.vd.rts.1;refine acP hI.len ?_ hI.Y8 (by show s.1.timers.length≤1000;omega) ?_ ?_ hI.Bg
 ·show s.1.bQ.length≤1000;rw[h1];show d.bQ.length≤1000;omega
 ·show s.1.fg.length≤1000;rw[h2];show d.fg.length≤1000;rw[h.vd.rcn];simp
 ·show s.1.buckets.length≤1000;rw[h3];show d.buckets.length≤1000;rw[h.vd.buc];simp
theorem zQ {l:List cT} {k:Key} {n:Int} {x:cT} (h:x∈l) (hn:¬(x.peer=k∧x.kind=n)):x∈bc l k n:=
 JgQ.2 ⟨h,by simp only[nX,JhZ,Bool.and_eq_false_iff,decide_eq_false_iff_not];exact Decidable.not_and_iff_or_not.1 hn⟩
theorem zV {k:Key} {x:cT} (hn:x.peer≠k):∀ {ns:List Int} {l:List cT},x∈l->x∈jV k l ns
 |[],_,h=>h
 |n::ns,_,h=>zV hn (ns:=ns) (zQ h λe=>hn e.1)
theorem Dr {k:Key} {x:cT}:∀ {ns:List Int} {l:List cT},x∈jV k l ns->x∈l
 |[],_,h=>h
 |n::ns,_,h=>(jh (Dr (ns:=ns) h)).1
theorem Nu {l:List cT} {t x:cT} (h:x∈l) (hn:¬(x.peer=t.peer∧x.kind=t.kind)):x∈iI l t:=by
 rw[vO,(mq t _).mem_iff];exact List.mem_cons_of_mem _ (zQ h hn)
theorem AI {x:gh}:∀ {l:List Int} {s:List gh},x∈bY s l->x.index∉l
 |[],_,_=>by simp
 |
  y::l,s,h=>by
  have h1:=(JgQ.1 (oC (l:=l) h)).2
  have h2:=AI (l:=l) h
  simp only[EW,decide_eq_true_eq]at h1
  exact λe=>by
   rcases cJ.1 e with e|e
   ·exact h1 e
   ·exact h2 e
theorem QH {kd:Int} {d:bh} {p:bM} {k pr:Key} {d':bh} {p':bM} {O:List PV} (h:KR kd d p k pr d' p' O) (he:p.fD=false) (h1:kd≠1):
  O=[]∧((kd≠5∧p'=p∧(d'=d∨∃n,d'=uU d (iI d.timers ⟨n,p.b8,4⟩)))∨(kd=5∧d'=Gi d p∧p'=Df p)):=by
 have hb:Ic d p=false:=by unfold Ic;rw[he];rfl
 have hk:∀ {d1:bh} {p1:bM} {O:List PV},Ie d p k pr d1 p1 O->d1=d∧p1=p∧O=[]:=by
  intro d1 p1 O h;rcases h with⟨_,a,b,c⟩|⟨e,_⟩|⟨e,_⟩
  ·exact⟨a,b,c⟩
  ·rw[he]at e;cases e
  ·rw[he]at e;cases e
 rcases h with⟨e,_⟩|⟨rfl,h⟩|⟨rfl,h⟩|⟨rfl,d1,h,rfl⟩|⟨rfl,a,b,c⟩
 ·exact absurd e h1
 ·rcases h with⟨_,a,b,c⟩|⟨e,_⟩
  ·exact⟨c,.inl ⟨by decide,b,.inl a⟩⟩
  ·rw[hb]at e;cases e
 ·obtain⟨a,b,c⟩:=hk h;exact⟨c,.inl ⟨by decide,b,.inl a⟩⟩
 ·obtain⟨rfl,rfl,c⟩:=hk h;exact⟨c,.inl ⟨by decide,rfl,.inr ⟨_,rfl⟩⟩⟩
 ·exact⟨c,.inr ⟨rfl,a,b⟩⟩
structure LD (e:Int) (s:uV):Prop where
 inv:qK s
 ep:∀p∈s.2,p.fD=false∧p.hand.has=false
 ti:∀t∈s.1.timers,t.kind≠1
 nd:∀(i j:Nat) (hi:i<s.2.length) (hj:j<s.2.length),s.2[i].b8=s.2[j].b8->i=j
 rg:∀p∈s.2,p.ring=Di∨∃t∈s.1.timers,t.peer=p.b8∧t.kind=5∧t.at_≤e
 sl:∀x∈s.1.aR,∃p∈s.2,x.index∈AJ p.ring
theorem LD.xf {e:Int} {s:uV} (h:LD e s) {to:Int} (hd:mj s.1.timers to=true) (hn:s.1.now≤to) (I3:to≤1099511627776):LD e (Ab.xf s).1∧(Ab.xf s).2=[]:=by
 obtain⟨⟨i,hi,hf,p',e2,⟨k,pr,_,_,hK⟩,_⟩,hI,_⟩:=BI h.inv hd hn I3;have hm:=(Gk hd).1;have nG:=h.ep _ (JbJ hi);obtain⟨hO,hC⟩:=QH hK nG.1 (h.ti _ hm);have GX:s.2[i].b8=(kO s.1.timers).peer:=of_decide_eq_true (Gl hf hi);clear hK;generalize Ab.xf s=r at*;obtain⟨⟨d',Aj⟩,O⟩:=r;simp only at e2 hO hC hI⊢;subst e2;refine⟨?_,hO⟩
 have cS:∀j (hj:j<s.2.length),j≠i->s.2[j].b8≠(kO s.1.timers).peer:=by
  intro j hj Af e;rw[←GX]at e;exact Af (h.nd j i hj hi e)
 have hp':p'.b8=s.2[i].b8∧p'.fD=false∧p'.hand.has=false:=by
  rcases hC with⟨_,rfl,_⟩|⟨_,_,rfl⟩
  ·exact⟨rfl,nG⟩
  ·exact⟨rfl,nG.1,rfl⟩
 have kX:∀t∈s.1.timers,t.kind=5->(t.peer≠(kO s.1.timers).peer∨(kO s.1.timers).kind≠5)->t∈d'.timers:=by
  intro t ht h5 hor
  have h0:t∈(lp s.1).timers:=zQ ht (by
   rintro⟨a,b⟩;rcases hor with h|h
   ·exact h a
   ·omega)
  rcases hC with⟨_,_,rfl|⟨n,rfl⟩⟩|⟨hk5,rfl,_⟩
  ·exact h0
  ·exact Nu h0 (by rintro⟨_,b⟩;have b:t.kind=4:=b;omega)
  ·have hp:t.peer≠s.2[i].b8:=by
    rw[GX];rcases hor with h|h
    ·exact h
    ·exact absurd hk5 h
   exact zV hp (zV (ns:=[1]) hp h0)
 refine⟨hI,?_,?_,?_,?_,?_⟩
 ·intro p hp;rcases JhJ hp with hp|rfl
  ·exact h.ep p hp
  ·exact hp'.2
 ·intro t ht
  have h1:t∈(lp s.1).timers∨t.kind=4:=by
   rcases hC with⟨_,_,rfl|⟨n,rfl⟩⟩|⟨_,rfl,_⟩
   ·exact .inl ht
   ·rcases Ih ht with rfl|ht
    ·exact .inr rfl
    ·exact .inl ht.1
   ·exact .inl (Dr (ns:=[1]) (Dr (ns:=[2,3]) ht))
  rcases h1 with h1|h1
  ·exact h.ti t (jh h1).1
  ·omega
 ·intro a b ha hb N2
  have e:∀j (hj:j<(s.2.set i p').length),(s.2.set i p')[j].b8=(s.2[j]'(by simpa using hj)).b8:=by
   intro j hj;rw[JpW];split
   ·rename_i e;subst e;exact hp'.1
   ·rfl
  exact h.nd a b (by simpa using ha) (by simpa using hb) (by rw[←e a ha,←e b hb];exact N2)
 ·intro p hp;obtain⟨j,hj,rfl⟩:=JmJ.1 hp;have Jf:j<s.2.length:=by simpa using hj
  by_cases Af:j=i
  ·subst Af;rw[List.getElem_set_self];rcases hC with⟨h5,rfl,_⟩|⟨_,_,rfl⟩
   ·rcases h.rg _ (JbJ hi)with h0|⟨t,ht,a,b,c⟩
    ·exact .inl h0
    ·exact .inr ⟨t,kX t ht b (.inr h5),a,b,c⟩
   ·exact .inl rfl
  ·have e:(s.2.set i p')[j]=s.2[j]:=List.getElem_set_ne (λe=>Af e.symm) hj;rw[e];rcases h.rg _ (JbJ Jf)with h0|⟨t,ht,a,b,c⟩
   ·exact .inl h0
   ·exact .inr ⟨t,kX t ht b (.inl (by rw[a];exact cS j Jf Af)),a,b,c⟩
 ·intro x hx;rcases hC with⟨_,rfl,hd⟩|⟨_,rfl,rfl⟩
  ·have hx:x∈s.1.aR:=by rcases hd with rfl|⟨n,rfl⟩<;>exact hx
   obtain⟨p,hp,hl⟩:=h.sl x hx;exact⟨p,by rw[JoX];exact hp,hl⟩
  ·have A7:x∈bY s.1.aR (AJ s.2[i].ring):=by
    have e:(Gi (lp s.1) s.2[i]).aR=bY s.1.aR (AJ s.2[i].ring):=by
     unfold Gi lW;rw[if_neg (by rw[nG.2];simp)];rfl
    rw[←e];exact hx
   obtain⟨p,hp,hl⟩:=h.sl x (oC A7);obtain⟨j,hj,rfl⟩:=JmJ.1 hp;have Af:j≠i:=by rintro rfl;exact AI A7 hl
   exact⟨s.2[j],JmJ.2 ⟨j,by simpa using hj,List.getElem_set_ne (Ne.symm Af) _⟩,hl⟩
theorem LD.tr {e:Int} {s:uV} (h:LD e s) {to:Int} (hn:s.1.now≤to) (I3:to≤1099511627776):∀N,(∀i,i<N->mj (Ab.tr i s).1.1.timers to=true)->LD e (Ab.tr N s).1∧(Ab.tr N s).2=[]
 |0,_=>⟨h,rfl⟩
 |
  N+1,hd=>by
  obtain⟨h1,h2⟩:=LD.tr h hn I3 N (λi hi=>hd i (by omega))
  obtain⟨_,⟨_,g2⟩,_⟩:=uX h.inv hn I3 N (λi hi=>hd i (by omega))
  obtain⟨a,b⟩:=h1.xf (hd N (by omega)) g2 I3
  exact⟨a,by show(Ab.tr N s).2++(Ab.xf (Ab.tr N s).1).2=[];rw[h2,b];rfl⟩
theorem LD.done {e:Int} {s:uV} (h:LD e s) (hd:mj s.1.timers e=false):(∀p∈s.2,p.ring=Di)∧s.1.aR=[]:=by
 have h1:∀p∈s.2,p.ring=Di:=by
  intro p hp;rcases h.rg p hp with h0|⟨t,ht,a,b,c⟩
  ·exact h0
  ·have:=Vs hd ht;omega
 refine⟨h1,JrX.2 λx hx=> ?_⟩;obtain⟨p,hp,hl⟩:=h.sl x hx;rw[h1 p hp]at hl;simp[AJ,tW,Di,oN]at hl
def Ip (p:bM):bM:= {p with fD:=false,ep:=Gr}
theorem qK.Ip {s:uV} (h:qK s):qK (s.1,s.2.map Ab.Ip):=by
 refine⟨h.1,h.2,h.3,h.4,h.5,h.6,?_,by show(s.2.map Ab.Ip).length≤10;rw[JaX];exact h.len,h.9,?_⟩
 ·intro p hp;obtain⟨q,hq,rfl⟩:=JgX.1 hp;have g:=h.Bg q hq;exact⟨g.1,g.2,g.3,g.4,g.5,g.6,g.7,g.8,g.9⟩
 ·intro t ht;obtain⟨hk,i,hi,hf,h4⟩:=h.SN t ht;have hl:i<(s.2.map Ab.Ip).length:=by rw[JaX];exact hi
  refine⟨hk,i,hl,?_,λe=> ?_⟩
  ·rw[←hf];unfold kU;rw[List.findIdx?_map];rfl
  ·show((s.2.map Ab.Ip)[i]'hl).iH≠0;rw[JqJ];exact h4 e
theorem QI {d:bh} {p:ue} (h:mr d p) (hn:p.has=false):p=oN:=by
 rcases h with⟨e,_⟩|⟨_,e⟩
 ·rw[hn]at e;cases e
 ·exact e
theorem VM.qu {d:bh} {m:Nat} (h:VM d m):LD (d.now+3*d.rules.nc) ((uY d).1,d.an.map Ip):=by
 have oJ:=h.vd.DT.1;refine⟨h.inv.Ip,?_,?_,?_,?_,?_⟩
 ·intro p hp;obtain⟨q,hq,rfl⟩:=JgX.1 hp;refine⟨rfl,?_⟩;show q.hand.has=false;rw[(h.vd.Bg q hq).hand];rfl
 ·intro t ht e;have:=(h.ti.rg t ht).1;omega
 ·intro i j hi hj e;have jR:i<d.an.length:=by simpa using hi
  have Jf:j<d.an.length:=by simpa using hj
  have e:(d.an.map Ip)[i].b8=(d.an.map Ip)[j].b8:=e;rw[JqJ,JqJ]at e;have e:d.an[i].b8=d.an[j].b8:=e;rw[h.vd.DT.2 i jR,h.vd.DT.2 j Jf]at e;exact vP (by omega) (by omega) e
 ·intro p hp;obtain⟨q,hq,rfl⟩:=JgX.1 hp;have g:=h.vd.Bg q hq;by_cases hs:qw q=[]
  ·left;have hl:tW [q.ring.p,q.ring.c,q.ring.n]=[]:=by simpa[qw,AJ]using hs
   have hf:∀x∈[q.ring.p,q.ring.c,q.ring.n],x.has=false:=by
    intro x hx;have:=List.filter_eq_nil_iff.1 (List.map_eq_nil_iff.1 hl) x hx;simpa using this
   have e1:=QI g.rp (hf _ (by simp));have e2:=QI g.rc (hf _ (by simp));have e3:=QI g.rn (hf _ (by simp));show q.ring=Di;obtain⟨a,b,c,hr⟩:∃a b c,q.ring=rF.mk a b c:=⟨q.ring.p,q.ring.c,q.ring.n,rfl⟩
   rw[hr]at e1 e2 e3;simp only at e1 e2 e3;rw[hr,e1,e2,e3];rfl
  ·right;obtain⟨t,ht,a,b,c⟩:=h.wp q hq hs;exact⟨t,ht,a,b,c⟩
 ·intro x hx;have hx:=h.vd.sls.pm.mem_iff.1 (show x∈d.aR from hx);obtain⟨q,hq,hx⟩:=JkW.1 hx;obtain⟨y,hy,rfl⟩:=JgX.1 hx;exact⟨Ip q,JgX.2 ⟨q,hq,rfl⟩,hy⟩
theorem LD.step {e:Int} {s:uV} (h:LD e s) {to:Int} (hn:s.1.now≤to) (I3:to≤1099511627776):
  ∃N,Ends to s N∧(Ab.tr N s).2=[]∧LD e (fin to (Ab.tr N s).1)∧yD s (fin to (Ab.tr N s).1)∧mj (Ab.tr N s).1.1.timers to=false:=by
 obtain⟨N,hE⟩:=alC h.inv hn I3;obtain⟨a,b⟩:=h.tr hn I3 N hE.1;obtain⟨_,⟨_,g2⟩,_,g4,_⟩:=uX h.inv hn I3 N hE.1;exact⟨N,hE,b,⟨a.inv.fin g2,a.ep,a.ti,a.nd,a.rg,a.sl⟩,g4.fin to,hE.2⟩
theorem Nv {d:bh} (h:VD d) {i:Nat} (hi:i<d.an.length) {s:kS} (hs:yG d s) (h1:1≤s.loc) (pF:∀x∈d.aR,x.index≠s.loc) (own:Bool):
  ae Pg 22 [gP d,aG (pC i),eT s,.bl own] [] (λr fp=>r= .tup [aY (mw d i hi s own) (.rs KB [] 0 d.an.length d.an.length 464 .tip),.int .i64 0]∧fp=[.arr 464 ((mw d i hi s own).an.map aP)]):=by
 refine ae.intro T.fW (by simp[F.fW]) ?_;have DQ:=h.sls.len h.DT.1;have hni:¬(i:Int)<0:=by omega
 have NY:¬s.loc=0:=by omega
 have xy:=h.ru;have hx:d.an[i]? =some d.an[i]:=gJ hi
 have hw:IntKind.i64.wrap (3*d.rules.nc)=3*d.rules.nc:=by
  obtain⟨h1,h2,h3,h4,h5,h6,h7,h8,h9,h10,h11,_⟩:=xy;exact wrap_i64 (by omega)
 simp[F.fW,aj,av];refine ai.rA (VX h) ?_;simp;refine ai.rA (Kd h.DT hi) ?_;simp[hni];refine ai.rA (AL (l:=d.aR) (by omega) pF) ?_;simp[NY];refine ai.rA (LF hs) ?_;simp;refine ai.gA [] [47] [] (fj h.sml) (by simp) (by simp) (by simp[ab,af,cY]) ?_;simp[aI,az,aE,cL,hi];obtain⟨PS,hPS⟩:∃PS,PS=d.an.set i (pR d.an[i] (u7 d.an[i].ring s own)):=⟨_,rfl⟩
 have hPl:PS.length=d.an.length:=by rw[hPS,JjQ]
 obtain⟨SD,hSD⟩:∃SD,SD=bY d.aR (kC d.an[i].ring own):=⟨_,rfl⟩
 have az7:SD.length≤9:=by have:=kt (kC d.an[i].ring own) d.aR;rw[←hSD]at this;omega
 have hT:=Take (l:=SD) (by omega) h1 (λx hx=>pF x (by rw[hSD]at hx;exact oC hx)) (pC i) true;obtain⟨SL,hSL⟩:∃SL,SL=Bj SD ⟨s.loc,pC i,true⟩:=⟨_,rfl⟩
 rw[←hSL]at hT
 have hPi:PS[i].b8=pC i:=by
  simp only[hPS,List.getElem_set_self];exact h.DT.2 i hi
 have Fo:=h.tis.len;have az8:=h.n0;have az9:=h.n1;obtain⟨q1,q2,q3,q4,q5,q6,q7,q8,q9,q10,q11,_⟩:=xy;cases own with
 |
  true=>
  have kQ:(List.map aP d.an).set i (aP {d.an[i]with ring:=xl d.an[i].ring s})=PS.map aP:=by
   rw[hPS,JfJ];rfl
  have hD:=yH (d:=d) (by omega) (l:=tz d.an[i].ring) (E2 d.an[i].ring true) PS
  have aeu:bY d.aR (tz d.an[i].ring)=SD:=by rw[hSD];rfl
  have hS:=AM (d:=py d SL) (by show d.timers.length≤1048575;omega) (ps:=PS) (i:=i) (by omega) 5 (n:=3*d.rules.nc) h.n0 h.n1 (by omega) (by omega)
  rw[hPi]at hS
  rw[hPl]at hD hS
  dsimp only at kQ
  simp[Zs]
  refine aM.rA (dH d.an[i].ring s) ?_
  simp[hi]
  rw[kQ]
  refine ai.gA [13,47] [] [.box (E3 d (.rs 47 [] 0 d.an.length d.an.length 464 .tip)),.arr 464 (PS.map aP)] hD (by simp[ab,af,bT,idx]) (by simp[az,aE,bz,idx]) (by simp[ab,af,cY]) ?_
  simp[aI,az,aE,cL,aeu]
  refine ai.rA hT ?_
  simp[hw]
  refine ai.gen [13,47] [] [.box (E3 (py d SL) (.rs 47 [] 0 d.an.length d.an.length 464 .tip)),.arr 464 (PS.map aP)] hS (by simp[getAll];rfl) (by simp) (by simp) (by simp[ah,af,bT,idx]) (by simp[ab,af,bT,idx]) (by simp[aS,aE,bz,idx]) (by simp[az,aE,bz,idx]) (by simp[ab,af,cY]) ?_
  simp[aI,az,aE,cL]
  refine aA.with [.keep [8,9],.dr 13] [47] ?_
  simp[bn,bU,af,ab]
  have he:mw d i hi s true= {uU (py d SL) (iI (py d SL).timers ⟨(py d SL).now+3*d.rules.nc,pC i,5⟩)with an:=PS}:=by
   simp only[mw,hPS,hSL,hSD,uU,py]
  rw[he]
  exact⟨rfl,rfl⟩
 |
  false=>
  have kQ:(List.map aP d.an).set i (aP {d.an[i]with ring:=QJ d.an[i].ring s})=PS.map aP:=by
   rw[hPS,JfJ];rfl
  have hD:=yH (d:=d) (by omega) (l:=Iq d.an[i].ring) (E2 d.an[i].ring false) PS
  have aeu:bY d.aR (Iq d.an[i].ring)=SD:=by rw[hSD];rfl
  have hS:=AM (d:=py d SL) (by show d.timers.length≤1048575;omega) (ps:=PS) (i:=i) (by omega) 5 (n:=3*d.rules.nc) h.n0 h.n1 (by omega) (by omega)
  rw[hPi]at hS
  rw[hPl]at hD hS
  dsimp only at kQ
  simp[Zs]
  refine aM.rA (gy d.an[i].ring s) ?_
  simp[hi]
  rw[kQ]
  refine ai.gA [13,47] [] [.box (E3 d (.rs 47 [] 0 d.an.length d.an.length 464 .tip)),.arr 464 (PS.map aP)] hD (by simp[ab,af,bT,idx]) (by simp[az,aE,bz,idx]) (by simp[ab,af,cY]) ?_
  simp[aI,az,aE,cL,aeu]
  refine ai.rA hT ?_
  simp[hw]
  refine ai.gen [13,47] [] [.box (E3 (py d SL) (.rs 47 [] 0 d.an.length d.an.length 464 .tip)),.arr 464 (PS.map aP)] hS (by simp[getAll];rfl) (by simp) (by simp) (by simp[ah,af,bT,idx]) (by simp[ab,af,bT,idx]) (by simp[aS,aE,bz,idx]) (by simp[az,aE,bz,idx]) (by simp[ab,af,cY]) ?_
  simp[aI,az,aE,cL]
  refine aA.with [.keep [8,9],.dr 13] [47] ?_
  simp[bn,bU,af,ab]
  have he:mw d i hi s false= {uU (py d SL) (iI (py d SL).timers ⟨(py d SL).now+3*d.rules.nc,pC i,5⟩)with an:=PS}:=by
   simp only[mw,hPS,hSL,hSD,uU,py]
  rw[he]
  exact⟨rfl,rfl⟩
theorem Ke {d:bh} {c:tA} {n:Nat} (hV:VP d n) (hn:n=2∨n=3) (hC:iD c):
  aw Pg F.acS (ends 1 [AK.load true 148 (AX.t 2)] λr fp=>∃a b,(VM a 40∧2≤a.an.length∧iD b∧Bd a)∧r=aY a (.rs (KB+1) [] 0 a.an.length a.an.length 464 .tip)∧fp=[aU.box (eu b),aU.arr 464 (a.an.map aP)])
   {
    env:=[(0,.pt KB [] 0),(2,.pt 2 [] 0),(3,.pt 3 [] 0),(4,.int .i64 n),(5,.int .i64 n),(38,.int .i64 n),(39,.int .i64 n),(40,.bl false)],
    bx:=[(2,.box zD),(3,.box (aY d (.rs 80 [] 0 n n 464 .tip))),(80,.arr 464 (d.an.map aP)),(KB,.box (eu c))]}:=by
 simp[F.acS];refine eW.PL n (d,c) (λi y=>(VM y.1 (3+3*i)∧y.1.an.length=n∧atS y.1 (10*i))∧iD y.2) [0,2,3,4,7] (λi _=>[(7,.int .i64 i)]) (λi y=>[(3,.box (aY y.1 (.rs 80 [] 0 n n 464 .tip))),(80,.arr 464 (y.1.an.map aP)),(KB,.box (eu y.2))]) [.keep [0,2,3,4,7]] ?_;simp;have hL:=hV.len;refine⟨⟨⟨⟨hV.vm.vd,hV.vm.ti.mono (by omega),hV.vm.wp⟩,hL,?_⟩,hC⟩,?_,?_⟩
 ·intro x hx;rw[hV.sl]at hx;simp at hx
 ·intro i d c hi hV hL hS hC K hK;have Es:IntKind.i64.wrap ((i:Int)+1)=(i:Int)+1:=wrap_i64 (by omega);simp[F.acT,hi];refine ai.jJ KB (bg hC 4 (by omega)) ?_;have m1:=dB c (n:=4) (by omega);have p1:=dC hC 4;generalize oD c 4=y1 at*;simp;refine eW.PL y1.1 (d,y1.2) (λj y=>(VM y.1 (3+3*i+j)∧y.1.an.length=n∧(∀x∈y.1.aR,0≤x.index∧(x.index<10*i∨10*(i:Int)+y1.1-j<x.index∧x.index≤10*i+3)))∧iD y.2) [0,2,3,4,7,8] (λj _=>[(8,.int .i64 ((y1.1:Int)-j))]) (λj y=>[(3,.box (aY y.1 (.rs 80 [] 0 n n 464 .tip))),(80,.arr 464 (y.1.an.map aP)),(KB,.box (eu y.2))]) [.keep [0,2,3,4,7,8]] ?_;simp;refine⟨⟨⟨hV,hL,λx hx=>⟨(hS x hx).1,Or.inl (hS x hx).2⟩⟩,p1⟩,?_,?_⟩
  ·intro j d c hj hV hL hS hC K2 qQ;have hgt:(0:Int)<(y1.1:Int)-j:=by omega
   have v1:IntKind.i64.wrap (10*(i:Int))=10*(i:Int):=wrap_i64 (by omega);have v2:IntKind.i64.wrap (10*(i:Int)+((y1.1:Int)-j))=10*(i:Int)+((y1.1:Int)-j):=wrap_i64 (by omega);obtain⟨m,hm⟩:∃m:Nat,m=10*i+(y1.1-j):=⟨_,rfl⟩
   have v3:IntKind.u32.wrap (10*(i:Int)+((y1.1:Int)-j))=(m:Int):=by rw[wrap_u32 (by omega)];omega
   have v4:IntKind.i64.wrap ((y1.1:Int)-j-1)=(y1.1:Int)-(j+1):=by rw[wrap_i64 (by omega)];omega
   have ht:List.take n (List.map aP d.an)=List.map aP d.an:=tJ (by simp[hL]);simp[F.acU];refine N8.of (λs'=>s'=⟨[(0,.pt KB [] 0),(2,.pt 2 [] 0),(3,.pt 3 [] 0),(4,.int .i64 n),(7,.int .i64 i),(8,.int .i64 ((y1.1:Int)-j))],[(2,.box zD),(3,.box (gP d)),(KB,.box (eu c))]⟩) ?_ ?_
   ·simp[hj];refine⟨[.keep [0,2,3,4,7,8],.fz 80],?_⟩;simp;rw[if_pos ⟨hL.symm,by omega⟩,ht];rfl
   rintro s' rfl;simp;refine lv.run [KB] rfl ?_;simp;refine aM.rA (gV (i:=i) (by omega)) ?_;simp[v1,v2,v3];refine ai.u9 KB (dQ hC hV.vd.n0 hV.vd.n1 hV.vd.ru (n:=m) (by omega) (by omega)) ?_;rintro⟨s,c1⟩ ⟨hs,DQ,o1⟩;simp at hs DQ o1;simp;refine ai.jJ KB (Du o1) ?_;have o2:iD (bool c1).2:=dC o1 2;generalize bool c1=x2 at*;simp;have hip:i<d.an.length:=by omega
   have pF:∀x∈d.aR,x.index≠s.loc:=by
    intro x hx he;rcases(hS x hx).2 with h|h<;>omega
   refine ai.gA [] [120] [] (Nv hV.vd hip hs (by omega) pF x2.1) (by simp) (by simp) (by simp[ab,af,ah,cY,aY]) ?_;have hil:(mw d i hip s x2.1).an.length=n:=E4.trans hL;simp[aI,az,aE,aS,cL,hL,v4];refine⟨[.keep [0,2,3,4,7,8],.mv 120 80],?_⟩;simp;have q1:ze 120 80 KB=KB:=rfl;have q2:ze 120 80 2=2:=rfl;have q3:ze 120 80 3=3:=rfl;have q4:ze 120 80 120=80:=rfl;refine qQ (mw d i hip s x2.1) x2.2 _ (by simp[q1,q2,q3,q4]) (hV.inst (by omega) hip hs (by omega) pF x2.1) (E4.trans hL) ?_ o2;intro x hx;rcases Nw hx with h|h
   ·exact⟨by omega,by right;omega⟩
   ·have g:=hS x h;exact⟨g.1,by rcases g.2 with h|h<;>omega⟩
  ·intro d c hV hL hS hC K2;simp[F.acU];refine N8.of (λ_=>False) ?_ (λ_ h=>h.elim);simp[F.ama,Es];refine⟨[.keep [0,2,3,4,7]],?_⟩;simp;refine hK d c _ (by simp) ⟨hV.vd,hV.ti.mono (by omega),hV.wp⟩ hL ?_ hC;intro x hx;have g:=hS x hx;exact⟨g.1,by rcases g.2 with h|h<;>omega⟩
 ·intro d c hV hL hS hC K;simp[F.acT,F.amb];refine aA.with [] [KB,80] ?_;simp[ab,az,af];exact⟨d,c,⟨⟨hV.vd,hV.ti.mono (by omega),hV.wp⟩,by omega,hC,λx hx=>⟨(hS x hx).1,by have:=(hS x hx).2;omega⟩⟩,by rw[hL],rfl,rfl⟩
theorem QK {c:tA} (h:iD c):
  ae Pg 5 [.pt KB [] 0] [.box (eu c)] (λr fp=>∃w:bh×tA,(VM w.1 40∧w.1.an.length≥2∧iD w.2∧Bd w.1)∧r=aY w.1 (.rs (KB+1) [] 0 w.1.an.length w.1.an.length 464 .tip)∧fp=[.box (eu w.2),.arr 464 (w.1.an.map aP)]):=by
 refine ae.intro T.D2 (by simp[F.D2]) ?_;simp[F.D2,aj,av];refine ai.u9 KB (Ir h) ?_;rintro⟨ru,c1⟩ ⟨xy,o1⟩;simp;refine ai.u9 KB (pS o1) ?_;rintro⟨k1,c2⟩ o2;simp;refine ai.u9 KB (pS o2) ?_;rintro⟨k2,c3⟩ o3;simp;refine ai.u9 KB ((E5 o3 65536 (by omega) (by omega)).mono (R':=λr fp=>∃w:Nat×tA,(iD w.2∧w.1<65536)∧r= .int .i64 w.1∧fp=[.box (eu w.2)]) ?_) ?_
 ·rintro r fp ⟨m,c',a,b,e,f⟩;exact⟨⟨m,c'⟩,⟨a,b⟩,e,f⟩
 rintro⟨po,c4⟩ ⟨o4,hpo⟩;simp;refine ai.u9 KB (pS o4) ?_;rintro⟨k3,c5⟩ o5;simp;refine ai.u9 KB ((E5 o5 16777216 (by omega) (by omega)).mono (R':=λr fp=>∃w:Nat×tA,(iD w.2∧w.1<16777216)∧r= .int .i64 w.1∧fp=[.box (eu w.2)]) ?_) ?_
 ·rintro r fp ⟨m,c',a,b,e,f⟩;exact⟨⟨m,c'⟩,⟨a,b⟩,e,f⟩
 rintro⟨nw,c6⟩ ⟨o6,BS⟩;dsimp only at hpo BS o1 o2 o3 o4 o5 o6 xy;have w1:IntKind.i64.wrap (nw:Int)=(nw:Int):=wrap_i64 (by omega);simp;refine lv.run [KB] rfl ?_;simp;refine ai.u9 KB (pS o6) ?_;rintro⟨k4,c7⟩ o7;simp;refine ai.jJ KB (bg o7 2 (by omega)) ?_;have l8:=dB c7 (n:=2) (by omega);have o8:=dC o7 2;generalize oD c7 2=x8 at*;simp;refine ai.jJ KB (bg o8 2 (by omega)) ?_;have l9:=dB x8.2 (n:=2) (by omega);have o9:=dC o8 2;generalize oD x8.2 2=x9 at*
 have w2:IntKind.i64.wrap ((x8.1:Int)*min (nw:Int) 20000)=(x8.1:Int)*min (nw:Int) 20000:=by
  rcases(by omega:x8.1=0∨x8.1=1)with e|e<;>rw[e]<;>exact wrap_i64 (by omega)
 have h3:0≤(nw:Int)-(x8.1:Int)*min (nw:Int) 20000∧(nw:Int)-(x8.1:Int)*min (nw:Int) 20000≤nw:=by
  rcases(by omega:x8.1=0∨x8.1=1)with e|e<;>rw[e]<;>omega
 have w3:IntKind.i64.wrap ((nw:Int)-(x8.1:Int)*min (nw:Int) 20000)=(nw:Int)-(x8.1:Int)*min (nw:Int) 20000:=wrap_i64 (by omega);have w4:IntKind.i64.wrap (2+(x9.1:Int))=((2+x9.1:Nat):Int):=by rw[wrap_i64 (by omega)];omega
 obtain⟨n,hn⟩:∃n,n=2+x9.1:=⟨_,rfl⟩
 obtain⟨sa,hsa⟩:∃sa,sa=(nw:Int)-(x8.1:Int)*min (nw:Int) 20000:=⟨_,rfl⟩
 rw[←hsa]at h3 w3;simp only[w2,w3,←hsa];simp;simp only[w4,←hn];obtain⟨d0,hd0⟩:∃d:bh,d=⟨ru,k1.fv,k2.fv,po,k3.fv,nw,[],[],[],[],k4.fv,sa,[],[],0⟩:=⟨_,rfl⟩
 refine eW.PL n (d0,x9.2) (λi y=>VP y.1 i∧iD y.2) [0,2,3,4,5] (λi _=>[(5,.int .i64 i)]) (λi y=>[(3,.box (aY y.1 (.rs 80 [] 0 i i 464 .tip))),(80,.arr 464 (y.1.an.map aP)),(KB,.box (eu y.2))]) [.vb 3 [.f 6 108] 80 464,.wb 3,.keep [0,2,3,4,5]] ?_;simp;refine⟨by rw[hd0];exact⟨rfl,rfl⟩,⟨?_,o9⟩,?_,?_⟩
 ·rw[hd0];refine⟨⟨?_,⟨.nil,by simp,.nil,by simp⟩,by simp⟩,rfl,rfl,by simp⟩;exact⟨xy,by show(0:Int)≤nw;omega,by show(nw:Int)≤16777216;omega,by show(0:Int)≤po;omega,by show(po:Int)≤65535;omega,rfl,⟨by simp,by simp⟩,by simp,⟨by simp,by simp⟩,rfl,⟨⟨by simp,by simp⟩,by simp⟩,⟨by simp,by simp,by simp,by simp⟩,h3.1,h3.2,rfl,rfl,⟨k1,rfl⟩,⟨k3,rfl⟩⟩
 ·intro i d cc hi hV hC K hK;have Es:IntKind.i64.wrap ((i:Int)+1)=((i+1:Nat):Int):=by rw[wrap_i64 (by omega)];omega
  have hu8:((UInt8.ofNat (i+1)).toNat:Int)=((i+1:Nat):Int):=by simp[UInt8.toNat_ofNat];omega
  have hH:=eQ (UInt8.ofNat (i+1)) 0;obtain⟨u,hu⟩:∃u,u=UInt8.ofNat (i+1):=⟨_,rfl⟩
  have hrt:rt i=⟨vf u,pC i⟩:=by rw[hu];rfl
  rw[hu8,show(((0:UInt8).toNat:Nat):Int)=0 from rfl]at hH;have hVv:=hV.vm.vd;have NY:=hVv.n0;have Hb:=hVv.n1;have G9:d.bQ.length=i:=by rw[hVv.rtl,hV.len]
  have Fo:=hVv.tis.len
  have hro:∀r∈d.bQ,∃m,m<UInt8.ofNat (i+1)∧r.D8=vf m:=by
   intro r hr;obtain⟨j,hj,rfl⟩:=JmJ.1 hr;refine⟨UInt8.ofNat (j+1),?_,by rw[hVv.rts.2 j hj];rfl⟩;rw[JoZ];simp[UInt8.toNat_ofNat];omega
  rw[←hu]at hH hro;simp[F.acV,hi];refine ai.rA (gV (i:=i) (by omega)) ?_;simp;refine ai.jJ KB (bg hC 8 (by omega)) ?_;have m1:=dB cc (n:=8) (by omega);have p1:=dC hC 8;generalize oD cc 8=y1 at*;by_cases hb:0<y1.1
  ·simp[hb];refine ai.rA (jE (i:=i) (by omega)) ?_;simp;refine ai.jJ KB (bg p1 4 (by omega)) ?_;have m2:=dB y1.2 (n:=4) (by omega);have p2:=dC p1 4;generalize oD y1.2 4=y2 at*;by_cases hc:(y2.1:Int)=1
   ·simp[hc];refine ai.jJ KB (bg p2 30 (by omega)) ?_;have m3:=dB y2.2 (n:=30) (by omega);have p3:=dC p2 30;generalize oD y2.2 30=y3 at*;have v1:IntKind.i64.wrap (1+(y3.1:Int))=1+(y3.1:Int):=wrap_i64 (by omega);have v2:IntKind.i64.wrap (1000*(1+(y3.1:Int)))=1000*(1+(y3.1:Int)):=wrap_i64 (by omega);simp[v1,v2];refine lv.run [KB] rfl ?_;simp;refine ai.jJ KB (bg p3 200 (by omega)) ?_;have m4:=dB y3.2 (n:=200) (by omega);have p4:=dC p3 200;generalize oD y3.2 200=y4 at*;have v3:IntKind.i64.wrap (d.now+1)=d.now+1:=wrap_i64 (by omega);have v4:IntKind.i64.wrap ((y4.1:Int)*10)=(y4.1:Int)*10:=wrap_i64 (by omega);have v5:IntKind.i64.wrap (d.now+1+(y4.1:Int)*10)=d.now+1+(y4.1:Int)*10:=wrap_i64 (by omega);simp[v3,v4,v5];obtain⟨A,hA⟩:∃A,A=d.now+1+(y4.1:Int)*10:=⟨_,rfl⟩
    rw[←hA];refine aM.ret (dL (l:=d.timers) (by omega) ⟨A,pC i,4⟩) (by simp;rfl) (by simp) (by simp) ?_;obtain⟨T,hT⟩:∃T,T=iI d.timers ⟨A,pC i,4⟩:=⟨_,rfl⟩
    rw[←hT];simp[Es,hV.len];refine⟨⟨by omega,by omega⟩,?_⟩;refine aM.rA hH ?_;simp;refine aM.rA (di (a:=fU u 0) (tw _)) ?_;simp;refine aM.ret (bD (l:=d.bQ) (n:=u) hro (by omega) (pC i)) (by simp;rfl) (by simp) (by simp) ?_;simp[Es];refine⟨[.keep [0,2,3,4,5],.dr 6],?_⟩;simp[bn,bU,af,ab];refine hK (sF d (pz i true (1000*(1+(y3.1:Int)))) i T) y4.2 _ ?_ (hV.add (by omega) (LG (by omega) ?_) rfl rfl ?_) ?_
    ·simp[sF,hrt];exact⟨rfl,rfl⟩
    ·exact Or.inr (by omega)
    ·exact Or.inr ⟨A,by omega,by omega,by show(1000*(1+(y3.1:Int)))≠0;omega,hT⟩
    ·assumption
   ·simp[hc];simp[Es,hV.len];refine⟨⟨by omega,by omega⟩,?_⟩;refine aM.rA hH ?_;simp;refine aM.rA (di (a:=fU u 0) (tw _)) ?_;simp;refine aM.ret (bD (l:=d.bQ) (n:=u) hro (by omega) (pC i)) (by simp;rfl) (by simp) (by simp) ?_;simp[Es];refine⟨[.keep [0,2,3,4,5],.dr 6],?_⟩;simp[bn,bU,af,ab];refine hK (sF d (pz i true 0) i d.timers) y2.2 _ ?_ (hV.add (by omega) (LG (by omega) ?_) rfl rfl ?_) ?_
    ·simp[sF,hrt];exact⟨rfl,rfl⟩
    ·exact Or.inl rfl
    ·exact Or.inl rfl
    ·assumption
  ·simp[hb];refine ai.jJ KB (bg p1 4 (by omega)) ?_;have m2:=dB y1.2 (n:=4) (by omega);have p2:=dC p1 4;generalize oD y1.2 4=y2 at*;by_cases hc:(y2.1:Int)=1
   ·simp[hc];refine ai.jJ KB (bg p2 30 (by omega)) ?_;have m3:=dB y2.2 (n:=30) (by omega);have p3:=dC p2 30;generalize oD y2.2 30=y3 at*;have v1:IntKind.i64.wrap (1+(y3.1:Int))=1+(y3.1:Int):=wrap_i64 (by omega);have v2:IntKind.i64.wrap (1000*(1+(y3.1:Int)))=1000*(1+(y3.1:Int)):=wrap_i64 (by omega);simp[v1,v2];refine lv.run [KB] rfl ?_;simp;refine ai.jJ KB (bg p3 200 (by omega)) ?_;have m4:=dB y3.2 (n:=200) (by omega);have p4:=dC p3 200;generalize oD y3.2 200=y4 at*;have v3:IntKind.i64.wrap (d.now+1)=d.now+1:=wrap_i64 (by omega);have v4:IntKind.i64.wrap ((y4.1:Int)*10)=(y4.1:Int)*10:=wrap_i64 (by omega);have v5:IntKind.i64.wrap (d.now+1+(y4.1:Int)*10)=d.now+1+(y4.1:Int)*10:=wrap_i64 (by omega);simp[v3,v4,v5];obtain⟨A,hA⟩:∃A,A=d.now+1+(y4.1:Int)*10:=⟨_,rfl⟩
    rw[←hA];refine aM.ret (dL (l:=d.timers) (by omega) ⟨A,pC i,4⟩) (by simp;rfl) (by simp) (by simp) ?_;obtain⟨T,hT⟩:∃T,T=iI d.timers ⟨A,pC i,4⟩:=⟨_,rfl⟩
    rw[←hT];simp[Es,hV.len];refine⟨⟨by omega,by omega⟩,?_⟩;refine aM.rA hH ?_;simp;refine aM.rA (di (a:=fU u 0) (tw _)) ?_;simp;refine aM.ret (bD (l:=d.bQ) (n:=u) hro (by omega) (pC i)) (by simp;rfl) (by simp) (by simp) ?_;simp[Es];refine⟨[.keep [0,2,3,4,5],.dr 6],?_⟩;simp[bn,bU,af,ab];refine hK (sF d (pz i false (1000*(1+(y3.1:Int)))) i T) y4.2 _ ?_ (hV.add (by omega) (LG (by omega) ?_) rfl rfl ?_) ?_
    ·simp[sF,hrt];exact⟨by first|rfl|(rw[cm];rfl),(amd i _).symm⟩
    ·exact Or.inr (by omega)
    ·exact Or.inr ⟨A,by omega,by omega,by show(1000*(1+(y3.1:Int)))≠0;omega,hT⟩
    ·assumption
   ·simp[hc];simp[Es,hV.len];refine⟨⟨by omega,by omega⟩,?_⟩;refine aM.rA hH ?_;simp;refine aM.rA (di (a:=fU u 0) (tw _)) ?_;simp;refine aM.ret (bD (l:=d.bQ) (n:=u) hro (by omega) (pC i)) (by simp;rfl) (by simp) (by simp) ?_;simp[Es];refine⟨[.keep [0,2,3,4,5],.dr 6],?_⟩;simp[bn,bU,af,ab];refine hK (sF d (pz i false 0) i d.timers) y2.2 _ ?_ (hV.add (by omega) (LG (by omega) ?_) rfl rfl ?_) ?_
    ·simp[sF,hrt];exact⟨by first|rfl|(rw[cm];rfl),(amd i _).symm⟩
    ·exact Or.inl rfl
    ·exact Or.inl rfl
    ·assumption
 ·intro d cc hV hC K;simp[F.acV];exact Ke hV (by omega) hC
theorem Nx {d:bh} (hl:d.an.length≤10) (hz:∀p∈d.an,p.ring=Di):aL Pg 11 [gP d] (.sl 76 [] true):=by
 refine ae.intro (aC R.lq.2) (by simp[R.lq]) ?_;simp[R.lq,aj,av];refine eW.fM d.an.length (λ_=>True) [1,2,3,9,10,11] (λi=>[(11,.int .i64 i)]) (λ_=>[]) [.keep [1,2,3,9,10,11]] ?_;simp;refine⟨λi hi K hK=> ?_,λK=> ?_⟩
 ·have hx:d.an[i]? =some d.an[i]:=gJ hi;have hr:=hz _ (JbJ hi);generalize d.an[i]=p at*;simp[↓al,hx,hi,-getElem?_pos];refine eW.fM 3 (λ_=>True) [1,2,3,5,6,9,10,11] (λj=>[(6,.int .i64 ((j:Int)+1))]) (λ_=>[]) [.keep [1,2,3,5,6,9,10,11]] ?_;simp;refine⟨λj hj K2 qQ=> ?_,λK2=> ?_⟩
  ·have hj3:(j:Int)+1≤3:=by omega
   have hw:IntKind.i64.wrap ((j:Int)+1+1)=(j:Int)+1+1:=wrap_i64 (by omega);have b6:=gW p.ring (k:=j+1) (by omega);rw[show((j+1:Nat):Int)=(j:Int)+1 by omega]at b6
   have h1:(Is p.ring (j+1)).has=false:=by
    rw[hr];rcases(by omega:j=0∨j=1∨j=2)with rfl|rfl|rfl<;>rfl
   generalize Is p.ring (j+1)=q at*;simp[↓al,hj3];refine ai.rA b6 ?_;simp[h1,hw];refine⟨[.keep [1,2,3,5,6,9,10,11],.dr 7],?_⟩;simp[bn,bU,af,ab];exact qQ _ (by simp)
  ·simp[↓al,eI hi (by omega)];refine⟨[.keep [1,2,3,9,10,11],.dr 5],?_⟩;simp[bn,bU,af,ab];exact hK _ (by simp)
 ·simp[↓al];refine aA.plain [] ?_;simp
theorem acW:gO Di= .st 231 [(.st 77 [(.bl false),(.st 76 [(.int .u32 0),(.int .u32 0),(.ar 1 32 (zr 32 (.int .u8 0))),(.ar 1 32 (zr 32 (.int .u8 0))),(.int .u64 0),(.int .u64 0),(.st 6 [(.bl false),(.int .u64 0),(.ar 1 4 (zr 4 (.int .u64 0)))]),(.int .i64 0),(.bl false)])]),(.st 77 [(.bl false),(.st 76 [(.int .u32 0),(.int .u32 0),(.ar 1 32 (zr 32 (.int .u8 0))),(.ar 1 32 (zr 32 (.int .u8 0))),(.int .u64 0),(.int .u64 0),(.st 6 [(.bl false),(.int .u64 0),(.ar 1 4 (zr 4 (.int .u64 0)))]),(.int .i64 0),(.bl false)])]),(.st 77 [(.bl false),(.st 76 [(.int .u32 0),(.int .u32 0),(.ar 1 32 (zr 32 (.int .u8 0))),(.ar 1 32 (zr 32 (.int .u8 0))),(.int .u64 0),(.int .u64 0),(.st 6 [(.bl false),(.int .u64 0),(.ar 1 4 (zr 4 (.int .u64 0)))]),(.int .i64 0),(.bl false)])])]:=by
 rw[←QL];rfl
def Gs (ps ys:List bM) (i:Nat):Prop:=ys.length=ps.length∧∀j (h:j<ys.length) (g:j<ps.length),ys[j]=if j<i then Ip ps[j]else ps[j]
theorem Gs.z (ps:List bM):Gs ps ps 0:=⟨rfl,λj _ _=>by simp⟩
theorem Gs.s {ps ys:List bM} {i:Nat} (h:Gs ps ys i) (hi:i<ys.length):Gs ps (ys.set i (Ip ys[i])) (i+1):=by
 refine⟨by rw[JjQ];exact h.1,λj hj hg=> ?_⟩;rw[JjQ]at hj;rw[JpW];have e1:=h.2 j hj hg;split
 ·rename_i e;subst e;rw[if_neg (by omega)]at e1;rw[if_pos (by omega),e1]
 ·rw[e1];by_cases hl:j<i
  ·rw[if_pos hl,if_pos (by omega)]
  ·rw[if_neg hl,if_neg (by omega)]
theorem Gs.e {ps ys:List bM} {i:Nat} (h:Gs ps ys i) (hi:ps.length≤i):ys=ps.map Ip:=by
 refine JnQ (by rw[h.1,JaX]) λj h1 h2=> ?_;have hj:j<ps.length:=by rw[←h.1];exact h1
 rw[h.2 j h1 hj,if_pos (by omega),JqJ]
def QuI (d:bh) (e:Int) (i:Nat) (y:uV):Prop:=LD e y∧yD (uY d) y∧y.1.now=min e (d.now+60000*i)∧(y.1.now=e->mj y.1.timers e=false)
theorem Kf {l:List UInt8} (hl:l.length≤9223372036854775807):aL Pg 4 [aQ l] (.bl true):=by
 refine ae.intro (aC R.gS.2) (by simp[R.gS]) ?_;simp[R.gS,aj,av];refine ai.gA [] [90] [] (atP hl (n:=160) (by omega)) (by simp) (by simp) (by simp[ab,af,cY]) ?_;simp[aI,az,aE,cL];have hC:iD ⟨l.take 160,0⟩:=⟨by simp;omega,by simp⟩
 generalize (⟨l.take 160,0⟩:tA)=c1 at hC;refine ai.gR [90] [91] [.box (eu c1)] (QK hC) (by simp[ab]) (by simp[az]) ?_;rintro r fp ⟨⟨d,c2⟩,⟨hV,rf,o2,hB⟩,rfl,rfl⟩;dsimp only at hV rf o2 hB;refine⟨⟨rfl,by simp[af,ah,cY,aY],by simp[ab]⟩,?_⟩;simp[aI,az,aE,cL];have hn3:=hV.vd.DT.1;have g0:=hV.vd.n0;have g1:=hV.vd.n1;obtain⟨q1,q2,q3,q4,q5,q6,q7,q8,q9,q10,q11,_⟩:=hV.vd.ru;refine eW.PL d.an.length d.an (λi y=>Gs d.an y i) [2,3,15,16] (λi _=>[(16,.int .i64 i)]) (λ_ y=>[(91,.arr 464 (y.map aP))]) [.keep [2,3,15,16],.dr 90] ?_;simp[bn,bU,af,ab];refine⟨Gs.z _,?_,?_⟩
 ·intro i ys hi hY K hK;have jR:i<ys.length:=by rw[hY.1];exact hi
  have hx:ys[i]? =some ys[i]:=gJ jR;have hw:IntKind.i64.wrap ((i:Int)+1)=(i:Int)+1:=wrap_i64 (by omega);simp[↓al,hi];refine lv.run [91] rfl ?_;simp[hi,hY.1,hw]
  have em:∀q v,yo q v=aP (Ip ys[i])->(ys.map aP).set i (yo q v)=(ys.set i (Ip ys[i])).map aP:=by
   intro q v h;rw[h];exact List.map_set.symm
  rw[em _ _ (by rw[←QM];rfl)];refine⟨[.keep [2,3,15,16]],?_⟩;simp;exact hK _ _ (by simp) (hY.s jR)
 ·intro ys hY K;obtain rfl:=hY.e (JaQ _);have Xn:IntKind.i64.wrap (3*d.rules.nc)=3*d.rules.nc:=wrap_i64 (by omega);obtain⟨e,he⟩:∃e,e=d.now+3*d.rules.nc:=⟨_,rfl⟩
  have hwe:IntKind.i64.wrap (d.now+3*d.rules.nc)=e:=by rw[he];exact wrap_i64 (by omega)
  obtain⟨n,hn⟩:∃n,n=((3*d.rules.nc).toNat+59999)/60000:=⟨_,rfl⟩
  have hQ0:QuI d e 0 ((uY d).1,d.an.map Ip):=⟨by rw[he];exact hV.qu,rfl,by show d.now=min e (d.now+60000*(0:Nat));omega,λh=>by have h:d.now=e:=h;omega⟩
  simp[↓al,Xn,hwe];refine eW.PL n ((uY d).1,d.an.map Ip) (QuI d e) [2,3,5] (λ_ _=>[]) (λ_ y=>[(3,.box (gP (G4 y)))]) [.keep [2,3,5],.fz 91] ?_;simp;refine⟨?_,hQ0,?_,?_⟩
  ·show _=PV.st 148 _;rw[List.map_map.symm];rfl
  ·intro i yd yp hi hQ K hK;obtain⟨y,hy⟩:∃y:uV,y=(yd,yp):=⟨_,rfl⟩
   rw[←hy]at hQ⊢;have Xm:uY (G4 y)=y:=LB (congrArg bh.an hQ.2.1);have hyn:(G4 y).now=y.1.now:=rfl;have hy1:=hQ.2.2.1;have dk:y.1.now<e:=by omega
   obtain⟨to,I3⟩:∃to,to=min e (y.1.now+60000):=⟨_,rfl⟩
   have hwn:IntKind.i64.wrap (y.1.now+60000)=y.1.now+60000:=wrap_i64 (by omega);obtain⟨N,hE,hO,hq,hS,hdu⟩:=hQ.1.step (to:=to) (by omega) (by omega);have hsm:=atQ hV hQ.1.inv hQ.2.1;have T1:=Zh hsm (by rw[Xm];exact hQ.1.inv) (to:=to) (by rw[hyn];omega) (by omega) (by rw[hyn];omega) (N:=N) (by rw[Xm];exact hE) (by rw[Xm,hO];simp) (x:= .st 18 [.st 17 [.bl false,.ar 1 16 (zr 16 (.int .u8 0))],.int .i64 0]) (y:= .str []) (b:=[]) (by simp) (by simp[PV.width]) (by simp[wk,fP]) (by simp) (by simp[wk]);rw[Xm,hO]at T1;have Oo:(G4 (fin to (tr N y).1)).now=to:=rfl;obtain⟨X,hX⟩:∃X,X=fin to (tr N y).1:=⟨_,rfl⟩
   rw[←hX]at T1 Oo hq hS;have yP:¬to≤y.1.now:=by omega
   simp[↓al,hyn,dk,hwn,←I3];refine ai.ret T1 (by simp[aQ]) (by simp) (by simp) ?_;simp[Oo,hyn,yP];refine⟨[.keep [2,3,5],.dr 6],?_⟩;simp[bn,bU,af,ab];have hXn:X.1.now=to:=Oo
   exact hK X.1 X.2 _ (by simp) ⟨hq,hQ.2.1.trans hS,by rw[hXn];omega,λh=>by
    have h:X.1.now=e:=h;rw[hX];show mj (tr N y).1.1.timers e=false;rw[←h,hXn];exact hdu⟩
  ·intro yd yp hQ K;obtain⟨y,hy⟩:∃y:uV,y=(yd,yp):=⟨_,rfl⟩
   rw[←hy]at hQ⊢;have hyn:(G4 y).now=y.1.now:=rfl;have hye:y.1.now=e:=by have:=hQ.2.2.1;omega
   obtain⟨hz,DQ⟩:=hQ.1.done (hQ.2.2.2 hye);have yP:¬y.1.now<e:=by omega
   have hlen:=hQ.1.inv.len;have hep:=hQ.1.ep;obtain⟨D,hD⟩:∃D,D=G4 y:=⟨_,rfl⟩
   have hDn:D.now=e:=by rw[hD];exact hye
   have hDp:D.an=y.2:=by rw[hD];rfl
   have hDs:D.aR=[]:=by rw[hD];exact DQ
   rw[←hD];rw[←hDp]at hz hlen hep;simp[↓al,hDn];refine eW.fM D.an.length (λ_=>True) [2,3,65,66,67] (λi=>[(67,.int .i64 i)]) (λ_=>[]) [.keep [2,3,65,66,67]] ?_;simp;refine⟨λi hi K hK=> ?_,λK=> ?_⟩
   ·have hx:D.an[i]? =some D.an[i]:=gJ hi;have hr:=hz _ (JbJ hi);have hh:=(hep _ (JbJ hi)).2;generalize D.an[i]=p at*;simp[↓al,hx,hi,-getElem?_pos,hr,hh,←acW,eI hi (by omega)];refine⟨[.keep [2,3,65,66,67],.dr 9],?_⟩;simp[bn,bU,af,ab];exact hK _ (by simp)
   ·simp[↓al,hDs];refine ai.rA (Nx hlen hz) ?_;simp;refine ai.rA VW ?_;simp;refine aA.plain [] ?_;simp
end Go.Ab
