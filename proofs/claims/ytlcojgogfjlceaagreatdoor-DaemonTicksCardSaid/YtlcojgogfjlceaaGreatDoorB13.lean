/- Functions of the program and of the document, as the abstract reading walks them, part 13. No condition. -/
import Derived.Test.YtlcojgogfjlceaaGreatDoorB12
import Derived.Test.YtlcojgogfjlceaaGreatDoorB6
set_option maxRecDepth 20000
set_option maxHeartbeats 4000000
set_option linter.all false
noncomputable section
namespace Go.Ab
theorem pwi {x a b:Int} (h1:a≤x) (h2:x≤b):aK Pg 255 [.int .i64 x,.int .i64 a,.int .i64 b] (.bl true):=by
 refine ae.intro (aC R.tV.2) (by simp[R.tV]) ?_;simp[R.tV,aj,av,h1];refine aA.plain [] ?_;simp[h2]
theorem cpi {s:St} {d:Option Nat} {x a b:Int} {K:St->Prop} {t:Tg K} (h1:a≤x) (h2:x≤b) (h:K (s.put d (.bl true))):ai Pg s d 255 [.int .i64 x,.int .i64 a,.int .i64 b] K t:=ai.rA (pwi h1 h2) h
def Wf:y7:=⟨1152921504606846976,18446744073709543423,120000,180000,90000,5000,10000,120000,20,4⟩
theorem amr:aK Pg 81 [cO Wf] (.bl true):=by
 have h:aK Pg 166 [cO Wf] (.bl true):=by
  refine ae.intro (aC R.vu.2) (by simp[R.vu]) ?_;simp[R.vu,aj,av,Wf]
  repeat
   refine cpi (by decide) (by decide) ?_
   simp
  refine aA.plain [] ?_;simp
 refine ae.intro (aC R.ny.2) (by simp[R.ny]) ?_;simp[R.ny,aj,av];refine ai.rA h ?_;simp;refine aA.plain [] ?_;simp
theorem ams (a:bO):ae Pg 270 [.rs KB [] 0 1 1 464 .tip,.int .i64 0,.int .i64 1,.fn (.func 88) [] []] [.arr 464 [aQ a]] (λr fp=>r= .tup []∧fp=[.arr 464 [aQ a]]):=by
 refine ae.intro T.bS (by simp[F.bS]) ?_;simp[F.bS,aj,av];refine mM.G8 0 (mM.z λK=> ?_);simp[↓al];refine aA.with [] [KB] ?_;simp[dj,ab,ah,az,aR]
theorem amt:aK Pg 181 [.int .u64 1] (.int .i64 1):=by
 have h:aK Pg 279 [.int .u64 1] (.int .i64 1):=by
  refine ae.intro (aC R.oZ.2) (by simp[R.oZ]) ?_;simp[R.oZ,aj,av];refine aA.plain [] ?_;simp
 refine ae.intro (aC R.sb.2) (by simp[R.sb]) ?_;simp[R.sb,aj,av];refine ai.rA h ?_;simp;refine aA.plain [] ?_;simp
theorem amu (a:bO):ae Pg 180 [.rs KB [] 0 1 1 464 .tip,.int .i64 0,.int .i64 1,.int .i64 1,.fn (.func 88) [] []] [.arr 464 [aQ a]] (λr fp=>r= .tup []∧fp=[.arr 464 [aQ a]]):=by
 refine ae.intro T.cS (by simp[F.cS]) ?_;have hi:=ams a;have hp:=iw a;generalize aQ a=x at*;simp[F.cS,aj,av];refine mM.G8 0 (mM.z λK=> ?_);simp[↓al];refine ai.gA [KB] [] [.arr 464 [x]] hi (by simp[ab,ah,hp.refs]) (by simp[az,aR,hp.aE]) (by simp[ab,af,ah,hp.refs]) ?_;simp[aI,az,aE,aR,hp.aE];refine aA.with [] [KB] ?_;simp[dj,ab,ah,hp.refs,az,aR,hp.aE]
theorem adf (a:bO):ae Pg 87 [.rs KB [] 0 1 1 464 .tip,.fn (.func 88) [] []] [.arr 464 [aQ a]] (λr fp=>r= .tup []∧fp=[.arr 464 [aQ a]]):=by
 refine ae.intro (aC R.eI.2) (by simp[R.eI]) ?_;have hi:=amu a;have hp:=iw a;generalize aQ a=x at*;simp[R.eI,aj,av];refine ai.rA amt ?_;simp;refine ai.gA [KB] [] [.arr 464 [x]] hi (by simp[ab,ah,hp.refs]) (by simp[az,aR,hp.aE]) (by simp[ab,af,ah,hp.refs]) ?_;simp[aI,az,aE,aR,hp.aE];refine aA.with [] [KB] ?_;simp[dj,ab,ah,hp.refs,az,aR,hp.aE]
theorem Wg {d:bc} {m:Nat} {L:List PV} (hL:an L) {o:PV} (ho:Pure o) {V:PV} (hV:Pure V) (h4:aM V [.f 4 83]=some (.int .i64 0)):
  ae Pg 86 [.pt KB [] 0,.pt (KB+2) [] 0] [.box (Gv d (.rs (KB+1) [] 0 m m 464 .tip) o),.arr 464 L,.box V]
   (λr fp=>r= .tup []∧fp=[.box (Gv d (.rs (KB+1) [] 0 m m 464 .tip) o),.arr 464 L,.box V]):=by
 refine ae.intro (aC R.cR.2) (by simp[R.cR]) ?_;simp[R.cR,aj,av,h4];refine aA.with [] [KB,KB+1,KB+2] ?_;simp[dj,hL.refs,hL.aE,ho.refs,ho.aE,ab,af,az,aE,hV.refs,hV.aE]
noncomputable def F.Q1:cM:=⟨F.kI.nt,F.kI.res,mP F.kI.code [1,1,1]⟩
theorem T.Q1:nk Pg [] [] 32=some F.Q1.er:=E7 [1,1,1] T.kI
theorem amv {r:y7} (hv:aK Pg 81 [cO r] (.bl true)) {c:LB} {p:Bo} {x:xG} (hva:aK Pg 82 [lR c] (.int .i64 0)) (hc:c.au=[p]) (ha:p.allowed=[x]) (hx:wD x=true) (hk:p.jg=0) (k:Key) {now:Int} (Mi:0≤now) (G1:now≤1099511627776):
  aK Pg 32 [cO r,lR c,aG k,.int .i64 now] (.tup [eX (Dw r c (uD k.l fj) now now [qG p] [⟨x,p.cH⟩] [] (Gm k.l fj).fv),.int .i64 0]):=by
 refine ae.intro T.Q1 (by simp[F.Q1,F.kI]) ?_;have k1:¬now<0:=by omega
 have k2:¬(1099511627776:Int)<now:=by omega
 simp[F.Q1,F.kI,mP,aj,av];refine ai.rA hv ?_;simp[k1,k2];refine ai.rA hva ?_;simp;obtain⟨M,hM⟩:∃M:St->Prop,∀s',M s'↔s'=⟨[(5,.pt 5 [] 0),(8,.pt 8 [] 0),(9,.int .i64 0),(11,.pt 48 [] 0)],[(5,.box (lR c)),(8,.box zPs),(48,.box (Gv (Dw r c k now now [] [] [] Ly) (.rs 90 [] 0 0 0 464 .tip) (.sl 86 [] false))),(90,.arr 464 [])]⟩:=⟨_,λ_=>Iff.rfl⟩
 refine SE.of M ?_ ?_
 ·simp;refine aN.rA (jo c.jz) ?_;simp;refine⟨[.keep [5,8,9,11],.dr 4,.dr 6,.vb 48 [.f 0 0,.f 6 108] 90 464,.wb 48],?_⟩;simp;exact(hM _).2 rfl
 intro s' Bt;have Bv:=(hM _).1 Bt;subst Bv;clear Bt hM M;have hdr:=adg (d:=Dw r c k now now [] [] [] Ly) (k:=k) rfl (m:=0) (L:=[]) (by simp) (o:= .sl 86 [] false) (by simp);have hdn:Nx (Dw r c k now now [] [] [] Ly) (uD k.l fj)=Dw r c (uD k.l fj) now now [] [] [] Ly:=rfl;rw[hdn]at hdr;generalize uD k.l fj=kA at*;generalize Gm k.l fj=kB at*;simp;refine ai.gA [48,90] [] [.box (Gv (Dw r c k now now [] [] [] Ly) (.rs 90 [] 0 0 0 464 .tip) (.sl 86 [] false)),.arr 464 []] hdr (by simp[ab,af,ah]) (by simp[az,aE,aR]) (by simp[ab,af,ah,c9]) ?_;have e10:∀q,zZ (Dw r c kA now now [] [] [] Ly) q (aG kB)=aZ (Dw r c kA now now [] [] [] kB.fv) q:=λ_=>rfl;simp[aI,az,aE,aR,cU,e10,hc,oW];refine mM.G8 1 (mM.s ?_);simp[↓al];refine lH.run [] rfl ?_;simp;rw[auf];have XE:(.st 464 [aG p.cH,aG p.shared,.bl p.iU,ic p.ep,.int .i64 p.jg,(.ar 1 12 (zr 12 (.int .u8 0))),(.bl false),(.int .i64 0),(.st 100 [(.bl false),(.int .u32 0),(.ar 1 32 (zr 32 (.int .u8 0))),(.st 64 [(.ar 1 32 (zr 32 (.int .u8 0))),(.ar 1 32 (zr 32 (.int .u8 0)))]),(.int .i64 0),(.int .i64 0)]),(.bl false),(.ar 1 16 (zr 16 (.int .u8 0))),(.int .i64 0),(.ar 1 16 (zr 16 (.int .u8 0))),(.st 231 [(.st 77 [(.bl false),(.st 76 [(.int .u32 0),(.int .u32 0),(.ar 1 32 (zr 32 (.int .u8 0))),(.ar 1 32 (zr 32 (.int .u8 0))),(.int .u64 0),(.int .u64 0),(.st 6 [(.bl false),(.int .u64 0),(.ar 1 4 (zr 4 (.int .u64 0)))]),(.int .i64 0),(.bl false)])]),(.st 77 [(.bl false),(.st 76 [(.int .u32 0),(.int .u32 0),(.ar 1 32 (zr 32 (.int .u8 0))),(.ar 1 32 (zr 32 (.int .u8 0))),(.int .u64 0),(.int .u64 0),(.st 6 [(.bl false),(.int .u64 0),(.ar 1 4 (zr 4 (.int .u64 0)))]),(.int .i64 0),(.bl false)])]),(.st 77 [(.bl false),(.st 76 [(.int .u32 0),(.int .u32 0),(.ar 1 32 (zr 32 (.int .u8 0))),(.ar 1 32 (zr 32 (.int .u8 0))),(.int .u64 0),(.int .u64 0),(.st 6 [(.bl false),(.int .u64 0),(.ar 1 4 (zr 4 (.int .u64 0)))]),(.int .i64 0),(.bl false)])])]),.sl 1 [] true]:PV)=NH p:=rfl;simp only[XE];clear XE;simp[oI,ha];refine mM.G8 1 (mM.s ?_);simp[↓al,Dw];refine aN.rA (amq hx p.cH) ?_;simp;refine⟨[.keep [5,8,9,11,13,14,56,57,58,86,87,88],.dr 16],?_⟩;simp;refine mM.z ?_;simp[↓al];obtain⟨D,hD⟩:∃D:bc,D=⟨r,c.jz.fv,(kV c.jz iZ).fv,c.port,kA.fv,now,[],[⟨x,p.cH⟩],[],[],kB.fv,now,[],[],0⟩:=⟨_,rfl⟩
 have Tv:an [aQ (qG p)]:=by simp
 have hVp:Pure (NH p):=by simp
 have Oi:=Wg (d:=D) (m:=1) Tv (o:= .sl 86 [] false) (by simp) hVp (by rw[←hk];simp[NH,aM]);have Xw:=adf (qG p);rw[←hD];have At:aZ D (.sl 464 [aQ (qG p)] false)=eX ⟨r,c.jz.fv,(kV c.jz iZ).fv,c.port,kA.fv,now,[qG p],[⟨x,p.cH⟩],[],[],kB.fv,now,[],[],0⟩:=by rw[hD];rfl
 have hpu:Pure (aZ D (.sl 464 [aQ (qG p)] false)):=by rw[At];exact E2 _
 rw[←At];clear At hD;generalize aQ (qG p)=q at*;generalize NH p=V at*;have hq:=(an.forget Tv) q (by simp);refine ai.gA [48,90,14] [] [.box (Gv D (.rs 90 [] 0 1 1 464 .tip) (.sl 86 [] false)),.arr 464 [q],.box V] Oi (by simp[ab,af,ah,bR,idx,hq.refs,hVp.refs]) (by simp[az,aE,aR,bz,idx,hq.aE,hVp.aE]) (by simp[ab,af,ah,c9,hq.refs,hVp.refs]) ?_;simp[aI,az,aE,aR,cU,hq.aE,hVp.aE];simp[↓al];refine⟨[.keep [5,8,9,11,56,57,58],.dr 13,.dr 14],?_⟩;simp[hq.refs,hVp.refs];refine mM.z ?_;simp[↓al];refine ai.gA [90] [] [.arr 464 [q]] Xw (by simp[ab,ah,hq.refs]) (by simp[az,aR,hq.aE]) (by simp[ab,af,ah,hq.refs]) ?_;simp[aI,az,aE,aR,hq.aE];refine aA.plain [.keep [8,9],.fz 90] ?_;simp[hq.refs];exact hpu
theorem amw {d:bc} (hm:Kb d) {d':bc} {Be:List bO} {O:List PV} (hO:an O) {b:List UInt8} (hT:MC 26 [aP b] (tP d).1 d.au (.bl true) d' Be O) (hN:O.length≤1000000)
  {x y:PV} (hx:Pure x) (hw:x.width=18) (hwk:wk x=x) (hy:Pure y) (Tq:wk y=y) (a:Int):
  aK Pg 7 [eX d,.st 22 [.int .i64 1,x,aP b,.int .i64 a,y]] (.tup [eX (Oz (d',Be)),.sl 86 O false]):=by
 refine ae.intro T.Gs (by simp[F.Gs,F.gu]) ?_;simp[F.Gs,F.gu,mP,aj,av];refine SE.of (λs'=>s'=⟨[(3,.pt 3 [] 0),(4,.pt 4 [] 0),(5,.sl 86 [] true),(6,.pt 11 [] 0)],[(3,.box (.st 22 [.int .i64 1,x,aP b,.int .i64 a,y])),(4,.box zPs),(11,.box (tN d 108 d.au.length 200 0)),(108,.arr 464 (d.au.map aQ)),(200,.arr 86 [])]⟩) ?_ ?_
 ·simp;refine ai.gA [] [108] [] (kH hm) (by simp) (by simp) (by simp[ab,af,c9]) ?_;simp[aI,az,aE,cU];refine⟨[.keep [3,4,5,6],.dr 2,.vb 11 [.f 1 148] 200 86],?_⟩;simp[bt,b8,af,ab,ah];exact⟨⟨hx.refs _,hy.refs _⟩,rfl,rfl⟩
 rintro s' rfl;rw[QI];generalize hs:tP d=s at*;simp[hw];refine ai.mo 11 108 200 (L:=[]) (hT [] (by simp) (by simpa using hN)) (by simp) (by simp) (by simp) (by simp) vY (by simp[ah,af,bR,idx]) (by simp[aR,aE,bz,idx]) ?_;rintro r fp ⟨rfl,rfl⟩;refine⟨_,_,_,rfl,by simp,hO,?_⟩;simp;refine lH.run [4] rfl ?_;simp;refine aA.plain [.keep [4,5],.dr 3,.dr 11,.fz 108,.fz 200] ?_;simp[bt,b8,af,ab,hO.refs,hO.iQ];exact⟨hO,rfl⟩
theorem Q2 {a b:Key} (h:a.fv=b.fv):a=b:=by
 have h:aG a=aG b:=congrArg FV.p h;have e:=wT a b;rw[←h,wT a a]at e;simpa using e.symm
theorem LD {s:xJ} (h:s.1.au=[]):tP (Oz s)=s:=by
 obtain⟨d,ps⟩:=s;cases d;simp only at h;subst h;rfl
theorem amx {n i:Nat} {p:PV} (h:i<(zr n p).length):(zr n p)[i]=p:=by
 have:∀l:List PV,l=List.replicate n p->∀h:i<l.length,l[i]=p:=by rintro _ rfl h;simp
 exact this _ (by rw[cg]) h
def Kf:Bo:=⟨iZ,zK,true,vv 0,0,[⟨gh 1 0,16⟩]⟩
def C24:LB:=⟨k1,0,[Kf]⟩
def LF:bc:=Dw Wf C24 R1 0 0 [qG Kf] [Dm (gh 1 0) iZ] [] (Gm k2.l fj).fv
theorem Wh:aK Pg 33 [] (cO Wf):=by
 refine ae.intro (aC R.nz.2) (by simp[R.nz]) ?_;simp[R.nz,aj,av];refine aA.plain [] ?_;simp;rfl
theorem amy:aK Pg 32 [cO Wf,lR C24,aG k2,.int .i64 0] (.tup [eX LF,.int .i64 0]):=
 amv (r:=Wf) amr (We (c:=C24) (QZ (p:=Kf) rfl rfl (by decide) (by decide) (by decide) rfl rfl (by decide)) rfl rfl (by decide) (by decide)) rfl rfl (by decide) rfl k2 (by decide) (by decide)
theorem DC:pI (yP (qG Kf)):=by
 refine⟨rfl,⟨List.replicate 16 0,rfl,?_⟩,?_,Af,?_,?_,.inl rfl,by simp[yP],?_⟩
 ·show PV.ar 1 16 (zr 16 (.int .u8 0))=_;rw[cg];rfl
 ·show(0:Int)≤yO.born;decide
 ·show(0:Int)≤yO.rem∧yO.rem≤4294967295;decide
 ·show(0:Int)≤yO.next;decide
 ·intro b hb;have:b=Im:=by simpa[yP]using hb
  subst this;decide
theorem step1:∃(d':bc) (p':bO) (b:List UInt8),b.length=148∧MC 26 [aP Im] (tP LF).1 LF.au (.bl true) d' [p'] [lu (yP (qG Kf)) (aG zK) 0 b]∧
  d'= {(tP LF).1 with random:=R3.fv,aS:=d'.aS,timers:=[⟨5000,iZ,1⟩]}∧d'.aS.length≤1∧p'= {yP (qG Kf)with hand:=p'.hand,Ib:=p'.Ib}∧p'.hand.started=0:=by
 have hn:=nz3;obtain⟨ck,B8,Mo⟩:=DC.tE;obtain⟨d',p',O,hB,hM⟩:=Gp (d:=(tP LF).1) (by decide) (by decide) (ps:=[yP (qG Kf)]) (i:=0) (by simp) (k:=R1) (pr:=k1) rfl rfl DC.xF B8 Mo;rcases hB with⟨hb,_⟩|⟨_,hI⟩
 ·have:NA (tP LF).1 [yP (qG Kf)][0]=true:=rfl;rw[this]at hb;simp at hb
 ·have cI:=hI.ok (by decide) (show kV e1 iZ≠zK from hn.1) (show kV k1 iZ≠zK from hn.2.2);rcases hI.out with⟨_,_,h⟩|⟨et,hh,Oi,qT,b,hb,hOe⟩
  ·exact absurd h cI
  ·have et2:d'.timers=[⟨5000,iZ,1⟩]:=by
    rw[et];unfold lv;rw[if_pos (by rfl)];rfl
   have hr:=hI.VF;have hrn:d'.random=R3.fv:=hI.y8;rw[hrn,et2]at hr;have hO:an O:=(sS hI).1;have hF:=V8 (d:=(tP LF).1) (ps:=[yP (qG Kf)]) (i:=0) (by simp) rfl rfl (by decide) (by decide) DC.born rfl hO hM;have hP:=V9 (d:=(tP LF).1) (d':=d') (a:=gh 1 0) (k:=iZ) rfl rfl (by decide) (by decide) (p:=qG Kf) (p':=p') rfl rfl rfl hO hF;refine⟨d',p',b,hb,?_,hr,hI.Zy.2,hI.Dr,qT⟩;have hO2:O=[lu (yP (qG Kf)) (aG zK) 0 b]:=hOe;rw[hO2]at hP;exact hP
theorem step2 {d':bc} {p':bO} (hd:d'= {(tP LF).1 with random:=R3.fv,aS:=d'.aS,timers:=[⟨5000,iZ,1⟩]}) (hs:d'.aS.length≤1) (hp:p'= {yP (qG Kf)with hand:=p'.hand,Ib:=p'.Ib}) (qT:p'.hand.started=0):
  sT (d',[p'])∧∃b:List UInt8,b.length=148∧Ends 5000 (d',[p']) 1∧(tr 1 (d',[p'])).2=[lu p' (aG zK) 0 b]:=by
 have hn:=nz3;have ht:d'.timers=[⟨5000,iZ,1⟩]:=by rw[hd]
 have h0:d'.now=0:=by rw[hd];rfl
 have xL:d'.rules=Wf:=by rw[hd];rfl
 have hrn:d'.random=R3.fv:=by rw[hd]
 have aoL:d'.jz=k1.fv:=by rw[hd];rfl
 have Oo:p'.cH=iZ:=by rw[hp];rfl
 have awk:p'.jg=0:=by rw[hp];rfl
 have hI:sT (d',[p']):=by
  refine⟨by show 0≤d'.now;omega,by show 0<d'.rules.ret;rw[xL];decide,by show d'.rules.ret≤_;rw[xL];decide,⟨R3,hrn⟩,⟨k1,aoL⟩,by show d'.aS.length≤1000;omega,?_,by simp,by show S7 d'.timers;rw[ht];simp[S7],?_⟩
  ·intro p su;have:p=p':=by simpa using su
   subst this;have h:=DC;rw[hp];exact⟨h.1,h.2,h.3,h.4,h.5,h.6,h.7,h.8,h.9⟩
  ·intro t htm;have htm:t∈d'.timers:=htm;rw[ht]at htm;have:t=⟨5000,iZ,1⟩:=by simpa using htm
   subst this;exact⟨by decide,0,by simp,by simp[lQ,Oo],by simp⟩
 refine⟨hI,?_⟩;have aoM:kE d'.timers 5000=true:=by rw[ht];rfl
 obtain⟨hA,_⟩:=BR hI (to:=5000) aoM (by show d'.now≤5000;omega) (by decide);have hm:jZ d'.timers=⟨5000,iZ,1⟩:=by rw[ht];rfl
 have hA:NF (kG d') [p'] (jZ d'.timers) (y8 (d',[p'])):=hA
 have hsn:(kG d').now=5000:=by
  show max d'.now (jZ d'.timers).at_=5000;rw[hm,h0];rfl
 have awl:(kG d').timers=[]:=by
  show bg d'.timers (jZ d'.timers).peer (jZ d'.timers).kind=[]
  rw[hm,ht];simp[bg,oE]
 rw[hm]at hA;have Oi:tr 1 (d',[p'])=((y8 (d',[p'])).1,[]++(y8 (d',[p'])).2):=rfl;rw[Oi];generalize hr:y8 (d',[p'])=r at*;obtain⟨i,hi,hf,p2,_,⟨k,pr,hk,uO,hKR⟩,hO,_⟩:=hA;have hi0:i=0:=by simp at hi;omega
 subst hi0;have hk:R3.fv=k.fv:=by rw[←hrn];exact hk
 have uO:k1.fv=pr.fv:=by rw[←aoL];exact uO
 have hk:=Q2 hk;have uO:=Q2 uO;subst hk uO;rcases hKR with⟨_,h⟩|⟨h,_⟩|⟨h,_⟩|⟨h,_⟩|⟨h,_⟩
 case inr.inl=>simp at h
 case inr.inr.inl=>simp at h
 case inr.inr.inr.inl=>simp at h
 case inr.inr.inr.inr=>simp at h
 rcases h with⟨_,hI2⟩|⟨hb,_⟩
 ·have OG:(kG d').aS=d'.aS:=rfl;have cI:=hI2.ok (by rw[OG];omega) (by show kV e2 p'.cH≠zK;rw[Oo];exact hn.2.1) (by show kV k1 p'.cH≠zK;rw[Oo];exact hn.2.2);rcases hI2.out with⟨_,_,h⟩|⟨et,_,_,_,b,hb,hOe⟩
  ·exact absurd h cI
  ·have et2:r.1.1.timers=[⟨10000,iZ,1⟩]:=by
    rw[et];unfold lv;rw[if_pos (by show p'.jg=0;exact awk)];show ji (kG d').timers ⟨IntKind.i64.wrap ((kG d').now+d'.rules.ret),p'.cH,1⟩=_;rw[awl,hsn,xL,Oo];rfl
   refine⟨b,hb,⟨λi hi=> ?_,?_⟩,hOe⟩
   ·have:i=0:=by omega
    subst this;exact aoM
   ·rw[Oi];show kE r.1.1.timers 5000=false;rw[et2];rfl
 ·have:Ka (kG d') p'=true:=by
   unfold Ka;rw[hsn,qT,show(kG d').rules=Wf from xL];rfl
  have hb:Ka (kG d') p'=false:=hb;rw[this]at hb;simp at hb
theorem adh {d:bc} (h1:d.au.length≤10) (h2:d.bH.length≤1000) (h3:d.aS.length≤1000) (h4:d.timers.length≤1000) (h5:d.dT.length≤1000) (h6:d.buckets.length≤1000) (h7:∀p∈d.au,pI p):Kb d:=
 ⟨by omega,by omega,by omega,by omega,by omega,by omega,λp hp=>⟨by have:=(h7 p hp).stl;omega,λb hb=>by have:=(h7 p hp).stb b hb;omega⟩⟩
theorem adi:PV.ar 1 32 ((zr 32 (.int .u8 0)).set 0 (.int .u8 9))=aG iZ:=by rw[cg];rfl
theorem amz:PV.ar 1 32 ((zr 32 (.int .u8 0)).set 0 (.int .u8 1))=aG k1:=by rw[cg];rfl
theorem amA:PV.ar 1 32 ((zr 32 (.int .u8 0)).set 0 (.int .u8 2))=aG k2:=by rw[cg];rfl
theorem Wi:aK Pg 10 [] (.bl true):=by
 have hAt:aK Pg 17 [.int .i64 0] (ic (vv 0)):=jJ (i:=0) (by omega);have hH:aK Pg 21 [.int .i64 1,.int .i64 0] (cP (gh 1 0)):=e9 1 0;have hM:=dk (a:=gh 1 0) (tW 1);have hN:=amy;have hH1:aK Pg 21 [.int .i64 0,.int .i64 1] (cP (gh 0 1)):=e9 0 1;have hH2:aK Pg 21 [.int .i64 1,.int .i64 1] (cP (gh 1 1)):=e9 1 1;obtain⟨d',p',b,hb,hMM,hd,hs,hp,qT⟩:=step1;obtain⟨hI,b2,A9,hE,hO2⟩:=step2 hd hs hp qT
 have hsm:Kb LF:=adh (by decide) (by decide) (by decide) (by decide) (by decide) (by decide) (by
  intro p hp;have:p=qG Kf:=by simpa[LF,Dw]using hp
  subst this;have h:=DC;exact⟨h.1,h.2,h.3,h.4,h.5,h.6,h.7,by simp[qG],by simp[qG]⟩)
 have hP:=amw hsm (O:=[lu (yP (qG Kf)) (aG zK) 0 b]) (by simp[lu]) hMM (by simp) (x:= .st 18 [.st 17 [.bl false,.ar 1 16 (zr 16 (.int .u8 0))],.int .i64 0]) (by simp) (by simp[PV.width]) (by simp[wk,fI]) (y:= .str []) (by simp) (by simp[wk]) 0;have On:d'.au=[]:=by rw[hd];rfl
 have XJ:tP (Oz (d',[p']))=(d',[p']):=LD On;have hdt:(Oz (d',[p'])).timers=[⟨5000,iZ,1⟩]:=by show d'.timers=_;rw[hd]
 have hdn:(Oz (d',[p'])).now=0:=by show d'.now=_;rw[hd];rfl
 have awm:Kb (Oz (d',[p'])):=adh (by show [p'].length≤10;simp) (by rw[show(Oz (d',[p'])).bH=(tP LF).1.bH by show d'.bH=_;rw[hd]];decide) (by show d'.aS.length≤1000;omega) (by rw[hdt];decide) (by rw[show(Oz (d',[p'])).dT=(tP LF).1.dT by show d'.dT=_;rw[hd]];decide) (by rw[show(Oz (d',[p'])).buckets=(tP LF).1.buckets by show d'.buckets=_;rw[hd]];decide) hI.Dr;have hT:=QK awm (by rw[XJ];exact hI) (to:=5000) (by omega) (by decide) (by omega) (N:=1) (by rw[XJ];exact hE) (by rw[XJ,hO2];simp) (x:= .st 18 [.st 17 [.bl false,.ar 1 16 (zr 16 (.int .u8 0))],.int .i64 0]) (y:= .str []) (b:=[]) (by simp) (by simp[PV.width]) (by simp[wk,fI]) (by simp) (by simp[wk]);rw[XJ,hO2]at hT;have hq:Pure (lu (yP (qG Kf)) (aG zK) 0 b):=by simp[lu]
 have hq2:Pure (lu p' (aG zK) 0 b2):=by simp[lu]
 refine ae.intro T.ij (by simp[F.ij]) ?_;simp[F.ij,aj,av];refine ai.rA Wh ?_;simp[amx,amz,adi];refine ai.rA hAt ?_;simp;refine ai.rA hH ?_;simp;refine ai.rA hM ?_;simp[amx,amA];refine ai.ret hN (by simp[tF];rfl) (by simp) (by simp) ?_;simp;refine aN.rA hH1 ?_;simp;refine aN.rA hH2 ?_;simp;refine aN.rA V5 ?_;simp;refine aN.ret hP (by simp) (by simp) (by simp[hq]) ?_;simp;refine ai.ret hT (by simp[aP]) (by simp) (by simp[hq2]) ?_;have aoN:(b.length:Int)=148:=by omega
 have aeP:(b2.length:Int)=148:=by omega
 simp(maxSteps:=2000000) [lu,aoN,aeP];refine aA.plain [] ?_;simp
theorem ai.vs [eJ] {f:FuncId} {s:St} {dst:Option Nat} {K:St->Prop} {tg:Tg K} {k n sz:Nat} {L:List PV} {X v:PV} (hA:aK Pg f [.sl sz L false,X] v)
  (hk:get s.bx k=some (.arr sz L)) (hn:L.length=n) (hL:an L) (hX:Pure X) (hXw:wk X=X) (hv:Pure v) (nL:fL v=true) (fH:0<sz)
  (h:K ({s with bx:=put s.bx k (.arr sz L)}.put dst v)):ai Pg s dst f [.rs k [] 0 n n sz .tip,X] K tg:=by
 refine ai.view [k] [] [.arr sz L] (bC:=[.rs KB [] 0 n n sz .tip,X]) (args0:=[.sl sz L false,X]) (b6:=[.arr sz L]) hA (by simp[getAll,hk]) (by simp) (by simp) (by simp[ah,af,bR,idx,hX.refs]) (by simp[ab,hL.refs]) (by simp[aR,aE,bz,idx,hX.aE,hXw]) (by simp[az,hL.aE]) ?_ ?_ ?_
 ·refine⟨.inl (.inr ⟨KB,[],0,n,n,sz,.tip,L,rfl,?_,hL.refs _,by omega,rfl⟩),.inl (.inl ⟨rfl,hX.refs _⟩),trivial⟩;simp[av,hn];rw[←hn,JcJ]
 ·rintro r new ⟨rfl,rfl⟩;exact⟨⟨nL,by simp⟩,rfl⟩
 ·rintro r new ⟨rfl,rfl⟩;simp[hv.aE,hv.refs,ab,hL.refs,az,hL.aE,aI];exact h
def yR (x:PV):Prop:=∃(e:G6) (k1 k2:Key) (c:Int) (b:List UInt8),x= .st 86 [.int .i64 1,ic e,aG k1,aG k2,.int .u64 c,aP b,.str []]
theorem LG (p:bO) (k:Key) (c:Int) (b:List UInt8):yR (lu p (aG k) c b):=⟨p.ep,p.cH,k,c,b,rfl⟩
theorem amB {d:bc} {p:bO} {k pr:Key} {d':bc} {p':bO} {O:List PV} (h:Nz d p k pr d' p' O):∀x∈O,yR x:=by
 intro x hx;rcases h.out with⟨_,_,rfl⟩|⟨_,_,_,_,b,_,rfl⟩
 ·simp at hx
 ·rw[JqW.1 hx];exact LG _ _ _ _
theorem amC {d:bc} {p:bO} {k pr:Key} {d':bc} {p':bO} {O:List PV} (h:Qy d p k pr d' p' O):∀x∈O,yR x:=by
 rcases h with⟨_,_,_,rfl⟩|⟨_,h⟩
 ·simp
 ·exact amB h
theorem ZR {d:bc} {p:bO} (hp:pI p) {k pr:Key} {d':bc} {p':bO} {O:List PV} (h:Ii d p k pr d' p' O):∀x∈O,yR x:=by
 rcases h with⟨_,_,_,rfl⟩|⟨_,_,h⟩|⟨_,_,_,_,b,_,rfl⟩
 ·simp
 ·exact amC h
 ·intro x hx;obtain⟨sk,hsk⟩:=hp.send;rw[JqW.1 hx,hsk];exact LG _ _ _ _
theorem krM {kd:Int} {d:bc} {p:bO} (hp:pI p) {k pr:Key} {d':bc} {p':bO} {O:List PV} (h:KR kd d p k pr d' p' O):∀x∈O,yR x:=by
 rcases h with⟨_,h⟩|⟨_,h⟩|⟨_,h⟩|⟨_,_,h,_⟩|⟨_,_,_,rfl⟩
 ·rcases h with⟨_,h⟩|⟨_,_,_,rfl⟩
  ·exact amB h
  ·simp
 ·exact amC h
 ·exact ZR hp h
 ·exact ZR hp h
 ·simp
theorem trM {s:xJ} (h:sT s) {to:Int} (hn:s.1.now≤to) (XI:to≤1099511627776):∀N,(∀i,i<N->kE (tr i s).1.1.timers to=true)->∀x∈(tr N s).2,yR x
 |0,_=>by simp[tr]
 |
  N+1,hd=>by
  obtain⟨h1,⟨_,h2⟩,_⟩:=qF h hn XI N (λi hi=>hd i (by omega))
  obtain⟨⟨i,hi,_,_,_,⟨_,_,_,_,hK⟩,_⟩,_⟩:=BR h1 (hd N (by omega)) h2 XI
  intro x hx
  rcases JaZ.1 (show x∈(tr N s).2++(y8 (tr N s).1).2 from hx)with hx|hx
  ·exact trM h hn XI N (λi hi=>hd i (by omega)) x hx
  ·exact krM (h1.Dr _ (JbQ hi)) hK x hx
theorem LH:∀ {L:List PV},(∀x∈L,yR x)->fI L=L
 |[],_=>rfl
 |
  x::L,h=>by
  obtain⟨e,k1,k2,c,b,rfl⟩:=h x JrJ
  have:=LH (L:=L) λy hy=>h y (List.mem_cons_of_mem _ hy)
  simp[fI,wk,this]
theorem adj {L:List PV} (hL:an L) (hm:∀x∈L,yR x) (hl:L.length≤1000000):aK Pg 9 [.sl 86 L false,.sl 86 L false] (.bl true):=by
 refine ae.intro T.ei (by simp[F.ei]) ?_;simp[F.ei,aj,av];refine eW.fD L.length (λ_=>True) [0,1,4,13,14,15] (λi=>[(15,.int .i64 i)]) (λ_=>[]) [.keep [0,1,4,13,14,15]] ?_;simp;refine⟨λi hi K hK=> ?_,λK=> ?_⟩
 ·obtain⟨e,k1,k2,c,b,Hf⟩:=hm _ (JbQ hi);have hx:L[i]? =some (.st 86 [.int .i64 1,ic e,aG k1,aG k2,.int .u64 c,aP b,.str []]):=by rw[gJ hi,Hf]
  have hw:IntKind.i64.wrap ((i:Int)+1)=(i:Int)+1:=wrap_i64 (by omega);simp[↓al,hi,-getElem?_pos];refine lH.run [6,7] rfl ?_;simp[hx,hi,hw,-getElem?_pos];refine⟨[.keep [0,1,4,13,14,15],.dr 6,.dr 7],?_⟩;simp[bt,b8,af,ab,ah];exact⟨hL.refs _,hL.refs _,hK _ (by simp)⟩
 ·simp[↓al];refine aA.plain [] ?_;simp
theorem VM.inv {d:bc} {m:Nat} (h:VM d m):sT (tP d):=by
 obtain⟨q1,q2,q3,q4,q5,_⟩:=h.vd.ru;have oR:=h.vd.Gw.1;have EA:=h.vd.sls.len oR;refine⟨h.vd.n0,by show 0<d.rules.ret;omega,by show d.rules.ret≤_;omega,h.vd.kr,h.vd.kp,by show d.aS.length≤1000;omega,?_,by show d.au.length≤10;omega,h.ti.un,?_⟩
 ·intro p hp;have hp:=h.vd.Dr p hp;refine⟨hp.xF,⟨List.replicate 16 0,rfl,?_⟩,?_,?_,?_,?_,?_,by rw[hp.dI];simp,by rw[hp.dI];simp⟩
  ·rw[hp.tE];show PV.ar 1 16 (zr 16 (.int .u8 0))=_;rw[cg];rfl
  ·rcases hp.rc with⟨_,h⟩|⟨_,h⟩
   ·exact h.b0
   ·rw[h];show(0:Int)≤yO.born;decide
  ·rcases hp.rc with⟨_,h⟩|⟨_,h⟩
   ·exact h.sk
   ·rw[h];exact Af
  ·rcases hp.rc with⟨_,h⟩|⟨_,h⟩
   ·exact h.rm
   ·rw[h];show(0:Int)≤yO.rem∧yO.rem≤4294967295;decide
  ·rcases hp.rc with⟨_,h⟩|⟨_,h⟩
   ·exact h.n0
   ·rw[h];show(0:Int)≤yO.next;decide
  ·rcases hp.jg with h|h
   ·exact .inl h
   ·exact .inr ⟨by omega,by omega⟩
 ·intro t ht;obtain⟨r1,r2,r3,r4,i,hi,r5,r6⟩:=h.ti.rg t ht;refine⟨⟨by omega,r2⟩,i,hi,?_,r6⟩;refine sR hi (λx hx=> ?_) ?_
  ·rw[JoW]at hx;obtain⟨j,hj,rfl⟩:=hx;have Ez:j<d.au.length:=by omega
   show decide (d.au[j].cH=t.peer)=false;rw[h.vd.Gw.2 j Ez,r5];simp only[decide_eq_false_iff_not];intro e;have:=yT (by omega) (by omega) e;omega
  ·show decide (d.au[i].cH=t.peer)=true;rw[h.vd.Gw.2 i hi,r5];simp
theorem aut {l:List UInt8} (hl:l.length≤9223372036854775807) {n:Nat} (hn:n≤1000000):ae Pg 6 [aP l,.int .i64 n] [] (λr fp=>r= .pt KB [] 0∧fp=[.box (eY ⟨l.take n,0⟩)]):=by
 refine ae.intro (aC R.qI.2) (by simp[R.qI]) ?_;simp[R.qI,aj,av];have wN:(min (l.length:Int) (n:Int))=((min l.length n:Nat):Int):=by omega
 have ht:(List.map u8 l).take (min l.length n)=(l.take n).map u8:=by
  rw[←JfQ];congr 1;rcases Nat.le_total l.length n with h|h
  ·rw[JdW h,JcJ,tJ h]
  ·rw[Nat.min_eq_right h]
 simp(disch:=omega) [aP,wN,ht];refine⟨by omega,?_⟩;refine aA.with [] [12] ?_;simp[ab,af,ah,az,aE,aR];simp[eY,aP]
theorem Bn.fin {s s':xJ} (h:Bn s s') (to:Int):Bn s (Ab.fin to s'):=by
 have:=congrArg (λe:bc=>({e with now:=to}:bc)) h;exact this
theorem Bn.trans {s s' s2:xJ} (h:Bn s s') (g:Bn s' s2):Bn s s2:=by
 unfold Bn at*;rw[g];generalize s2.1=e at*;rw[h]
theorem amD {d:bc} {m:Nat} (h:VM d m) {s:xJ} (hI:sT s) (hS:Bn (tP d) s):Kb (Oz s):=by
 have h1:=congrArg bc.bH hS;have h2:=congrArg bc.dT hS;have h3:=congrArg bc.buckets hS;have h4:=hI.tl;have h5:=hI.len;have h6:=h.vd.rts.1;refine adh hI.len ?_ hI.Zy (by show s.1.timers.length≤1000;omega) ?_ ?_ hI.Dr
 ·show s.1.bH.length≤1000;rw[h1];show d.bH.length≤1000;omega
 ·show s.1.dT.length≤1000;rw[h2];show d.dT.length≤1000;rw[h.vd.rcn];simp
 ·show s.1.buckets.length≤1000;rw[h3];show d.buckets.length≤1000;rw[h.vd.buc];simp
def evT (t:Int):PV:= .st 22 [.int .i64 3,.st 18 [.st 17 [.bl false,.ar 1 16 (zr 16 (.int .u8 0))],.int .i64 0],aP [],.int .i64 t,.str []]
theorem NJ {d:bc} {m:Nat} (h:VM d m) {t1 t2:Int} (h1:d.now≤t1) (Hh:t1≤t2) (h2:t2≤d.now+12000):
  ∃
   (X Y:bc) (O P Q:List PV),(an O∧an P∧an Q)∧O++P=Q∧Q.length≤1000000∧(∀x∈Q,yR x)∧Y.now=t2∧Kb Y∧
   ae Pg 7 [eX d,evT t1] [] (λr fp=>r= .tup [eX X,.rs KB [] 0 O.length O.length 86 .tip]∧fp=[.arr 86 O])∧
   aK Pg 7 [eX X,evT t2] (.tup [eX Y,.sl 86 P false])∧aK Pg 7 [eX d,evT t2] (.tup [eX Y,.sl 86 Q false]):=by
 have hI:=h.inv;have g1:=h.vd.n1;have oR:=h.vd.Gw.1;have hn:(tP d).1.now=d.now:=rfl;have XH:t1≤1099511627776:=by omega
 have Je:t2≤1099511627776:=by omega
 obtain⟨N1,e1⟩:=QH hI (to:=t1) (by omega) XH;obtain⟨a1,⟨_,a2⟩,a3,a4,a5,a6⟩:=qF hI (by omega) XH N1 e1.1;have b1:=a1.fin a2;have b2:=a4.fin t1;obtain⟨N2,e2⟩:=QH b1 (to:=t2) Hh Je;obtain⟨c1,⟨_,c2⟩,c3,c4,c5,c6⟩:=qF b1 (show(fin t1 (tr N1 (tP d)).1).1.now≤t2 from Hh) Je N2 e2.1;obtain⟨N3,e3⟩:=QH hI (to:=t2) (by omega) Je;obtain⟨f1,⟨_,f2⟩,f3,f4,f5,f6⟩:=qF hI (by omega) Je N3 e3.1;obtain⟨q1,q2⟩:=NG hI (by omega) Hh Je e1 e2 e3
 have hmu:mu t2 (tP d)≤700000:=by
  unfold mu;have k1:=LA (tP d).1.timers (tP d).1.now;have k2:=hI.tl;have k3:(tP d).2.length=d.au.length:=rfl;rw[k3]at k2⊢;have k4:(t2-(tP d).1.now).toNat≤12000:=by omega
  have k5:=JhJ k4 (show 5*d.au.length+1≤16 by omega);omega
 have hQ:(tr N3 (tP d)).2.length≤1000000:=by omega
 have hOP:=congrArg List.length q2;rw[JaJ]at hOP;have On:(fin t1 (tr N1 (tP d)).1).1.au=[]:=congrArg bc.au b2;have XJ:=LD On;have sX:=amD h b1 b2;have sY:=amD h (f1.fin f2) (f4.fin t2);have hd:Kb d:=h.vd.sml;have T1:=QJ hd hI h1 XH (by omega) e1 (by omega) (x:= .st 18 [.st 17 [.bl false,.ar 1 16 (zr 16 (.int .u8 0))],.int .i64 0]) (y:= .str []) (b:=[]) (by simp) (by simp[PV.width]) (by simp[wk,fI]) (by simp) (by simp[wk]);have T3:=QK hd hI (to:=t2) (by omega) Je (by omega) e3 hQ (x:= .st 18 [.st 17 [.bl false,.ar 1 16 (zr 16 (.int .u8 0))],.int .i64 0]) (y:= .str []) (b:=[]) (by simp) (by simp[PV.width]) (by simp[wk,fI]) (by simp) (by simp[wk]);have T2:=QK sX (by rw[XJ];exact b1) (to:=t2) (show t1≤t2 from Hh) Je (by show t2≤t1+60000;omega) (N:=N2) (by rw[XJ];exact e2) (by rw[XJ];omega) (x:= .st 18 [.st 17 [.bl false,.ar 1 16 (zr 16 (.int .u8 0))],.int .i64 0]) (y:= .str []) (b:=[]) (by simp) (by simp[PV.width]) (by simp[wk,fI]) (by simp) (by simp[wk]);rw[XJ,q1]at T2;exact⟨_,_,_,_,_,⟨a5,c5,f5⟩,q2,hQ,trM hI (by omega) Je N3 e3.1,rfl,sY,T1,T2,T3⟩
theorem Q3 {l:List UInt8} (hl:l.length≤9223372036854775807) {a b:Int} (ha:0≤a∧a≤65535) (hb:0≤b∧b≤65535):aK Pg 3 [aP l,.int .u16 a,.int .u16 b] (.bl true):=by
 have wa:IntKind.i64.wrap a=a:=wrap_i64 (by omega);have wb:IntKind.i64.wrap b=b:=wrap_i64 (by omega);obtain⟨n,hn⟩:∃n,n=Int.tmod b 12000:=⟨_,rfl⟩
 have Mi:0≤n:=by rw[hn];exact Int.tmod_nonneg _ hb.1
 have G1:n<12000:=by rw[hn];exact Int.tmod_lt_of_pos _ (by decide)
 have wn:IntKind.i64.wrap n=n:=wrap_i64 (by omega);have wn1:IntKind.i64.wrap (n+1)=n+1:=wrap_i64 (by omega);obtain⟨m,hm⟩:∃m,m=Int.tmod a (n+1):=⟨_,rfl⟩
 have OC:0≤m:=by rw[hm];exact Int.tmod_nonneg _ ha.1
 have Xh:m<n+1:=by rw[hm];exact Int.tmod_lt_of_pos _ (by omega)
 have wm:IntKind.i64.wrap m=m:=wrap_i64 (by omega);have hz:¬n+1=0:=by omega
 refine ae.intro (aC R.i7.2) (by simp[R.i7]) ?_;simp[R.i7,aj,av];refine ai.gA [] [90] [] (aut hl (n:=160) (by omega)) (by simp) (by simp) (by simp[ab,af,c9]) ?_;simp[aI,az,aE,cU];have hC:iE ⟨l.take 160,0⟩:=⟨by simp;omega,by simp⟩
 refine ai.um 90 (eO hC) ?_;rintro⟨d,c⟩ ⟨hV,_,_,_⟩;dsimp only at hV;have hI:=hV.inv;have g0:=hV.vd.n0;have g1:=hV.vd.n1;have wx:IntKind.i64.wrap (d.now+m)=d.now+m:=wrap_i64 (by omega);have wy:IntKind.i64.wrap (d.now+n)=d.now+n:=wrap_i64 (by omega);obtain⟨X,Y,O,P,Q,⟨pO,pP,pQ⟩,hOP,hQ,aoO,hY,sY,T1,T2,T3⟩:=NJ hV (t1:=d.now+m) (t2:=d.now+n) (by omega) (by omega) (by omega);unfold evT at T1 T2 T3;have hSm:=fu sY;have hSO:=adj pQ aoO hQ;have hlen:=congrArg List.length hOP;rw[JaJ]at hlen;simp[wa,wb,←hn,wn1,hz,←hm,wx];refine ai.abM [] [91] [] T1 (by simp) (by simp) (by simp) (by simp[ah,af]) (by simp) (by simp[aR,aE,aP]) (by simp) ?_;rintro r fp ⟨rfl,rfl⟩;refine⟨by simp[af,ah,ab,c9,pO.refs],?_⟩;simp[aI,az,aE,cU,pO.aE,wy];refine ai.ret T2 (by simp[aP]) (by simp) (by simp[pP]) ?_;simp[wy];refine ai.ret T3 (by simp[aP]) (by simp) (by simp[pQ]) ?_;simp;refine ai.rA hSm ?_;simp;have awn:aK Pg 9 [.sl 86 (O++P) false,.sl 86 Q false] (.bl true):=by rw[hOP];exact hSO
 refine⟨⟨by omega,by omega⟩,ai.vs awn (by simp) (by simp) (pO.append pP) (by simp[pQ]) (by simp[LH aoO]) (by simp) (by simp[fL,lP]) (by omega) ?_⟩;simp[wy,hY];refine ai.rA Wi ?_;simp;refine aA.plain [] ?_;simp
end Go.Ab
