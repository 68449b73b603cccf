/- Walks of functions, part 17. No condition. -/
import Derived.Test.YtddacpkeacbjfaaGreatDoorB16
set_option maxRecDepth 10000
set_option maxHeartbeats 4000000
set_option linter.all false
noncomputable section
namespace Go.Ab
theorem aeG {c:ql} (h:eC c):ab Pg 17 [.pt KB [] 0] [.box (dV c)] (λr fp=>∃w:Zz×ql,(w.1.length≤80∧eC w.2)∧r= .st 22 [.int .i64 1,fc uy,cy w.1,.int .i64 0,.str []]∧fp=[.box (dV w.2)]):=by
 refine ab.intro (aA R.nv.2) (by simp[R.nv]) ?_;simp[R.nv,ah,az,←R1];have hH:=ed 0 1;simp at hH;refine aj.rA hH ?_;simp;refine aj.fj KB (aT h 4 (by omega)) ?_;have m1:=cS c (n:=4) (by omega);have p1:=cq h 4;generalize lg c 4=y1 at*;simp;refine aj.fj KB (aT p1 256 (by omega)) ?_;have m2:=cS y1.2 (n:=256) (by omega);have p2:=cq p1 256;generalize lg y1.2 256=y2 at*;have w1:IntKind.i64.wrap (1+(y1.1:Int))=((UInt8.ofNat (1+y1.1)).toNat:Int):=by rw[wrap_i64 (by omega)];simp[UInt8.toNat_ofNat];omega
 have w2:(y2.1:Int)=((UInt8.ofNat y2.1).toNat:Int):=by simp[UInt8.toNat_ofNat];omega
 have hH2:=ed (UInt8.ofNat (1+y1.1)) (UInt8.ofNat y2.1);rw[←w1,←w2]at hH2;simp;refine aj.rA hH2 ?_;simp;refine aj.fj KB (aT p2 60 (by omega)) ?_;have m3:=cS y2.2 (n:=60) (by omega);have p3:=cq p2 60;generalize lg y2.2 60=y3 at*;simp;refine aj.fj KB (aT p3 256 (by omega)) ?_;have m4:=cS y3.2 (n:=256) (by omega);have p4:=cq p3 256;generalize lg y3.2 256=y4 at*;simp;obtain⟨b,⟨hb,_⟩,hP⟩:=Gu (s:=iq 0 1) (d:=iq (UInt8.ofNat (1+y1.1)) (UInt8.ofNat y2.1)) (n:=y3.1) (by omega) (IntKind.u8.wrap (y4.1:Int));refine aj.own 16 hP (by simp) (by simp) (by simp) (by simp) ?_;simp;refine aj.fj KB (aT p4 10 (by omega)) ?_;have m5:=cS y4.2 (n:=10) (by omega);have p5:=cq p4 10;generalize lg y4.2 10=y5 at*;simp;have Fo:0<b.length:=by omega
 have T1:b[0]? =some b[0]:=gJ Fo;have fin:∀(L:Zz) (c':ql),L.length≤80->eC c'->∃w:Zz×ql,(w.1.length≤80∧eC w.2)∧PV.st 22 [.int .i64 1,fc uy,cy L,.int .i64 0,.str []]= .st 22 [.int .i64 1,fc uy,cy w.1,.int .i64 0,.str []]∧[aU.box (dV c')]=[.box (dV w.2)]:=λL c' h1 h2=>⟨(L,c'),⟨h1,h2⟩,rfl,rfl⟩
 by_cases e1:(y5.1:Int)=1
 ·simp[e1];refine aj.fj KB (aT p5 b.length (by omega)) ?_;have m6:=cS y5.2 (n:=b.length) (by omega);have p6:=cq p5 b.length;generalize lg y5.2 b.length=y6 at*;have q1:(y6.1:Int)≤b.length:=by omega
  simp[q1];refine bj.with [.keep [2,3],.fz 16] [KB] ?_;simp[aW,bA,ae,af,al,(db _).refs,(db _).aI];have eb:PV.sl 1 (List.take y6.1 (List.map u8 b)) false=cy (b.take y6.1):=by simp[cy,JjX]
  rw[if_pos (by omega),eb];exact⟨(vo _).refs _,b.take y6.1,y6.2,⟨by simp;omega,p6⟩,(vo _).aI _,rfl⟩
 ·by_cases e2:(y5.1:Int)=2
  ·simp[e1,e2];refine aj.fj KB (aT p5 256 (by omega)) ?_;have m6:=cS y5.2 (n:=256) (by omega);have p6:=cq p5 256;generalize lg y5.2 256=y6 at*;simp[Fo,T1];refine bj.with [.keep [2,3],.fz 16] [KB] ?_;simp[aW,bA,ae,af,al,(db _).refs,(db _).aI]
   have eb:List.take b.length ((List.map u8 b).set 0 (.int .u8 (IntKind.u8.wrap (y6.1:Int))))=(b.set 0 (MH y6.1)).map u8:=by
    rw[tJ (by simp),MI,←JeJ]
   have eb2:PV.sl 1 ((b.set 0 (MH y6.1)).map u8) false=cy (b.set 0 (MH y6.1)):=rfl;rw[eb,eb2];exact⟨(aL (λx=>by simp[u8]) _).refs _,b.set 0 (MH y6.1),y6.2,⟨by simp;omega,p6⟩,(vo _).aI _,rfl⟩
  ·simp[e1,e2];refine bj.with [.keep [2,3],.fz 16] [KB] ?_;simp[aW,bA,ae,af,al,(db _).refs,(db _).aI];exact⟨b,y5.2,⟨by omega,p5⟩,rfl,rfl⟩
theorem aA5:PV.st 148 [PV.st 10 [.int .u64 0,.int .u64 0,.int .i64 0,.int .i64 0,.int .i64 0,.int .i64 0,.int .i64 0,.int .i64 0,.int .i64 0,.int .i64 0],
 .ar 1 32 (zr 32 (.int .u8 0)),.ar 1 32 (zr 32 (.int .u8 0)),.int .i64 0,.ar 1 32 (zr 32 (.int .u8 0)),.int .i64 0,.sl 464 [] true,.sl 50 [] true,.sl 34 [] true,.sl 34 [] true,
 .ar 1 32 (zr 32 (.int .u8 0)),.int .i64 0,.sl 1 [] true,.sl 19 [] true,.int .i64 0]=zD:=rfl
def tgB (x:Int):FV uq:=⟨.ar 1 16 [.int .u8 (IntKind.u8.wrap x),.int .u8 1,.int .u8 0,.int .u8 0,.int .u8 0,.int .u8 0,.int .u8 0,.int .u8 0,.int .u8 0,.int .u8 0,.int .u8 0,.int .u8 0,.int .u8 0,.int .u8 0,.int .u8 0,.int .u8 0],by simp[uq,Ab.fits,qi,kR]⟩
theorem aqV (x:Int):PV.ar 1 16 [.int .u8 (IntKind.u8.wrap x),.int .u8 1,.int .u8 0,.int .u8 0,.int .u8 0,.int .u8 0,.int .u8 0,.int .u8 0,.int .u8 0,.int .u8 0,.int .u8 0,.int .u8 0,.int .u8 0,.int .u8 0,.int .u8 0,.int .u8 0]=(tgB x).p:=rfl
structure Gv (d:aR) (p q:bE):Prop where
 bb:R2 d p q
 stl:q.aM.length≤1
 stb:∀b∈q.aM,17≤b.length∧b.length≤80
def Gv.cK {d:aR} {p q:bE} (h:Gv d p q):q.cK=p.cK:=by rw[h.bb.eq]
def Gv.ring {d:aR} {p q:bE} (h:Gv d p q):q.ring=p.ring:=by rw[h.bb.eq]
def Gv.hand {d:aR} {p q:bE} (h:Gv d p q):q.hand=p.hand:=by rw[h.bb.eq]
def AH (d:aR) (qs:Xo):Prop:=qs.length=d.aa.length∧∀(i:Nat) (p:bE),d.aa[i]? =some p->∃q:bE,qs[i]? =some q∧Gv d p q
def AH.n9 {d:aR} {qs:Xo} (h:AH d qs) {i:Nat} (hi:i<qs.length):∃p,Gv d p qs[i]:=by
 have je:i<d.aa.length:=by rw[←h.1];exact hi
 obtain⟨q,h1,h2⟩:=h.2 i d.aa[i] (gJ je);rw[gJ hi]at h1;cases h1;exact⟨_,h2⟩
def AH.set {d:aR} {qs:Xo} (h:AH d qs) {i:Nat} (hi:i<qs.length) {q:bE} (hq:∃a b c e,q= {qs[i]with jj:=a,kU:=b,kV:=c,aM:=e}) (hc:zp d q=true) (h0:(q.aM.length:Int)≤d.rules.fU) (h1:q.aM.length≤1) (h2:∀b∈q.aM,(17≤b.length∧b.length≤80)∧vH b):AH d (qs.set i q):=by
 refine⟨by simp[h.1],λj p hp=> ?_⟩;obtain⟨q0,e1,e2⟩:=h.2 j p hp;by_cases hj:i=j
 ·subst hj;rw[gJ hi]at e1;cases e1;refine⟨q,by simp[hi],⟨?_,hc,h0,λb hb=>(h2 b hb).2⟩,h1,λb hb=>(h2 b hb).1⟩;obtain⟨a,b,c,e,hq⟩:=hq;have e3:=e2.bb.eq;generalize qs[i]=r at*;subst hq;rw[e3]
 ·exact⟨q0,by rw[List.getElem?_set_ne hj];exact e1,e2⟩
structure wR (d:aR):Prop where
 aa:d.aa.length≤3
 aX:d.aX.length≤3
 aE:d.aE.length≤200
 timers:d.timers.length≤200
 aY:d.aY.length≤2
 buckets:d.buckets.length≤1
 aM:∀p∈d.aa,p.aM.length≤100∧∀b∈p.aM,b.length≤80
 gd:Gd d
def wR.Ix {d:aR} (h:wR d):G9 d where
 aa:=by have:=h.aa;omega
 aX:=by have:=h.aX;omega
 aE:=by have:=h.aE;omega
 timers:=by have:=h.timers;omega
 aY:=by have:=h.aY;omega
 buckets:=by have:=h.buckets;omega
 aM:=λp hp=>by obtain⟨h1,h2⟩:=h.aM p hp;exact⟨by omega,λb hb=>by have:=h2 b hb;omega⟩
def AH.mem {d:aR} {qs:Xo} (h:AH d qs) {q:bE} (hq:q∈qs):∃p∈d.aa,Gv d p q:=by
 obtain⟨i,hi,rfl⟩:=List.getElem_of_mem hq;have je:i<d.aa.length:=by rw[←h.1];exact hi
 obtain⟨q,h1,h2⟩:=h.2 i d.aa[i] (gJ je);rw[gJ hi]at h1;cases h1;exact⟨d.aa[i],JaJ je,h2⟩
def uv.mem {ps qs:Xo} (h:uv ps qs) {q:bE} (hq:q∈qs):∃p∈ps,aqN p q:=by
 obtain⟨i,hi,rfl⟩:=List.getElem_of_mem hq;have je:i<ps.length:=by rw[←h.1];exact hi
 obtain⟨q,h1,h2⟩:=h.2 i ps[i] (gJ je);rw[gJ hi]at h1;cases h1;exact⟨ps[i],JaJ je,h2⟩
theorem aqW {a b:Zz} (ha:(a.length:Int)≤9223372036854775807) (hb:(b.length:Int)≤9223372036854775807):ab Pg 4 [cy a,cy b] [] (λr fp=>fp=[]∧∃l d,wR d∧aB l∧r= .st 148 l∧wk r=bN d):=by
 refine ab.intro T.bz (by simp[F.bz]) ?_;simp[F.bz,ah,az];refine aj.gA [] [9] [] (iW (n:=160) ha (by omega)) (by simp) (by simp) (by simp[af,ae,dL,(db _).refs]) ?_;simp[aQ,aG,aI,cN,(db _).aI];have o1:eC ⟨a.take 160,0⟩:=⟨by simp;omega,by simp⟩
 generalize (⟨a.take 160,0⟩:ql)=c1 at o1;refine aj.gR [9] [10] [.box (dV c1)] (RZ o1) (by simp[af,(db _).refs]) (by simp[aG,(db _).aI]) ?_;rintro r fp ⟨⟨d,c2⟩,⟨hV,vK,o2,hB⟩,rfl,rfl⟩;dsimp only at hV vK o2 hB;refine⟨⟨rfl,by simp[ae,al,dL,bq],by simp[af,(db _).refs,(aL bh d.aa).refs]⟩,?_⟩;simp[aQ,aG,aI,bw,cN,(db _).aI,(aL bh d.aa).aI];refine aj.gA [] [12] [] (iW (n:=40) hb (by omega)) (by simp) (by simp) (by simp[af,ae,dL,(db _).refs]) ?_;simp[aQ,aG,aI,cN,(db _).aI];have o3:eC ⟨b.take 40,0⟩:=⟨by simp;omega,by simp⟩
 generalize (⟨b.take 40,0⟩:ql)=c3 at o3;simp only[aA5];have Hg:=hV.vd.qV;have hn3:=Hg.1;have Pl:Gd d:=hV.gd hB
 have aCp:∀p∈d.aa,zp d p=true:=λp hp=>by
  have hf:=Pl.Gq p hp;simp only[gZ,aJ]at hf;exact hf.1.1.2
 have aJc:1≤d.rules.fU:=hV.vd.ru.2.2.2.2.2.2.2.2.2.2.2.2.2.2.2.1
 have agk:0≤IntKind.i64.wrap (d.now.tdiv 2)∧IntKind.i64.wrap (d.now.tdiv 2)≤d.now:=by
  have n0:=hV.vd.n0;have n1:=hV.vd.n1;have e:d.now.tdiv 2=d.now/2:=Int.tdiv_eq_ediv_of_nonneg n0;rw[e,wrap_i64 (by omega)];omega
 have Zl:∀p∈d.aa,p.aM=[]:=λp hp=>(hV.vd.tO p hp).aM;refine fa.iV d.aa.length (d.aa,c3) (λi y=>AH d y.1∧eC y.2) [4,5,6,15,16] (λi _=>[(16,.int .i64 i)]) (λi y=>[(10,.arr 464 (y.1.map aH)),(12,.box (dV y.2))]) [.keep [4,5,6,15,16],.dr 9] ?_;simp[aW,bA,ae,af,al,(aL bh d.aa).refs,(db _).refs];refine⟨⟨⟨rfl,λi p hp=>⟨p,hp,⟨⟨rfl,aCp p (JcX hp),by rw[Zl p (JcX hp)];show((0:Nat):Int)≤_;omega,by rw[Zl p (JcX hp)];simp⟩,by rw[Zl p (JcX hp)];simp,by rw[Zl p (JcX hp)];simp⟩⟩⟩,o3⟩,?_,?_⟩
 ·intro i ps cc hi hP hC K hK;have Pu:=hP.1;have je:i<ps.length:=by omega
  have hx:ps[i]? =some ps[i]:=gJ je;have hH1:=ed 0 1;simp at hH1;have hH2:=ed (UInt8.ofNat (i+1)) 1;have hu8:((UInt8.ofNat (i+1)).toNat:Int)=(i:Int)+1:=by simp[UInt8.toNat_ofNat];omega
  rw[hu8]at hH2;simp at hH2;have AQ:IntKind.i64.wrap ((i:Int)+1)=(i:Int)+1:=wrap_i64 (by omega);have xc:=AQ;simp[F.aeH,hi];refine aj.fj 12 (nu hC) ?_;have p1:eC (bool cc).2:=cq hC 2;generalize bool cc=y1 at*;simp;refine⟨λh1=> ?_,λh1=> ?_⟩
  ·refine oG.run [10] rfl ?_;simp[hx,je,Pu,hi,dh,List.replicate,aqV];generalize hq:({ps[i]with jj:=true,kU:=tgB i,kV:=IntKind.i64.wrap (d.now.tdiv 2)}:bE)=q;have hqr:q.aM=ps[i].aM:=by subst hq;rfl
   have hqc:zp d q=true:=by subst hq;simp[zp,jV,agk.1,agk.2]
   have hqs:∀l,∃a b c e,({q with aM:=l}:bE)= {ps[i]with jj:=a,kU:=b,kV:=c,aM:=e}:=λl=>⟨true,tgB i,IntKind.i64.wrap (d.now.tdiv 2),l,by subst hq;rfl⟩
   refine aj.fj 12 (nu p1) ?_;have p2:eC (bool y1.2).2:=cq p1 2;generalize bool y1.2=y2 at*;simp;refine⟨λh2=> ?_,λh2=> ?_⟩
   ·refine oG.run [12] rfl ?_;simp[hx,je,Pu,hi];refine aK.rA hH1 ?_;simp[AQ];refine aK.rA hH2 ?_;simp;refine aj.fj 12 (aT p2 30 (by omega)) ?_;have m3:=cS y2.2 (n:=30) (by omega);have p3:=cq p2 30;generalize lg y2.2 30=y3 at*;obtain⟨pk,⟨Hg,Ag⟩,hP3⟩:=Gu (s:=iq 0 1) (d:=iq (UInt8.ofNat (i+1)) 1) (n:=y3.1) (by omega) 1;simp;refine aK.rA (hP3.eG (aL (λx=>by simp[u8]) _)) ?_;have es:PV.sl 1 [PV.sl 1 (pk.map u8) false] false=ey [pk]:=rfl;simp[hx,je,Pu,hi,es,xc];refine⟨[.keep [4,5,6,15,16]],?_⟩;simp;exact hK (ps.set i {q with aM:=[pk]}) y3.2 _ (by simp[JeJ]) (hP.set je (hqs [pk]) hqc (by show((1:Nat):Int)≤_;omega) (by simp) (by simp[Hg,Ag];omega)) p3
   ·simp[xc];refine⟨[.keep [4,5,6,15,16]],?_⟩;simp;obtain⟨pi,f1,f2⟩:=hP.2 i d.aa[i] (gJ hi);have f3:ps[i]=pi:=by rw[hx]at f1;exact Option.some.inj f1
    exact hK (ps.set i q) y2.2 _ (by simp[JeJ]) (hP.set je (hqs q.aM) hqc (by rw[hqr,f3];exact f2.bb.stl) (by rw[hqr,f3];exact f2.stl) (by rw[hqr,f3];exact λb hb=>⟨f2.stb b hb,f2.bb.stb b hb⟩)) p2
  ·refine aj.fj 12 (nu p1) ?_;have p2:eC (bool y1.2).2:=cq p1 2;generalize bool y1.2=y2 at*;simp;refine⟨λh2=> ?_,λh2=> ?_⟩
   ·refine oG.run [12] rfl ?_;simp[hx,je,Pu,hi];refine aK.rA hH1 ?_;simp[AQ];refine aK.rA hH2 ?_;simp;refine aj.fj 12 (aT p2 30 (by omega)) ?_;have m3:=cS y2.2 (n:=30) (by omega);have p3:=cq p2 30;generalize lg y2.2 30=y3 at*;obtain⟨pk,⟨Hg,Ag⟩,hP3⟩:=Gu (s:=iq 0 1) (d:=iq (UInt8.ofNat (i+1)) 1) (n:=y3.1) (by omega) 1;simp;refine aK.rA (hP3.eG (aL (λx=>by simp[u8]) _)) ?_;have es:PV.sl 1 [PV.sl 1 (pk.map u8) false] false=ey [pk]:=rfl;simp[hx,je,Pu,hi,es,xc];refine⟨[.keep [4,5,6,15,16]],?_⟩;simp;exact hK (ps.set i {ps[i]with aM:=[pk]}) y3.2 _ (by simp[JeJ]) (hP.set je ⟨_,_,_,_,rfl⟩ (by obtain⟨_,f⟩:=hP.n9 je;exact f.bb.co) (by show((1:Nat):Int)≤_;omega) (by simp) (by simp[Hg,Ag];omega)) p3
   ·simp[xc];refine⟨[.keep [4,5,6,15,16]],?_⟩;simp;exact hK ps y2.2 _ (by simp) hP p2
 ·intro ps cc hP hC K;have Pu:=hP.1;simp[F.aeH,F.aqX];refine aj.fj 12 (aT hC 5 (by omega)) ?_;have p1:=cq hC 5;have mb:=cS cc (n:=5) (by omega);generalize lg cc 5=y1 at*;simp;obtain⟨d1,G0⟩:∃d1:aR,d1= {d with bad:=(y1.1:Int),aa:=ps}:=⟨_,rfl⟩
  have hPB:∀i (h1:i<d.aa.length) (h2:i<ps.length),R2 d d.aa[i] ps[i]:=by
   intro i h1 h2;obtain⟨q,e1,e2⟩:=hP.2 i d.aa[i] (gJ h1);rw[gJ h2]at e1;cases e1;exact e2.bb
  have Ul:Gd d1:=by
   rw[G0];exact Pl.busy Pu hPB (b:=(y1.1:Int)) (by omega) (by omega) (rc:=d.aY) (bk:=d.buckets) Pl.ld
  have hg2:Gd {d1 with aY:=[IntKind.i64.wrap (d.now.tdiv 2),d.now],buckets:=[⟨zq,4000,d.now⟩]}:=by
   rw[G0];exact Pl.busy Pu hPB (b:=(y1.1:Int)) (by omega) (by omega) (XF Pl.n0 (KQ Pl.ld) agk)
  refine Px.of (λs'=>∃(l:WG) (d2:aR) (c2:ql),(eC c2∧Gd d2)∧(aB l∧wk (.st 148 l)=bN d2)∧(d2=d1∨∃r1 r2,d2= {d1 with aY:=r1,buckets:=r2}∧r1.length≤2∧r2.length≤1)∧s'=⟨[(4,.pt 4 [] 0),(5,.pt 5 [] 0),(6,.pt 12 [] 0)],[(4,.box zD),(5,.box (.st 148 l)),(12,.box (dV c2))]⟩) ?_ ?_
  ·simp;refine aj.fj 12 (nu p1) ?_;have p2:eC (bool y1.2).2:=cq p1 2;generalize bool y1.2=y2 at*;simp;refine⟨λh2=> ?_,λh2=> ?_⟩
   ·simp[zg,au];refine⟨[.keep [4,5,6],.fz 10],?_⟩;simp[aW,bA,ae,af,al,(aL bh ps).refs,(db _).refs,Pu];refine⟨_,{d1 with aY:=[IntKind.i64.wrap (d.now.tdiv 2),d.now],buckets:=[⟨zq,4000,d.now⟩]},y2.2,⟨p2,hg2⟩,⟨?_,?_⟩,.inr ⟨[IntKind.i64.wrap (d.now.tdiv 2),d.now],[⟨zq,4000,d.now⟩],rfl,by simp,by simp⟩,rfl,rfl⟩
    ·simp
    ·have Hc:List.take d.aa.length (List.map aH ps)=List.map aH ps:=tJ (by simp[Pu]);rw[Hc];have ea:PV.st 17 [.bl false,.ar 1 16 (zr 16 (.int .u8 0))]=cV zq:=by rw[dh];rfl
     simp;rw[ea,G0];rfl
   ·refine⟨[.keep [4,5,6],.fz 10],?_⟩;simp only[bq];simp[aW,bA,ae,af,al,(aL bh ps).refs,(db _).refs,Pu];refine⟨_,d1,y2.2,⟨p2,Ul⟩,⟨?_,?_⟩,.inl rfl,rfl,rfl⟩
    ·simp
    ·have Hc:List.take d.aa.length (List.map aH ps)=List.map aH ps:=tJ (by simp[Pu]);rw[Hc];simp;rw[G0];rfl
  ·rintro s' ⟨l,d2,c2,⟨p2,hg⟩,⟨hlP,U1⟩,JA,rfl⟩;have LN:d2.aa=ps:=by rcases JA with rfl|⟨r1,r2,rfl,_,_⟩<;>rw[G0]
   have od:d2.aX=d.aX:=by rcases JA with rfl|⟨r1,r2,rfl,_,_⟩<;>rw[G0]
   have DM:d2.aE=d.aE:=by rcases JA with rfl|⟨r1,r2,rfl,_,_⟩<;>rw[G0]
   have Eo:d2.timers=d.timers:=by rcases JA with rfl|⟨r1,r2,rfl,_,_⟩<;>rw[G0]
   have hu2:d2.rules=d.rules:=by rcases JA with rfl|⟨r1,r2,rfl,_,_⟩<;>rw[G0]
   have vM:d2.bad=(y1.1:Int):=by rcases JA with rfl|⟨r1,r2,rfl,_,_⟩<;>rw[G0]
   have JH:qD d2:=⟨hg,λp hp=>by
    rw[LN]at hp;obtain⟨p0,h0,hc⟩:=hP.mem hp;rw[hc.hand,(hV.vd.tO p0 h0).hand];rfl⟩
   have Ua:d2.aY.length≤2:=by
    rcases JA with rfl|⟨r1,r2,rfl,h1,_⟩
    ·rw[G0];show d.aY.length≤2;rw[hV.vd.rcn];simp
    ·exact h1
   have asK:d2.buckets.length≤1:=by
    rcases JA with rfl|⟨r1,r2,rfl,_,h2⟩
    ·rw[G0];show d.buckets.length≤1;rw[hV.vd.buc];simp
    ·exact h2
   have aJd:=hV.vd.XD.len hn3;have aJe:=hV.ti.len;have aJf:=hV.vd.Jv.1
   have uX:wR d2:=by
    refine⟨by rw[LN];omega,by rw[od];omega,by rw[DM];omega,by rw[Eo];omega,Ua,asK,λp hp=> ?_,hg⟩
    ·rw[LN]at hp;obtain⟨p0,_,hc⟩:=hP.mem hp;exact⟨by have:=hc.stl;omega,λb hb=>(hc.stb b hb).2⟩
   simp;refine aj.fj 12 (aT p2 4 (by omega)) ?_;have p3:=cq p2 4;generalize lg c2 4=y3 at*;by_cases e1:(y3.1:Int)=1
   ·simp[e1,hlP];refine oG.run [12] rfl ?_;simp[hlP];refine aj.tH 12 (aeG p3) ?_;rintro⟨bb,c4⟩ ⟨hbb,p4⟩;dsimp only at hbb p4;simp[hlP]
    have aCt:yd d2.aa:=by
     rw[LN];refine⟨by omega,λj hj=> ?_⟩;obtain⟨q,e1,e2⟩:=hP.2 j d.aa[j] (gJ (by omega));rw[gJ hj]at e1;cases e1;rw[e2.cK];exact Hg.2 j (by omega)
    have agl:RW d2.aa:=by
     rw[LN];intro p hp;obtain⟨p0,_,hc⟩:=hP.mem hp;exact⟨by have:=hc.stl;omega,hc.stb⟩
    have xb:=hV.vd.ru
    have hS:=aqU (d:=d2) uX.Ix aCt (by rw[od];exact hV.vd.Jv) (by rw[od,LN,hV.vd.KN];omega) (by rw[DM];omega) (by rw[DM];exact λs hs=>(hB s hs).2) (by rw[Eo];omega) agl (by
     obtain⟨_,_,_,_,_,_,_,_,_,_,_,_,_,_,_,u1,u2⟩:=xb;rw[hu2];omega) hbb (by rw[vM];omega) JH (x:=fc uy) (y:= .str []) (by simp) (by simp) (by simp) (by simp) (by simp) 0
    refine aj.aeI (R:=λr=>∃d' N,StW d2 d'∧aB N∧r= .tup [bN d',.sl 86 N false]) (hS.mono ?_) ?_ (by simp[hlP]) ?_ ?_
    ·rintro r fp ⟨rfl,h⟩;exact⟨h,rfl⟩
    ·simp;simpa using U1
    ·rintro r ⟨d',N,_,hN,rfl⟩;simp[hN]
    rintro r ⟨d',N,hW,hN,rfl⟩;simp;have aJg:=uX.aE
    have aCu:wR d':=by
     have AQ:=hW.timers;have xc:=hW.aE;rw[Eo]at AQ;rw[DM]at xc;refine⟨by rw[hW.tO.1,LN];omega,by rw[hW.aX,od];omega,by omega,by omega,by rw[hW.aY];exact Ua,by rw[hW.buckets];exact asK,λp hp=> ?_,hW.gz JH⟩;obtain⟨p0,_,hc⟩:=hW.tO.mem hp;exact⟨hc.stl,hc.stb⟩
    refine bj.plain [.keep [4],.dr 5,.dr 12] ?_;simp[aW,bA,ae,af,al,(ER d').refs,(db _).refs];exact⟨_,d',aCu,by simpa[bN,bq]using ER d',rfl,rfl⟩
   ·simp[e1,hlP];refine bj.plain [.keep [4],.dr 5,.dr 12] ?_;simp[aW,bA,ae,af,al,hlP,hlP.refs,(db _).refs];exact⟨l,d2,uX,hlP,rfl,U1⟩
def ab.wkR {P:Program} {f:FuncId} {args:WG} {fp:WD} {R:PV->WD->Prop} (h:ab P f args fp R):ab P f args fp (λr mW=>∃r0,R r0 mW∧r=wk r0):=by
 intro Γ w vs h1 h2 h3 h4;refine(h Γ w vs h1 h2 h3 h4).mono ?_;rintro e w' ⟨v,r,mW,Γ',e1,e2,e3,e4,e5,e6,e7,e8⟩;exact⟨v,wk r,mW,Γ',e1,⟨r,e2,rfl⟩,e3,e4,e5,e6.wk,e7,e8⟩
def aqY {a b:Zz} (ha:(a.length:Int)≤9223372036854775807) (hb:(b.length:Int)≤9223372036854775807):ab Pg 4 [cy a,cy b] [] (λr fp=>(∃d,wR d∧r=bN d)∧fp=[]):=by
 refine(aqW ha hb).wkR.mono ?_;rintro r fp ⟨r0,⟨rfl,l,d,h1,h2,rfl,h4⟩,rfl⟩;exact⟨⟨d,h1,h4⟩,rfl⟩
def R3 {v:Int} (h:1≤v∧v≤3):okV v=0:=if_pos h
def R4 {d:aR} {v:Int} (h:1≤v∧v≤3):loV d v=gN d (3-v).toNat:=by
 rcases(by omega:v=3∨v=2∨v=1)with rfl|rfl|rfl<;>rfl
def IB (d:aR) (m:Nat):(gN d m).aa.length=d.aa.length:=MM d.aa m
def Gd.low {d:aR} (h:Gd d) {m:Nat} (hm:m≤2):Gd (gN d m):=by
 rcases(by omega:m=0∨m=1∨m=2)with rfl|rfl|rfl
 ·exact h
 ·exact h.hU
 ·exact h.XG
theorem IC {a b:Zz} (ha:(a.length:Int)≤9223372036854775807) (hb:(b.length:Int)≤9223372036854775807) {ar br:Int} (har:0≤ar∧ar≤255) (hbr:0≤br∧br≤255):
  aP Pg 3 [cy a,cy b,.int .u8 ar,.int .u8 br] (.bl true):=by
 refine ab.intro (aA R.iX.2) (by simp[R.iX]) ?_;simp[R.iX,ah,az];refine aj.aeI (R:=λr=>∃d,wR d∧r=bN d) (aqY ha hb) (by simp) (by simp) (by rintro r ⟨d',_,rfl⟩;simp) ?_;rintro r ⟨d,hd,rfl⟩;have w1:IntKind.i64.wrap ar=ar:=wrap_i64 (by omega);have w2:ar.tmod 3=ar%3:=JiJ har.1;have u1:IntKind.i64.wrap br=br:=wrap_i64 (by omega);have u2:br.tmod 3=br%3:=JiJ hbr.1;obtain⟨v,hv,hv3⟩:∃v,1+ar%3=v∧1≤v∧v≤3:=⟨_,rfl,by omega,by omega⟩
 obtain⟨u,hu,hu3⟩:∃u,1+br%3=u∧1≤u∧u≤3:=⟨_,rfl,by omega,by omega⟩
 have w4:IntKind.i64.wrap v=v:=wrap_i64 (by omega);have u4:IntKind.i64.wrap u=u:=wrap_i64 (by omega);simp[w1,w2,hv,w4,u1,u2,hu,u4];have hs:=hd.Ix;have hg:=hd.gd;have hp:=hd.aa;obtain⟨m,hm,hm2⟩:∃m,(3-v).toNat=m∧m≤2:=⟨_,rfl,by omega⟩
 obtain⟨n,hn,PE⟩:∃n,(3-u).toNat=n∧n≤2:=⟨_,rfl,by omega⟩
 have hk:(3-min v u).toNat=max m n:=by omega
 have hX:=KR hs (by omega) hg.pu v;have hZ:=KR hs (by omega) hg.pu (min v u);have hR:=KR hs (by omega) hg.pu 1;have hP:=R5 hs (by omega) hg.pu (v:=3) (by omega);have gX:=hg.low hm2;have sX:=yg hs (by omega) m;have gR:=hg.low (m:=2) (by omega);have sR:=yg hs (by omega) 2;have hY:=KR sX (by rw[IB];omega) gX.pu u;have hQ:=R5 (d:=gN d 1) (yg hs (by omega) 1) (by rw[IB];omega) (hg.low (m:=1) (by omega)).pu (v:=2) (by omega);rw[R3 hv3,R4 hv3,hm]at hX;rw[R3 (by omega),R4 (by omega),hk]at hZ;rw[R3 hu3,R4 hu3,hn,XG hg.pu hm2 PE]at hY;have sZ:=yg hs (by omega) (max m n);have eR:loV d 1=gN d 2:=rfl;have oR:okV 1=0:=rfl;have eP:doV d 3=gN d 1:=rfl;have oP:odV 3=0:=rfl
 have eQ:doV (gN d 1) 2=gN d 2:=by
  show gN (gN d 1) 2=_;rw[XG hg.pu (by omega) (by omega)];rfl
 have oQ:odV 2=0:=rfl;rw[eR,oR]at hR;rw[eP,oP]at hP;rw[eQ,oQ]at hQ;have vD:=Gw hg hs;have vX:=Gw gX sX;have vR:=Gw gR sR;have mZ:=ei sZ;have mR:=ei sR;clear eR oR eP oP eQ oQ;generalize gN d (max m n)=Z at*;generalize gN d 2=R at*;generalize gN d m=X at*;generalize gN d 1=P at*;refine aj.rA hX ?_;simp;refine aj.rA hY ?_;simp;refine aj.rA hZ ?_;simp;refine aj.rA hP ?_;simp;refine aj.rA hQ ?_;simp;refine aj.rA hR ?_;simp;refine aj.rA mZ ?_;simp;refine aj.rA mR ?_;simp;refine aj.rA vD ?_;simp;refine aj.rA vX ?_;simp;refine aj.rA vR ?_;simp;refine aj.rA XH ?_;simp;refine bH ?_;simp
end Go.Ab
