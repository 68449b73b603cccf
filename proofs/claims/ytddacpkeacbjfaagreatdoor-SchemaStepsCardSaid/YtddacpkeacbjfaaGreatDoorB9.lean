/- Walks of functions, part 9. No condition. -/
import Derived.Test.YtddacpkeacbjfaaGreatDoorB8
import Derived.Test.YtddacpkeacbjfaaGreatDoorB10
set_option maxRecDepth 10000
set_option maxHeartbeats 4000000
set_option linter.all false
noncomputable section
namespace Go.Ab
def TL {d:aR} {p:bE} (h:p.hand=kJ):tI d p=true:=by
 unfold tI;rw[h,if_neg (by decide)];simp
def KQ {d:aR} (h:Ab.r9 d=true):jV d.iM 0 d.now=true:=by
 simp only[Ab.r9,aJ]at h;exact h.1.1.1.1.1
def Lw {d:aR} (h:jV d.iM 0 d.now=true) (h1:d.aY=[]) (h2:d.buckets=[]):Ab.r9 d=true:=by
 simp only[Ab.r9,h,h1,h2,afc,IW];rfl
def TM (l:Xo):(l.map iB).flatMap uP=l.flatMap uP:=by
 rw[List.flatMap_map];rfl
def Gd.hU {d:aR} (h:Gd d):Gd (gN d 1):=by
 have Be:0≤d.rules.fU:=by have:=h.ru.2.2.2.2.2.2.2.2.2.2.2.2.2.2.2.1;omega
 refine⟨h.ru,h.n0,h.n1,h.p0,h.p1,by show(0:Int)≤0;omega,by show(0:Int)≤1000;omega,?_,?_,?_,?_,h.Jv,?_,h.so,h.s0,?_,h.tso,?_,h.tun,?_,?_⟩
 ·refine⟨by show(d.aa.map iB).length≤3;rw[JeW];exact h.qV.1,λi hi=> ?_⟩;have je:i<d.aa.length:=by rw[←JeW (f:=iB)];exact hi
  show((d.aa.map iB)[i]'(by rw[JeW];exact je)).cK=lK i;rw[JnJ];exact h.qV.2 i je
 ·intro q hq;obtain⟨p,hp,rfl⟩:=JcV.1 (show q∈d.aa.map iB from hq);have g:=h.Gq p hp;simp only[gZ,aJ]at g⊢;obtain⟨⟨⟨⟨⟨g1,g2⟩,g3⟩,g4⟩,_⟩,_⟩:=g;exact⟨⟨⟨⟨⟨g1,g2⟩,g3⟩,g4⟩,by show decide ((0:Int)≤d.rules.fU)=true;exact decide_eq_true Be⟩,rfl⟩
 ·intro q hq;obtain⟨p,hp,rfl⟩:=JcV.1 (show q∈d.aa.map iB from hq);exact h.u9 p hp
 ·intro q hq;obtain⟨p,hp,rfl⟩:=JcV.1 (show q∈d.aa.map iB from hq);obtain⟨g1,g2,g3⟩:=h.MD p hp;exact⟨cB.of (d:=d) (e:=gN d 1) rfl rfl g1,cB.of (d:=d) (e:=gN d 1) rfl rfl g2,cB.of (d:=d) (e:=gN d 1) rfl rfl g3⟩
 ·show d.aX.length=(d.aa.map iB).length;rw[JeW];exact h.KN
 ·show d.aE.Perm (gl (d.aa.map iB) (d.aa.map iB).length);rw[qc,TM,←qc];exact h.pm
 ·intro t ht;obtain⟨r1,r2,r3,r4,i,hi,r5,r6⟩:=h.trg t ht;have je:i<(d.aa.map iB).length:=by rw[JeW];exact hi
  refine⟨r1,r2,r3,r4,i,je,r5,λe=> ?_⟩;show((d.aa.map iB)[i]'je).ik≠0;rw[JnJ];exact r6 e
 ·intro q hq;obtain⟨p,hp,rfl⟩:=JcV.1 (show q∈d.aa.map iB from hq);exact h.ME p hp
 ·exact Lw (KQ (d:=d) h.ld) rfl rfl
def YJ:yz=nW ⟨false,0,0,0,0,0⟩:=by unfold yz;congr 1;rw[dh];rfl
def YK:qI yz=yz:=by
 rw[YJ,nM ⟨by show(0:Int)≤0;omega,by show(0:Int)≤_;omega⟩];rfl
def AI.qI {v:FV uo} (h:AI v):AI (Ab.qI v):=by
 rcases h with rfl|⟨w,hu,ht,rfl⟩
 ·rw[YK];exact .inl rfl
 ·rw[nM ⟨ht.1,by omega⟩];exact .inr ⟨mH w,by unfold mH;rw[if_pos hu],by rw[Ae];exact ht,rfl⟩
def cB.full {d:aR} {x:nU} (h:cB d x):cB d (ez x):=by
 rcases h with⟨h1,h⟩|⟨h1,rfl⟩
 ·have e:ez x=⟨true,yp x.eM⟩:=by unfold ez;rw[if_pos h1]
  rw[e];exact .inl ⟨rfl,{h with wi:=h.wi.qI}⟩
 ·have e:ez oL=oL:=by unfold ez;rw[if_neg (by rw[h1];simp)]
  rw[e];exact .inr ⟨h1,rfl⟩
def Ph (p:nU):(ez p).eM.loc=p.eM.loc:=by unfold ez;split<;>rfl
theorem Jb:∀l:List nU,uB (l.map ez)=uB l
 |[]=>rfl
 |p::l=>by rw[JcQ,De,De,Jb l,Af,Ph]
def YL (p:bE):(uP p).filter (λs=>s.eM)=uP (Ab.hU p):=by
 have e:uO (Ab.hU p)=uO p:=by
  show uB [(iV p.ring 3).p,(iV p.ring 3).c,(iV p.ring 3).n]=uB [p.ring.p,p.ring.c,p.ring.n];rw[Fg];exact Jb [p.ring.p,p.ring.c,p.ring.n]
 have eh:I3 (Ab.hU p)=[]:=by unfold I3;rw[if_neg];show¬kJ.has=true;decide
 unfold uP;rw[e,eh,JhJ];have h1:(I3 p).filter (λs=>s.eM)=[]:=by unfold I3;split<;>simp
 have h2:((uO p).map λx=>(⟨x,p.cK,true⟩:cG)).filter (λs=>s.eM)=(uO p).map λx=>⟨x,p.cK,true⟩:=by
  rw[JdQ];intro s hs;obtain⟨x,_,rfl⟩:=JcV.1 hs;rfl
 rw[h1,h2];rfl
def afw (l:Xo):(l.flatMap uP).filter (λs=>s.eM)=(l.map Ab.hU).flatMap uP:=by
 rw[List.flatMap_map,List.filter_flatMap];congr 1;funext p;exact YL p
def TN {d:aR} {x:nU} (h:cB d x) {a:Bool×Int} (ha:0≤a.2∧a.2≤d.now):0≤(GS x a).2∧(GS x a).2≤d.now:=by
 unfold GS;split
 ·rename_i hh;split
  ·rcases h with⟨_,h⟩|⟨e,_⟩
   ·exact⟨h.b0,h.b1⟩
   ·rw[hh]at e;cases e
  ·exact ha
 ·exact ha
def arN {d:aR} {p:bE} (h:cB d p.ring.p∧cB d p.ring.c∧cB d p.ring.n) (hn:0≤d.now):0≤(AM p.ring 3).2∧(AM p.ring 3).2≤d.now:=
 TN h.2.2 (TN h.2.1 (TN h.1 ⟨by show(0:Int)≤0;omega,hn⟩))
def afx {d:aR} (hl:d.aa.length≤3) (ru:qE d.rules) (n0:0≤d.now) (n1:d.now≤16777216) {l:Wu} {m:Nat} (hT:js d l m) {p:bE} (hc:cB d p.ring.p∧cB d p.ring.c∧cB d p.ring.n) {i:Nat} (hi:i<d.aa.length) (hp:p.cK=lK i) (hk:p.ik=0∨1000≤p.ik∧p.ik≤1073741824) (he:p.ik≠0->d.aa[i].ik≠0):js d (yA d l p) (m+2):=by
 obtain⟨q1,q2,q3,q4,q5,q6,q7,q8,q9,q10,q11,_⟩:=ru;obtain⟨b0,b1⟩:=arN hc n0;have w1:IntKind.i64.wrap (3*d.rules.iP)=3*d.rules.iP:=wrap_i64 (by omega);have w2:IntKind.i64.wrap ((AM p.ring 3).2+3*d.rules.iP)=(AM p.ring 3).2+3*d.rules.iP:=wrap_i64 (by omega);have w3:IntKind.i64.wrap (d.now+1)=d.now+1:=wrap_i64 (by omega)
 have h1:js d (if(AM p.ring 3).1=true then im l ⟨max (IntKind.i64.wrap ((AM p.ring 3).2+IntKind.i64.wrap (3*d.rules.iP))) (IntKind.i64.wrap (d.now+1)),p.cK,5⟩else l) (m+1):=by
  split
  ·rw[w1,w2,w3];exact hT.set hl (by show(2:Int)≤5;omega) (by show(5:Int)≤5;omega) (by show d.now<max _ _;omega) (by show max _ _≤(4398046511104:Int);omega) hi hp (λe=>absurd e (by show¬(5:Int)=4;omega))
  ·exact⟨hT.so,hT.rg,hT.un,JgJ hT.len (by omega)⟩
 unfold yA;simp only;by_cases mX:p.ik=0
 ·rw[if_neg (by simp[mX])];exact⟨h1.so,h1.rg,h1.un,JgJ h1.len (by omega)⟩
 ·rw[if_pos mX];have hk:=hk.resolve_left mX;have w4:IntKind.i64.wrap (d.now+p.ik)=d.now+p.ik:=wrap_i64 (by omega);rw[w4];exact h1.set hl (by show(2:Int)≤4;omega) (by show(4:Int)≤5;omega) (by show d.now<d.now+p.ik;omega) (by show d.now+p.ik≤4398046511104;omega) hi hp (λ_=>he mX)
def Lx {n:Int} (h:Dn n=true):n=0∨1000≤n∧n≤1073741824:=by simpa[Dn,jV]using h
theorem TO {d:aR} (hl:d.aa.length≤3) (ru:qE d.rules) (n0:0≤d.now) (n1:d.now≤16777216):∀(ps:Xo) (l:Wu) (m:Nat),js d l m->
  (∀p∈ps,(cB d p.ring.p∧cB d p.ring.c∧cB d p.ring.n)∧Dn p.ik=true∧∃i,∃hi:i<d.aa.length,p.cK=lK i∧(p.ik≠0->d.aa[i].ik≠0))->js d (ps.foldl (yA d) l) (m+2*ps.length)
 |[],_,_,h,_=>h
 |
  p::ps,l,m,h,hp=>by
  obtain⟨h1,h2,i,hi,h3,h4⟩:=hp p JkV
  have:=TO hl ru n0 n1 ps (yA d l p) (m+2) (afx hl ru n0 n1 h h1 hi h3 (Lx h2) h4) (λq hq=>hp q (List.mem_cons_of_mem _ hq))
  rw[List.foldl_cons,JbZ]
  exact⟨this.so,this.rg,this.un,JgJ this.len (by omega)⟩
def Gd.XG {d:aR} (h:Gd d):Gd (gN d 2):=by
 obtain⟨e,he⟩:∃e,e=gN d 1:=⟨_,rfl⟩
 have g:Gd e:=by rw[he];exact h.hU
 have e2:gN d 2= {e with aa:=e.aa.map Ab.hU,aE:=e.aE.filter (λs=>s.eM),timers:=e.aa.foldl (yA e) []}:=by rw[he];rfl
 have er:e.aY=[]:=by rw[he];rfl
 have eb:e.buckets=[]:=by rw[he];rfl
 rw[e2];clear e2 he h;have mV:(e.aa.map Ab.hU).length=e.aa.length:=JeW _;obtain⟨D,hD⟩:∃D:aR,D= {e with aa:=e.aa.map Ab.hU,aE:=e.aE.filter (λs=>s.eM),timers:=e.aa.foldl (yA e) []}:=⟨_,rfl⟩
 have LO:D.aa=e.aa.map Ab.hU:=by rw[hD]
 have hDt:D.timers=e.aa.foldl (yA D) []:=by rw[hD];rfl
 have Pv:D.rules=e.rules:=by rw[hD]
 have G5:D.now=e.now:=by rw[hD]
 have hT:js D D.timers (0+2*e.aa.length):=by
  rw[hDt];refine TO (by rw[LO,mV];exact g.qV.1) (by rw[Pv];exact g.ru) (by rw[G5];exact g.n0) (by rw[G5];exact g.n1) e.aa [] 0 ⟨.nil,by simp,.nil,by simp⟩ λp hp=> ?_;obtain⟨c1,c2,c3⟩:=g.MD p hp;have hf:=g.Gq p hp;simp only[gZ,aJ]at hf;refine⟨⟨c1.of G5 Pv,c2.of G5 Pv,c3.of G5 Pv⟩,hf.1.1.1.1.2,?_⟩;obtain⟨i,hi,rfl⟩:=JiX.1 hp;have jv:i<D.aa.length:=by rw[LO,mV];exact hi
  refine⟨i,jv,g.qV.2 i hi,λhk=> ?_⟩;have:D.aa[i]=Ab.hU e.aa[i]:=by simp only[LO,JnJ]
  rw[this];exact hk
 rw[←hD];refine⟨by rw[Pv];exact g.ru,by rw[G5];exact g.n0,by rw[G5];exact g.n1,by rw[hD];exact g.p0,by rw[hD];exact g.p1,by rw[hD];exact g.b0,by rw[hD];exact g.b1,?_,?_,?_,?_,by rw[hD];exact g.Jv,by rw[LO,mV,hD];exact g.KN,?_,?_,?_,hT.so,?_,hT.un,?_,?_⟩
 ·rw[LO];refine⟨by rw[mV];exact g.qV.1,λi hi=> ?_⟩;rw[JnJ];exact g.qV.2 i (by rw[←mV];exact hi)
 ·intro q hq;rw[LO]at hq;obtain⟨p,hp,rfl⟩:=JcV.1 hq;have f:=g.Gq p hp;have n0:=g.n0;simp only[gZ,aJ]at f⊢;obtain⟨⟨⟨⟨⟨g1,g2⟩,g3⟩,g4⟩,g5⟩,g6⟩:=f;refine⟨⟨⟨⟨⟨g1,g2⟩,by show(jV p.pW 0 D.now&&(p.oz||decide (p.pW=0)))=true;rw[G5];exact g3⟩,?_⟩,by rw[Pv];exact g5⟩,g6⟩;have hz:PV.beq v8.p v8.p=true:=(cY _ _ v8.ok).beq;simp[zp,Ab.hU,jV,hz,G5,n0]
 ·intro q hq;rw[LO]at hq;obtain⟨p,hp,rfl⟩:=JcV.1 hq;exact TL rfl
 ·intro q hq;rw[LO]at hq;obtain⟨p,hp,rfl⟩:=JcV.1 hq;obtain⟨c1,c2,c3⟩:=g.MD p hp;have e3:(Ab.hU p).ring=⟨ez p.ring.p,ez p.ring.c,ez p.ring.n⟩:=Fg p.ring;rw[e3];exact⟨(c1.of G5 Pv).full,(c2.of G5 Pv).full,(c3.of G5 Pv).full⟩
 ·have:D.aE=e.aE.filter (λs=>s.eM):=by rw[hD]
  rw[this];exact g.so.filter _
 ·have:D.aE=e.aE.filter (λs=>s.eM):=by rw[hD]
  rw[this];exact λs hs=>g.s0 s (JgQ.1 hs).1
 ·have:D.aE=e.aE.filter (λs=>s.eM):=by rw[hD]
  rw[this,qc,LO,←afw,←qc];exact g.pm.filter _
 ·intro t ht;obtain⟨r1,r2,r3,r4,r5⟩:=hT.rg t ht;exact⟨by omega,r2,r3,r4,r5⟩
 ·intro q hq;rw[LO]at hq;obtain⟨p,hp,rfl⟩:=JcV.1 hq;show hasB D.timers _ 1=kJ.has;show hasB D.timers _ 1=false;simp only[hasB,List.any_eq_false];intro t ht hh;simp only[Ti,aJ,decide_eq_true_eq]at hh;have:=(hT.rg t ht).1;omega
 ·refine Lw ?_ (by rw[hD];exact er) (by rw[hD];exact eb);have:=KQ g.ld;rw[hD];exact this
def YM {i:Nat} (h:i<3):epB (vI i)=true:=by
 rcases(by omega:i=0∨i=1∨i=2)with rfl|rfl|rfl<;>decide
def lN.Gq {d:aR} (hn:0≤d.now) (hs:0≤d.rules.fU) {p:bE} (h:lN d p):gZ d p=true:=by
 have hz:PV.beq v8.p v8.p=true:=(cY _ _ v8.ok).beq;simp only[gZ,aJ];refine⟨⟨⟨⟨⟨?_,?_⟩,?_⟩,?_⟩,?_⟩,?_⟩
 ·unfold GK;rcases h.ep with⟨e,i,hi,e2⟩|⟨e,e2⟩
  ·rw[if_pos e,e2];exact YM hi
  ·rw[if_neg (by rw[e];simp),e2];simp
 ·rcases h.ik with e|⟨e1,e2⟩
  ·simp[Dn,e]
  ·simp[Dn,jV,e1,e2]
 ·simp[Ld,jV,h.pW,hn]
 ·simp[zp,jV,h.kV,h.Jq,h.kU,hz,hn]
 ·simp[h.aM,hs]
 ·rw[h.aM];rfl
def arO {p:bE} (h:p.hand=kJ):uP p=pZ p:=by
 unfold uP I3;rw[h,if_neg (by decide)];rfl
def qF.pw {l:WO} (h:qF l):l.Pairwise (λa b=>a.index<b.index):=
 JfV.2 λ_ _ _ hj Nh=>h.lt' Nh hj
def VM.gd {d:aR} {m:Nat} (h:VM d m) (hB:Bd d):Gd d:=by
 have v:=h.vd;have Be:0≤d.rules.fU:=by have:=v.ru.2.2.2.2.2.2.2.2.2.2.2.2.2.2.2.1;omega
 have rv:d.aa.flatMap uP=d.aa.flatMap pZ:=by
  have:∀l:Xo,(∀p∈l,p.hand=kJ)->l.flatMap uP=l.flatMap pZ:=by
   intro l;induction l with
   |nil=>intro _;rfl
   |cons p l ih=>intro hl;rw[JeX,JeX,arO (hl p JkV),ih λq hq=>hl q (List.mem_cons_of_mem _ hq)]
  exact this _ λp hp=>(v.tO p hp).hand
 refine⟨v.ru,v.n0,v.n1,v.p0,v.p1,by rw[v.bad];omega,by rw[v.bad];omega,v.qV,λp hp=>(v.tO p hp).Gq v.n0 Be,λp hp=>TL (v.tO p hp).hand,λp hp=>⟨(v.tO p hp).rp,(v.tO p hp).rc,(v.tO p hp).rn⟩,v.Jv,v.KN,v.XD.so.pw,λs hs=>⟨by have:=(zx.1 v.XD.so).1 s hs;have:=(hB s hs).1;omega,by have:=(hB s hs).2;omega⟩,by rw[qc,rv];exact v.XD.pm,h.ti.so,?_,h.ti.un,?_,?_⟩
 ·intro t ht;obtain⟨r1,r2,r3,r4,r5⟩:=h.ti.rg t ht;exact⟨by omega,r2,r3,r4,r5⟩
 ·intro p hp;rw[(v.tO p hp).hand];show hasB d.timers p.cK 1=false;simp only[hasB,List.any_eq_false];intro t ht hh;simp only[Ti,aJ,decide_eq_true_eq]at hh;have:=(h.ti.rg t ht).1;omega
 ·exact Lw (by simp[jV,v.s0,v.s1]) v.rcn v.buc
structure R2 (d:aR) (p q:bE):Prop where
 eq:q= {p with jj:=q.jj,kU:=q.kU,kV:=q.kV,aM:=q.aM}
 co:zp d q=true
 stl:(q.aM.length:Int)≤d.rules.fU
 stb:∀b∈q.aM,vH b
def Gd.busy {d:aR} (h:Gd d) {ps:Xo} (hl:ps.length=d.aa.length) (hp:∀i (h1:i<d.aa.length) (h2:i<ps.length),R2 d d.aa[i] ps[i]) {b:Int} (b0:0≤b) (b1:b≤1000) {rc:WQ} {bk:List vW} (hld:Ab.r9 {d with aY:=rc,buckets:=bk}=true):
  Gd {d with aa:=ps,bad:=b,aY:=rc,buckets:=bk}:=by
 have fQ:∀q∈ps,∃p∈d.aa,R2 d p q:=by
  intro q hq;obtain⟨i,hi,rfl⟩:=JiX.1 hq;exact⟨d.aa[i],JaJ _,hp i (by omega) hi⟩
 have hsg:ps.flatMap uP=d.aa.flatMap uP:=by
  have:∀(l m:Xo),m.length=l.length->(∀i (h1:i<l.length) (h2:i<m.length),R2 d l[i] m[i])->m.flatMap uP=l.flatMap uP:=by
   intro l;induction l with
   |
    nil=>intro m hm _;cases m with
    |nil=>rfl
    |cons=>simp at hm
   |
    cons p l ih=>
    intro m hm hq
    cases m with
    |nil=>simp at hm
    |
     cons q m=>
     have e:=(hq 0 (by simp) (by simp)).eq
     have e:q= {p with jj:=q.jj,kU:=q.kU,kV:=q.kV,aM:=q.aM}:=e
     rw[JeX,JeX,ih m (by simpa using hm) (λi h1 h2=>hq (i+1) (by simpa using h1) (by simpa using h2))]
     rw[e];rfl
  exact this _ _ hl hp
 refine⟨h.ru,h.n0,h.n1,h.p0,h.p1,b0,b1,?_,?_,?_,?_,h.Jv,h.KN.trans hl.symm,h.so,h.s0,?_,h.tso,?_,h.tun,?_,hld⟩
 ·refine⟨by show ps.length≤3;rw[hl];exact h.qV.1,λi hi=> ?_⟩;have hi:i<ps.length:=hi;have je:i<d.aa.length:=by omega
  show ps[i].cK=lK i;rw[(hp i je hi).eq];exact h.qV.2 i je
 ·intro q hq;obtain⟨p,rv,hb⟩:=fQ q hq;have f:=h.Gq p rv;simp only[gZ,aJ]at f⊢;obtain⟨⟨⟨⟨⟨g1,g2⟩,g3⟩,_⟩,_⟩,_⟩:=f;refine⟨⟨⟨⟨⟨?_,?_⟩,?_⟩,hb.co⟩,decide_eq_true hb.stl⟩,JbJ.2 λb hbm=>zn.2 (hb.stb b hbm)⟩
  ·rw[hb.eq];exact g1
  ·rw[hb.eq];exact g2
  ·rw[hb.eq];exact g3
 ·intro q hq;obtain⟨p,rv,hb⟩:=fQ q hq;rw[hb.eq];exact h.u9 p rv
 ·intro q hq;obtain⟨p,rv,hb⟩:=fQ q hq;obtain⟨c1,c2,c3⟩:=h.MD p rv;rw[hb.eq];have oc:∀x,cB d x->cB {d with aa:=ps,bad:=b,aY:=rc,buckets:=bk} x:=λx hx=>cB.of (d:=d) (e:= {d with aa:=ps,bad:=b,aY:=rc,buckets:=bk}) rfl rfl hx;exact⟨oc _ c1,oc _ c2,oc _ c3⟩
 ·show d.aE.Perm (gl ps ps.length);rw[qc,hsg,←qc];exact h.pm
 ·intro t ht;obtain⟨r1,r2,r3,r4,i,hi,r5,r6⟩:=h.trg t ht;have jv:i<ps.length:=by omega
  refine⟨r1,r2,r3,r4,i,jv,r5,λe=> ?_⟩;show ps[i].ik≠0;rw[(hp i hi jv).eq];exact r6 e
 ·intro q hq;obtain⟨p,rv,hb⟩:=fQ q hq;rw[hb.eq];exact h.ME p rv
structure YN (d:aR) (l:Wu):Prop where
 so:l.Pairwise (λa b=>ej a b=true)
 rg:∀t∈l,1≤t.kind∧t.kind≤5∧d.now<t.at_∧t.at_≤4398046511104∧∃i,∃h:i<d.aa.length,t.peer=lK i∧(t.kind=4->d.aa[i].ik≠0)
 un:l.Pairwise (λa b=>¬(b.peer=a.peer∧b.kind=a.kind))
def Gd.tm {d:aR} (h:Gd d):YN d d.timers:=⟨h.tso,h.trg,h.tun⟩
def YN.can {d:aR} {l:Wu} (h:YN d l) (k:Key) (n:Int):YN d (bI l k n):=
 ⟨h.so.filter _,λt ht=>h.rg t (qG ht).1,h.un.filter _⟩
def YN.set {d:aR} {l:Wu} (h:YN d l) (hp:d.aa.length≤3) {t:cZ} (k1:1≤t.kind) (k2:t.kind≤5) (a1:d.now<t.at_) (a2:t.at_≤4398046511104) {i:Nat} (hi:i<d.aa.length) (ht:t.peer=lK i) (h4:t.kind=4->d.aa[i].ik≠0):YN d (im l t):=by
 have ago:∀x∈l,Tok x:=λx hx=>by obtain⟨_,_,_,_,j,hj,e,_⟩:=h.rg x hx;exact⟨j,by omega,e⟩
 rw[BE];have hc:∀x∈bI l t.peer t.kind,x∈l∧¬(x.peer=t.peer∧x.kind=t.kind):=λx hx=>qG hx;have Fu:=nF t (bI l t.peer t.kind);refine⟨zB ⟨i,by omega,ht⟩ (λx hx=>ago x (hc x hx).1) (λx hx=>(hc x hx).2) (h.so.filter _),λx hx=> ?_,?_⟩
 ·rcases cJ.1 (Fu.mem_iff.1 hx)with rfl|hx
  ·exact⟨k1,k2,a1,a2,i,hi,ht,h4⟩
  ·exact h.rg x (hc x hx).1
 ·have agp:∀ {a b:cZ},¬(b.peer=a.peer∧b.kind=a.kind)->¬(a.peer=b.peer∧a.kind=b.kind):=λhn e=>hn ⟨e.1.symm,e.2.symm⟩;exact(Fu.pairwise_iff agp).2 (JfJ.2 ⟨λx hx=>(hc x hx).2,h.un.filter _⟩)
def sq {l:Wu} {k:Key} {n:Int}:hasB l k n=true↔∃x∈l,x.peer=k∧x.kind=n:=by
 simp[hasB,Ti]
def Jc (l:Wu) (k k':Key) (n n':Int) (h:¬(k=k'∧n=n')):hasB (bI l k' n') k n=hasB l k n:=by
 rw[Bool.eq_iff_iff,sq,sq];constructor
 ·rintro⟨x,hx,e⟩;exact⟨x,(qG hx).1,e⟩
 ·rintro⟨x,hx,e1,e2⟩;refine⟨x,JgQ.2 ⟨hx,?_⟩,e1,e2⟩;simp only[tc,JfW,Bool.and_eq_false_iff,decide_eq_false_iff_not];exact Decidable.not_and_iff_or_not.1 (by rw[e1,e2];exact h)
def Jd (l:Wu) (t:cZ) (k:Key) (n:Int) (h:¬(k=t.peer∧n=t.kind)):hasB (im l t) k n=hasB l k n:=by
 rw[←Jc l k t.peer n t.kind h,Bool.eq_iff_iff,sq,sq,BE];constructor
 ·rintro⟨x,hx,e1,e2⟩;rcases cJ.1 ((nF t _).mem_iff.1 hx)with rfl|hx
  ·exact absurd ⟨e1.symm,e2.symm⟩ h
  ·exact⟨x,hx,e1,e2⟩
 ·rintro⟨x,hx,e⟩;exact⟨x,(nF t _).mem_iff.2 (List.mem_cons_of_mem _ hx),e⟩
def TP (l:Wu) (t:cZ):hasB (im l t) t.peer t.kind=true:=by
 rw[sq,BE];exact⟨t,(nF t _).mem_iff.2 JkV,rfl,rfl⟩
def afy {l:Wu} {k:Key} {n:Int} (h:hasB l k n=false):bI l k n=l:=by
 refine JdQ.2 λx hx=> ?_
 have:¬(x.peer=k∧x.kind=n):=λe=>by
  have:=sq.2 ⟨x,hx,e⟩;rw[h]at this;cases this
 simp only[tc,JfW,Bool.and_eq_false_iff,decide_eq_false_iff_not];exact Decidable.not_and_iff_or_not.1 this
theorem GU {f:bE->WO} {q:bE}:∀ {l:Xo} {i:Nat} (hi:i<l.length),f q=f l[i]->(l.set i q).flatMap f=l.flatMap f
 |_::_,0,_,h=>by rw[JjW,JeX,JeX,h];rfl
 |a::l,i+1,hi,h=>by rw[List.set_cons_succ,JeX,JeX,GU (l:=l) (i:=i) (by simpa using hi) h]
theorem Fh {f:bE->WO} {q:bE} {x:cG}:∀ {l:Xo} {i:Nat} (hi:i<l.length),f q=x::f l[i]->((l.set i q).flatMap f).Perm (x::l.flatMap f)
 |
  a::l,0,_,h=>by
  rw[JjW,JeX,JeX,h]
  exact .refl _
 |
  a::l,i+1,hi,h=>by
  rw[List.set_cons_succ,JeX,JeX]
  have:=Fh (l:=l) (i:=i) (by simpa using hi) h
  exact(this.append_left (f a)).trans List.perm_middle
def Gd.chg {d:aR} (h:Gd d) {i:Nat} (hi:i<d.aa.length) {q:bE} (e1:q.cK=d.aa[i].cK) (e2:q.ik=d.aa[i].ik) (f:gZ d q=true) (hh:tI d q=true) (c:cB d q.ring.p∧cB d q.ring.c∧cB d q.ring.n)
  {S:WO} (so:S.Pairwise (λa b=>a.index<b.index)) (s0:∀s∈S,1≤s.index∧s.index<4294967296) (pm:S.Perm ((d.aa.set i q).flatMap uP)) {T:Wu} (tm:YN d T) (ME:∀j (hj:j<d.aa.length),hasB T d.aa[j].cK 1=if j=i then q.hand.has else d.aa[j].hand.has) (r:FV gV):
  Gd {d with aa:=d.aa.set i q,aE:=S,timers:=T,random:=r}:=by
 obtain⟨D,hD⟩:∃D:aR,D= {d with aa:=d.aa.set i q,aE:=S,timers:=T,random:=r}:=⟨_,rfl⟩
 have LO:D.aa=d.aa.set i q:=by rw[hD]
 have hDl:D.aa.length=d.aa.length:=by rw[LO,JnW]
 have G5:D.now=d.now:=by rw[hD]
 have Pv:D.rules=d.rules:=by rw[hD]
 have hDt:D.timers=T:=by rw[hD]
 have hDs:D.aE=S:=by rw[hD]
 have hg:∀j (hj:j<D.aa.length),D.aa[j]=if i=j then q else d.aa[j]'(by omega):=by
  intro j hj;simp only[LO,List.getElem_set]
 have Hg:∀j (hj:j<D.aa.length),D.aa[j].cK=d.aa[j].cK∧D.aa[j].ik=d.aa[j].ik:=by
  intro j hj;rw[hg j hj];split
  ·rename_i e;subst e;exact⟨e1,e2⟩
  ·exact⟨rfl,rfl⟩
 have oc:∀x,cB d x->cB D x:=λx hx=>cB.of (d:=d) (e:=D) G5 Pv hx
 have hm:∀p∈D.aa,p=q∨p∈d.aa:=by
  intro p hp;rw[LO]at hp;rcases JjZ hp with hp|hp
  ·exact .inr hp
  ·exact .inl hp
 rw[←hD];refine⟨by rw[Pv];exact h.ru,by rw[G5];exact h.n0,by rw[G5];exact h.n1,by rw[hD];exact h.p0,by rw[hD];exact h.p1,by rw[hD];exact h.b0,by rw[hD];exact h.b1,⟨by rw[hDl];exact h.qV.1,λj hj=>by rw[(Hg j hj).1];exact h.qV.2 j (by omega)⟩,?_,?_,?_,by rw[hD];exact h.Jv,by rw[hDl,hD];exact h.KN,by rw[hDs];exact so,by rw[hDs];exact s0,by rw[hDs,qc,LO];exact pm,by rw[hDt];exact tm.so,?_,by rw[hDt];exact tm.un,?_,by rw[hD];exact h.ld⟩
 ·intro p hp;have e:gZ D p=gZ d p:=by simp only[gZ,Ld,zp,G5,Pv]
  rw[e];rcases hm p hp with rfl|hp
  ·exact f
  ·exact h.Gq p hp
 ·intro p hp;have e:tI D p=tI d p:=by simp only[tI,G5]
  rw[e];rcases hm p hp with rfl|hp
  ·exact hh
  ·exact h.u9 p hp
 ·intro p hp;rcases hm p hp with rfl|hp
  ·exact⟨oc _ c.1,oc _ c.2.1,oc _ c.2.2⟩
  ·obtain⟨c1,c2,c3⟩:=h.MD p hp;exact⟨oc _ c1,oc _ c2,oc _ c3⟩
 ·intro t ht;rw[hDt]at ht;obtain⟨r1,r2,r3,r4,j,hj,r5,r6⟩:=tm.rg t ht;exact⟨r1,r2,by rw[G5];exact r3,r4,j,by rw[hDl];exact hj,r5,λe=>by rw[(Hg j _).2];exact r6 e⟩
 ·intro p hp;obtain⟨j,hj,rfl⟩:=JiX.1 hp;have Zm:j<d.aa.length:=by omega
  rw[hDt,(Hg j hj).1,ME j Zm,hg j hj];by_cases e:i=j
  ·rw[if_pos e.symm,if_pos e]
  ·rw[if_neg (λg=>e g.symm),if_neg e]
def Gd.cK {d:aR} (h:Gd d) {i j:Nat} (hi:i<d.aa.length) (hj:j<d.aa.length) (e:d.aa[i].cK=d.aa[j].cK):i=j:=by
 have:=h.qV.1;rw[h.qV.2 i hi,h.qV.2 j hj]at e;exact s5 (by omega) (by omega) e
def Gd.tim {d:aR} (h:Gd d) {T:Wu} (tm:YN d T) (ME:∀p∈d.aa,hasB T p.cK 1=p.hand.has):Gd (vu d T):=
 ⟨h.ru,h.n0,h.n1,h.p0,h.p1,h.b0,h.b1,h.qV,h.Gq,h.u9,λp hp=>by obtain⟨c1,c2,c3⟩:=h.MD p hp;exact⟨cB.of (d:=d) (e:=vu d T) rfl rfl c1,cB.of (d:=d) (e:=vu d T) rfl rfl c2,cB.of (d:=d) (e:=vu d T) rfl rfl c3⟩,h.Jv,h.KN,h.so,h.s0,h.pm,tm.so,tm.rg,tm.un,ME,h.ld⟩
def Gd.set {d:aR} (h:Gd d) {i:Nat} (hi:i<d.aa.length) {a n:Int} (k1:2≤n) (k2:n≤5) (a1:d.now<a) (a2:a≤4398046511104) (h4:n=4->d.aa[i].ik≠0):Gd (vu d (im d.timers ⟨a,d.aa[i].cK,n⟩)):=by
 refine h.tim (h.tm.set h.qV.1 (by show 1≤n;omega) k2 a1 a2 hi (h.qV.2 i hi) h4) λp hp=> ?_;rw[Jd _ _ _ _ (by rintro⟨_,e⟩;have e:(1:Int)=n:=e;omega)];exact h.ME p hp
def Gd.can {d:aR} (h:Gd d) (k:Key) {n:Int} (hn:n≠1):Gd (vu d (bI d.timers k n)):=by
 refine h.tim (h.tm.can k n) λp hp=> ?_;rw[Jc _ _ _ _ _ (by rintro⟨_,e⟩;exact hn e.symm)];exact h.ME p hp
def Gd.tO {d:aR} (h:Gd d) {i:Nat} (hi:i<d.aa.length) {q:bE} (e1:q.cK=d.aa[i].cK) (e2:q.ik=d.aa[i].ik) (e3:q.hand=d.aa[i].hand) (e4:q.ff=d.aa[i].ff) (e5:uO q=uO d.aa[i]) (f:gZ d q=true) (c:cB d q.ring.p∧cB d q.ring.c∧cB d q.ring.n):Gd {d with aa:=d.aa.set i q}:=by
 have hs:uP q=uP d.aa[i]:=by unfold uP I3;rw[e5,e3,e1]
 have hp:=d.aa.getElem_mem hi;refine h.chg hi e1 e2 f ?_ c h.so h.s0 ?_ h.tm ?_ d.random
 ·have:=h.u9 _ hp;unfold tI at this⊢;rw[e3,e4];exact this
 ·rw[GU hi hs,←qc];exact h.pm
 ·intro j hj;rw[h.ME _ (JaJ hj)];split
  ·rename_i e;subst e;rw[e3]
  ·rfl
def Gd.Mt {d:aR} (h:Gd d) {i:Nat} (hi:i<d.aa.length) (hh:d.aa[i].hand.has=false) (hep:d.aa[i].ff=true) {y a:Int} (hy:1≤y∧y<4294967296) (hf:∀s∈d.aE,s.index≠y) (a1:d.now<a) (a2:a≤4398046511104) {H:G7} (h1:H.has=true) (h2:H.loc=y) (h3:H.started=d.now) (h4:H.xT=d.now) (yy:FV uq) (r:FV gV):
  Gd {d with aa:=d.aa.set i {d.aa[i]with hand:=H,yy:=yy},aE:=oK d.aE ⟨y,d.aa[i].cK,false⟩,timers:=im d.timers ⟨a,d.aa[i].cK,1⟩,random:=r}:=by
 have hp:=d.aa.getElem_mem hi;have hz:I3 d.aa[i]=[]:=by unfold I3;rw[if_neg (by rw[hh];simp)]
 refine h.chg hi (q:= {d.aa[i]with hand:=H,yy:=yy}) rfl rfl (h.Gq d.aa[i] hp) ?_ (h.MD d.aa[i] hp) (zy (s:=⟨y,d.aa[i].cK,false⟩) h.so hf) ?_ ?_ (h.tm.set (t:=⟨a,d.aa[i].cK,1⟩) h.qV.1 (by show(1:Int)≤1;omega) (by show(1:Int)≤5;omega) a1 a2 hi (h.qV.2 i hi) (λe=>absurd e (by show¬(1:Int)=4;omega))) ?_ r
 ·have n0:=h.n0;unfold tI;rw[if_pos h1];simp[hep,jV,h3,h4,n0]
 ·intro s hs;rcases cJ.1 ((nE _ _).mem_iff.1 hs)with rfl|hs
  ·exact hy
  ·exact h.s0 s hs
 ·refine(nE _ _).trans (.trans ?_ (Fh hi (x:=⟨y,d.aa[i].cK,false⟩) (f:=uP) ?_).symm)
  ·refine List.Perm.cons _ ?_;rw[←qc];exact h.pm
  ·show I3 _++_=_::(I3 d.aa[i]++_);rw[hz];unfold I3;rw[if_pos (show({d.aa[i]with hand:=H,yy:=yy}:bE).hand.has=true from h1)];show(⟨H.loc,_,_⟩:cG)::_=_;rw[h2];rfl
 ·intro j hj;by_cases e:j=i
  ·subst e;rw[if_pos rfl];rw[show hasB (im d.timers ⟨a,d.aa[j].cK,1⟩) d.aa[j].cK 1=true from TP d.timers ⟨a,d.aa[j].cK,1⟩];exact h1.symm
  ·rw[if_neg e,Jd _ _ _ _ (by rintro⟨g,_⟩;exact e (h.cK hj hi g))];exact h.ME _ (JaJ hj)
theorem aBv {b:Zz} (h:4≤b.length):tP ((b.take 4).drop 2)=(b.getD 2 0).toNat*256+(b.getD 3 0).toNat:=by
 match b,h with
 |x0::x1::x2::x3::r,_=>simp[tP]
def R0 {b:Zz} {m:Nat} (hl:b.length=m) (h1:20≤m) (h2:m≤255) (h0:b.getD 0 0=69) (hh:b.getD 2 0=0) (LC:b.getD 3 0=UInt8.ofNat m):vH b:=by
 have e:tP ((b.take 4).drop 2)=m:=by
  rw[aBv (by omega),hh,LC];simp[UInt8.toNat_ofNat];omega
 refine⟨by omega,by omega,.inl ⟨by rw[h0];decide,by omega,by rw[h0];decide,?_,by rw[e];omega⟩⟩;rw[e,h0];show 4*(69%16)≤m;omega
def TQ:ly zq=true:=by decide
def XF {d:aR} (h0:0≤d.now) (hs:jV d.iM 0 d.now=true) {n:Int} (hn:0≤n∧n≤d.now):Ab.r9 {d with aY:=[n,d.now],buckets:=[⟨zq,4000,d.now⟩]}=true:=by
 have h1:IW [n,d.now]=true:=by
  refine qg λi hi=> ?_;rcases(by simp at hi;omega:i=0∨i=1)with rfl|rfl
  ·rfl
  ·simp[A7];omega
 have h2:afc {d with aY:=[n,d.now],buckets:=[⟨zq,4000,d.now⟩]}=true:=by
  refine qg λi hi=> ?_;have:i=0:=by simp at hi;omega
  subst this;rw[Li (b:=⟨zq,4000,d.now⟩) rfl];simp[Td,TQ,jV,h0]
 have h3:jV d.iM 0 d.now=true:=hs;simp only[Ab.r9,h1,h2,h3];simp[jV,hn.1,hn.2,h0]
def pe (d:aR) (ps:Xo):aR:= {d with aa:=ps}
structure qD (d:aR):Prop where
 gd:Gd d
 hz:∀p∈d.aa,p.hand.has=false
def TR {l:WO} {s:cG} (h:∀x∈l,x.index≠s.index):dD (oK l s) [s.index]=l:=by
 show(oK l s).filter (Jx s.index)=l;have e:∀m:WO,(∀x∈m,x∈l)->m.filter (Jx s.index)=m:=λm hm=>JdQ.2 λx hx=>by simp[Jx,h x (hm x hx)]
 unfold oK;rw[JhJ,JhJ,e _ (λx hx=>JaW hx),e _ (λx hx=>JbW hx)];simp[Jx,JbV]
def qD.set {d:aR} {ps:Xo} (h:qD (pe d ps)) {i:Nat} (hi:i<ps.length) {k n:Int} (k1:2≤k) (k2:k≤5) (n1:0<n) (n2:n≤1099511627776) (h4:k=4->ps[i].ik≠0):qD (pe (vu d (im d.timers ⟨IntKind.i64.wrap (d.now+n),ps[i].cK,k⟩)) ps):=by
 have g0:=h.gd.n0;have g1:=h.gd.n1;have g0:0≤d.now:=g0;have g1:d.now≤16777216:=g1;have hw:IntKind.i64.wrap (d.now+n)=d.now+n:=wrap_i64 (by omega);rw[hw];exact⟨h.gd.set (d:=pe d ps) hi k1 k2 (by show d.now<d.now+n;omega) (by omega) h4,h.hz⟩
def qD.can {d:aR} {ps:Xo} (h:qD (pe d ps)) (k:Key) {n:Int} (hn:n≠1):qD (pe (vu d (bI d.timers k n)) ps):=⟨h.gd.can (d:=pe d ps) k hn,h.hz⟩
def qD.trv {d:aR} {ps:Xo} (h:qD (pe d ps)) {i:Nat} (hi:i<ps.length):qD (pe (if ps[i].ik=0 then d else vu d (im d.timers ⟨IntKind.i64.wrap (d.now+ps[i].ik),ps[i].cK,4⟩)) ps):=by
 split
 ·exact h
 ·rename_i hk;have hf:=h.gd.Gq ps[i] (JaJ hi);simp only[gZ,aJ]at hf;have:=Lx hf.1.1.1.1.2;exact h.set hi (by omega) (by omega) (by omega) (by omega) (λ_=>hk)
def Gd.trv {d:aR} {ps:Xo} (h:Gd (pe d ps)) {i:Nat} (hi:i<ps.length):Gd (pe (if ps[i].ik=0 then d else vu d (im d.timers ⟨IntKind.i64.wrap (d.now+ps[i].ik),ps[i].cK,4⟩)) ps):=by
 split
 ·exact h
 ·rename_i hk;have hf:=h.Gq ps[i] (JaJ hi);simp only[gZ,aJ]at hf;have:=Lx hf.1.1.1.1.2;have g0:0≤d.now:=h.n0;have g1:d.now≤16777216:=h.n1;have hw:IntKind.i64.wrap (d.now+ps[i].ik)=d.now+ps[i].ik:=wrap_i64 (by omega);rw[hw];exact h.set (d:=pe d ps) hi (by omega) (by omega) (by show d.now<_;omega) (by omega) (λ_=>hk)
def qD.tO {d:aR} {ps:Xo} (h:qD (pe d ps)) {i:Nat} (hi:i<ps.length) {q:bE} (e1:q.cK=ps[i].cK) (e2:q.ik=ps[i].ik) (e3:q.hand=ps[i].hand) (e4:q.ff=ps[i].ff) (e5:uO q=uO ps[i]) (f:gZ (pe d ps) q=true) (c:cB (pe d ps) q.ring.p∧cB (pe d ps) q.ring.c∧cB (pe d ps) q.ring.n):qD (pe d (ps.set i q)):=by
 refine⟨h.gd.tO (d:=pe d ps) hi e1 e2 e3 e4 e5 f c,λp hp=> ?_⟩;rcases JjZ (show p∈ps.set i q from hp)with hp|rfl
 ·exact h.hz p hp
 ·rw[e3];exact h.hz _ (JaJ hi)
def qD.tx {d:aR} {ps:Xo} (h:qD (pe d ps)) {i:Nat} (hi:i<ps.length) (hc:ps[i].ring.c.has=true) (hn:ps[i].ring.c.eM.next<min (min ps[i].ring.c.eM.eY d.rules.pV) 18446744073709543423):
  qD (pe d (ps.set i {ps[i]with ring:= {ps[i].ring with c:= {ps[i].ring.c with eM:= {ps[i].ring.c.eM with next:=IntKind.u64.wrap (ps[i].ring.c.eM.next+1)}}}})):=by
 obtain⟨c1,c2,c3⟩:=h.gd.MD ps[i] (JaJ hi);refine h.tO hi rfl rfl rfl rfl ?_ (h.gd.Gq ps[i] (JaJ hi)) ⟨c1,?_,c3⟩
 ·unfold uO;simp only[De]
 ·rcases c2 with⟨a,b⟩|⟨a,_⟩
  ·have n0:=b.n0;have hw:IntKind.u64.wrap (ps[i].ring.c.eM.next+1)=ps[i].ring.c.eM.next+1:=wrap_u64 ⟨by omega,by omega⟩;refine .inl ⟨a,{b with n0:= ?_,n1:= ?_}⟩
   ·show 0≤IntKind.u64.wrap (ps[i].ring.c.eM.next+1);rw[hw];omega
   ·show IntKind.u64.wrap (ps[i].ring.c.eM.next+1)≤_;rw[hw];omega
  ·rw[hc]at a;cases a
def qD.Ju {d:aR} {ps:Xo} (h:qD (pe d ps)) {i:Nat} (hi:i<ps.length) {l:List (Zz)} (h1:(l.length:Int)≤d.rules.fU) (h2:∀b∈l,vH b):qD (pe d (ps.set i {ps[i]with aM:=l})):=by
 refine h.tO hi rfl rfl rfl rfl rfl ?_ (h.gd.MD ps[i] (JaJ hi));have hf:=h.gd.Gq ps[i] (JaJ hi);simp only[gZ,aJ]at hf⊢;obtain⟨⟨⟨⟨⟨g1,g2⟩,g3⟩,g4⟩,_⟩,_⟩:=hf;exact⟨⟨⟨⟨⟨g1,g2⟩,g3⟩,g4⟩,decide_eq_true h1⟩,JbJ.2 λb hb=>zn.2 (h2 b hb)⟩
theorem qD.fail {d:aR} {ps:Xo} (h:qD (pe d ps)) {i:Nat} (hi:i<ps.length) {y:Int} (hf:∀s∈d.aE,s.index≠y) (k:Key) (b:Bool) (r:FV gV):
  Gd (pe {d with aE:=dD (oK d.aE ⟨y,k,b⟩) [y],timers:=bI d.timers ps[i].cK 1,random:=r} (ps.set i {ps[i]with hand:=kJ})):=by
 have hp:ps[i]∈ps:=JaJ hi;have hh:=h.hz ps[i] hp;have ht:bI d.timers ps[i].cK 1=d.timers:=afy ((h.gd.ME ps[i] hp).trans hh);have hs:dD (oK d.aE ⟨y,k,b⟩) [y]=d.aE:=TR (s:=⟨y,k,b⟩) hf;rw[ht,hs];have hzf:kJ.has=false:=rfl;refine h.gd.chg (d:=pe d ps) hi (q:= {ps[i]with hand:=kJ}) rfl rfl (h.gd.Gq ps[i] hp) (TL rfl) (h.gd.MD ps[i] hp) h.gd.so h.gd.s0 ?_ h.gd.tm ?_ r
 ·have e:uP ({ps[i]with hand:=kJ}:bE)=uP ps[i]:=by
   unfold uP I3;rw[if_neg (by show¬kJ.has=true;rw[hzf];simp),if_neg (by rw[hh];simp)];rfl
  have:=h.gd.pm;rw[qc]at this;rw[show(pe d ps).aa.set i {ps[i]with hand:=kJ}=ps.set i {ps[i]with hand:=kJ} from rfl,GU hi e];exact this
 ·intro j hj;have:=h.gd.ME _ (JaJ hj);by_cases e:j=i
  ·subst e;rw[if_pos rfl];exact this.trans hh
  ·rw[if_neg e];exact this
def qD.Mt {d:aR} {ps:Xo} (h:qD (pe d ps)) {i:Nat} (hi:i<ps.length) (hep:ps[i].ff=true) {y:Int} (hy:1≤y∧y<4294967296) (hf:∀s∈d.aE,s.index≠y) {H:G7} (h1:H.has=true) (h2:H.loc=y) (h3:H.started=d.now) (h4:H.xT=d.now) (yy:FV uq) (r:FV gV):
  Gd (pe {d with aE:=oK d.aE ⟨y,ps[i].cK,false⟩,timers:=im d.timers ⟨IntKind.i64.wrap (d.now+d.rules.ret),ps[i].cK,1⟩,random:=r} (ps.set i {ps[i]with hand:=H,yy:=yy})):=by
 have g0:0≤d.now:=h.gd.n0;have g1:d.now≤16777216:=h.gd.n1;have hr:qE d.rules:=h.gd.ru;have r1:1000≤d.rules.ret∧d.rules.ret≤3000:=⟨hr.2.2.2.1,hr.2.2.2.2.1⟩
 have hw:IntKind.i64.wrap (d.now+d.rules.ret)=d.now+d.rules.ret:=wrap_i64 (by omega);rw[hw];exact h.gd.Mt (d:=pe d ps) hi (h.hz ps[i] (JaJ hi)) hep hy hf (by show d.now<_;omega) (by omega) h1 h2 h3 h4 yy r
theorem getD_take {l:Zz} {n:Nat} (h:1≤n):(l.take n).getD 0 0=l.getD 0 0:=by
 cases l with
 |nil=>simp
 |cons x l=>obtain⟨m,rfl⟩:∃m,n=m+1:=⟨n-1,by omega⟩;simp
def w7 {l:Zz} {n k:Nat} (h:k≤n):(l.take n).take k=l.take k:=by rw[JoX,JdZ h]
def pk4 {l:Zz} {n:Nat} (h20:20≤n) (hn:n≤l.length) (h2:n≤2000) (hv:(l.getD 0 0).toNat/16=4) (hi:5≤(l.getD 0 0).toNat%16) (hh:4*((l.getD 0 0).toNat%16)≤n) (hb:tP ((l.take 4).drop 2)=n):vH (l.take n):=by
 have hl:(l.take n).length=n:=by rw[lJ];omega
 refine⟨by omega,by omega,.inl ⟨?_,by omega,?_,?_,?_⟩⟩
 ·rw[getD_take (by omega)];exact hv
 ·rw[getD_take (by omega)];exact hi
 ·rw[getD_take (by omega),w7 (by omega),hb];exact hh
 ·rw[w7 (by omega),hb,hl]
def pk6 {l:Zz} {n m:Nat} (h40:40+m=n) (hn:n≤l.length) (h2:n≤2000) (hv:(l.getD 0 0).toNat/16=6) (hb:tP ((l.take 6).drop 4)=m):vH (l.take n):=by
 have hl:(l.take n).length=n:=by rw[lJ];omega
 refine⟨by omega,by omega,.inr ⟨?_,by omega,?_⟩⟩
 ·rw[getD_take (by omega)];exact hv
 ·rw[w7 (by omega),hb,hl];exact h40
def nib (x:UInt8) {v:Nat} (h:(x.toNat:Int).fdiv (2^min 4 IntKind.u8.bits)=(v:Int)):x.toNat/16=v:=by
 have:=hi4 ⟨x.toNat,x.toNat_lt⟩;simp only at this;rw[this]at h;omega
def aqK (x:UInt8) {h:Int} (e:bits .and .u8 (x.toNat:Int) 15=h):h=((x.toNat%16:Nat):Int):=by
 have:=lo4 ⟨x.toNat,x.toNat_lt⟩;simp only at this;rw[←e,this]
def AI.wu {v:FV uo} (h:AI v):WU v:=by
 rcases h with rfl|⟨w,_,h,rfl⟩
 ·exact⟨⟨false,0,0,0,0,0⟩,⟨by simp,by simp⟩,by
   have:yz.p=(nW ⟨false,0,0,0,0,0⟩).p:=by
    show PV.st 6 _=PV.st 6 _;rw[dh];rfl
   generalize hz:yz=z at*;generalize hy:nW ⟨false,0,0,0,0,0⟩=y at*;cases z;cases y;cases this;rfl⟩
 ·exact⟨w,⟨by omega,by omega⟩,rfl⟩
def Gd.rr {d:aR} (h:Gd d):∀i,i<9->Ab.rr d i=true:=by
 intro i hi;rcases(by omega:i=0∨i=1∨i=2∨i=3∨i=4∨i=5∨i=6∨i=7∨i=8)with rfl|rfl|rfl|rfl|rfl|rfl|rfl|rfl|rfl
 ·exact h.r1
 ·exact h.r2
 ·exact h.r3
 ·exact h.r4
 ·exact h.r5
 ·exact h.r6
 ·exact h.r7
 ·exact h.r8
 ·exact h.ld
def Gd.okd {d:aR} (h:Gd d) (hs:G9 d):Okd d:=by
 obtain⟨q1,q2,q3,q4,q5,q6,q7,q8,q9,q10,q11,q12,q13,q14,q15,q16,q17⟩:=h.ru;have:=h.b0;have:=h.b1;refine⟨hs,by have:=h.qV.1;omega,λp hp=> ?_,by unfold MW;omega,by unfold MW;omega,by unfold MW;omega,λs hm=> ?_⟩
 ·obtain⟨c1,c2,c3⟩:=h.MD p hp;exact⟨c1.wnO,c2.wnO,c3.wnO⟩
 ·have:=h.s0 s (h.pm.mem_iff.2 hm);unfold Tr;omega
def Gd.pu {d:aR} (h:Gd d):∀p∈d.aa,PU p:=by
 have wu:∀ {x:nU},cB d x->WU x.eM.tC:=λ {x} hx=>by
  rcases hx with⟨_,h⟩|⟨_,rfl⟩
  ·exact h.wi.wu
  ·exact AI.wu (.inl rfl)
 intro p hp k hk _;obtain⟨c1,c2,c3⟩:=h.MD p hp;rcases hk with rfl|rfl|rfl
 ·exact wu c1
 ·exact wu c2
 ·exact wu c3
theorem YO {d:aR} (h:Gd d) (hs:G9 d):aP Pg 24 [bN d] (.int .i64 0):=by
 refine ab.intro (aA R.uV.2) (by simp[R.uV]) ?_
 have cU:∀f∈GP,aP Pg f [bN d] (.bl true):=by
  intro f hf;obtain⟨i,hi,rfl⟩:=JiX.1 hf;have h9:GP.length=9:=rfl;have:=Yh (h.okd hs) i hi λj hj=>h.rr j (by omega);rw[h.rr i (by omega)]at this;exact this
 have hlen:GP.length=9:=rfl;simp[R.uV,ah,az];refine aj.rA sn ?_;generalize GP=L at*;simp[I4];refine fa.fN L.length (λ_=>True) [1,2,5,6,7] (λi=>[(7,.int .i64 i)]) (λi=>[]) [.keep [1,2,5,6,7]] ?_;simp;refine⟨λi hi K hK=> ?_,λK=> ?_⟩
 ·have hx:L[i]? =some L[i]:=gJ hi;have hc:=cU _ (JaJ hi);generalize L[i]=f at*;simp[↓an,hx,hi,cT hi (by omega),fnV,-getElem?_pos];refine aj.rA hc ?_;simp[cT hi (by omega)];refine⟨[.keep [1,2,5,6,7]],?_⟩;simp;exact hK _ (by simp[fnV])
 ·simp[↓an,↓an];refine bH ?_;simp
def Gw {d:aR} (h:Gd d) (hs:G9 d):aP Pg 8 [bN d] (.bl true):=by
 refine ab.intro (aA R.tA.2) (by simp[R.tA]) ?_;simp[R.tA,ah,az];refine aj.rA (YO h hs) ?_;simp;refine bH ?_;simp
def dH (p:bE) (h1:p.aM.length≤1048576):aP Pg 22 [aH p,aH p] (.bl true):=by
 refine ab.intro T.dH (by simp[F.dH]) ?_;simp(maxSteps:=1000000) [F.dH,ah,az];refine fa.fN p.aM.length (λ_=>True) [2,3,4,113,114] (λi=>[(114,.int .i64 i)]) (λi=>[]) [.keep [2,3,4,113,114]] ?_;simp;refine⟨λi hi K hK=> ?_,λK=> ?_⟩
 ·have hx:p.aM[i]? =some p.aM[i]:=gJ hi;simp[↓an,hi,cT hi h1];refine⟨[.keep [2,3,4,113,114]],?_⟩;simp;exact hK _ (by simp)
 ·simp[↓an,↓an];refine bH ?_;simp
def dz {d:aR} (h:G9 d):aP Pg 23 [bN d,bN d] (.bl true):=by
 refine ab.intro T.dz (by simp[F.dz]) ?_;simp(maxSteps:=1000000) [F.dz,ah,az];refine fa.fN d.aX.length (λ_=>True) [2,3,4,55,56] (λi=>[(56,.int .i64 i)]) (λi=>[]) [.keep [2,3,4,55,56]] ?_;simp;refine⟨λi hi K hK=> ?_,λK=> ?_⟩
 ·have hx:d.aX[i]? =some d.aX[i]:=gJ hi;simp[↓an,hi,cT hi h.aX];refine⟨[.keep [2,3,4,55,56]],?_⟩;simp;exact hK _ (by simp)
 ·simp[↓an,↓an];refine fa.fN d.aE.length (λ_=>True) [2,3,4,73,74] (λi=>[(74,.int .i64 i)]) (λi=>[]) [.keep [2,3,4,73,74]] ?_;simp;refine⟨λi hi K hK=> ?_,λK=> ?_⟩
  ·have hx:d.aE[i]? =some d.aE[i]:=gJ hi;simp[↓an,hi,cT hi h.aE];refine⟨[.keep [2,3,4,73,74]],?_⟩;simp;exact hK _ (by simp)
  ·simp[↓an,↓an];refine fa.fN d.timers.length (λ_=>True) [2,3,4,91,92] (λi=>[(92,.int .i64 i)]) (λi=>[]) [.keep [2,3,4,91,92]] ?_;simp;refine⟨λi hi K hK=> ?_,λK=> ?_⟩
   ·have hx:d.timers[i]? =some d.timers[i]:=gJ hi;simp[↓an,hi,cT hi h.timers];refine⟨[.keep [2,3,4,91,92]],?_⟩;simp;exact hK _ (by simp)
   ·simp[↓an,↓an];refine fa.fN d.aY.length (λ_=>True) [2,3,4,109,110] (λi=>[(110,.int .i64 i)]) (λi=>[]) [.keep [2,3,4,109,110]] ?_;simp;refine⟨λi hi K hK=> ?_,λK=> ?_⟩
    ·have hx:d.aY[i]? =some d.aY[i]:=gJ hi;simp[↓an,hi,cT hi h.aY];refine⟨[.keep [2,3,4,109,110]],?_⟩;simp;exact hK _ (by simp)
    ·simp[↓an,↓an];refine fa.fN d.buckets.length (λ_=>True) [2,3,4,127,128] (λi=>[(128,.int .i64 i)]) (λi=>[]) [.keep [2,3,4,127,128]] ?_;simp;refine⟨λi hi K hK=> ?_,λK=> ?_⟩
     ·have hx:d.buckets[i]? =some d.buckets[i]:=gJ hi;simp[↓an,hi,cT hi h.buckets];refine⟨[.keep [2,3,4,127,128]],?_⟩;simp;exact hK _ (by simp)
     ·simp[↓an,↓an];refine bH ?_;simp
def ei {d:aR} (h:G9 d):aP Pg 7 [bN d,bN d] (.bl true):=by
 refine ab.intro T.ei (by simp[F.ei]) ?_;simp(maxSteps:=1000000) [F.ei,ah,az];refine fa.fN d.aa.length (λ_=>True) [2,3,4,78,79] (λi=>[(79,.int .i64 i)]) (λi=>[]) [.keep [2,3,4,78,79]] ?_;simp;refine⟨λi hi K hK=> ?_,λK=> ?_⟩
 ·have hx:d.aa[i]? =some d.aa[i]:=gJ hi;simp[↓an,hi];refine aK.rA (dH d.aa[i] (h.aM _ (JaJ hi)).1) ?_;simp[cT hi h.aa];refine⟨[.keep [2,3,4,78,79]],?_⟩;simp;exact hK _ (by simp)
 ·simp[↓an,↓an];refine aj.rA (dz h) ?_;simp;refine bH ?_;simp
def loV (d:aR) (v:Int):aR:=if v=3 then d else if v=2 then gN d 1 else if v=1 then gN d 2 else yq
def okV (v:Int):Int:=if 1≤v∧v≤3 then 0 else 17
def KR {d:aR} (h:G9 d) (hp:d.aa.length≤100000) (hw:∀e∈d.aa,PU e) (v:Int):aP Pg 5 [bN d,.int .i64 v] (.tup [bN (loV d v),.int .i64 (okV v)]):=by
 by_cases hv:v<1∨3<v
 ·have h1:loV d v=yq:=by unfold loV;rw[if_neg (by omega),if_neg (by omega),if_neg (by omega)]
  have h2:okV v=17:=by unfold okV;rw[if_neg (by omega)]
  rw[h1,h2];exact Pd d hv
 ·rcases(by omega:v=3∨v=2∨v=1)with rfl|rfl|rfl
  ·exact Ls h hp hw (m:=0) (by omega)
  ·exact Ls h hp hw (m:=1) (by omega)
  ·exact Ls h hp hw (m:=2) (by omega)
def doV (d:aR) (v:Int):aR:=if v=3 then gN d 1 else if v=2 then gN d 2 else yq
def odV (v:Int):Int:=if 2≤v∧v≤3 then 0 else 17
def R5 {d:aR} (h:G9 d) (hp:d.aa.length≤100000) (hw:∀e∈d.aa,PU e) {v:Int} (hv: -9223372036854775808≤v∧v≤9223372036854775807):aP Pg 6 [bN d,.int .i64 v] (.tup [bN (doV d v),.int .i64 (odV v)]):=by
 by_cases h3:v=3
 ·subst h3;have:=KR h hp hw 2;refine ab.intro (aA R.fV.2) (by simp[R.fV]) ?_;simp[R.fV,ah,az];refine aj.rA this ?_;simp;refine bH ?_;simp[doV,odV,loV,okV]
 by_cases h2:v=2
 ·subst h2;have:=KR h hp hw 1;refine ab.intro (aA R.fV.2) (by simp[R.fV]) ?_;simp[R.fV,ah,az];refine aj.rA this ?_;simp;refine bH ?_;simp[doV,odV,loV,okV]
 have e1:doV d v=yq:=by unfold doV;rw[if_neg (by omega),if_neg (by omega)]
 have e2:odV v=17:=by unfold odV;rw[if_neg (by omega)]
 rw[e1,e2];refine ab.nzT (l:=[.st 148 [cQ YF,.ar 1 32 (zr 32 (.int .u8 0)),.ar 1 32 (zr 32 (.int .u8 0)),.int .i64 0,.ar 1 32 (zr 32 (.int .u8 0)),.int .i64 0,.sl 464 [] true,.sl 50 [] true,.sl 34 [] true,.sl 34 [] true,.ar 1 32 (zr 32 (.int .u8 0)),.int .i64 0,.sl 1 [] true,.sl 19 [] true,.int .i64 0],.int .i64 17]) (l':=[bN yq,.int .i64 17]) ?_ ?_ ⟨rfl,rfl⟩
 ·refine ab.intro (aA R.fV.2) (by simp[R.fV]) ?_;by_cases yB:v≤1
  ·have mQ:v<2:=by omega
   simp[R.fV,ah,az,yB];refine bH ?_;simp;rfl
  ·have mQ:¬v<2:=by omega
   have hv3:3<v:=by omega
   simp[R.fV,ah,az,yB,hv3];refine bH ?_;simp;rfl
 ·exact .cons (.st 148 (.same _<| .same _<| .same _<| .same _<| .same _<| .same _<| .sl 464 464 true false (by simp)<| .sl 50 50 true false (by simp)<| .sl 34 34 true false (by simp)<| .sl 34 34 true false (by simp)<| .same _<| .same _<| .sl 1 1 true false (by simp)<| .sl 19 19 true false (by simp)<| .same _ .nil) .nil) (Kk.refl _)
def GV:td:=⟨true,130,0,0,0,0⟩
def YP:jx:=⟨0,0,MQ,MQ,0,0,nW GV,0,false⟩
def Ed:bE:=⟨zK,MQ,false,uy,0,zSm,false,0,kJ,false,v8,0,v8,⟨oL,⟨true,YP⟩,oL⟩,[]⟩
def xa:aR:= {yq with aa:=[Ed]}
def TS:G9 xa:=⟨by simp[xa],by simp[xa,yq],by simp[xa,yq],by simp[xa,yq],by simp[xa,yq],by simp[xa,yq],λp hp=>by
 have:p=Ed:=by simpa[xa]using hp
 subst this;simp[Ed]⟩
theorem Pj:mH GV=⟨true,130,tw,tw,7,tw⟩:=by kernel_rfl
theorem XH:aP Pg 9 [] (.bl true):=by
 refine ab.intro (aA R.mK.2) (by simp[R.mK]) ?_
 have hL:=KR TS (by simp[xa]) (λe he=>by
  have:e=Ed:=by simpa[xa]using he
  subst this;intro k hk hh;rcases hk with rfl|rfl|rfl<;>simp[jC,Ed,oL]at hh⊢;exact⟨GV,⟨by simp[GV],by simp[GV]⟩,rfl⟩) 1
 simp[R.mK,ah,az];refine aj.ret hL (by simp[bN,bq,xa,yq,YF,cQ,gY,cR,bQ,bM,ee,dA,ey,Ed,aH,fc,uy,cV,zq,ij,kJ,dt,gq,oL,dQ,aq2,YP,nW,wP,GV,MQ,yz,v8,zSm,zNo,bW,zK,dh,u8]) (by simp) (by simp) ?_;have LC:loV xa 1=gN xa 2:=rfl;have Ps:(gN xa 2).aa=[hU (iB Ed)]:=rfl
 have hcu:(hU (iB Ed)).ring.c.eM.tC=nW ⟨true,130,tw,tw,7,tw⟩:=by
  have h1:(hU (iB Ed)).ring.c=ez ⟨true,YP⟩:=rfl;rw[h1];have h2:(ez ⟨true,YP⟩).eM.tC=qI (nW GV):=rfl;rw[h2,nM ⟨by simp[GV],by simp[GV]⟩,Pj]
 rw[LC];have cL:okV 1=0:=rfl;rw[cL];generalize gN xa 2=D at*;generalize hU (iB Ed)=E at*;have hcp:E.ring.c.eM.tC.p= .st 6 [.bl true,.int .u64 130,.ar 1 4 [.int .u64 tw,.int .u64 tw,.int .u64 7,.int .u64 tw]]:=by rw[hcu];rfl
 have z4:zr 4 (PV.int .u64 0)=[.int .u64 0,.int .u64 0,.int .u64 0,.int .u64 0]:=by rw[dh];rfl
 simp[Ps,hcp,z4,au];refine⟨⟨rfl,rfl⟩,bj.plain [] ?_⟩;simp;rfl
theorem yg {d:aR} (h:G9 d) (hp:d.aa.length≤100000) (m:Nat):G9 (gN d m):=by
 match m with
 |0=>exact h
 |1
   =>exact⟨by simpa[gN,DL]using h.aa,h.aX,by simpa[gN,Dr]using h.aE,h.timers,by simp[gN,Ff],by simp[gN,Ff],λp hp=>by
   obtain⟨q,_,rfl⟩:=JcV.1 hp;simp[iB]⟩
 |
  m+2=>
  have ht:=wZ {d with aY:=[],buckets:=[],bad:=0} (d.aa.map iB) []
  have hf:(d.aE.filter λx=>x.eM).length≤d.aE.length:=JeV _ _
  refine⟨by simpa[gN,DL]using h.aa,h.aX,?_,?_,by simp[gN,Ff],by simp[gN,Ff],λp hp=> ?_⟩
  ·have:=h.aE;simp only[gN,Dr];split<;>omega
  ·show(List.foldl _ [] (d.aa.map iB)).length≤_
   simp only[JeW,List.length_nil]at ht
   have:=h.aa;omega
  ·obtain⟨q,hq,rfl⟩:=JcV.1 hp
   obtain⟨q,hq,rfl⟩:=JcV.1 hq
   simp[iB,hU]
def xZ (n:Nat):Nat:=(16-n%16)%16
def jA {l:WQ} (hl:l.length≤100000) (Jz:0<l.length):uf Pg 272 [bS l] 1 (gM (l++List.replicate (xZ l.length) 0)):=by
 refine ab.intro (aA R.jA.2) (by simp[R.jA]) ?_;have hp:=fb l;simp[R.jA,ah,az,bS];refine⟨⟨by omega,by omega⟩,?_⟩;refine fa.fN (xZ l.length) (λ_=>True) [3,6] (λi=>[(3,.rs 6 [] 0 (l.length+i) (l.length+i) 1 .tip)]) (λi=>[(6,.arr 1 (gM (l++List.replicate i 0)))]) [.keep [3]] ?_;simp;refine⟨λi hi K hK=> ?_,λK=> ?_⟩
 ·have h1:((l.length:Int)+(i:Int)).tmod 16≠0:=by
   rw[JiJ (by omega)];unfold xZ at hi;omega
  simp[↓an,h1];have aJJ:xZ l.length<16:=by unfold xZ;omega
  refine⟨⟨by omega,by omega⟩,[.keep [3]],?_⟩;simp;refine hK _ ?_
  have e:gM (l++List.replicate i 0)++[PV.int .u8 0]=gM (l++List.replicate (i+1) 0):=by
   simp[gM,List.replicate_succ']
  simp[e,Nat.add_assoc]
 ·have h1:((l.length:Int)+(xZ l.length:Int)).tmod 16=0:=by
   rw[JiJ (by omega)];unfold xZ;omega
  simp[↓an,h1];have hq:=fb (l++List.replicate (xZ l.length) 0);refine bj.with [.keep [2]] [6] ?_;simp
def AF (d:aR) (k1 n k2 m:Nat):PV:= .st 149 [bq d (.rs k1 [] 0 n n 464 .tip),.rs k2 [] 0 m m 86 .tip]
@[simp↓] def aiY (d:aR) (k1 n k2 m:Nat) (r:Zy):aO (AF d k1 n k2 m) (.f 0 0::r)=aO (bq d (.rs k1 [] 0 n n 464 .tip)) r:=by simp[AF]
@[simp↓] theorem aiZ (d:aR) (k1 n k2 m:Nat) (r:Zy):aO (AF d k1 n k2 m) (.f 1 148::r)=aO (.rs k2 [] 0 m m 86 .tip) r:=by simp[AF,au]
def Ly (c:PV) (k2 m:Nat):PV:= .st 149 [c,.rs k2 [] 0 m m 86 .tip]
def Lz (d:aR) (k1 n:Nat) (c:PV):PV:= .st 149 [bq d (.rs k1 [] 0 n n 464 .tip),c]
@[simp↓] def ai0 (d:aR) (k1 n k2 m:Nat) (r:Zy) (x:PV):cu (AF d k1 n k2 m) (.f 0 0::r) x=(cu (bq d (.rs k1 [] 0 n n 464 .tip)) r x).bind λc=>some (Ly c k2 m):=by simp[AF,Ly]
@[simp↓] theorem ai1 (d:aR) (k1 n k2 m:Nat) (r:Zy) (x:PV):cu (AF d k1 n k2 m) (.f 1 148::r) x=(cu (.rs k2 [] 0 m m 86 .tip) r x).bind λc=>some (Lz d k1 n c):=by simp[AF,Lz,au]
@[simp↓] theorem arR (d:aR) (k1 n k2 m:Nat):Ly (bq d (.rs k1 [] 0 n n 464 .tip)) k2 m=AF d k1 n k2 m:=_root_.id rfl
@[simp↓] theorem arS (d:aR) (k1 n k2 m:Nat):Lz d k1 n (.rs k2 [] 0 m m 86 .tip)=AF d k1 n k2 m:=_root_.id rfl
@[simp] theorem arT (f:Nat->Bool) (d:aR) (k1 n k2 m:Nat):ae f (AF d k1 n k2 m)=(f k1&&f k2):=by simp[AF,ae,al]
@[simp] theorem avc (ρ:Nat->Nat) (d:aR) (k1 n k2 m:Nat):aI ρ (AF d k1 n k2 m)=AF d (ρ k1) n (ρ k2) m:=by simp[AF,aI,bw]
def MB (d:aR) (ps:Xo) (L:WG):WD:=[.box (AF d (KB+1) ps.length (KB+2) L.length),.arr 464 (ps.map aH),.arr 86 L]
def aj.mo {P:Program} {s:St} {dst:Option Nat} {f:FuncId} {args cC:WG} {d:aR} {ps:Xo} {L:WG} {R:PV->WD->Prop} {K:UD} {t:Tg K} (k0 k1 k2:Nat)
  (hA:ab P f cC (MB d ps L) R) (h0:get s.bx k0=some (.box (AF d k1 ps.length k2 L.length))) (h1:get s.bx k1=some (.arr 464 (ps.map aH))) (h2:get s.bx k2=some (.arr 86 L))
  (hn:[k0,k1,k2].Nodup) (hL:aB L) (sr:al (cW [k0,k1,k2]) args=true) (ha:gI (bw (bV [k0,k1,k2]) args)=cC)
  (h:∀r fp,R r fp->∃d' tR L',fp=MB d' tR L'∧Pure r∧aB L'∧K ({s with bx:=put (put (put s.bx k0 (.box (AF d' k1 tR.length k2 L'.length))) k1 (.arr 464 (tR.map aH))) k2 (.arr 86 L')}.put dst r)):aj P s dst f args K t:=by
 subst ha;have DF:k0≠k1:=by intro e;subst e;simp at hn
 have h02:k0≠k2:=by intro e;subst e;simp at hn
 have h12:k1≠k2:=by intro e;subst e;simp at hn
 have i1:idx [k0,k1,k2] k1=some 1:=by simp[idx,DF]
 have i2:idx [k0,k1,k2] k2=some 2:=by simp[idx,h02,h12]
 have Jp:([.box (AF d k1 ps.length k2 L.length),.arr 464 (ps.map aH),.arr 86 L]:WD).map (aG (bV [k0,k1,k2]))=MB d ps L:=by
  simp[aG,bV,i1,i2,hL.aI,MB]
 refine⟨[k0,k1,k2],[],[.box (AF d k1 ps.length k2 L.length),.arr 464 (ps.map aH),.arr 86 L],R,by simp[getAll,h0,h1,h2],by simpa using hn,by simp,sr,?_,ab.ZH (by rw[Jp];exact hA),?_⟩
 ·simp[af,cW,i1,i2,hL.refs]
 ·intro r fp hR;obtain⟨d',tR,L',rfl,hr,yC,hK⟩:=h r fp hR;refine⟨⟨rfl,hr.refs _,by simp[MB,af,dL,yC.refs]⟩,?_⟩;simpa[aQ,MB,aG,cN,hr.aI,yC.aI,(aL bh tR).aI]using hK
def aj.Gm {P:Program} {s:St} {dst:Option Nat} {f:FuncId} {args cC:WG} {d:aR} {ps:Xo} {L:WG} {R:PV->WD->Prop} {K:UD} {t:Tg K} (hA:ab P f cC (MB d ps L) R) (hL:aB L) (h:∀r fp,R r fp->∃d' tR L',fp=MB d' tR L'∧Pure r∧aB L'∧K ({s with bx:=put (put (put s.bx KB (.box (AF d' (KB+1) tR.length (KB+2) L'.length))) (KB+1) (.arr 464 (tR.map aH))) (KB+2) (.arr 86 L')}.put dst r)) (h0:get s.bx KB=some (.box (AF d (KB+1) ps.length (KB+2) L.length)):=by simp) (h1:get s.bx (KB+1)=some (.arr 464 (ps.map aH)):=by simp) (h2:get s.bx (KB+2)=some (.arr 86 L):=by simp) (hn:[KB,(KB+1),(KB+2)].Nodup:=by simp) (sr:al (cW [KB,(KB+1),(KB+2)]) args=true:=by simp[al,ae,cW,idx]) (ha:gI (bw (bV [KB,(KB+1),(KB+2)]) args)=cC:=by simp[bw,aI,bV,idx]):aj P s dst f args K t:=aj.mo KB (KB+1) (KB+2) hA h0 h1 h2 hn hL sr ha h
theorem RQ {d:aR} (ht:d.timers.length≤1048575) {ps:Xo} {i:Nat} (hi:i<ps.length) (k:Int) (n:Int) {L:WG} (hL:aB L):
  ab Pg 68 [.pt KB [] 0,.int .i64 i,.int .i64 k,.int .i64 n] (MB d ps L)
   (λr fp=>r= .tup []∧fp=MB (vu d (im d.timers ⟨IntKind.i64.wrap (d.now+n),ps[i].cK,k⟩)) ps L):=by
 refine ab.intro T.cF (by simp[F.cF]) ?_;have hx:ps[i]? =some ps[i]:=gJ hi;have e:PV.st 34 [.int .i64 (IntKind.i64.wrap (d.now+n)),bW ps[i].cK,.int .i64 k]=bn ⟨IntKind.i64.wrap (d.now+n),ps[i].cK,k⟩:=rfl;simp[F.cF,ah,az,MB,hi,e];refine aK.rA (dI (l:=d.timers) ht ⟨IntKind.i64.wrap (d.now+n),ps[i].cK,k⟩) ?_;simp;refine bj.with [] [KB,KB+1,KB+2] ?_;simp[dN,vu,hL.refs,hL.aI]
def EV {d:aR} (ht:d.timers.length≤1048576) {ps:Xo} {i:Nat} (hi:i<ps.length) (k:Int) {L:WG} (hL:aB L):
  ab Pg 121 [.pt KB [] 0,.int .i64 i,.int .i64 k] (MB d ps L)
   (λr fp=>r= .tup []∧fp=MB (vu d (bI d.timers ps[i].cK k)) ps L):=by
 refine ab.intro (aA R.gD.2) (by simp[R.gD]) ?_;have hx:ps[i]? =some ps[i]:=gJ hi;simp[R.gD,ah,az,MB,hi];refine aK.rA (eU (l:=d.timers) ht ps[i].cK k) ?_;simp;refine bj.with [] [KB,KB+1,KB+2] ?_;simp[dN,vu,hL.refs,hL.aI]
def Xx {d:aR} (hs:d.aE.length≤1048576) {l:WQ} (hl:l.length≤8) (ps:Xo) {L:WG} (hL:aB L):
  ab Pg 66 [.pt KB [] 0,lr l] (MB d ps L)
   (λr fp=>r= .tup []∧fp=MB (xg d (dD d.aE l)) ps L):=by
 refine ab.intro (aA R.du.2) (by simp[R.du]) ?_;simp[R.du,ah,az,MB];refine fa.fN l.length (λ_=>True) [0,6,7,8] (λi=>[(8,.int .i64 i)]) (λi=>[(KB,.box (AF (xg d (dD d.aE (l.take i))) (KB+1) ps.length (KB+2) L.length))]) [.keep [0,6,7,8]] ?_;simp[show∀s,dD s []=s from λ_=>rfl,show xg d d.aE=d from rfl];refine⟨λi hi K hK=> ?_,λK=> ?_⟩
 ·have hx:l[i]? =some l[i]:=gJ hi;rw[yj hi]at hK;have hle:=pY (l.take i) d.aE;generalize dD d.aE (l.take i)=S at*;simp[↓an,hi];refine aj.rA (II (l:=S) (by omega) l[i]) ?_;simp[cT hi (by omega)];refine⟨[.keep [0,6,7,8]],?_⟩;simp;exact hK _ (by simp[xg])
 ·simp[↓an];refine bj.with [] [KB,KB+1,KB+2] ?_;simp[dN,hL.refs,hL.aI]
def Iu {d:aR} (ht:d.timers.length≤1048575) {ps:Xo} {i:Nat} (hi:i<ps.length) {L:WG} (hL:aB L):
  ab Pg 158 [.pt KB [] 0,.int .i64 i] (MB d ps L)
   (λr fp=>r= .tup []∧fp=MB (if ps[i].ik=0 then d else vu d (im d.timers ⟨IntKind.i64.wrap (d.now+ps[i].ik),ps[i].cK,4⟩)) ps L):=by
 refine ab.intro (aA R.fD.2) (by simp[R.fD]) ?_;have hx:ps[i]? =some ps[i]:=gJ hi;simp[R.fD,ah,az,MB,hi];refine⟨λhk=> ?_,λhk=> ?_⟩
 ·refine aj.Gm (RQ ht hi 4 ps[i].ik hL) hL ?_;rintro r fp ⟨rfl,rfl⟩;refine⟨_,_,_,rfl,by simp,hL,?_⟩;simp;refine bj.with [] [KB,KB+1,KB+2] ?_;simp[dN,hk,hL.refs,hL.aI]
 ·refine bj.with [] [KB,KB+1,KB+2] ?_;simp[dN,hk,hL.refs,hL.aI]
def Pk (l:Wu) (k:Key) (n:Int):Bool:=l.any λt=>decide (t.peer=k)&&decide (t.kind=n)
def eJ {l:Wu} (hl:l.length≤1048576) (k:Key) (n:Int):aP Pg 211 [bM l,bW k,.int .i64 n] (.bl (Pk l k n)):=by
 refine ab.intro (aA R.eJ.2) (by simp[R.eJ]) ?_;simp[R.eJ,ah,az];refine fa.fN l.length (λi=>Pk (l.take i) k n=false) [2,4,6,9,10,11] (λi=>[(11,.int .i64 i)]) (λi=>[]) [.keep [2,4,6,9,10,11]] ?_;simp;refine⟨rfl,λi hi hI K hK=> ?_,λhI K=> ?_⟩
 ·have hx:l[i]? =some l[i]:=gJ hi
  have hs:Pk (l.take (i+1)) k n=(decide (l[i].peer=k)&&decide (l[i].kind=n)):=by
   unfold Pk at hI⊢;rw[JcJ hi,List.any_append,hI];simp
  have fQ:l[i]∈l:=JaJ hi;by_cases h1:l[i].peer=k
  ·by_cases he:l[i].kind=n
   ·simp[↓an,hi,he,h1];refine bH ?_;simp;unfold Pk;rw[List.any_eq_true];exact⟨l[i],fQ,by simp[h1,he]⟩
   ·simp[↓an,hi,he,h1,cT hi (by omega)];refine⟨[.keep [2,4,6,9,10,11],.dr 8],?_⟩;simp;exact hK _ (by simp) (by rw[hs];simp[he])
  ·simp[↓an,hi,tG,h1,cT hi (by omega)];refine⟨[.keep [2,4,6,9,10,11],.dr 8],?_⟩;simp;exact hK _ (by simp) (by rw[hs];simp[h1])
 ·simp[↓an,↓an];refine bH ?_;simp;exact hI
def TU (s:jx) (now:Int):Int:=if now<s.born then 0 else IntKind.i64.wrap (min (IntKind.u64.wrap (IntKind.u64.wrap now-IntKind.u64.wrap s.born)) 1099511627776)
def fC (s:jx) (now:Int):aP Pg 122 [dQ s,.int .i64 now] (.int .i64 (TU s now)):=by
 refine ab.intro (aA R.fC.2) (by simp[R.fC]) ?_;by_cases h:now<s.born
 ·simp[R.fC,ah,az,h];refine bH ?_;simp[TU,h]
 ·have h':¬s.born>now:=h;simp[R.fC,ah,az,h];refine bH ?_;simp[TU,h]
def yc (s:jx) (r:yx) (now:Int):Bool:=decide (TU s now<r.iP)&&decide (s.next<min (min s.eY r.pV) 18446744073709543423)
def gE (s:jx) (r:yx) (now:Int):aP Pg 209 [dQ s,cQ r,.int .i64 now] (.bl (yc s r now)):=by
 refine ab.intro (aA R.gE.2) (by simp[R.gE]) ?_;simp[R.gE,ah,az];refine aK.rA (fC s now) ?_;by_cases h:TU s now<r.iP
 ·simp[h];refine bH ?_;simp[yc,h]
 ·simp[h];refine bH ?_;simp[yc,h]
def aex {d:aR} (ht:d.timers.length≤1048576) {ps:Xo} {i:Nat} (hi:i<ps.length) (k:Int) {L:WG} (hL:aB L):
  ab Pg 120 [.pt KB [] 0,.int .i64 i,.int .i64 k] (MB d ps L) (λr fp=>r= .bl (Pk d.timers ps[i].cK k)∧fp=MB d ps L):=by
 refine ab.intro (aA R.jd.2) (by simp[R.jd]) ?_;have hx:ps[i]? =some ps[i]:=gJ hi;simp[R.jd,ah,az,MB,hi];refine aK.rA (eJ (l:=d.timers) ht ps[i].cK k) ?_;simp;refine bj.with [] [KB,KB+1,KB+2] ?_;simp[hL.refs,hL.aI]
def KM (d:aR) (p:bE):Bool:=p.ring.c.has&&yc p.ring.c.eM d.rules d.now
def EW (d:aR) {ps:Xo} {i:Nat} (hi:i<ps.length) {L:WG} (hL:aB L):
  ab Pg 117 [.pt KB [] 0,.int .i64 i] (MB d ps L) (λr fp=>r= .bl (KM d ps[i])∧fp=MB d ps L):=by
 refine ab.intro (aA R.gF.2) (by simp[R.gF]) ?_;have hx:ps[i]? =some ps[i]:=gJ hi;simp[R.gF,ah,az,MB,hi];refine⟨λh=>⟨h,?_⟩,λh=>⟨h,?_⟩⟩
 ·refine aK.rA (gE ps[i].ring.c.eM d.rules d.now) ?_;simp[h];refine bj.with [.keep [4],.dr 5] [KB,KB+1,KB+2] ?_;simp[hL.refs,hL.aI,aW,bA,ae,af,KM,h]
 ·refine bj.with [.keep [4],.dr 5] [KB,KB+1,KB+2] ?_;simp[hL.refs,hL.aI,aW,bA,ae,af,KM,h]
def OF (d:aR) {ps:Xo} {i:Nat} (hi:i<ps.length) {L:WG} (hL:aB L):
  ∃b:Bool,ab Pg 141 [.pt KB [] 0,.int .i64 i] (MB d ps L) (λr fp=>r= .bl b∧fp=MB d ps L):=by
 have hx:ps[i]? =some ps[i]:=gJ hi;by_cases hc:ps[i].jj=true
 ·refine⟨decide (IntKind.i64.wrap (d.now-ps[i].kV)<d.rules.cot),?_⟩;refine ab.intro (aA R.da.2) (by simp[R.da]) ?_;simp[R.da,ah,az,MB,hi,hc];refine bj.with [.keep [4],.dr 5] [KB,KB+1,KB+2] ?_;simp[hL.refs,hL.aI,aW,bA,ae,af]
 ·refine⟨false,?_⟩;refine ab.intro (aA R.da.2) (by simp[R.da]) ?_;simp[R.da,ah,az,MB,hi,hc];refine bj.with [.keep [4],.dr 5] [KB,KB+1,KB+2] ?_;simp[hL.refs,hL.aI,aW,bA,ae,af]
def Xy (d:aR) {ps:Xo} {i:Nat} (hi:i<ps.length) {L:WG} (hL:aB L) (hl:L.length≤1000) (b:WQ) (c:Bool):
  ab Pg 142 [.pt KB [] 0,.int .i64 i,.sl 1 (gM b) c] (MB d ps L) (λr fp=>∃x,Pure x∧r= .tup []∧fp=MB d ps (L++[x])):=by
 have hx:ps[i]? =some ps[i]:=gJ hi;refine ab.intro T.dZ (by simp[F.dZ]) ?_;simp[F.dZ,ah,az,MB,hi];refine oG.run [] rfl ?_;simp;refine⟨⟨by omega,by omega⟩,?_⟩;refine bj.with [.keep [0],.dr 6] [KB,KB+1,KB+2] ?_;simp[dN,hL.refs,aW,bA,ae,af,al];have hx:Pure (PV.st 86 [.int .i64 1,fc ps[i].ep,bW ps[i].cK,.ar 1 32 (zr 32 (.int .u8 0)),.int .u64 0,.sl 1 (gM b) false,.str []]):=by simp
 refine⟨_,hx,?_⟩;have hLx:aB (L++[PV.st 86 [.int .i64 1,fc ps[i].ep,bW ps[i].cK,.ar 1 32 (zr 32 (.int .u8 0)),.int .u64 0,.sl 1 (gM b) false,.str []]]):=(sN _ _).2 ⟨hL,(wH _ _).2 ⟨hx,nk⟩⟩;exact hLx.aI _
structure C9 (p q:bE):Prop where
 cK:q.cK=p.cK
 ik:q.ik=p.ik
 ff:q.ff=p.ff
 aM:q.aM<:+p.aM
def C9.refl (p:bE):C9 p p:=⟨rfl,rfl,rfl,List.suffix_refl _⟩
def C9.trans {p q r:bE} (h:C9 p q) (k:C9 q r):C9 p r:=
 ⟨k.cK.trans h.cK,k.ik.trans h.ik,k.ff.trans h.ff,k.aM.trans h.aM⟩
def qC (ps qs:Xo):Prop:=qs.length=ps.length∧∀(i:Nat) (p:bE),ps[i]? =some p->∃q:bE,qs[i]? =some q∧C9 p q
def qC.refl (ps:Xo):qC ps ps:=⟨rfl,λ_ p h=>⟨p,h,.refl p⟩⟩
def qC.trans {ps qs rs:Xo} (h:qC ps qs) (k:qC qs rs):qC ps rs:=by
 refine⟨k.1.trans h.1,λi p hp=> ?_⟩;obtain⟨q,hq,h1⟩:=h.2 i p hp;obtain⟨r,hr,h2⟩:=k.2 i q hq;exact⟨r,hr,h1.trans h2⟩
def qC.set {ps:Xo} {i:Nat} (hi:i<ps.length) {q:bE} (h:C9 ps[i] q):qC ps (ps.set i q):=by
 refine⟨by simp,λj p hp=> ?_⟩;by_cases hj:i=j
 ·subst hj;rw[gJ hi]at hp;cases hp;exact⟨q,by simp[hi],h⟩
 ·exact⟨p,by rw[List.getElem?_set_ne hj];exact hp,.refl p⟩
structure BC (n:Nat) (d:aR) (ps:Xo) (d':aR) (tR:Xo):Prop where
 timers:d'.timers.length≤d.timers.length+n
 aE:d'.aE.length≤d.aE.length+n
 aX:d'.aX=d.aX
 aY:d'.aY=d.aY
 buckets:d'.buckets=d.buckets
 tO:qC ps tR
def BC.refl (n:Nat) (d:aR) (ps:Xo):BC n d ps d ps:=⟨by omega,by omega,rfl,rfl,rfl,.refl _⟩
def BC.trans {n m:Nat} {d e f:aR} {ps qs rs:Xo} (h:BC n d ps e qs) (k:BC m e qs f rs):BC (n+m) d ps f rs:=
 ⟨by have:=h.timers;have:=k.timers;omega,by have:=h.aE;have:=k.aE;omega,k.aX.trans h.aX,k.aY.trans h.aY,k.buckets.trans h.buckets,h.tO.trans k.tO⟩
def BC.mono {n m:Nat} {d e:aR} {ps qs:Xo} (h:BC n d ps e qs) (hn:n≤m):BC m d ps e qs:=
 ⟨by have:=h.timers;omega,by have:=h.aE;omega,h.aX,h.aY,h.buckets,h.tO⟩
def GrG (n:Nat) (d:aR) (ps:Xo) (d':aR) (tR:Xo):Prop:=BC n d ps d' tR∧(qD (pe d ps)->Gd (pe d' tR))
def Jf {l:WO} {x:Int} (h:∃s∈l,s.index=x):∃f,∃hf:f<l.length,l[f].index=x∧∀j (hj:j<l.length),j<f->l[j].index≠x:=by
 obtain⟨s,hs,hx⟩:=h;obtain⟨i,hi,rfl⟩:=List.getElem_of_mem hs;obtain⟨f,⟨hf,h1⟩,h2⟩:=oE (p:=λi=>∃h:i<l.length,l[i].index=x) ⟨i,hi,hx⟩;exact⟨f,hf,h1,λj hj hjf e=>h2 j hjf ⟨hj,e⟩⟩
def LA {l:WO} (hb:∀s∈l,s.index≤1000) (x:Int):∃j:Nat,(∀s∈l,s.index≠x+j)∧(∀i:Nat,i<j->∃s∈l,s.index=x+i):=by
 obtain⟨j,h1,h2⟩:=oE (p:=λj:Nat=>∀s∈l,s.index≠x+j) ⟨(1001-x).toNat,λs hs e=>by have:=hb s hs;omega⟩;refine⟨j,h1,λi hi=> ?_⟩;have:=h2 i hi;simpa using this
theorem anP {l:WO} (hl:l.length<32) (hb:∀s∈l,s.index≤1000) {x:Int} (T1:0≤x) (Y0:x<4294967296) (k:Key) (b:Bool):∃y:Int,((1≤y∧y<4294967296)∧∀s∈l,s.index≠y)∧aP Pg 67 [bQ l,.int .u32 x,bW k,.bl b] (.tup [bQ (oK l ⟨y,k,b⟩),.int .u32 y,.int .i64 0]):=by
 obtain⟨j0,yw,asV⟩:=LA hb (max x 1);have hjb:∀i:Nat,i<j0->max x 1+i≤1000:=λi hi=>by obtain⟨s,hs,e⟩:=asV i hi;have:=hb s hs;omega
 refine⟨max x 1+j0,⟨⟨by omega,by
  cases j0 with
  |zero=>omega
  |succ i=>have:=hjb i (by omega);omega⟩,yw⟩,?_⟩
 generalize hy:max x 1+(j0:Int)=y at*;refine ab.intro (aA R.gi.2) (by simp[R.gi]) ?_;have AP:¬(32:Int)≤l.length:=by omega
 simp[R.gi,ah,az,AP];refine fa.fN j0 (λ_=>True) [0,1,2,3,6,8,9,10,11] (λi=>[(11,.int .u32 (max x 1+(i:Int)))]) (λi=>[]) [.keep [0,1,2,3,6,8,9,10,11]] ?_;simp;refine⟨λi hi K hK=> ?_,λK=> ?_⟩
 ·obtain⟨f,hf,h1,h2⟩:=Jf (asV i hi);have vM:=hjb i hi;have hw:IntKind.u32.wrap (max x 1+(i:Int)+1)=max x 1+(i:Int)+1:=wrap_u32 (by omega);have hm:max (max x 1+(i:Int)+1) 1=max x 1+((i+1:Nat):Int):=by omega
  simp[↓an];refine aj.rA (yh (by omega) hf h1 h2) ?_;simp[↓an,hw,hm];refine⟨[.keep [0,1,2,3,6,8,9,10,11],.dr 12],?_⟩;simp;exact hK _ (by simp)
 rw[hy];simp[↓an];refine aj.rA (uw (by omega) yw) ?_;simp[↓an];have hp:=BB y l;have hr:oK l ⟨y,k,b⟩=l.take (gh y l)++[⟨y,k,b⟩]++l.drop (gh y l):=rfl;refine fa.fN (gh y l) (λ_=>True) [0,3,6,8,9,10,11,14] (λi=>[(14,.int .i64 i)]) (λi=>[]) [.keep [0,3,6,8,9,10,11,14],.dr 12] ?_;simp;refine⟨λi hi K hK=> ?_,λK=> ?_⟩
 ·have jv:i<l.length:=by omega
  have hx:l[i]? =some l[i]:=gJ jv;have he:=Gz y l i jv hi;simp[↓an,hx,jv,he,cT jv (by omega)];refine⟨[.keep [0,3,6,8,9,10,11,14]],?_⟩;simp;exact hK _ (by simp)
 ·by_cases hq:gh y l<l.length
  ·have hx:l[gh y l]? =some l[gh y l]:=gJ hq;have he:=GB y l hq;simp[↓an,↓an,hx,hq,he,bQ,hp];refine⟨⟨by omega,by omega⟩,⟨by omega,by omega⟩,⟨by omega,by omega⟩,?_⟩;refine bj.plain [.keep [8,9,10],.fz 50,.wk 8] ?_;have h1:min (gh y l) l.length=gh y l:=by omega
   have h2:gh y l+(l.length-gh y l+1)=gh y l+1+(l.length-gh y l):=by omega
   simp[aW,bA,ae,af,al,h1,h2,tJ,hr,aZ]
  ·simp[↓an,↓an,hq,bQ,hp];refine⟨⟨by omega,by omega⟩,⟨by omega,by omega⟩,⟨by omega,by omega⟩,?_⟩;refine bj.plain [.keep [8,9,10],.fz 50,.wk 8] ?_;have h1:min (gh y l) l.length=gh y l:=by omega
   have h2:gh y l+(l.length-gh y l+1)=gh y l+1+(l.length-gh y l):=by omega
   simp[aW,bA,ae,af,al,h1,h2,tJ,hr,aZ]
def OfE (hB8:∀n,∃l:WQ,l.length=8∧uf Pg 217 [.int .u64 n,.int .i64 8] 1 (gM l)) (hB4:∀n,∃l:WQ,l.length=4∧uf Pg 217 [.int .u64 n,.int .i64 4] 1 (gM l)) (n:Int):
  ∃l:WQ,l.length=12∧aP Pg 241 [.int .i64 n] (.ar 1 12 (gM l)):=by
 by_cases h:n<0∨1099511627776<n
 ·refine⟨List.replicate 12 0,by simp,?_⟩;refine ab.intro (aA R.gG.2) (by simp[R.gG]) ?_;by_cases h0:n<0
  ·simp[R.gG,ah,az,h0,↓an];refine bH ?_;simp[dh,gM]
  ·have h1:1099511627776<n:=by omega
   simp[R.gG,ah,az,h0,h1,↓an];refine bH ?_;simp[dh,gM]
 ·have h0:¬n<0:=by omega
  have h1:¬1099511627776<n:=by omega
  obtain⟨a,ha,hA⟩:=hB8 (IntKind.u64.wrap (4611686018427387914+IntKind.u64.wrap (IntKind.i64.wrap (n.tdiv 1000))));obtain⟨b,hb,hB⟩:=hB4 (IntKind.u64.wrap (IntKind.u64.wrap (n.tmod 1000)*1000000));refine⟨a++b,by simp[ha,hb],?_⟩;refine ab.intro (aA R.gG.2) (by simp[R.gG]) ?_;simp[R.gG,ah,az,h0,h1,↓an];refine aK.rA (hA.eG (fb a)) ?_;have e1:(gM a).take 8=gM a:=tJ (by simp[ha]);have e2:(gM b).take 4=gM b:=tJ (by simp[hb]);simp[dh,ha,e1];refine aK.rA (hB.eG (fb b)) ?_;simp[ha,hb,e2,List.take_append,List.drop_append];refine bH ?_;simp[gM];omega
end Go.Ab
