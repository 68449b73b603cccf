/- Functions of the program and of the document, as the abstract reading walks them, part 11. No condition. -/
import Derived.Test.YtlcojgogfjlceaaGreatDoorEB10
import Derived.Test.YtlcojgogfjlceaaGreatDoorEB9
import Derived.Laws.BitsAllLaws
set_option maxRecDepth 20000
set_option maxHeartbeats 2000000
set_option linter.all false
noncomputable section
namespace Go.Ab
def tq (d:bh) (k1 n k2 m:Nat):PV:= .st 149 [aY d (.rs k1 [] 0 n n 464 .tip),.rs k2 [] 0 m m 86 .tip]
@[simp↓] theorem agI (d:bh) (k1 n k2 m:Nat) (r:List Step):aO (tq d k1 n k2 m) (.f 0 0::r)=aO (aY d (.rs k1 [] 0 n n 464 .tip)) r:=by simp[tq]
@[simp↓] theorem agJ (d:bh) (k1 n k2 m:Nat) (r:List Step):aO (tq d k1 n k2 m) (.f 1 148::r)=aO (.rs k2 [] 0 m m 86 .tip) r:=by simp[tq,aB]
def J5 (c:PV) (k2 m:Nat):PV:= .st 149 [c,.rs k2 [] 0 m m 86 .tip]
def J6 (d:bh) (k1 n:Nat) (c:PV):PV:= .st 149 [aY d (.rs k1 [] 0 n n 464 .tip),c]
@[simp↓] theorem agK (d:bh) (k1 n k2 m:Nat) (r:List Step) (x:PV):bO (tq d k1 n k2 m) (.f 0 0::r) x=(bO (aY d (.rs k1 [] 0 n n 464 .tip)) r x).bind λc=>some (J5 c k2 m):=by simp[tq,J5]
@[simp↓] theorem agL (d:bh) (k1 n k2 m:Nat) (r:List Step) (x:PV):bO (tq d k1 n k2 m) (.f 1 148::r) x=(bO (.rs k2 [] 0 m m 86 .tip) r x).bind λc=>some (J6 d k1 n c):=by simp[tq,J6,aB]
@[simp↓] theorem ale (d:bh) (k1 n k2 m:Nat):J5 (aY d (.rs k1 [] 0 n n 464 .tip)) k2 m=tq d k1 n k2 m:=_root_.id rfl
@[simp↓] theorem alf (d:bh) (k1 n k2 m:Nat):J6 d k1 n (.rs k2 [] 0 m m 86 .tip)=tq d k1 n k2 m:=_root_.id rfl
@[simp] theorem alg (f:Nat->Bool) (d:bh) (k1 n k2 m:Nat):af f (tq d k1 n k2 m)=(f k1&&f k2):=by simp[tq,af,ah]
@[simp] theorem aqA (ρ:Nat->Nat) (d:bh) (k1 n k2 m:Nat):aE ρ (tq d k1 n k2 m)=tq d (ρ k1) n (ρ k2) m:=by simp[tq,aE,aS]
def MB (d:bh) (ps:List bM) (L:List PV):List aU:=[.box (tq d (KB+1) ps.length (KB+2) L.length),.arr 464 (ps.map aP),.arr 86 L]
theorem ai.mo {P:Program} {s:St} {dst:Option Nat} {f:FuncId} {args bC:List PV} {d:bh} {ps:List bM} {L:List PV} {R:PV->List aU->Prop} {K:St->Prop} {t:Tg K} (k0 k1 k2:Nat)
  (hA:ae P f bC (MB d ps L) R) (h0:get s.bx k0=some (.box (tq d k1 ps.length k2 L.length))) (h1:get s.bx k1=some (.arr 464 (ps.map aP))) (h2:get s.bx k2=some (.arr 86 L))
  (hn:[k0,k1,k2].Nodup) (hL:au L) (sO:ah (bT [k0,k1,k2]) args=true) (ha:fP (aS (bz [k0,k1,k2]) args)=bC)
  (h:∀r fp,R r fp->∃d' Aj L',fp=MB d' Aj L'∧Pure r∧au L'∧K ({s with bx:=put (put (put s.bx k0 (.box (tq d' k1 Aj.length k2 L'.length))) k1 (.arr 464 (Aj.map aP))) k2 (.arr 86 L')}.put dst r)):ai P s dst f args K t:=by
 subst ha;have h01:k0≠k1:=by intro e;subst e;simp at hn
 have h02:k0≠k2:=by intro e;subst e;simp at hn
 have Te:k1≠k2:=by intro e;subst e;simp at hn
 have i1:idx [k0,k1,k2] k1=some 1:=by simp[idx,h01]
 have i2:idx [k0,k1,k2] k2=some 2:=by simp[idx,h02,Te]
 have aem:([.box (tq d k1 ps.length k2 L.length),.arr 464 (ps.map aP),.arr 86 L]:List aU).map (az (bz [k0,k1,k2]))=MB d ps L:=by
  simp[az,bz,i1,i2,hL.aE,MB]
 refine⟨[k0,k1,k2],[],[.box (tq d k1 ps.length k2 L.length),.arr 464 (ps.map aP),.arr 86 L],R,by simp[getAll,h0,h1,h2],by simpa using hn,by simp,sO,?_,ae.XG (by rw[aem];exact hA),?_⟩
 ·simp[ab,bT,i1,i2,hL.refs]
 ·intro r fp hR;obtain⟨d',Aj,L',rfl,hr,hL',hK⟩:=h r fp hR;refine⟨⟨rfl,hr.refs _,by simp[MB,ab,cY,hL'.refs]⟩,?_⟩;simpa[aI,MB,az,cL,hr.aE,hL'.aE,(aF iu Aj).aE]using hK
def MC (f:FuncId) (xs:List PV) (d:bh) (ps:List bM) (v:PV) (d':bh) (Aj:List bM) (O:List PV):Prop:=∀L:List PV,au L->L.length+O.length≤1000000->ae Pg f (.pt KB [] 0::xs) (MB d ps L) (λr fp=>r=v∧fp=MB d' Aj (L++O))
theorem ai.mc {s:St} {dst:Option Nat} {f:FuncId} {args:List PV} {xs:List PV} {d:bh} {ps:List bM} {v:PV} {d':bh} {Aj:List bM} {O L:List PV} {K:St->Prop} {t:Tg K} (hA:MC f xs d ps v d' Aj O) (h0:get s.bx KB=some (.box (tq d (KB+1) ps.length (KB+2) L.length))) (h1:get s.bx (KB+1)=some (.arr 464 (ps.map aP))) (h2:get s.bx (KB+2)=some (.arr 86 L))
  (hL:au L) (hb:L.length+O.length≤1000000) (sO:ah (bT [KB,KB+1,KB+2]) args=true) (ha:fP (aS (bz [KB,KB+1,KB+2]) args)= .pt KB [] 0::xs) (hv:af (cY 3) v=true) (hr:aE (cL [KB,KB+1,KB+2]) v=v) (hO:au O)
  (h:K ({s with bx:=put (put (put s.bx KB (.box (tq d' (KB+1) Aj.length (KB+2) (L++O).length))) (KB+1) (.arr 464 (Aj.map aP))) (KB+2) (.arr 86 (L++O))}.put dst v)):ai Pg s dst f args K t:=by
 have ud:=hL.append hO
 have aem:([.box (tq d (KB+1) ps.length (KB+2) L.length),.arr 464 (ps.map aP),.arr 86 L]:List aU).map (az (bz [KB,KB+1,KB+2]))=MB d ps L:=by
  simp[az,bz,idx,hL.aE,MB]
 refine⟨[KB,KB+1,KB+2],[],[.box (tq d (KB+1) ps.length (KB+2) L.length),.arr 464 (ps.map aP),.arr 86 L],_,by simp[getAll,h0,h1,h2],by simp,by simp,sO,?_,ae.XG (by rw[ha,aem];exact hA L hL hb),?_⟩
 ·simp[ab,bT,idx,hL.refs]
 ·rintro r fp ⟨rfl,rfl⟩;refine⟨⟨rfl,hv,by simp[MB,ab,cY,ud.refs]⟩,?_⟩;rw[JhQ,hr];simpa[aI,MB,az,cL,ud.aE,(aF iu Aj).aE]using h
theorem ai.BG {s:St} {dst:Option Nat} {f:FuncId} {args:List PV} {xs:List PV} {d:bh} {ps:List bM} {v:PV} {d':bh} {Aj:List bM} {O L:List PV} {K:St->Prop} {t:Tg K} (hA:MC f xs d ps v d' Aj O) (hL:au L) (hb:L.length+O.length≤1000000) (hO:au O) (h:K ({s with bx:=put (put (put s.bx KB (.box (tq d' (KB+1) Aj.length (KB+2) (L++O).length))) (KB+1) (.arr 464 (Aj.map aP))) (KB+2) (.arr 86 (L++O))}.put dst v)) (h0:get s.bx KB=some (.box (tq d (KB+1) ps.length (KB+2) L.length)):=by simp) (h1:get s.bx (KB+1)=some (.arr 464 (ps.map aP)):=by simp) (h2:get s.bx (KB+2)=some (.arr 86 L):=by simp) (sO:ah (bT [KB,KB+1,KB+2]) args=true:=by simp[ah,af,bT,idx]) (ha:fP (aS (bz [KB,KB+1,KB+2]) args)= .pt KB [] 0::xs:=by simp[aS,aE,bz,idx]) (hv:af (cY 3) v=true:=by simp[af,ah,cY]) (hr:aE (cL [KB,KB+1,KB+2]) v=v:=by simp[aE,aS,cL]):ai Pg s dst f args K t:=ai.mc hA h0 h1 h2 hL hb sO ha hv hr hO h
theorem aci {d:bh} (ht:d.timers.length≤1048575) {ps:List bM} {i:Nat} (hi:i<ps.length) (k n:Int):
  MC 179 [.pt (KB+1) [.i i 464] ps.length,.int .i64 k,.int .i64 n] d ps (.tup []) (uU d (iI d.timers ⟨n,ps[i].b8,k⟩)) ps []:=by
 intro L hL hb;refine ae.intro T.gx (by simp[F.gx]) ?_;have hx:ps[i]? =some ps[i]:=gJ hi;have e:PV.st 34 [.int .i64 n,aG ps[i].b8,.int .i64 k]=bm ⟨n,ps[i].b8,k⟩:=rfl;simp[F.gx,aj,av,MB,hi,e];refine aM.rA (atu ht ⟨n,ps[i].b8,k⟩) ?_;simp;refine aA.with [] [KB,KB+1,KB+2] ?_;simp[dh,uU,hL.refs,hL.aE]
theorem alh {l:List cT} (h:l.length≤1048576) (k:Key) (n:Int):aL Pg 79 [cE l,aG k,.int .i64 n] (cE (bc l k n)):=by
 refine ae.intro (aC R.iX.2) (by simp[R.iX]) ?_;have nG:∀l:List cT,au (l.map bm):=λl=>aF iT l;have rh:uL Pg 58 [.sl 34 (l.map bm) false] 34 (l.map bm):=lV (bytes:=48) (aC R.eH.2) (by omega) (nG l) (by simpa using h) (by omega);have hd:=ali (L:=l) h (g:=162) (q:=λt=> !nX k n t) (v:=aG k) (w:= .int .i64 n) (by simp) (by simp) (λx _=>Y5 x k n);have hf:(l.filter λx=> !!nX k n x)=bc l k n:=by simp only[Bool.not_not];rfl
 rw[hf]at hd;simp[R.iX,aj,av,cE];refine ai.own 8 rh (by simp) (by simp[nG]) (nG l) (by simp) ?_;simp;refine ai.gR [8,4,5] [] [.arr 34 (l.map bm),.box (aG k),.box (.int .i64 n)] hd (by simp[ab,af]) (by simp[az,aE]) ?_;rintro r fp ⟨J,c,⟨hJ,h1,h2⟩,rfl,rfl⟩;have ef:au ((bc l k n).map bm++J):=(nG _).append hJ;have lN:((bc l k n).map bm++J).length=(bc l k n).length+J.length:=by simp
 have kX:((bc l k n).map bm++J).take (bc l k n).length=(bc l k n).map bm:=by rw[JfW (by simp),tJ (by simp)]
 have hle:(bc l k n).length≤((bc l k n).map bm++J).length:=by simp
 generalize hB:(bc l k n).map bm++J=B at ef lN kX hle⊢;refine⟨by simp[ab,af,cY,ef.refs],?_⟩;simp[aI,az,aE,cL,ef.aE];refine aA.plain [.keep [6],.fz 8] ?_;simp[ef.refs];rw[if_pos ⟨lN.symm,hle⟩,kX];simp[nG]
def jV (k:Key):List cT->List Int->List cT
 |T,[]=>T
 |T,n::r=>jV k (bc T k n) r
theorem vM (k:Key):∀(r:List Int) (T:List cT),(jV k T r).length≤T.length
 |[],_=>JaQ _
 |n::r,T=>JeW (vM k r _) (JfZ _ _)
theorem Nl (k:Key) {r:List Int} {i:Nat} (hi:i<r.length):∀T:List cT,jV k T (r.take (i+1))=bc (jV k T (r.take i)) k r[i]:=by
 intro T;rw[JcZ hi];generalize r.take i=q;generalize r[i]=x;induction q generalizing T with
 |nil=>rfl
 |cons n q ih=>exact ih _
theorem yy {d:bh} (ht:d.timers.length≤1048576) {ps:List bM} {i:Nat} (hi:i<ps.length) {ks:List Int} (S5:ks.length≤8):
  MC 116 [.pt (KB+1) [.i i 464] ps.length,.sl 1 (ks.map (PV.int .i64)) false] d ps (.tup []) (uU d (jV ps[i].b8 d.timers ks)) ps []:=by
 intro L hL hb;refine ae.intro (aC R.jF.2) (by simp[R.jF]) ?_;have hx:ps[i]? =some ps[i]:=gJ hi;simp[R.jF,aj,av,MB];refine eW.fM ks.length (λ_=>True) [0,1,8,9,10] (λj=>[(10,.int .i64 j)]) (λj=>[(KB,.box (tq (uU d (jV ps[i].b8 d.timers (ks.take j))) (KB+1) ps.length (KB+2) L.length))]) [.keep [0,1,8,9,10]] ?_;simp[show∀T,jV ps[i].b8 T []=T from λ_=>rfl,show uU d d.timers=d from rfl];refine⟨λj hj K hK=> ?_,λK=> ?_⟩
 ·have hxj:ks[j]? =some ks[j]:=gJ hj;rw[Nl _ hj]at hK;have hle:=vM ps[i].b8 (ks.take j) d.timers;generalize jV ps[i].b8 d.timers (ks.take j)=S at*;have hw:IntKind.i64.wrap ((j:Int)+1)=(j:Int)+1:=wrap_i64 (by omega);simp[↓al,hj,hi,show(uU d S).timers=S from rfl];refine aM.rA (alh (l:=S) (by omega) ps[i].b8 ks[j]) ?_;simp[hw];refine⟨[.keep [0,1,8,9,10]],?_⟩;simp;exact hK _ (by simp[uU])
 ·simp[↓al];refine aA.with [] [KB,KB+1,KB+2] ?_;simp[dh,hL.refs,hL.aE]
theorem Qa {d:bh} (hs:d.aR.length≤1048576) {l:List Int} (hl:l.length≤8) (ps:List bM):MC 155 [ow l] d ps (.tup []) (py d (bY d.aR l)) ps []:=by
 intro L hL hb;refine ae.intro (aC R.lg.2) (by simp[R.lg]) ?_;simp[R.lg,aj,av,MB];refine eW.fM l.length (λ_=>True) [0,6,7,8] (λi=>[(8,.int .i64 i)]) (λi=>[(KB,.box (tq (py d (bY d.aR (l.take i))) (KB+1) ps.length (KB+2) L.length))]) [.keep [0,6,7,8]] ?_;simp[show∀s,bY s []=s from λ_=>rfl,show py d d.aR=d from rfl];refine⟨λi hi K hK=> ?_,λK=> ?_⟩
 ·have hx:l[i]? =some l[i]:=gJ hi;rw[yz hi]at hK;have hle:=kt (l.take i) d.aR;generalize bY d.aR (l.take i)=S at*;have hw:IntKind.i64.wrap ((i:Int)+1)=(i:Int)+1:=wrap_i64 (by omega);simp[↓al,hi];refine ai.rA (alc (l:=S) (by omega) l[i]) ?_;simp[hw];refine⟨[.keep [0,6,7,8]],?_⟩;simp;exact hK _ (by simp[py])
 ·simp[↓al];refine aA.with [] [KB,KB+1,KB+2] ?_;simp[dh,hL.refs,hL.aE]
theorem Y6 {d:bh} {k:Key} (hk:d.random=k.fv) (ps:List bM):MC 84 [] d ps (aG (Gf k.l fa)) (Nn d (uh k.l fa)) ps []:=by
 intro L hL hb;refine ae.intro (aC R.eN.2) (by simp[R.eN]) ?_;have hE:=iy k (input:=fa) (by decide);have hr:d.random.p=aG k:=by rw[hk];rfl
 generalize uh k.l fa=kA at*;generalize Gf k.l fa=kB at*;simp[R.eN,aj,av,MB];have hP:au (ps.map aP):=aF iu ps;generalize ps.map aP=W at*;refine ai.view [KB,KB+1,KB+2] [11] [.box (tq d (KB+1) ps.length (KB+2) L.length),.arr 464 W,.arr 86 L] (bC:=[.rs KB [Step.f 0 0,Step.f 4 75] 0 32 0 1 .clip,aQ fa,.int .i64 2]) (cg:=[.box (tq d (KB+1) ps.length (KB+2) L.length),.arr 464 W,.arr 86 L]) hE (by simp[getAll]) (by simp) (by simp) (by simp[ah,af,bT,idx]) (by simp[ab,bT,idx,hL.refs,hP.refs]) (by simp[aS,aE,bz,idx];rfl) (by simp[az,bz,idx,hL.aE,hP.aE]) ?_ ?_ ?_
 ·refine⟨.inl (.inr ⟨KB,[Step.f 0 0,Step.f 4 75],0,32,0,1,.clip,mB k.l,rfl,?_,(aF (λ_=>by simp[u8]) _).refs _,by omega,rfl⟩),.inl (.inl ⟨rfl,(nT _).refs _⟩),.inl (.inl ⟨rfl,by simp[af]⟩),trivial⟩;simp[av,hr,aG];exact tJ (by simp[k.h])
 ·rintro r new ⟨rfl,rfl⟩;refine⟨⟨by simp[gf,lR],?_⟩,rfl⟩;have nA:=dv kA;have nB:=dv kB;simp only[gf,aG]at nA nB;simp[tU,eG,aG,nA,nB]
 ·rintro r new ⟨rfl,rfl⟩;have rA:∀f,af f (aG kA)=true:=λf=>(jD kA).refs f;have rB:∀f,af f (aG kB)=true:=λf=>(jD kB).refs f;have uA:∀f,aE f (aG kA)=aG kA:=λf=>(jD kA).aE f;have uB:∀f,aE f (aG kB)=aG kB:=λf=>(jD kB).aE f;have e4:∀p,yr d p (aG kA)=aY (Nn d kA) p:=λ_=>rfl;simp[az,aE,aS,cL,ab,ah,cY,aI,hL.refs,hL.aE,hP.refs,hP.aE,e4];refine aA.with [] [KB,KB+1,KB+2] ?_;simp[hL.refs,hL.aE,hP.refs,hP.aE,ab,bT,idx,az]
theorem Qb {d:bh} {k:Key} (hk:d.random=k.fv) (ps:List bM):∃y:Int,(0≤y∧y≤4294967295)∧MC 137 [] d ps (.int .u32 y) (Nn d (uh k.l fa)) ps []:=by
 have hD:=Y6 hk ps;have hR:=dx (l:=(Gf k.l fa).l.take 4) (by rw[lJ];omega);generalize Gf k.l fa=kB at*;generalize uh k.l fa=kA at*;generalize sP (kB.l.take 4) (kB.l.take 4).length=n at*;refine⟨IntKind.u32.wrap n,by simp only[IntKind.wrap,IntKind.bits,IntKind.signed];constructor<;>simp<;>omega,?_⟩;intro L hL hb;refine ae.intro (aC R.jG.2) (by simp[R.jG]) ?_;have hP:au (ps.map aP):=aF iu ps;simp[R.jG,aj,av,MB];refine ai.BG hD hL (by simpa using hb) (by simp) ?_;simp;refine ai.vA (bC:=[.rs KB [] 0 4 0 1 .any]) (args0:=[aQ (kB.l.take 4)]) (cg:=[.box (aG kB)]) [3] [] [.box (aG kB)] hR (by simp[ab]) (by simp[az]) ?_ ?_ ?_
 ·refine⟨.inl (.inr ⟨KB,[],0,4,0,1,.any,(kB.l.take 4).map u8,rfl,?_,(cr _).refs _,by omega,rfl⟩),trivial⟩;simp[av,nW]
 ·rintro r new ⟨rfl,rfl⟩;exact⟨⟨by simp[gf,lR],by simp⟩,rfl⟩
 rintro r new ⟨rfl,rfl⟩;simp[ab,az,aE,aI];refine aA.with [] [KB,KB+1,KB+2] ?_;simp[hL.refs,hL.aE]
theorem acj (p:bM) (k:Key):ae Pg 109 [aP p,.pt KB [] 0] [.box (aG k)] (λr fp=>r= .bl (decide (p.b8=k))∧fp=[.box (aG k)]):=by
 refine ae.intro (aC R.jH.2) (by simp[R.jH]) ?_;simp[R.jH,aj,av,wG];refine aA.with [] [KB] ?_;simp[ab,az]
theorem Y7 (d:bh) {ps:List bM} (hn:ps.length≤1000) {k:Key} {i:Nat} (hi:i<ps.length) (hf:kU (λp=>decide (p.b8=k)) ps=(i:Int)):MC 64 [aG k] d ps (.pt (KB+1) [.i i 464] ps.length) d ps []:=by
 intro L hL hb;have hx:=ak8 (L:=ps) (J:=[]) (c:= .tip) (by omega) (by simp) (g:=109) (q:=λp=>decide (p.b8=k)) (v:=aG k) (by simp) (λp _=>acj p k);rw[hf]at hx;simp at hx;have hP:au (ps.map aP):=aF iu ps;have hl:(ps.map aP).length=ps.length:=JaX _;refine ae.intro (aC R.lh.2) (by simp[R.lh]) ?_;simp[R.lh,aj,av,MB];refine ai.gA [KB+1,3] [] [.arr 464 (ps.map aP),.box (aG k)] hx (by simp[ab]) (by simp[az]) (by simp[ab,af]) ?_;have h0:¬(i:Int)<0:=by omega
 have h1:(i:Int)<ps.length:=by omega
 simp[aI,az,aE,h0,h1];refine aA.with [] [KB,KB+1,KB+2] ?_;simp[hL.refs,hL.aE,bT,idx,bz]
theorem EX {d:bh} (ht:d.timers.length≤1048575) {ps:List bM} {i:Nat} (hi:i<ps.length):
  MC 86 [.pt (KB+1) [.i i 464] ps.length] d ps (.tup []) (if ps[i].iH=0 then d else uU d (iI d.timers ⟨IntKind.i64.wrap (d.now+ps[i].iH),ps[i].b8,4⟩)) ps []:=by
 intro L hL hb;have hS:=aci ht hi 4 (IntKind.i64.wrap (d.now+ps[i].iH));have hx:ps[i]? =some ps[i]:=gJ hi;refine ae.intro (aC R.cP.2) (by simp[R.cP]) ?_;by_cases hk:ps[i].iH=0
 ·simp[R.cP,aj,av,MB,hi,hk];refine aA.with [] [KB,KB+1,KB+2] ?_;simp[dh,hL.refs,hL.aE]
 ·simp[R.cP,aj,av,MB,hi,hk];refine ai.BG hS hL (by simpa using hb) (by simp) ?_;simp;refine aA.with [] [KB,KB+1,KB+2] ?_;simp[dh,hL.refs,hL.aE]
def lG (p:bM) (k:PV) (c:Int) (b:List UInt8):PV:= .st 86 [.int .i64 1,gZ p.ep,aG p.b8,k,.int .u64 c,aQ b,.str []]
theorem alj (d:bh) {ps:List bM} {i:Nat} (hi:i<ps.length) (b:List UInt8):
  MC 144 [.pt (KB+1) [.i i 464] ps.length,aQ b] d ps (.tup []) d ps [lG ps[i] (aG zK) 0 b]:=by
 intro L hL hb;have hx:ps[i]? =some ps[i]:=gJ hi;refine ae.intro T.fS (by simp[F.fS]) ?_;simp[F.fS,aj,av,MB];refine lv.run [] rfl ?_;simp[hi];simp at hb;refine⟨⟨by omega,by omega⟩,?_⟩;have e:PV.st 86 [.int .i64 1,gZ ps[i].ep,aG ps[i].b8,.ar 1 32 (zr 32 (.int .u8 0)),.int .u64 0,aQ b,.str []]=lG ps[i] (aG zK) 0 b:=by rw[te];rfl
 have ep:Pure (lG ps[i] (aG zK) 0 b):=by simp[lG]
 have hLm:au (L++[lG ps[i] (aG zK) 0 b]):=hL.append (by simp[ep]);refine aA.with [] [KB,KB+1,KB+2] ?_;simp[dh,hLm.refs,hLm.aE,e]
theorem Vi (d:bh) {ps:List bM} {i:Nat} (hi:i<ps.length) (hc:ps[i].pj=false):
  MC 143 [.pt (KB+1) [.i i 464] ps.length] d ps (.bl false) d ps []:=by
 intro L hL hb;have hx:ps[i]? =some ps[i]:=gJ hi;refine ae.intro T.fb (by simp[F.fb]) ?_;simp[F.fb,aj,av,MB,hi,hc];refine aA.with [] [KB,KB+1,KB+2] ?_;simp[hL.refs,hL.aE]
def J7 (d:bh) (p:bM):Bool:=p.ring.c.has&&Y2 p.ring.c.mZ d.rules d.now
theorem Ib {d:bh} (h2:0≤d.now) (h3:d.now≤9000000000000000000) {ps:List bM} {i:Nat} (hi:i<ps.length) (tK:0≤ps[i].ring.c.mZ.born):
  MC 111 [.pt (KB+1) [.i i 464] ps.length] d ps (if J7 d ps[i]=true then .pt (KB+1) [.i i 464,.f 13 232,.f 1 77,.f 1 1] ps.length else .np) d ps []:=by
 intro L hL hb;have hU:=Vh (s:=ps[i].ring.c.mZ) (r:=d.rules) tK h2 h3;have hx:ps[i]? =some ps[i]:=gJ hi;unfold J7;refine ae.intro T.dz (by simp[F.dz]) ?_;cases hh:ps[i].ring.c.has
 ·simp[F.dz,aj,av,MB,hi,hh];refine aA.with [] [KB,KB+1,KB+2] ?_;simp[hL.refs,hL.aE,PV.flat]
 ·simp[F.dz,aj,av,MB,hi,hh];refine aM.rA hU ?_;cases hu:Y2 ps[i].ring.c.mZ d.rules d.now
  ·simp;refine aA.with [] [KB,KB+1,KB+2] ?_;simp[hL.refs,hL.aE,PV.flat]
  ·simp;refine aA.with [] [KB,KB+1,KB+2] ?_;simp[hL.refs,hL.aE,bT,idx,bz]
def ot (p:bM):bM:= {p with hand:=yA}
def lW (d:bh) (p:bM):bh:=uU (if p.hand.has=true then py d (bY d.aR [p.hand.loc])else d) (jV p.b8 d.timers [1])
theorem Lw {d:bh} (ht:d.timers.length≤1048576) (hs:d.aR.length≤1048576) {ps:List bM} {i:Nat} (hi:i<ps.length):
  MC 250 [.pt (KB+1) [.i i 464] ps.length] d ps (.tup []) (lW d ps[i]) (ps.set i (ot ps[i])) []:=by
 intro L hL hb;have hx:ps[i]? =some ps[i]:=gJ hi;have hD:=Qa (d:=d) hs (l:=[ps[i].hand.loc]) (by simp) ps
 have hC:∀d:bh,d.timers.length≤1048576->MC 116 [.pt (KB+1) [.i i 464] ps.length,.sl 1 [.int .i64 1] false] d (ps.set i (ot ps[i])) (.tup []) (uU d (jV ps[i].b8 d.timers [1])) (ps.set i (ot ps[i])) []:=by
  intro d ht;have:=yy ht (ps:=ps.set i (ot ps[i])) (i:=i) (by simpa using hi) (ks:=[1]) (by simp);simpa[ot]using this
 have eh:yq ps[i] (.st 100 [.bl false,.int .u32 0,.ar 1 32 (zr 32 (.int .u8 0)),.st 64 [.ar 1 32 (zr 32 (.int .u8 0)),.ar 1 32 (zr 32 (.int .u8 0))],.int .i64 0,.int .i64 0])=aP (ot ps[i]):=rfl;have em:(ps.map aP).set i (aP (ot ps[i]))=(ps.set i (ot ps[i])).map aP:=(JfJ).symm;refine ae.intro (aC R.gH.2) (by simp[R.gH]) ?_;cases hh:ps[i].hand.has
 ·simp[R.gH,aj,av,MB,hi,hh];rw[eh,em];refine ai.BG (hC d ht) hL (by simpa using hb) (by simp) ?_;simp;refine aA.with [] [KB,KB+1,KB+2] ?_;simp[dh,hL.refs,hL.aE,lW,hh]
 ·simp[R.gH,aj,av,MB,hi,hh];refine ai.mc hD (by simp) (by simp) (by simp) hL (by simpa using hb) (by simp[ah,af,bT,idx]) (by simp[aS,aE,bz,idx,ow]) (by simp[af,ah]) (by simp[aE,aS]) (by simp) ?_;simp[hi];rw[eh,em];refine ai.BG (hC (py d (bY d.aR [ps[i].hand.loc])) ht) hL (by simpa using hb) (by simp) ?_;simp;refine aA.with [] [KB,KB+1,KB+2] ?_;simp[dh,hL.refs,hL.aE,lW,hh,show(py d (bY d.aR [ps[i].hand.loc])).timers=d.timers from rfl]
def okT (d:bh) (s:kS):Prop:=s.next<s.fC∧s.next<d.rules.sy∧s.next<18446744073709543423
def Od (p:bM):bM:= {p with ring:= {p.ring with c:= {p.ring.c with mZ:=nxS p.ring.c.mZ}}}
def lj (d:bh) (p:bM):bh:=if p.iH=0 then d else uU d (iI d.timers ⟨IntKind.i64.wrap (d.now+p.iH),p.b8,4⟩)
theorem No {d:bh} (ht:d.timers.length≤1048575) {ps:List bM} {i:Nat} (hi:i<ps.length) {k:Key} (hk:ps[i].ring.c.mZ.send=k.fv) (hr:0≤ps[i].ring.c.mZ.rem∧ps[i].ring.c.mZ.rem≤4294967295) (h0:0≤ps[i].ring.c.mZ.next) (hn:okT d ps[i].ring.c.mZ):
  ∃b:List UInt8,b.length=32∧MC 114 [.pt (KB+1) [.i i 464] ps.length,.pt (KB+1) [.i i 464,.f 13 232,.f 1 77,.f 1 1] ps.length,aQ []] d ps (.tup []) (lj d ps[i]) (ps.set i (Od ps[i])) [lG ps[i] (aG k) ps[i].ring.c.mZ.next b]:=by
 obtain⟨b,tI,hS⟩:=acd hk (lim:=d.rules.sy) hr h0 hn;refine⟨b,tI,?_⟩;intro L hL hb;have hx:ps[i]? =some ps[i]:=gJ hi;refine ae.intro T.dV (by simp[F.dV]) ?_;simp[F.dV,aj,av,MB];refine lv.run [] rfl ?_;simp[hi];refine aM.rA hS ?_;simp;refine lv.run [] rfl ?_;simp[hi];have sN:L.length+1≤1000000:=by simpa using hb
 refine⟨⟨by omega,by omega⟩,?_⟩
 have hT:MC 86 [.pt (KB+1) [.i i 464] ps.length] d (ps.set i (Od ps[i])) (.tup []) (lj d ps[i]) (ps.set i (Od ps[i])) []:=by
  have:=EX ht (ps:=ps.set i (Od ps[i])) (i:=i) (by simpa using hi);simpa[Od,lj]using this
 have e:PV.st 86 [.int .i64 1,gZ ps[i].ep,aG ps[i].b8,ps[i].ring.c.mZ.send.p,.int .u64 ps[i].ring.c.mZ.next,aQ b,.str []]=lG ps[i] (aG k) ps[i].ring.c.mZ.next b:=by rw[hk];rfl
 have ep:Pure (lG ps[i] (aG k) ps[i].ring.c.mZ.next b):=by simp[lG]
 have hLm:au (L++[lG ps[i] (aG k) ps[i].ring.c.mZ.next b]):=hL.append (by simp[ep]);refine ai.mc hT (L:=L++[lG ps[i] (aG k) ps[i].ring.c.mZ.next b]) (by simp) (by simp[Od,JfJ]) (by simp[e]) hLm (by simpa using sN) (by simp[ah,af,bT,idx]) (by simp[aS,aE,bz,idx]) (by simp[af,ah]) (by simp[aE,aS]) (by simp) ?_;simp;refine aA.with [] [KB,KB+1,KB+2] ?_;simp[dh,hLm.refs,hLm.aE]
def byZ (n:Int) (j:Nat):UInt8:=UInt8.ofNat (n.toNat/256^j%256)
def D9 (n:Int) (k:Nat):List UInt8:=(List.range k).map λi=>byZ n (k-1-i)
theorem yB (n:Int) (k:Nat):(D9 n k).length=k:=by simp[D9]
theorem Qc (n:Int) {k i:Nat} (h:i<k):(D9 n k).take (i+1)=(D9 n k).take i++[byZ n (k-1-i)]:=by
 rw[JcZ (by rw[yB];exact h)];simp[D9]
theorem alk {n:Int} (h:0≤n) {j:Nat} (hj:j≤8):IntKind.u8.wrap (n.fdiv (2^min (8*j) 64))=((byZ n j).toNat:Int):=by
 obtain⟨m,rfl⟩:=Int.eq_ofNat_of_zero_le h;have e1:min (8*j) 64=8*j:=by omega
 have e2:(2:Int)^(8*j)=((256^j:Nat):Int):=by rw[Int.pow_mul];simp
 rw[e1,e2,JgW _ (JlJ _),←JlV,IntKind.wrap_u8',byZ,JnW];simp
theorem pQ {n:Int} (hn:0≤n∧n≤18446744073709551615) {k:Nat} (h1:1≤k) (h8:k≤8):aL Pg 210 [.int .u64 n,.int .i64 k] (aQ (D9 n k)):=by
 refine ae.intro (aC R.pQ.2) (by simp[R.pQ]) ?_;have e1:¬((k:Int)<1):=by omega
 have e2:¬((8:Int)<k):=by omega
 have hk:(D9 n k).length=k:=yB n k;have hg:=λi (h:i<k)=>Qc n h;generalize D9 n k=B at*;simp[R.pQ,aj,av,e1,e2];refine eW.fM k (λ_=>True) [0,1,5,13,14] (λi=>[(5,.rs 5 [] 0 i i 1 .tip),(14,.int .i64 i)]) (λi=>[(5,.arr 1 (mB (B.take i)))]) [.keep [0,1,5,13,14],.vt 5 5 1] ?_;simp[show mB ([]:List UInt8)=[] from rfl];refine⟨λi hi K hK=> ?_,λK=> ?_⟩
 ·have jR:(i:Int)<k:=by omega
  have w1:IntKind.i64.wrap ((k:Int)-1)=((k-1:Nat):Int):=by rw[wrap_i64 (by omega)];omega
  have w2:IntKind.i64.wrap (((k-1:Nat):Int)-i)=((k-1-i:Nat):Int):=by rw[wrap_i64 (by omega)];omega
  have w3:IntKind.i64.wrap (8*((k-1-i:Nat):Int))=((8*(k-1-i):Nat):Int):=by rw[wrap_i64 (by omega)];omega
  have w4:IntKind.i64.wrap ((i:Int)+1)=(i:Int)+1:=wrap_i64 (by omega);have hv:=alk hn.1 (j:=k-1-i) (by omega);have hl:(B.take i).length=i:=by rw[lJ];omega
  rw[hg i hi]at hK;generalize B.take i=A at*;generalize k-1-i=j at*;have hA:mB A++[.int .u8 ((byZ n j).toNat:Int)]=mB (A++[byZ n j]):=by simp[mB,u8]
  have hAl:(mB A).length=i:=by simp[mB,hl]
  simp[↓al,jR,w1,w2,w3,w4,hv,hA,hAl,show IntKind.u64.bits=64 from rfl,-Int.natCast_mul];refine⟨⟨by omega,by omega⟩,[.keep [0,1,5,13,14]],?_⟩;simp;exact hK _ (by simp)
 ·have hB:B.take k=B:=by rw[←hk,JcX]
  have hBl:(mB B).length=k:=by simp[mB,hk]
  have hp:au (mB B):=aF (λ_=>by simp[u8]) B;have kX:(mB B).take k=mB B:=by rw[←hBl,JcX]
  simp[↓al];rw[hB];refine aA.plain [.fz 5] ?_;simp[hp.refs,hBl,kX];exact⟨by simp[mB],by simp[mB,aQ]⟩
theorem tOf (t:Int):∃c:List UInt8,c.length=12∧aL Pg 289 [.int .i64 t] (ji c):=by
 by_cases hr:0≤t∧t≤1099511627776
 ·obtain⟨h0,h1⟩:=hr;have q0:t.tdiv 1000=t/1000:=Int.tdiv_eq_ediv_of_nonneg h0;have q1:t.tmod 1000=t%1000:=JlX h0;have b1:=pQ (n:=4611686018427387914+t/1000) ⟨by omega,by omega⟩ (k:=8) (by omega) (by omega);have b2:=pQ (n:=t%1000*1000000) ⟨by omega,by omega⟩ (k:=4) (by omega) (by omega);have l1:=yB (4611686018427387914+t/1000) 8;have l2:=yB (t%1000*1000000) 4;generalize D9 (4611686018427387914+t/1000) 8=A at*;generalize D9 (t%1000*1000000) 4=B at*;have hj:=fh [A,B] (by simp[l1,l2]) (by simp);refine⟨A++B,by simp[l1,l2],?_⟩;rw[show [A,B].flatten=A++B by simp]at hj;have hp:=cr (A++B);have hl:((A++B).map u8).length=12:=by simp[l1,l2]
  have ht:((A++B).map u8).take 12=(A++B).map u8:=tJ (by simp[l1,l2]);refine ae.intro (aC R.xe.2) (by simp[R.xe]) ?_;have n0:¬t<0:=by omega
  have n1:¬(1099511627776:Int)<t:=by omega
  have w1:IntKind.i64.wrap (t/1000)=t/1000:=wrap_i64 (by omega);have w2:IntKind.i64.wrap (4611686018427387914+t/1000)=4611686018427387914+t/1000:=wrap_i64 (by omega);have w3:IntKind.u64.wrap (4611686018427387914+t/1000)=4611686018427387914+t/1000:=wrap_u64 (by omega);have w4:IntKind.i64.wrap (t%1000)=t%1000:=wrap_i64 (by omega);have w5:IntKind.i64.wrap (t%1000*1000000)=t%1000*1000000:=wrap_i64 (by omega);have w6:IntKind.u64.wrap (t%1000*1000000)=t%1000*1000000:=wrap_u64 (by omega);simp[R.xe,aj,av,n0,n1,q0,w1,w2,w3];refine ai.rA b1 ?_;simp[q1,w5,w6];refine ai.rA b2 ?_;simp;refine ai.rA hj ?_;have he:aQ (A++B)= .sl 1 ((A++B).map u8) false:=rfl;rw[he];have hN:ji (A++B)= .ar 1 12 ((A++B).map u8):=rfl;rw[hN];generalize (A++B).map u8=D at*;simp[hl,ht];refine aA.plain [] ?_;simp[hp]
 ·refine⟨List.replicate 12 0,by simp,?_⟩;have hN:ji (List.replicate 12 0)= .ar 1 12 (zr 12 (.int .u8 0)):=by rw[Lu];rfl
  rw[hN];refine ae.intro (aC R.xe.2) (by simp[R.xe]) ?_;by_cases h0:t<0
  ·simp[R.xe,aj,av,h0];refine aA.plain [] ?_;simp
  ·have h1:(1099511627776:Int)<t:=by omega
   simp[R.xe,aj,av,h0,h1];refine aA.plain [] ?_;simp
noncomputable def F.dmi:cZ:=⟨F.De.nt,F.De.res,mP (mP F.De.code [1]) [1,1]⟩
theorem T.dmi:mX Pg [44,103,147,1004006] [] 196=some F.dmi.er:=EY (A:=⟨F.De.nt,F.De.res,mP F.De.code [1]⟩) [1,1] (EY [1] T.De)
theorem Gg:∀l:List UInt8,jr (.i .u8) (l.map u8)=true
 |[]=>rfl
 |x::l=>by simp[jr,u8,Ab.fits,Gg l]
theorem Vj {n:Nat} {l:List UInt8} (h:l.length=n):fits (.ar n (.i .u8)) (bA n l)=true:=by
 simp[bA,Ab.fits,tL,Gg,h]
theorem stl (l:List cT) (t:cT):(iI l t).length≤l.length+1:=by
 have:(bc l t.peer t.kind).length≤l.length:=JfZ _ _;have h2:=BH t (bc l t.peer t.kind);simp only[iI,JaJ,lJ,JbV,JcQ,List.length_nil];omega
structure Qd (d:bh) (p:bM) (k pr:Key) (d':bh) (p':bM) (O:List PV):Prop where
 ok:d.aR.length<32->kN (Gf (uh k.l fa).l fa) p.b8≠zK->kN pr p.b8≠zK->O≠[]
 xf:d'.random=(uh (uh k.l fa).l fa).fv
 Y8:d'.aR.length≤max 32 d.aR.length∧d'.aR.length≤d.aR.length+1
 Vk:d'= {d with random:=d'.random,aR:=d'.aR,timers:=d'.timers}
 Bg:p'= {p with hand:=p'.hand,G1:=p'.G1}
 out:(d'.timers=jV p.b8 d.timers [1]∧p'.hand=yA∧O=[])∨
  (d'.timers=(lj (uU d (iI d.timers ⟨IntKind.i64.wrap (d.now+d.rules.ret),p.b8,1⟩)) p).timers∧p'.hand.has=true∧p'.hand.C0=d.now∧p'.hand.started=(if p.hand.has=true then p.hand.started else d.now)∧∃b:List UInt8,b.length=148∧O=[lG p (aG zK) 0 b])
theorem alo (d:bh) (p:bM):(lj d p).random=d.random:=by unfold lj;split<;>rfl
theorem alp (d:bh) (p:bM):(lj d p).aR=d.aR:=by unfold lj;split<;>rfl
theorem atv (d:bh) (p:bM):lj d p= {d with timers:=(lj d p).timers}:=by unfold lj;split<;>rfl
theorem EZ {d:bh} (ht:d.timers.length≤1000000) (hs:d.aR.length≤1000000) {ps:List bM} {i:Nat} (hi:i<ps.length) {k pr:Key} (hk:d.random=k.fv) (uu:d.ju=pr.fv) (xr:ps[i].pj=false) {ck:List UInt8} (BT:ck.length=16) (Mk:ps[i].rG.p=bA 16 ck):
  ∃(d':bh) (p':bM) (O:List PV),Qd d ps[i] k pr d' p' O∧MC 196 [.pt (KB+1) [.i i 464] ps.length] d ps (.tup []) d' (ps.set i p') O:=by
 obtain⟨y0,hy0,hN⟩:=Qb (d:=if ps[i].hand.has=true then py d (bY d.aR [ps[i].hand.loc])else d) (k:=k) (by split<;>exact hk) ps;obtain⟨ds,hds⟩:∃ds,ds=(if ps[i].hand.has=true then py d (bY d.aR [ps[i].hand.loc])else d):=⟨_,rfl⟩
 obtain⟨sta,aen⟩:∃sta,sta=(if ps[i].hand.has=true then ps[i].hand.started else d.now):=⟨_,rfl⟩
 rw[←hds]at hN
 have s1:ds.aR.length≤d.aR.length:=by
  rw[hds];split
  ·exact kt _ _
  ·exact JaQ _
 have s2:ds= {d with aR:=ds.aR}:=by rw[hds];split<;>rfl
 have sp:ds.ju=d.ju:=by rw[s2]
 have snow:ds.now=d.now:=by rw[s2]
 have srul:ds.rules=d.rules:=by rw[s2]
 have stim:ds.timers=d.timers:=by rw[s2]
 obtain⟨y,R,e1,W6,hR,hy,hT⟩:=ald (l:=ds.aR) (by omega) hy0 ps[i].b8 false;have hT:aL Pg 136 [bK ds.aR,.int .u32 y0,aG ps[i].b8,.bl false] (.tup [bK R,.int .u32 y,.int .i64 e1]):=hT;generalize pV:uh k.l fa=k1 at*;have hD:=Y6 (d:=Nn ds k1) (k:=k1) rfl ps;generalize yT:uh k1.l fa=k2 at*;generalize hep:Gf k1.l fa=ep at*;obtain⟨st,qH,hO⟩:=tOf d.now;obtain⟨y',E,S,U,na,nb,e2,⟨hS,hU⟩,G8,hyy,hI⟩:=alr pr ps[i].b8 ep qH y;obtain⟨d2,G7⟩:∃d2,d2=Nn (Nn ds k1) k2:=⟨_,rfl⟩
 have hx:ps[i]? =some ps[i]:=gJ hi;have hDr:=Qa (d:=d) (by omega:d.aR.length≤1048576) (l:=[ps[i].hand.loc]) (by simp) ps;have hP:au (ps.map aP):=aF iu ps
 --the first part
 have part1:∀(L:List PV),au L->L.length≤1000000->∀(Q:Exit->St->Prop),(∀s',s'=(⟨[(0,.pt KB [] 0),(1,.pt (KB+1) [.i i 464] ps.length),(4,.int .i64 sta)],[(KB,.box (tq ds (KB+1) ps.length (KB+2) L.length)),(KB+1,.arr 464 (ps.map aP)),(KB+2,.arr 86 L)]⟩:St)->True)->True:=λ_ _ _ _ _=>trivial;clear part1;obtain⟨bb,G1,⟨Fk,avB⟩,hM⟩:=acb (M:=wg) (N:=wg) ps[i].b8 false BT hy E hS hU;obtain⟨mF,hmF⟩:∃m:FV JY,m.p=bA 16 G1:=⟨⟨bA 16 G1,Vj avB⟩,rfl⟩
 obtain⟨nF,hnF⟩:∃m:FV PW,m.p=jo na nb:=⟨⟨jo na nb,by simp[jo,Ab.fits,tL,vT,dR,aG,Gg,na.h,nb.h]⟩,rfl⟩
 rw[←hmF]at hM;rw[←hnF]at hI;obtain⟨pG,hpG⟩:∃pG:bM,pG= {ps[i]with G1:=mF,hand:=⟨true,y,ep.fv,nF,sta,d.now⟩}:=⟨_,rfl⟩
 have main:∀(d':bh) (p':bM) (O:List PV),(e1=0∧e2=0->d'=lj (uU (py d2 R) (iI d.timers ⟨IntKind.i64.wrap (d.now+d.rules.ret),ps[i].b8,1⟩)) pG∧p'=pG∧O=[lG pG (aG zK) 0 bb])->(e1≠0∨e2≠0->d'=uU d2 (jV ps[i].b8 d2.timers [1])∧p'=ot ps[i]∧O=[])->MC 196 [.pt (KB+1) [.i i 464] ps.length] d ps (.tup []) d' (ps.set i p') O:=by
  intro d' p' O aod KU L hL hb;refine ae.intro T.dmi (by simp[F.dmi,F.De]) ?_;simp[F.dmi,F.De,mP,aj,av,MB];refine N8.of (λs'=>s'=⟨[(0,.pt KB [] 0),(1,.pt (KB+1) [.i i 464] ps.length),(4,.int .i64 sta)],[(KB,.box (tq ds (KB+1) ps.length (KB+2) L.length)),(KB+1,.arr 464 (ps.map aP)),(KB+2,.arr 86 L)]⟩) ?_ ?_
  ·cases hh:ps[i].hand.has
   ·simp[hi,hh];refine⟨[.keep [0,1,4]],?_⟩;simp[aen,hds,hh]
   ·simp[hi,hh];refine ai.mc hDr (by simp) (by simp) (by simp) hL (by simp at hb⊢;omega) (by simp[ah,af,bT,idx]) (by simp[aS,aE,bz,idx,ow]) (by simp[af,ah]) (by simp[aE,aS]) (by simp) ?_;simp;refine⟨[.keep [0,1,4]],?_⟩;simp[aen,hds,hh]
  ·rintro s' rfl;have hRp:au (R.map aV):=aF gu R;simp;refine N8.of (λs'=>s'=⟨[(0,.pt KB [] 0),(1,.pt (KB+1) [.i i 464] ps.length),(4,.int .i64 sta),(5,bK R),(6,.int .u32 y),(7,.int .i64 e1)],[(KB,.box (tq (Nn ds k1) (KB+1) ps.length (KB+2) L.length)),(KB+1,.arr 464 (ps.map aP)),(KB+2,.arr 86 L)]⟩) ?_ ?_
   ·simp;refine XW.run [KB,KB] rfl rfl rfl ?_;simp[hi];refine⟨?_,?_⟩
    all_goals
     refine ai.BG hN hL (by simp at hb⊢;omega) (by simp) ?_
     simp
     refine aM.ret hT (by simp[show(Nn ds k1).aR=ds.aR from rfl]) (by simp) (by simp) ?_
     simp
     refine⟨[.keep [0,1,4,5,6,7]],?_⟩
     simp
   ·rintro s' rfl;simp;refine ai.BG hD hL (by simp at hb⊢;omega) (by simp) ?_;rw[←G7];have e1p:d2.ju.p=aG pr:=by rw[G7];show ds.ju.p=_;rw[sp,uu];rfl
    have e1n:d2.now=d.now:=by rw[G7];exact snow
    have e1r:d2.rules=d.rules:=by rw[G7];exact srul
    have e1s:d2.timers=d.timers:=by rw[G7];exact stim
    have eh:yq ps[i] (.st 100 [.bl false,.int .u32 0,.ar 1 32 (zr 32 (.int .u8 0)),.st 64 [.ar 1 32 (zr 32 (.int .u8 0)),.ar 1 32 (zr 32 (.int .u8 0))],.int .i64 0,.int .i64 0])=aP (ot ps[i]):=rfl;have em:(ps.map aP).set i (aP (ot ps[i]))=(ps.set i (ot ps[i])).map aP:=(JfJ).symm
    have hC:MC 116 [.pt (KB+1) [.i i 464] ps.length,.sl 1 [.int .i64 1] false] d2 (ps.set i (ot ps[i])) (.tup []) (uU d2 (jV ps[i].b8 d2.timers [1])) (ps.set i (ot ps[i])) []:=by
     have:=yy (d:=d2) (by rw[e1s];omega) (ps:=ps.set i (ot ps[i])) (i:=i) (by simpa using hi) (ks:=[1]) (by simp);simpa[ot]using this
    simp;refine lv.run [] rfl ?_;simp[hi,e1p,e1n];refine aM.rA hO ?_;simp;refine aM.ret hI (by simp) (by simp) (by simp[gU]) ?_;simp[hi];refine⟨λhx1=> ?_,λhx1 A7=> ?_⟩
    ·obtain⟨rfl,rfl,rfl⟩:=KU hx1;rw[eh,em];refine ai.BG hC hL (by simpa using hb) (by simp) ?_;simp;refine aA.with [] [KB,KB+1,KB+2] ?_;simp[dh,hL.refs,hL.aE]
    ·obtain⟨rfl,rfl,rfl⟩:=aod ⟨hx1,A7⟩;obtain rfl:=hyy A7;refine lv.run [] rfl ?_;simp[hi];have hCk:=Vi (py d2 R) hi xr;refine ai.mc hCk (by simp;rfl) (by simp) (by simp) hL (by simp at hb⊢;omega) (by simp[ah,af,bT,idx]) (by simp[aS,aE,bz,idx]) (by simp[af]) (by simp[aE]) (by simp) ?_;simp[Mk];refine⟨rfl,?_⟩;refine aM.ret hM (by simp) (by simp[gU]) (by simp) ?_;simp[hi];have hGp:p'.b8=ps[i].b8:=by rw[hpG]
     have eD:(py d2 R).now=d.now:=e1n
     have hSd:MC 144 [.pt (KB+1) [.i i 464] ps.length,aQ bb] (py d2 R) (ps.set i p') (.tup []) (py d2 R) (ps.set i p') [lG p' (aG zK) 0 bb]:=by
      have:=alj (py d2 R) (ps:=ps.set i p') (i:=i) (by simpa using hi) bb;simpa using this
     have hSt:MC 179 [.pt (KB+1) [.i i 464] ps.length,.int .i64 1,.int .i64 (IntKind.i64.wrap (d.now+d.rules.ret))] (py d2 R) (ps.set i p') (.tup []) (uU (py d2 R) (iI d.timers ⟨IntKind.i64.wrap (d.now+d.rules.ret),ps[i].b8,1⟩)) (ps.set i p') []:=by
      have:=aci (d:=py d2 R) (by show d2.timers.length≤_;rw[e1s];omega) (ps:=ps.set i p') (i:=i) (by simpa using hi) 1 (IntKind.i64.wrap (d.now+d.rules.ret));rw[show(py d2 R).timers=d.timers from e1s]at this;simpa[hGp]using this
     obtain⟨d4,hd4⟩:∃d4,d4=uU (py d2 R) (iI d.timers ⟨IntKind.i64.wrap (d.now+d.rules.ret),ps[i].b8,1⟩):=⟨_,rfl⟩
     rw[←hd4]at hSt
     have hTr:MC 86 [.pt (KB+1) [.i i 464] ps.length] d4 (ps.set i p') (.tup []) (lj d4 p') (ps.set i p') []:=by
      have:=EX (d:=d4) (by rw[hd4];show(iI d.timers _).length≤_;have:=stl d.timers ⟨IntKind.i64.wrap (d.now+d.rules.ret),ps[i].b8,1⟩;omega) (ps:=ps.set i p') (i:=i) (by simpa using hi);simpa[lj]using this
     rw[←hd4];have hOp:au [lG p' (aG zK) 0 bb]:=by simp[lG]
     have ud:=hL.append hOp;have AU:L.length+1≤1000000:=by simpa using hb
     refine ai.mc hSd (by simp) (by simp[hpG,JfJ,eD];rfl) (by simp) hL (by simpa using AU) (by simp[ah,af,bT,idx]) (by simp[aS,aE,bz,idx]) (by simp[af,ah]) (by simp[aE,aS]) hOp ?_;generalize hLd:L++[lG p' (aG zK) 0 bb]=L2 at*;have aeo:L2.length=L.length+1:=by rw[←hLd];simp
     have eR:(py d2 R).rules=d.rules:=e1r;simp[eD,eR];refine ai.mc hSt (L:=L2) (by simp) (by simp[JfJ]) (by simp) ud (by rw[aeo];simpa using AU) (by simp[ah,af,bT,idx]) (by simp[aS,aE,bz,idx]) (by simp[af,ah]) (by simp[aE,aS]) (by simp) ?_;simp;refine ai.mc hTr (L:=L2) (by simp) (by simp[JfJ]) (by simp) ud (by rw[aeo];simpa using AU) (by simp[ah,af,bT,idx]) (by simp[aS,aE,bz,idx]) (by simp[af,ah]) (by simp[aE,aS]) (by simp) ?_;simp;refine aA.with [] [KB,KB+1,KB+2] ?_;simp[dh,ud.refs,ud.aE,aeo]
 have rr:d2.random=k2.fv:=by rw[G7];rfl
 have rs:d2.aR=ds.aR:=by rw[G7];rfl
 have rest:d2= {d with random:=k2.fv,aR:=ds.aR}:=by rw[G7];exact(congrArg (λx=>Nn (Nn x k1) k2) s2).trans rfl
 by_cases KU:e1≠0∨e2≠0
 ·refine⟨_,_,[],⟨?_,?_,?_,?_,rfl,.inl ⟨?_,rfl,rfl⟩⟩,main _ _ [] (λh=>absurd KU (by rw[h.1,h.2];simp)) (λ_=>⟨rfl,rfl,rfl⟩)⟩
  ·intro a1 a2 a3;exfalso;rcases KU with h|h
   ·exact h (W6 (by omega))
   ·exact h (G8 (by rw[pV,hep]at a2;exact a2) a3)
  ·rw[pV,yT];exact rr
  ·constructor<;>(show d2.aR.length≤_;rw[rs];omega)
  ·rw[rest];rfl
  ·show jV ps[i].b8 d2.timers [1]=_;rw[rest]
 ·have hg:e1=0∧e2=0:=by
   constructor
   ·exact Decidable.not_not.1 λh=>KU (.inl h)
   ·exact Decidable.not_not.1 λh=>KU (.inr h)
  refine⟨_,_,_,⟨λ_ _ _=>by simp,?_,?_,?_,?_,.inr ⟨?_,?_,?_,?_,bb,Fk,?_⟩⟩,main _ _ _ (λ_=>⟨rfl,rfl,rfl⟩) (λh=>absurd h KU)⟩
  ·rw[alo,pV,yT];exact rr
  ·rw[alp];constructor<;>(show R.length≤_;omega)
  ·rw[rest];unfold lj;split<;>rfl
  ·rw[hpG]
  ·simp only[lj,hpG,rest];split<;>rfl
  ·rw[hpG]
  ·rw[hpG]
  ·rw[hpG];exact aen
  ·rw[hpG];rfl
def Ic (d:bh) (p:bM):Bool:=p.fD&& !(p.hand.has&&decide (IntKind.i64.wrap (d.now-p.hand.C0)<d.rules.ret))
def Vm (d:bh) (p:bM) (k pr:Key) (d':bh) (p':bM) (O:List PV):Prop:=(Ic d p=false∧d'=d∧p'=p∧O=[])∨(Ic d p=true∧Qd d p k pr d' p' O)
theorem sE {d:bh} {p:bM} {k pr:Key} {d':bh} {p':bM} {O:List PV} (h:Qd d p k pr d' p' O):au O∧O.length≤1:=by
 rcases h.out with⟨_,_,rfl⟩|⟨_,_,_,_,b,_,rfl⟩
 ·simp
 ·simp[lG]
theorem Gh {d:bh} (ht:d.timers.length≤1000000) (hs:d.aR.length≤1000000) {ps:List bM} {i:Nat} (hi:i<ps.length) {k pr:Key} (hk:d.random=k.fv) (uu:d.ju=pr.fv) (xr:ps[i].pj=false) {ck:List UInt8} (BT:ck.length=16) (Mk:ps[i].rG.p=bA 16 ck):
  ∃(d':bh) (p':bM) (O:List PV),Vm d ps[i] k pr d' p' O∧MC 112 [.pt (KB+1) [.i i 464] ps.length] d ps (.tup []) d' (ps.set i p') O:=by
 have hx:ps[i]? =some ps[i]:=gJ hi;cases tK:Ic d ps[i]
 ·refine⟨d,ps[i],[],.inl ⟨tK,rfl,rfl,rfl⟩,?_⟩;intro L hL hb;unfold Ic at tK;refine ae.intro T.SJ (by simp[F.SJ]) ?_;rw[JoX];cases he:ps[i].fD
  ·simp[F.SJ,aj,av,MB,hi,he];refine aA.with [] [KB,KB+1,KB+2] ?_;simp[dh,hL.refs,hL.aE]
  ·rw[he]at tK;cases hh:ps[i].hand.has
   ·rw[hh]at tK;simp at tK
   ·rw[hh]at tK;simp at tK;simp[F.SJ,aj,av,MB,hi,he,hh,tK];refine aA.with [] [KB,KB+1,KB+2] ?_;simp[dh,hL.refs,hL.aE]
 ·obtain⟨d',p',O,hI,hM⟩:=EZ ht hs hi hk uu xr BT Mk;obtain⟨hOp,hOl⟩:=sE hI;refine⟨d',p',O,.inr ⟨tK,hI⟩,?_⟩;intro L hL hb;have ud:=hL.append hOp;unfold Ic at tK;refine ae.intro T.SJ (by simp[F.SJ]) ?_;cases he:ps[i].fD
  ·rw[he]at tK;simp at tK
  ·rw[he]at tK;cases hh:ps[i].hand.has
   ·simp[F.SJ,aj,av,MB,hi,he,hh];refine ai.BG hM hL hb hOp ?_;simp;refine aA.with [] [KB,KB+1,KB+2] ?_;simp[dh,ud.refs,ud.aE]
   ·rw[hh]at tK;have R6:¬IntKind.i64.wrap (d.now-ps[i].hand.C0)<d.rules.ret:=by simpa using tK
    simp[F.SJ,aj,av,MB,hi,he,hh,R6];refine ai.BG hM hL hb hOp ?_;simp;refine aA.with [] [KB,KB+1,KB+2] ?_;simp[dh,ud.refs,ud.aE]
theorem ack {d:bh} {ps:List bM} {i:Nat} (hi:i<ps.length) (he:ps[i].fD=false):MC 148 [.pt (KB+1) [.i i 464] ps.length] d ps (.tup []) d ps []:=by
 intro L hL hb;have hx:ps[i]? =some ps[i]:=gJ hi;refine ae.intro (aC R.bH.2) (by simp[R.bH]) ?_;simp[R.bH,aj,av,MB,hi,he];refine aA.with [] [KB,KB+1,KB+2] ?_;simp[dh,hL.refs,hL.aE]
theorem Qe {d d':bh} {ps:List bM} {i:Nat} (hi:i<ps.length) {p':bM} {O:List PV} (hO:au O) (hK:MC 148 [.pt (KB+1) [.i i 464] ps.length] d ps (.tup []) d' (ps.set i p') O) (ht:d'.timers.length≤1048575):
  MC 158 [.pt (KB+1) [.i i 464] ps.length] d ps (.tup []) (uU d' (iI d'.timers ⟨IntKind.i64.wrap (d'.now+p'.iH),p'.b8,4⟩)) (ps.set i p') O:=by
 intro L hL hb;have hx:ps[i]? =some ps[i]:=gJ hi;have ud:=hL.append hO
 have hS:MC 179 [.pt (KB+1) [.i i 464] ps.length,.int .i64 4,.int .i64 (IntKind.i64.wrap (d'.now+p'.iH))] d' (ps.set i p') (.tup []) (uU d' (iI d'.timers ⟨IntKind.i64.wrap (d'.now+p'.iH),p'.b8,4⟩)) (ps.set i p') []:=by
  have:=aci ht (ps:=ps.set i p') (i:=i) (by simpa using hi) 4 (IntKind.i64.wrap (d'.now+p'.iH));simpa using this
 refine ae.intro (aC R.jj.2) (by simp[R.jj]) ?_;simp[R.jj,aj,av,MB];refine ai.BG hK hL hb hO ?_;simp[hi];refine ai.mc hS (L:=L++O) (by simp) (by simp[JfJ]) (by simp) ud (by simpa using hb) (by simp[ah,af,bT,idx]) (by simp[aS,aE,bz,idx]) (by simp[af,ah]) (by simp[aE,aS]) (by simp) ?_;simp;refine aA.with [] [KB,KB+1,KB+2] ?_;simp[dh,ud.refs,ud.aE]
theorem MC.nsz {f:FuncId} {x y:PV} {sz:Nat} {d:bh} {ps:List bM} {v:PV} {d':bh} {Aj:List bM} {O:List PV} (h:MC f [x,y,.sl sz [] false] d ps v d' Aj O):MC f [x,y,.sl 0 [] false] d ps v d' Aj O:=λL hL hb=>ae.ak4 (sz:=sz) (h L hL hb)
theorem Qg (d:bh) (p:bM):(lj d p).timers.length≤d.timers.length+1:=by
 unfold lj;split
 ·omega
 ·exact stl _ _
theorem acm {s:kS} {d:bh} (h:Y2 s d.rules d.now=true):okT d s:=by
 simp[Y2]at h;exact⟨h.2.1,h.2.2.1,h.2.2.2⟩
def Ie (d:bh) (p:bM) (k pr:Key) (d':bh) (p':bM) (O:List PV):Prop:=
 (p.fD=false∧d'=d∧p'=p∧O=[])∨
 (p.fD=true∧J7 d p=false∧Vm d p k pr d' p' O)∨
 (p.fD=true∧J7 d p=true∧d'=uU (lj d p) (jV p.b8 (lj d p).timers [3])∧p'=Od p∧∃b:List UInt8,b.length=32∧O=[lG p p.ring.c.mZ.send.p p.ring.c.mZ.next b])
theorem Y9 {d:bh} (h0:0≤d.now) (h9:d.now≤9000000000000000000) (ht:d.timers.length≤1000000) (hs:d.aR.length≤1000000) {ps:List bM} {i:Nat} (hi:i<ps.length) {k pr:Key} (hk:d.random=k.fv) (uu:d.ju=pr.fv) (xr:ps[i].pj=false) {ck:List UInt8} (BT:ck.length=16) (Mk:ps[i].rG.p=bA 16 ck)
  (tK:0≤ps[i].ring.c.mZ.born) {sk:Key} (hsk:ps[i].ring.c.mZ.send=sk.fv) (hr:0≤ps[i].ring.c.mZ.rem∧ps[i].ring.c.mZ.rem≤4294967295) (NY:0≤ps[i].ring.c.mZ.next):
  ∃(d':bh) (p':bM) (O:List PV),Ie d ps[i] k pr d' p' O∧(au O∧O.length≤1)∧MC 148 [.pt (KB+1) [.i i 464] ps.length] d ps (.tup []) d' (ps.set i p') O:=by
 have hx:ps[i]? =some ps[i]:=gJ hi;cases he:ps[i].fD
 ·exact⟨d,ps[i],[],.inl ⟨he,rfl,rfl,rfl⟩,by simp,by rw[JoX];exact ack hi he⟩
 ·have hC:=Ib h0 h9 hi tK;cases hc:J7 d ps[i]
  ·rw[hc]at hC;obtain⟨d',p',O,hB,hM⟩:=Gh ht hs hi hk uu xr BT Mk
   have hO:au O∧O.length≤1:=by
    rcases hB with⟨_,_,_,rfl⟩|⟨_,h⟩
    ·simp
    ·exact sE h
   refine⟨d',p',O,.inr (.inl ⟨he,hc,hB⟩),hO,?_⟩;intro L hL hb;have ud:=hL.append hO.1;refine ae.intro (aC R.bH.2) (by simp[R.bH]) ?_;simp[R.bH,aj,av,MB,hi,he];refine ai.BG hC hL (by simp;omega) (by simp) ?_;simp;refine ai.BG hM hL hb hO.1 ?_;simp;refine aA.with [] [KB,KB+1,KB+2] ?_;simp[dh,ud.refs,ud.aE]
  ·rw[hc]at hC
   have hu:Y2 ps[i].ring.c.mZ d.rules d.now=true:=by
    unfold J7 at hc;exact(JpJ.1 hc).2
   obtain⟨b,tI,hT⟩:=No (by omega:d.timers.length≤1048575) hi hsk hr NY (acm hu);have hkp:ps[i].ring.c.mZ.send.p=aG sk:=by rw[hsk];rfl
   rw[←hkp]at hT;have hO:au [lG ps[i] ps[i].ring.c.mZ.send.p ps[i].ring.c.mZ.next b]:=by simp[lG]
   refine⟨_,_,_,.inr (.inr ⟨he,hc,rfl,rfl,b,tI,rfl⟩),⟨hO,by simp⟩,?_⟩
   have avD:MC 116 [.pt (KB+1) [.i i 464] ps.length,.sl 1 [.int .i64 3] false] (lj d ps[i]) (ps.set i (Od ps[i])) (.tup []) (uU (lj d ps[i]) (jV ps[i].b8 (lj d ps[i]).timers [3])) (ps.set i (Od ps[i])) []:=by
    have:=yy (d:=lj d ps[i]) (by have:=Qg d ps[i];omega) (ps:=ps.set i (Od ps[i])) (i:=i) (by simpa using hi) (ks:=[3]) (by simp);simpa[Od]using this
   intro L hL hb;have ud:=hL.append hO;have AU:L.length+1≤1000000:=by simpa using hb
   refine ae.intro (aC R.bH.2) (by simp[R.bH]) ?_;simp[R.bH,aj,av,MB,hi,he];refine ai.BG hC hL (by simp;omega) (by simp) ?_;simp;refine ai.BG hT.nsz hL hb hO ?_;simp;refine ai.mc avD (L:=L++[lG ps[i] ps[i].ring.c.mZ.send.p ps[i].ring.c.mZ.next b]) (by simp) (by simp[JfJ]) (by simp) ud (by simpa using AU) (by simp[ah,af,bT,idx]) (by simp[aS,aE,bz,idx]) (by simp[af,ah]) (by simp[aE,aS]) (by simp) ?_;simp;refine aA.with [] [KB,KB+1,KB+2] ?_;simp[dh,ud.refs,ud.aE]
theorem oy {l:List ue} (h:l.length≤8) (b:Bool):aL Pg 248 [.sl 77 (l.map gY) b] (ow (tW l)):=by
 refine ae.intro (aC R.oy.2) (by simp[R.oy]) ?_;simp[R.oy,aj,av,ow];refine eW.fM l.length (λ_=>True) [2,3,6,7,8] (λi=>[(3,.rs 3 [] 0 (tW (l.take i)).length (tW (l.take i)).length 1 .tip),(8,.int .i64 i)]) (λi=>[(3,.arr 1 ((tW (l.take i)).map (λn:Int=>PV.int .u32 n)))]) [.vt 3 3 1] ?_;simp[show tW []=[] from rfl];refine⟨λi hi K hK=> ?_,λK=> ?_⟩
 ·have hx:l[i]? =some l[i]:=gJ hi;have hlen:=zL (l.take i);have Mc:(l.take i).length≤i:=by rw[lJ];omega
  rw[Ig hi]at hK;generalize tW (l.take i)=out at*;by_cases h1:l[i].has=true
  ·simp[↓al,hi,h1,eI hi (by omega)];refine⟨⟨by omega,by omega⟩,[.keep [2,3,6,7,8],.dr 5],?_⟩;simp[bn,bU,af,ab];exact hK _ (by simp[h1])
  ·simp[↓al,hi,h1,eI hi (by omega)];refine⟨[.keep [2,3,6,7,8],.dr 5],?_⟩;simp[bn,bU,af,ab];exact hK _ (by simp[h1])
 ·simp[↓al];refine aA.plain [.keep [2],.fz 3,.wk 2] ?_;simp
theorem oz (r:rF):aL Pg 251 [gO r] (ow (tW [r.p,r.c,r.n])):=by
 refine ae.intro (aC R.oz.2) (by simp[R.oz]) ?_;simp[R.oz,aj,av];refine ai.rA (oy (l:=[r.p,r.c,r.n]) (by simp) false) ?_;simp;refine aA.plain [] ?_;simp
theorem Vn (l:List ue):(tW l).length≤l.length:=by
 unfold tW;rw[JaX];exact JfZ _ _
def Df (p:bM):bM:= {p with ring:=⟨oN,oN,oN⟩,hand:=yA}
def Gi (d:bh) (p:bM):bh:=let e:=lW (py d (bY d.aR (tW [p.ring.p,p.ring.c,p.ring.n]))) p;uU e (jV p.b8 e.timers [2,3])
theorem als {d:bh} (ht:d.timers.length≤1000000) (hs:d.aR.length≤1000000) {ps:List bM} {i:Nat} (hi:i<ps.length):
  MC 159 [.pt (KB+1) [.i i 464] ps.length] d ps (.tup []) (Gi d ps[i]) (ps.set i (Df ps[i])) []:=by
 intro L hL hb;have hx:ps[i]? =some ps[i]:=gJ hi;have hl:=Vn [ps[i].ring.p,ps[i].ring.c,ps[i].ring.n];have hLo:=oz ps[i].ring;have hD:=Qa (d:=d) (by omega:d.aR.length≤1048576) (l:=tW [ps[i].ring.p,ps[i].ring.c,ps[i].ring.n]) (by simp at hl;omega) ps;have hdl:=kt (tW [ps[i].ring.p,ps[i].ring.c,ps[i].ring.n]) d.aR;refine ae.intro (aC R.ll.2) (by simp[R.ll]) ?_;simp[R.ll,aj,av,MB,hi];refine ai.rA hLo ?_;simp;refine ai.BG hD hL (by simpa using hb) (by simp) ?_;obtain⟨d1,SY⟩:∃d1,d1=py d (bY d.aR (tW [ps[i].ring.p,ps[i].ring.c,ps[i].ring.n])):=⟨_,rfl⟩
 have azL:d1.aR.length≤1000000:=by rw[SY];show(bY d.aR _).length≤_;omega
 have azM:d1.timers.length≤1000000:=by rw[SY];exact ht
 rw[←SY];obtain⟨p1,Jd⟩:∃p1:bM,p1= {ps[i]with ring:=⟨oN,oN,oN⟩}:=⟨_,rfl⟩
 have e1:lW d1 p1=lW d1 ps[i]:=by rw[Jd];rfl
 have e2:ot p1=Df ps[i]:=by rw[Jd];rfl
 have e3:p1.b8=ps[i].b8:=by rw[Jd]
 have hF:MC 250 [.pt (KB+1) [.i i 464] ps.length] d1 (ps.set i p1) (.tup []) (lW d1 ps[i]) (ps.set i (Df ps[i])) []:=by
  have:=Lw (d:=d1) (by omega) (by omega) (ps:=ps.set i p1) (i:=i) (by simpa using hi);simpa[e1,e2]using this
 have Z8:(lW d1 ps[i]).timers.length≤1000000:=by
  have h1:=vM ps[i].b8 [1] d1.timers;show(jV ps[i].b8 d1.timers [1]).length≤_;omega
 have hCn:MC 116 [.pt (KB+1) [.i i 464] ps.length,.sl 1 [.int .i64 2,.int .i64 3] false] (lW d1 ps[i]) (ps.set i (Df ps[i])) (.tup []) (Gi d ps[i]) (ps.set i (Df ps[i])) []:=by
  have:=yy (d:=lW d1 ps[i]) (by omega) (ps:=ps.set i (Df ps[i])) (i:=i) (by simpa using hi) (ks:=[2,3]) (by simp);unfold Gi;rw[←SY];simpa[show(Df ps[i]).b8=ps[i].b8 from rfl]using this
 have em:∀v,sB ps[i] v=aP p1->(ps.map aP).set i (sB ps[i] v)=(ps.set i p1).map aP:=by
  intro v hv;rw[hv];exact(JfJ).symm
 simp[hi];rw[em _ (by rw[Jd];rfl)];refine ai.BG hF hL (by simpa using hb) (by simp) ?_;simp;refine ai.mc hCn (by simp) (by simp[JfJ]) (by simp) hL (by simpa using hb) (by simp[ah,af,bT,idx]) (by simp[aS,aE,bz,idx]) (by simp[af,ah]) (by simp[aE,aS]) (by simp) ?_;simp;refine aA.with [] [KB,KB+1,KB+2] ?_;simp[dh,hL.refs,hL.aE]
def Gj (m:cT) (l:List cT):cT:=l.foldl (λm t=>if dW t m=true then t else m) m
theorem Qh {m:cT} {l:List cT} {i:Nat} (h:i<l.length):Gj m (l.take (i+1))=if dW l[i] (Gj m (l.take i))=true then l[i]else Gj m (l.take i):=by
 rw[JcZ h,Gj,List.foldl_append];rfl
def zT:cT:=⟨0,zK,0⟩
theorem alu:PV.st 34 [.int .i64 0,.ar 1 32 (zr 32 (.int .u8 0)),.int .i64 0]=bm zT:=by rw[te];rfl
def Np (l:List cT) (to:Int):cT×Bool:=match l with
 |[]=>(zT,false)
 |t::r=>if(Gj t r).at_≤to then(Gj t r,true)else(zT,false)
theorem alv {l:List cT} (hl:l.length≤1000000) (to:Int):aL Pg 78 [cE l,.int .i64 to] (.tup [bm (Np l to).1,.bl (Np l to).2]):=by
 refine ae.intro (aC R.vN.2) (by simp[R.vN]) ?_;cases l with
 |
  nil=>
  simp[R.vN,aj,av,Np]
  refine aA.plain [] ?_
  simp[alu]
 |
  cons t r=>
  simp at hl
  simp[R.vN,aj,av,Np,cE]
  refine⟨λh=>by omega,λ_=>⟨by omega,?_⟩⟩
  refine eW.fM r.length (λ_=>True) [1,4,5,6,17,18,19] (λi=>[(19,.int .i64 i)]) (λi=>[(6,.box (bm (Gj t (r.take i))))]) [.keep [1,4,5,6,17,18,19]] ?_
  simp[show Gj t []=t from rfl]
  refine⟨λi hi K hK=> ?_,λK=> ?_⟩
  ·have hx:r[i]? =some r[i]:=gJ hi
   have hw:IntKind.i64.wrap ((i:Int)+1)=(i:Int)+1:=wrap_i64 (by omega)
   rw[Qh hi]at hK
   have hle:=Za r[i] (Gj t (r.take i))
   generalize Gj t (r.take i)=m at*
   simp[↓al,hi]
   refine ai.rA hle ?_
   cases hc:dW r[i] m
   ·rw[hc]at hK
    simp[hw]
    refine⟨[.keep [1,4,5,6,17,18,19],.dr 8],?_⟩
    simp
    exact hK _ (by simp)
   ·rw[hc]at hK
    simp[hw]
    refine⟨[.keep [1,4,5,6,17,18,19],.dr 8],?_⟩
    simp
    exact hK _ (by simp)
  ·simp[↓al]
   generalize Gj t r=m at*
   by_cases hm:m.at_≤to
   ·have hn:¬to<m.at_:=by omega
    simp[hm,hn]
    refine aA.plain [] ?_
    simp[hm]
   ·have hn:to<m.at_:=by omega
    simp[hm,hn]
    refine aA.plain [] ?_
    simp[alu,show¬m.at_≤to by omega]
def Vo (b:Nat):aU:= .map b (.i .i64) .b [(.int .i64 1,.fn (.func 157) [] []),(.int .i64 2,.fn (.func 112) [] []),(.int .i64 3,.fn (.func 148) [] []),(.int .i64 4,.fn (.func 158) [] []),(.int .i64 5,.fn (.func 159) [] [])]
theorem Vp:ae Pg 77 [] [] (λr fp=>∃b,r= .mp 1 b∧fp=[Vo b]):=by
 refine ae.intro (aC R.rM.2) (by simp[R.rM]) ?_;simp[R.rM,aj,av];intro b;simp[ei,msP,vU,PV.beq];simp[Ab.fits,oL];refine aA.with [] [1] ?_;simp[ab,az,Vo];simp only[ei];simp only[PV.flat,af,aE];exact⟨⟨trivial,trivial⟩,trivial⟩
noncomputable def F.drt:cZ:=⟨R.Nq.1.nt,R.Nq.1.res,mP R.Nq.1.code [1,1]⟩
theorem T.drt:mX Pg [] [] 157=some F.drt.er:=EY [1,1] (aC R.Nq.2)
def J8 (d:bh) (p:bM):Bool:=decide (IntKind.i64.wrap (d.now-p.hand.started)<d.rules.Yn)
def Dg (p:bM):bM:= {p with hand:=yA,ej:=[]}
def Vq (d:bh) (p:bM):bh:=uU (lW d p) (jV p.b8 (lW d p).timers [2,3])
def acn (d:bh) (p:bM) (k pr:Key) (d':bh) (p':bM) (O:List PV):Prop:=(J8 d p=true∧Qd d p k pr d' p' O)∨(J8 d p=false∧d'=Vq d p∧p'=Dg p∧O=[])
theorem yQ.st0 {l:List PV} {i:Nat} (hi:i<l.length) {p q:PV} (h:yQ [p] [q]):yQ (l.set i p) (l.set i q):=by
 induction l generalizing i with
 |nil=>simp at hi
 |
  cons x l ih=>
  cases i with
  |
   zero=>
   simp only[JqW]
   cases h with
   |same _=>exact .refl _
   |emp _=>exact .emp (.refl _)
   |st h _=>exact .st h (.refl _)
  |
   succ i=>
   simp only[List.set_cons_succ]
   exact .same (ih (by simpa using hi))
theorem aco {d:bh} (ht:d.timers.length≤1000000) (hs:d.aR.length≤1000000) {ps:List bM} {i:Nat} (hi:i<ps.length) {k pr:Key} (hk:d.random=k.fv) (uu:d.ju=pr.fv) (xr:ps[i].pj=false) {ck:List UInt8} (BT:ck.length=16) (Mk:ps[i].rG.p=bA 16 ck):
  ∃(d':bh) (p':bM) (O:List PV),acn d ps[i] k pr d' p' O∧(au O∧O.length≤1)∧MC 157 [.pt (KB+1) [.i i 464] ps.length] d ps (.tup []) d' (ps.set i p') O:=by
 have hx:ps[i]? =some ps[i]:=gJ hi;by_cases hr:IntKind.i64.wrap (d.now-ps[i].hand.started)<d.rules.Yn
 ·obtain⟨d',p',O,hI,hM⟩:=EZ ht hs hi hk uu xr BT Mk;have hO:=sE hI;refine⟨d',p',O,.inl ⟨by simp[J8,hr],hI⟩,hO,?_⟩;intro L hL hb;have ud:=hL.append hO.1;refine ae.intro (aC R.ku.2) (by simp[R.ku]) ?_;simp[R.ku,aj,av,MB,hi,hr];refine ai.BG hM hL hb hO.1 ?_;simp;refine aA.with [] [KB,KB+1,KB+2] ?_;simp[dh,ud.refs,ud.aE]
 ·refine⟨_,_,[],.inr ⟨by simp[J8,hr],rfl,rfl,rfl⟩,by simp,?_⟩;have hF:=Lw (d:=d) (by omega) (by omega) hi
  have Z8:(lW d ps[i]).timers.length≤1000000:=by
   have h1:=vM ps[i].b8 [1] d.timers;show(jV ps[i].b8 d.timers [1]).length≤_;omega
  have hCn:MC 116 [.pt (KB+1) [.i i 464] ps.length,.sl 1 [.int .i64 2,.int .i64 3] false] (lW d ps[i]) (ps.set i (Dg ps[i])) (.tup []) (Vq d ps[i]) (ps.set i (Dg ps[i])) []:=by
   have:=yy (d:=lW d ps[i]) (by omega) (ps:=ps.set i (Dg ps[i])) (i:=i) (by simpa using hi) (ks:=[2,3]) (by simp);simpa[Vq,show(Dg ps[i]).b8=ps[i].b8 from rfl]using this
  intro L hL hb;refine ae.intro T.drt (by simp[F.drt,R.Nq]) ?_;simp[F.drt,R.Nq,mP,aj,av,MB,hi,hr];refine ai.BG hF hL (by simpa using hb) (by simp) ?_;simp
  have eS:yQ [nV (ot ps[i]) (.sl 0 [] false)] [aP (Dg ps[i])]:=by
   refine .st ?_ .nil;repeat (first|exact yQ.emp .nil|refine yQ.same ?_)
  refine N8.of (λs'=>s'=⟨[(0,.pt KB [] 0),(1,.pt (KB+1) [.i i 464] ps.length)],[(KB,.box (tq (lW d ps[i]) (KB+1) ps.length (KB+2) L.length)),(KB+1,.arr 464 ((ps.map aP).set i (aP (Dg ps[i])))),(KB+2,.arr 86 L)]⟩) ?_ ?_
  ·simp[hi];refine⟨[.keep [0,1],.es (KB+1) ((ps.map aP).set i (aP (Dg ps[i])))],?_⟩;simp;exact yQ.st0 (by simpa using hi) eS
  ·rintro s' rfl;simp;refine ai.mc hCn (by simp) (by simp[JfJ]) (by simp) hL (by simpa using hb) (by simp[ah,af,bT,idx]) (by simp[aS,aE,bz,idx]) (by simp[af,ah]) (by simp[aE,aS]) (by simp) ?_;simp;refine aA.with [] [KB,KB+1,KB+2] ?_;simp[dh,hL.refs,hL.aE]
end Go.Ab
