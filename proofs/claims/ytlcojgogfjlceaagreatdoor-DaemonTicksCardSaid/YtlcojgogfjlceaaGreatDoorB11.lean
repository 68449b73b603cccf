/- Functions of the program and of the document, as the abstract reading walks them, part 11. No condition. -/
import Derived.Test.YtlcojgogfjlceaaGreatDoorB10
import Derived.Test.YtlcojgogfjlceaaGreatDoorB9
import Derived.Laws.BitsAllLaws
set_option maxRecDepth 20000
set_option maxHeartbeats 2000000
set_option linter.all false
noncomputable section
namespace Go.Ab
def tN (d:bc) (k1 n k2 m:Nat):PV:= .st 149 [aZ d (.rs k1 [] 0 n n 464 .tip),.rs k2 [] 0 m m 86 .tip]
@[simp↓] theorem ahc (d:bc) (k1 n k2 m:Nat) (r:List Step):aM (tN d k1 n k2 m) (.f 0 0::r)=aM (aZ d (.rs k1 [] 0 n n 464 .tip)) r:=by simp[tN]
@[simp↓] theorem ahd (d:bc) (k1 n k2 m:Nat) (r:List Step):aM (tN d k1 n k2 m) (.f 1 148::r)=aM (.rs k2 [] 0 m m 86 .tip) r:=by simp[tN,aB]
def J7 (c:PV) (k2 m:Nat):PV:= .st 149 [c,.rs k2 [] 0 m m 86 .tip]
def J8 (d:bc) (k1 n:Nat) (c:PV):PV:= .st 149 [aZ d (.rs k1 [] 0 n n 464 .tip),c]
@[simp↓] theorem ahe (d:bc) (k1 n k2 m:Nat) (r:List Step) (x:PV):bT (tN d k1 n k2 m) (.f 0 0::r) x=(bT (aZ d (.rs k1 [] 0 n n 464 .tip)) r x).bind λc=>some (J7 c k2 m):=by simp[tN,J7]
@[simp↓] theorem ahf (d:bc) (k1 n k2 m:Nat) (r:List Step) (x:PV):bT (tN d k1 n k2 m) (.f 1 148::r) x=(bT (.rs k2 [] 0 m m 86 .tip) r x).bind λc=>some (J8 d k1 n c):=by simp[tN,J8,aB]
@[simp↓] theorem alL (d:bc) (k1 n k2 m:Nat):J7 (aZ d (.rs k1 [] 0 n n 464 .tip)) k2 m=tN d k1 n k2 m:=_root_.id rfl
@[simp↓] theorem alM (d:bc) (k1 n k2 m:Nat):J8 d k1 n (.rs k2 [] 0 m m 86 .tip)=tN d k1 n k2 m:=_root_.id rfl
@[simp] theorem alN (f:Nat->Bool) (d:bc) (k1 n k2 m:Nat):af f (tN d k1 n k2 m)=(f k1&&f k2):=by simp[tN,af,ah]
@[simp] theorem aq5 (ρ:Nat->Nat) (d:bc) (k1 n k2 m:Nat):aE ρ (tN d k1 n k2 m)=tN d (ρ k1) n (ρ k2) m:=by simp[tN,aE,aR]
def MB (d:bc) (ps:List bO) (L:List PV):List aV:=[.box (tN d (KB+1) ps.length (KB+2) L.length),.arr 464 (ps.map aQ),.arr 86 L]
theorem ai.mo {P:Program} {s:St} {dst:Option Nat} {f:FuncId} {args bC:List PV} {d:bc} {ps:List bO} {L:List PV} {R:PV->List aV->Prop} {K:St->Prop} {t:Tg K} (k0 k1 k2:Nat)
  (hA:ae P f bC (MB d ps L) R) (h0:get s.bx k0=some (.box (tN d k1 ps.length k2 L.length))) (h1:get s.bx k1=some (.arr 464 (ps.map aQ))) (h2:get s.bx k2=some (.arr 86 L))
  (hn:[k0,k1,k2].Nodup) (hL:an L) (td:ah (bR [k0,k1,k2]) args=true) (ha:fI (aR (bz [k0,k1,k2]) args)=bC)
  (h:∀r fp,R r fp->∃d' Be L',fp=MB d' Be L'∧Pure r∧an L'∧K ({s with bx:=put (put (put s.bx k0 (.box (tN d' k1 Be.length k2 L'.length))) k1 (.arr 464 (Be.map aQ))) k2 (.arr 86 L')}.put dst r)):ai P s dst f args K t:=by
 subst ha;have h01:k0≠k1:=by intro e;subst e;simp at hn
 have h02:k0≠k2:=by intro e;subst e;simp at hn
 have Hh:k1≠k2:=by intro e;subst e;simp at hn
 have i1:idx [k0,k1,k2] k1=some 1:=by simp[idx,h01]
 have i2:idx [k0,k1,k2] k2=some 2:=by simp[idx,h02,Hh]
 have aeI:([.box (tN d k1 ps.length k2 L.length),.arr 464 (ps.map aQ),.arr 86 L]:List aV).map (az (bz [k0,k1,k2]))=MB d ps L:=by
  simp[az,bz,i1,i2,hL.aE,MB]
 refine⟨[k0,k1,k2],[],[.box (tN d k1 ps.length k2 L.length),.arr 464 (ps.map aQ),.arr 86 L],R,by simp[getAll,h0,h1,h2],by simpa using hn,by simp,td,?_,ae.X6 (by rw[aeI];exact hA),?_⟩
 ·simp[ab,bR,i1,i2,hL.refs]
 ·intro r fp hR;obtain⟨d',Be,L',rfl,hr,hL',hK⟩:=h r fp hR;refine⟨⟨rfl,hr.refs _,by simp[MB,ab,c9,hL'.refs]⟩,?_⟩;simpa[aI,MB,az,cU,hr.aE,hL'.aE,(aF iw Be).aE]using hK
def MC (f:FuncId) (xs:List PV) (d:bc) (ps:List bO) (v:PV) (d':bc) (Be:List bO) (O:List PV):Prop:=∀L:List PV,an L->L.length+O.length≤1000000->ae Pg f (.pt KB [] 0::xs) (MB d ps L) (λr fp=>r=v∧fp=MB d' Be (L++O))
theorem ai.mc {s:St} {dst:Option Nat} {f:FuncId} {args:List PV} {xs:List PV} {d:bc} {ps:List bO} {v:PV} {d':bc} {Be:List bO} {O L:List PV} {K:St->Prop} {t:Tg K} (hA:MC f xs d ps v d' Be O) (h0:get s.bx KB=some (.box (tN d (KB+1) ps.length (KB+2) L.length))) (h1:get s.bx (KB+1)=some (.arr 464 (ps.map aQ))) (h2:get s.bx (KB+2)=some (.arr 86 L))
  (hL:an L) (hb:L.length+O.length≤1000000) (td:ah (bR [KB,KB+1,KB+2]) args=true) (ha:fI (aR (bz [KB,KB+1,KB+2]) args)= .pt KB [] 0::xs) (hv:af (c9 3) v=true) (hr:aE (cU [KB,KB+1,KB+2]) v=v) (hO:an O)
  (h:K ({s with bx:=put (put (put s.bx KB (.box (tN d' (KB+1) Be.length (KB+2) (L++O).length))) (KB+1) (.arr 464 (Be.map aQ))) (KB+2) (.arr 86 (L++O))}.put dst v)):ai Pg s dst f args K t:=by
 have ux:=hL.append hO
 have aeI:([.box (tN d (KB+1) ps.length (KB+2) L.length),.arr 464 (ps.map aQ),.arr 86 L]:List aV).map (az (bz [KB,KB+1,KB+2]))=MB d ps L:=by
  simp[az,bz,idx,hL.aE,MB]
 refine⟨[KB,KB+1,KB+2],[],[.box (tN d (KB+1) ps.length (KB+2) L.length),.arr 464 (ps.map aQ),.arr 86 L],_,by simp[getAll,h0,h1,h2],by simp,by simp,td,?_,ae.X6 (by rw[ha,aeI];exact hA L hL hb),?_⟩
 ·simp[ab,bR,idx,hL.refs]
 ·rintro r fp ⟨rfl,rfl⟩;refine⟨⟨rfl,hv,by simp[MB,ab,c9,ux.refs]⟩,?_⟩;rw[JgV,hr];simpa[aI,MB,az,cU,ux.aE,(aF iw Be).aE]using h
theorem ai.BP {s:St} {dst:Option Nat} {f:FuncId} {args:List PV} {xs:List PV} {d:bc} {ps:List bO} {v:PV} {d':bc} {Be:List bO} {O L:List PV} {K:St->Prop} {t:Tg K} (hA:MC f xs d ps v d' Be O) (hL:an L) (hb:L.length+O.length≤1000000) (hO:an O) (h:K ({s with bx:=put (put (put s.bx KB (.box (tN d' (KB+1) Be.length (KB+2) (L++O).length))) (KB+1) (.arr 464 (Be.map aQ))) (KB+2) (.arr 86 (L++O))}.put dst v)) (h0:get s.bx KB=some (.box (tN d (KB+1) ps.length (KB+2) L.length)):=by simp) (h1:get s.bx (KB+1)=some (.arr 464 (ps.map aQ)):=by simp) (h2:get s.bx (KB+2)=some (.arr 86 L):=by simp) (td:ah (bR [KB,KB+1,KB+2]) args=true:=by simp[ah,af,bR,idx]) (ha:fI (aR (bz [KB,KB+1,KB+2]) args)= .pt KB [] 0::xs:=by simp[aR,aE,bz,idx]) (hv:af (c9 3) v=true:=by simp[af,ah,c9]) (hr:aE (cU [KB,KB+1,KB+2]) v=v:=by simp[aE,aR,cU]):ai Pg s dst f args K t:=ai.mc hA h0 h1 h2 hL hb td ha hv hr hO h
theorem acL {d:bc} (ht:d.timers.length≤1048575) {ps:List bO} {i:Nat} (hi:i<ps.length) (k n:Int):
  MC 179 [.pt (KB+1) [.i i 464] ps.length,.int .i64 k,.int .i64 n] d ps (.tup []) (wg d (ji d.timers ⟨n,ps[i].cH,k⟩)) ps []:=by
 intro L hL hb;refine ae.intro T.gF (by simp[F.gF]) ?_;have hx:ps[i]? =some ps[i]:=gJ hi;have e:PV.st 34 [.int .i64 n,aG ps[i].cH,.int .i64 k]=bj ⟨n,ps[i].cH,k⟩:=rfl;simp[F.gF,aj,av,MB,hi,e];refine aN.rA (at8 ht ⟨n,ps[i].cH,k⟩) ?_;simp;refine aA.with [] [KB,KB+1,KB+2] ?_;simp[dj,wg,hL.refs,hL.aE]
theorem alO {l:List cV} (h:l.length≤1048576) (k:Key) (n:Int):aK Pg 79 [cC l,aG k,.int .i64 n] (cC (bg l k n)):=by
 refine ae.intro (aC R.iY.2) (by simp[R.iY]) ?_;have oT:∀l:List cV,an (l.map bj):=λl=>aF iT l;have rD:u9 Pg 58 [.sl 34 (l.map bj) false] 34 (l.map bj):=me (bytes:=48) (aC R.eN.2) (by omega) (oT l) (by simpa using h) (by omega);have hd:=alP (L:=l) h (g:=162) (q:=λt=> !oE k n t) (v:=aG k) (w:= .int .i64 n) (by simp) (by simp) (λx _=>Zv x k n);have hf:(l.filter λx=> !!oE k n x)=bg l k n:=by simp only[Bool.not_not];rfl
 rw[hf]at hd;simp[R.iY,aj,av,cC];refine ai.own 8 rD (by simp) (by simp[oT]) (oT l) (by simp) ?_;simp;refine ai.gR [8,4,5] [] [.arr 34 (l.map bj),.box (aG k),.box (.int .i64 n)] hd (by simp[ab,af]) (by simp[az,aE]) ?_;rintro r fp ⟨J,c,⟨hJ,h1,h2⟩,rfl,rfl⟩;have eE:an ((bg l k n).map bj++J):=(oT _).append hJ;have lY:((bg l k n).map bj++J).length=(bg l k n).length+J.length:=by simp
 have lW:((bg l k n).map bj++J).take (bg l k n).length=(bg l k n).map bj:=by rw[JfW (by simp),tJ (by simp)]
 have hle:(bg l k n).length≤((bg l k n).map bj++J).length:=by simp
 generalize hB:(bg l k n).map bj++J=B at eE lY lW hle⊢;refine⟨by simp[ab,af,c9,eE.refs],?_⟩;simp[aI,az,aE,cU,eE.aE];refine aA.plain [.keep [6],.fz 8] ?_;simp[eE.refs];rw[if_pos ⟨lY.symm,hle⟩,lW];simp[oT]
def kU (k:Key):List cV->List Int->List cV
 |T,[]=>T
 |T,n::r=>kU k (bg T k n) r
theorem wh (k:Key):∀(r:List Int) (T:List cV),(kU k T r).length≤T.length
 |[],_=>JaQ _
 |n::r,T=>JeW (wh k r _) (JfZ _ _)
theorem Nw (k:Key) {r:List Int} {i:Nat} (hi:i<r.length):∀T:List cV,kU k T (r.take (i+1))=bg (kU k T (r.take i)) k r[i]:=by
 intro T;rw[JcZ hi];generalize r.take i=q;generalize r[i]=x;induction q generalizing T with
 |nil=>rfl
 |cons n q ih=>exact ih _
theorem yJ {d:bc} (ht:d.timers.length≤1048576) {ps:List bO} {i:Nat} (hi:i<ps.length) {ks:List Int} (Tm:ks.length≤8):
  MC 116 [.pt (KB+1) [.i i 464] ps.length,.sl 1 (ks.map (PV.int .i64)) false] d ps (.tup []) (wg d (kU ps[i].cH d.timers ks)) ps []:=by
 intro L hL hb;refine ae.intro (aC R.jK.2) (by simp[R.jK]) ?_;have hx:ps[i]? =some ps[i]:=gJ hi;simp[R.jK,aj,av,MB];refine eW.fD ks.length (λ_=>True) [0,1,8,9,10] (λj=>[(10,.int .i64 j)]) (λj=>[(KB,.box (tN (wg d (kU ps[i].cH d.timers (ks.take j))) (KB+1) ps.length (KB+2) L.length))]) [.keep [0,1,8,9,10]] ?_;simp[show∀T,kU ps[i].cH T []=T from λ_=>rfl,show wg d d.timers=d from rfl];refine⟨λj hj K hK=> ?_,λK=> ?_⟩
 ·have hxj:ks[j]? =some ks[j]:=gJ hj;rw[Nw _ hj]at hK;have hle:=wh ps[i].cH (ks.take j) d.timers;generalize kU ps[i].cH d.timers (ks.take j)=S at*;have hw:IntKind.i64.wrap ((j:Int)+1)=(j:Int)+1:=wrap_i64 (by omega);simp[↓al,hj,hi,show(wg d S).timers=S from rfl];refine aN.rA (alO (l:=S) (by omega) ps[i].cH ks[j]) ?_;simp[hw];refine⟨[.keep [0,1,8,9,10]],?_⟩;simp;exact hK _ (by simp[wg])
 ·simp[↓al];refine aA.with [] [KB,KB+1,KB+2] ?_;simp[dj,hL.refs,hL.aE]
theorem Qu {d:bc} (hs:d.aS.length≤1048576) {l:List Int} (hl:l.length≤8) (ps:List bO):MC 155 [oC l] d ps (.tup []) (pH d (cE d.aS l)) ps []:=by
 intro L hL hb;refine ae.intro (aC R.lq.2) (by simp[R.lq]) ?_;simp[R.lq,aj,av,MB];refine eW.fD l.length (λ_=>True) [0,6,7,8] (λi=>[(8,.int .i64 i)]) (λi=>[(KB,.box (tN (pH d (cE d.aS (l.take i))) (KB+1) ps.length (KB+2) L.length))]) [.keep [0,6,7,8]] ?_;simp[show∀s,cE s []=s from λ_=>rfl,show pH d d.aS=d from rfl];refine⟨λi hi K hK=> ?_,λK=> ?_⟩
 ·have hx:l[i]? =some l[i]:=gJ hi;rw[yK hi]at hK;have hle:=kC (l.take i) d.aS;generalize cE d.aS (l.take i)=S at*;have hw:IntKind.i64.wrap ((i:Int)+1)=(i:Int)+1:=wrap_i64 (by omega);simp[↓al,hi];refine ai.rA (alJ (l:=S) (by omega) l[i]) ?_;simp[hw];refine⟨[.keep [0,6,7,8]],?_⟩;simp;exact hK _ (by simp[pH])
 ·simp[↓al];refine aA.with [] [KB,KB+1,KB+2] ?_;simp[dj,hL.refs,hL.aE]
theorem Zw {d:bc} {k:Key} (hk:d.random=k.fv) (ps:List bO):MC 84 [] d ps (aG (Gm k.l fj)) (Nx d (uD k.l fj)) ps []:=by
 intro L hL hb;refine ae.intro (aC R.eV.2) (by simp[R.eV]) ?_;have hE:=iA k (input:=fj) (by decide);have hr:d.random.p=aG k:=by rw[hk];rfl
 generalize uD k.l fj=kA at*;generalize Gm k.l fj=kB at*;simp[R.eV,aj,av,MB];have hP:an (ps.map aQ):=aF iw ps;generalize ps.map aQ=W at*;refine ai.view [KB,KB+1,KB+2] [11] [.box (tN d (KB+1) ps.length (KB+2) L.length),.arr 464 W,.arr 86 L] (bC:=[.rs KB [Step.f 0 0,Step.f 4 75] 0 32 0 1 .clip,aP fj,.int .i64 2]) (b6:=[.box (tN d (KB+1) ps.length (KB+2) L.length),.arr 464 W,.arr 86 L]) hE (by simp[getAll]) (by simp) (by simp) (by simp[ah,af,bR,idx]) (by simp[ab,bR,idx,hL.refs,hP.refs]) (by simp[aR,aE,bz,idx];rfl) (by simp[az,bz,idx,hL.aE,hP.aE]) ?_ ?_ ?_
 ·refine⟨.inl (.inr ⟨KB,[Step.f 0 0,Step.f 4 75],0,32,0,1,.clip,mB k.l,rfl,?_,(aF (λ_=>by simp[u8]) _).refs _,by omega,rfl⟩),.inl (.inl ⟨rfl,(nY _).refs _⟩),.inl (.inl ⟨rfl,by simp[af]⟩),trivial⟩;simp[av,hr,aG];exact tJ (by simp[k.h])
 ·rintro r new ⟨rfl,rfl⟩;refine⟨⟨by simp[fL,lP],?_⟩,rfl⟩;have nA:=dB kA;have nB:=dB kB;simp only[fL,aG]at nA nB;simp[uj,eM,aG,nA,nB]
 ·rintro r new ⟨rfl,rfl⟩;have rA:∀f,af f (aG kA)=true:=λf=>(jI kA).refs f;have rB:∀f,af f (aG kB)=true:=λf=>(jI kB).refs f;have uA:∀f,aE f (aG kA)=aG kA:=λf=>(jI kA).aE f;have uB:∀f,aE f (aG kB)=aG kB:=λf=>(jI kB).aE f;have e4:∀p,yE d p (aG kA)=aZ (Nx d kA) p:=λ_=>rfl;simp[az,aE,aR,cU,ab,ah,c9,aI,hL.refs,hL.aE,hP.refs,hP.aE,e4];refine aA.with [] [KB,KB+1,KB+2] ?_;simp[hL.refs,hL.aE,hP.refs,hP.aE,ab,bR,idx,az]
theorem Qw {d:bc} {k:Key} (hk:d.random=k.fv) (ps:List bO):∃y:Int,(0≤y∧y≤4294967295)∧MC 137 [] d ps (.int .u32 y) (Nx d (uD k.l fj)) ps []:=by
 have hD:=Zw hk ps;have hR:=dC (l:=(Gm k.l fj).l.take 4) (by rw[lJ];omega);generalize Gm k.l fj=kB at*;generalize uD k.l fj=kA at*;generalize te (kB.l.take 4) (kB.l.take 4).length=n at*;refine⟨IntKind.u32.wrap n,by simp only[IntKind.wrap,IntKind.bits,IntKind.signed];constructor<;>simp<;>omega,?_⟩;intro L hL hb;refine ae.intro (aC R.jL.2) (by simp[R.jL]) ?_;have hP:an (ps.map aQ):=aF iw ps;simp[R.jL,aj,av,MB];refine ai.BP hD hL (by simpa using hb) (by simp) ?_;simp;refine ai.vA (bC:=[.rs KB [] 0 4 0 1 .any]) (args0:=[aP (kB.l.take 4)]) (b6:=[.box (aG kB)]) [3] [] [.box (aG kB)] hR (by simp[ab]) (by simp[az]) ?_ ?_ ?_
 ·refine⟨.inl (.inr ⟨KB,[],0,4,0,1,.any,(kB.l.take 4).map u8,rfl,?_,(cm _).refs _,by omega,rfl⟩),trivial⟩;simp[av,n7]
 ·rintro r new ⟨rfl,rfl⟩;exact⟨⟨by simp[fL,lP],by simp⟩,rfl⟩
 rintro r new ⟨rfl,rfl⟩;simp[ab,az,aE,aI];refine aA.with [] [KB,KB+1,KB+2] ?_;simp[hL.refs,hL.aE]
theorem acM (p:bO) (k:Key):ae Pg 109 [aQ p,.pt KB [] 0] [.box (aG k)] (λr fp=>r= .bl (decide (p.cH=k))∧fp=[.box (aG k)]):=by
 refine ae.intro (aC R.jM.2) (by simp[R.jM]) ?_;simp[R.jM,aj,av,wT];refine aA.with [] [KB] ?_;simp[ab,az]
theorem Zx (d:bc) {ps:List bO} (hn:ps.length≤1000) {k:Key} {i:Nat} (hi:i<ps.length) (hf:lQ (λp=>decide (p.cH=k)) ps=(i:Int)):MC 64 [aG k] d ps (.pt (KB+1) [.i i 464] ps.length) d ps []:=by
 intro L hL hb;have hx:=alF (L:=ps) (J:=[]) (c:= .tip) (by omega) (by simp) (g:=109) (q:=λp=>decide (p.cH=k)) (v:=aG k) (by simp) (λp _=>acM p k);rw[hf]at hx;simp at hx;have hP:an (ps.map aQ):=aF iw ps;have hl:(ps.map aQ).length=ps.length:=JaX _;refine ae.intro (aC R.lr.2) (by simp[R.lr]) ?_;simp[R.lr,aj,av,MB];refine ai.gA [KB+1,3] [] [.arr 464 (ps.map aQ),.box (aG k)] hx (by simp[ab]) (by simp[az]) (by simp[ab,af]) ?_;have h0:¬(i:Int)<0:=by omega
 have h1:(i:Int)<ps.length:=by omega
 simp[aI,az,aE,h0,h1];refine aA.with [] [KB,KB+1,KB+2] ?_;simp[hL.refs,hL.aE,bR,idx,bz]
theorem E6 {d:bc} (ht:d.timers.length≤1048575) {ps:List bO} {i:Nat} (hi:i<ps.length):
  MC 86 [.pt (KB+1) [.i i 464] ps.length] d ps (.tup []) (if ps[i].jg=0 then d else wg d (ji d.timers ⟨IntKind.i64.wrap (d.now+ps[i].jg),ps[i].cH,4⟩)) ps []:=by
 intro L hL hb;have hS:=acL ht hi 4 (IntKind.i64.wrap (d.now+ps[i].jg));have hx:ps[i]? =some ps[i]:=gJ hi;refine ae.intro (aC R.cR.2) (by simp[R.cR]) ?_;by_cases hk:ps[i].jg=0
 ·simp[R.cR,aj,av,MB,hi,hk];refine aA.with [] [KB,KB+1,KB+2] ?_;simp[dj,hL.refs,hL.aE]
 ·simp[R.cR,aj,av,MB,hi,hk];refine ai.BP hS hL (by simpa using hb) (by simp) ?_;simp;refine aA.with [] [KB,KB+1,KB+2] ?_;simp[dj,hL.refs,hL.aE]
def lu (p:bO) (k:PV) (c:Int) (b:List UInt8):PV:= .st 86 [.int .i64 1,ic p.ep,aG p.cH,k,.int .u64 c,aP b,.str []]
theorem alQ (d:bc) {ps:List bO} {i:Nat} (hi:i<ps.length) (b:List UInt8):
  MC 144 [.pt (KB+1) [.i i 464] ps.length,aP b] d ps (.tup []) d ps [lu ps[i] (aG zK) 0 b]:=by
 intro L hL hb;have hx:ps[i]? =some ps[i]:=gJ hi;refine ae.intro T.fZ (by simp[F.fZ]) ?_;simp[F.fZ,aj,av,MB];refine lH.run [] rfl ?_;simp[hi];simp at hb;refine⟨⟨by omega,by omega⟩,?_⟩;have e:PV.st 86 [.int .i64 1,ic ps[i].ep,aG ps[i].cH,.ar 1 32 (zr 32 (.int .u8 0)),.int .u64 0,aP b,.str []]=lu ps[i] (aG zK) 0 b:=by rw[tF];rfl
 have ep:Pure (lu ps[i] (aG zK) 0 b):=by simp[lu]
 have hLm:an (L++[lu ps[i] (aG zK) 0 b]):=hL.append (by simp[ep]);refine aA.with [] [KB,KB+1,KB+2] ?_;simp[dj,hLm.refs,hLm.aE,e]
theorem VC (d:bc) {ps:List bO} {i:Nat} (hi:i<ps.length) (hc:ps[i].rq=false):
  MC 143 [.pt (KB+1) [.i i 464] ps.length] d ps (.bl false) d ps []:=by
 intro L hL hb;have hx:ps[i]? =some ps[i]:=gJ hi;refine ae.intro T.fk (by simp[F.fk]) ?_;simp[F.fk,aj,av,MB,hi,hc];refine aA.with [] [KB,KB+1,KB+2] ?_;simp[hL.refs,hL.aE]
def J9 (d:bc) (p:bO):Bool:=p.ring.c.has&&Zs p.ring.c.nn d.rules d.now
theorem Ih {d:bc} (h2:0≤d.now) (h3:d.now≤9000000000000000000) {ps:List bO} {i:Nat} (hi:i<ps.length) (uf:0≤ps[i].ring.c.nn.born):
  MC 111 [.pt (KB+1) [.i i 464] ps.length] d ps (if J9 d ps[i]=true then .pt (KB+1) [.i i 464,.f 13 232,.f 1 77,.f 1 1] ps.length else .np) d ps []:=by
 intro L hL hb;have hU:=VB (s:=ps[i].ring.c.nn) (r:=d.rules) uf h2 h3;have hx:ps[i]? =some ps[i]:=gJ hi;unfold J9;refine ae.intro T.dD (by simp[F.dD]) ?_;cases hh:ps[i].ring.c.has
 ·simp[F.dD,aj,av,MB,hi,hh];refine aA.with [] [KB,KB+1,KB+2] ?_;simp[hL.refs,hL.aE,PV.flat]
 ·simp[F.dD,aj,av,MB,hi,hh];refine aN.rA hU ?_;cases hu:Zs ps[i].ring.c.nn d.rules d.now
  ·simp;refine aA.with [] [KB,KB+1,KB+2] ?_;simp[hL.refs,hL.aE,PV.flat]
  ·simp;refine aA.with [] [KB,KB+1,KB+2] ?_;simp[hL.refs,hL.aE,bR,idx,bz]
def oz (p:bO):bO:= {p with hand:=yL}
def mQ (d:bc) (p:bO):bc:=wg (if p.hand.has=true then pH d (cE d.aS [p.hand.loc])else d) (kU p.cH d.timers [1])
theorem Lw {d:bc} (ht:d.timers.length≤1048576) (hs:d.aS.length≤1048576) {ps:List bO} {i:Nat} (hi:i<ps.length):
  MC 250 [.pt (KB+1) [.i i 464] ps.length] d ps (.tup []) (mQ d ps[i]) (ps.set i (oz ps[i])) []:=by
 intro L hL hb;have hx:ps[i]? =some ps[i]:=gJ hi;have hD:=Qu (d:=d) hs (l:=[ps[i].hand.loc]) (by simp) ps
 have hC:∀d:bc,d.timers.length≤1048576->MC 116 [.pt (KB+1) [.i i 464] ps.length,.sl 1 [.int .i64 1] false] d (ps.set i (oz ps[i])) (.tup []) (wg d (kU ps[i].cH d.timers [1])) (ps.set i (oz ps[i])) []:=by
  intro d ht;have:=yJ ht (ps:=ps.set i (oz ps[i])) (i:=i) (by simpa using hi) (ks:=[1]) (by simp);simpa[oz]using this
 have eh:yD ps[i] (.st 100 [.bl false,.int .u32 0,.ar 1 32 (zr 32 (.int .u8 0)),.st 64 [.ar 1 32 (zr 32 (.int .u8 0)),.ar 1 32 (zr 32 (.int .u8 0))],.int .i64 0,.int .i64 0])=aQ (oz ps[i]):=rfl;have em:(ps.map aQ).set i (aQ (oz ps[i]))=(ps.set i (oz ps[i])).map aQ:=(JfJ).symm;refine ae.intro (aC R.gO.2) (by simp[R.gO]) ?_;cases hh:ps[i].hand.has
 ·simp[R.gO,aj,av,MB,hi,hh];rw[eh,em];refine ai.BP (hC d ht) hL (by simpa using hb) (by simp) ?_;simp;refine aA.with [] [KB,KB+1,KB+2] ?_;simp[dj,hL.refs,hL.aE,mQ,hh]
 ·simp[R.gO,aj,av,MB,hi,hh];refine ai.mc hD (by simp) (by simp) (by simp) hL (by simpa using hb) (by simp[ah,af,bR,idx]) (by simp[aR,aE,bz,idx,oC]) (by simp[af,ah]) (by simp[aE,aR]) (by simp) ?_;simp[hi];rw[eh,em];refine ai.BP (hC (pH d (cE d.aS [ps[i].hand.loc])) ht) hL (by simpa using hb) (by simp) ?_;simp;refine aA.with [] [KB,KB+1,KB+2] ?_;simp[dj,hL.refs,hL.aE,mQ,hh,show(pH d (cE d.aS [ps[i].hand.loc])).timers=d.timers from rfl]
def okT (d:bc) (s:ld):Prop:=s.next<s.fM∧s.next<d.rules.uy∧s.next<18446744073709543423
def Oy (p:bO):bO:= {p with ring:= {p.ring with c:= {p.ring.c with nn:=nxS p.ring.c.nn}}}
def lv (d:bc) (p:bO):bc:=if p.jg=0 then d else wg d (ji d.timers ⟨IntKind.i64.wrap (d.now+p.jg),p.cH,4⟩)
theorem Ny {d:bc} (ht:d.timers.length≤1048575) {ps:List bO} {i:Nat} (hi:i<ps.length) {k:Key} (hk:ps[i].ring.c.nn.send=k.fv) (hr:0≤ps[i].ring.c.nn.rem∧ps[i].ring.c.nn.rem≤4294967295) (h0:0≤ps[i].ring.c.nn.next) (hn:okT d ps[i].ring.c.nn):
  ∃b:List UInt8,b.length=32∧MC 114 [.pt (KB+1) [.i i 464] ps.length,.pt (KB+1) [.i i 464,.f 13 232,.f 1 77,.f 1 1] ps.length,aP []] d ps (.tup []) (lv d ps[i]) (ps.set i (Oy ps[i])) [lu ps[i] (aG k) ps[i].ring.c.nn.next b]:=by
 obtain⟨b,ue,hS⟩:=acG hk (lim:=d.rules.uy) hr h0 hn;refine⟨b,ue,?_⟩;intro L hL hb;have hx:ps[i]? =some ps[i]:=gJ hi;refine ae.intro T.ef (by simp[F.ef]) ?_;simp[F.ef,aj,av,MB];refine lH.run [] rfl ?_;simp[hi];refine aN.rA hS ?_;simp;refine lH.run [] rfl ?_;simp[hi];have tc:L.length+1≤1000000:=by simpa using hb
 refine⟨⟨by omega,by omega⟩,?_⟩
 have hT:MC 86 [.pt (KB+1) [.i i 464] ps.length] d (ps.set i (Oy ps[i])) (.tup []) (lv d ps[i]) (ps.set i (Oy ps[i])) []:=by
  have:=E6 ht (ps:=ps.set i (Oy ps[i])) (i:=i) (by simpa using hi);simpa[Oy,lv]using this
 have e:PV.st 86 [.int .i64 1,ic ps[i].ep,aG ps[i].cH,ps[i].ring.c.nn.send.p,.int .u64 ps[i].ring.c.nn.next,aP b,.str []]=lu ps[i] (aG k) ps[i].ring.c.nn.next b:=by rw[hk];rfl
 have ep:Pure (lu ps[i] (aG k) ps[i].ring.c.nn.next b):=by simp[lu]
 have hLm:an (L++[lu ps[i] (aG k) ps[i].ring.c.nn.next b]):=hL.append (by simp[ep]);refine ai.mc hT (L:=L++[lu ps[i] (aG k) ps[i].ring.c.nn.next b]) (by simp) (by simp[Oy,JfJ]) (by simp[e]) hLm (by simpa using tc) (by simp[ah,af,bR,idx]) (by simp[aR,aE,bz,idx]) (by simp[af,ah]) (by simp[aE,aR]) (by simp) ?_;simp;refine aA.with [] [KB,KB+1,KB+2] ?_;simp[dj,hLm.refs,hLm.aE]
def byZ (n:Int) (j:Nat):UInt8:=UInt8.ofNat (n.toNat/256^j%256)
def Ef (n:Int) (k:Nat):List UInt8:=(List.range k).map λi=>byZ n (k-1-i)
theorem yM (n:Int) (k:Nat):(Ef n k).length=k:=by simp[Ef]
theorem Qx (n:Int) {k i:Nat} (h:i<k):(Ef n k).take (i+1)=(Ef n k).take i++[byZ n (k-1-i)]:=by
 rw[JcZ (by rw[yM];exact h)];simp[Ef]
theorem alR {n:Int} (h:0≤n) {j:Nat} (hj:j≤8):IntKind.u8.wrap (n.fdiv (2^min (8*j) 64))=((byZ n j).toNat:Int):=by
 obtain⟨m,rfl⟩:=Int.eq_ofNat_of_zero_le h;have e1:min (8*j) 64=8*j:=by omega
 have e2:(2:Int)^(8*j)=((256^j:Nat):Int):=by rw[Int.pow_mul];simp
 rw[e1,e2,JgZ _ (JkV _),←JlV,IntKind.wrap_u8',byZ,JnW];simp
theorem p9 {n:Int} (hn:0≤n∧n≤18446744073709551615) {k:Nat} (h1:1≤k) (h8:k≤8):aK Pg 210 [.int .u64 n,.int .i64 k] (aP (Ef n k)):=by
 refine ae.intro (aC R.p9.2) (by simp[R.p9]) ?_;have e1:¬((k:Int)<1):=by omega
 have e2:¬((8:Int)<k):=by omega
 have hk:(Ef n k).length=k:=yM n k;have hg:=λi (h:i<k)=>Qx n h;generalize Ef n k=B at*;simp[R.p9,aj,av,e1,e2];refine eW.fD k (λ_=>True) [0,1,5,13,14] (λi=>[(5,.rs 5 [] 0 i i 1 .tip),(14,.int .i64 i)]) (λi=>[(5,.arr 1 (mB (B.take i)))]) [.keep [0,1,5,13,14],.vt 5 5 1] ?_;simp[show mB ([]:List UInt8)=[] from rfl];refine⟨λi hi K hK=> ?_,λK=> ?_⟩
 ·have kY:(i:Int)<k:=by omega
  have w1:IntKind.i64.wrap ((k:Int)-1)=((k-1:Nat):Int):=by rw[wrap_i64 (by omega)];omega
  have w2:IntKind.i64.wrap (((k-1:Nat):Int)-i)=((k-1-i:Nat):Int):=by rw[wrap_i64 (by omega)];omega
  have w3:IntKind.i64.wrap (8*((k-1-i:Nat):Int))=((8*(k-1-i):Nat):Int):=by rw[wrap_i64 (by omega)];omega
  have w4:IntKind.i64.wrap ((i:Int)+1)=(i:Int)+1:=wrap_i64 (by omega);have hv:=alR hn.1 (j:=k-1-i) (by omega);have hl:(B.take i).length=i:=by rw[lJ];omega
  rw[hg i hi]at hK;generalize B.take i=A at*;generalize k-1-i=j at*;have hA:mB A++[.int .u8 ((byZ n j).toNat:Int)]=mB (A++[byZ n j]):=by simp[mB,u8]
  have hAl:(mB A).length=i:=by simp[mB,hl]
  simp[↓al,kY,w1,w2,w3,w4,hv,hA,hAl,show IntKind.u64.bits=64 from rfl,-Int.natCast_mul];refine⟨⟨by omega,by omega⟩,[.keep [0,1,5,13,14]],?_⟩;simp;exact hK _ (by simp)
 ·have hB:B.take k=B:=by rw[←hk,JcJ]
  have hBl:(mB B).length=k:=by simp[mB,hk]
  have hp:an (mB B):=aF (λ_=>by simp[u8]) B;have lW:(mB B).take k=mB B:=by rw[←hBl,JcJ]
  simp[↓al];rw[hB];refine aA.plain [.fz 5] ?_;simp[hp.refs,hBl,lW];exact⟨by simp[mB],by simp[mB,aP]⟩
theorem tOf (t:Int):∃c:List UInt8,c.length=12∧aK Pg 289 [.int .i64 t] (jl c):=by
 by_cases hr:0≤t∧t≤1099511627776
 ·obtain⟨h0,h1⟩:=hr;have q0:t.tdiv 1000=t/1000:=Int.tdiv_eq_ediv_of_nonneg h0;have q1:t.tmod 1000=t%1000:=JlQ h0;have b1:=p9 (n:=4611686018427387914+t/1000) ⟨by omega,by omega⟩ (k:=8) (by omega) (by omega);have b2:=p9 (n:=t%1000*1000000) ⟨by omega,by omega⟩ (k:=4) (by omega) (by omega);have l1:=yM (4611686018427387914+t/1000) 8;have l2:=yM (t%1000*1000000) 4;generalize Ef (4611686018427387914+t/1000) 8=A at*;generalize Ef (t%1000*1000000) 4=B at*;have hj:=ft [A,B] (by simp[l1,l2]) (by simp);refine⟨A++B,by simp[l1,l2],?_⟩;rw[show [A,B].flatten=A++B by simp]at hj;have hp:=cm (A++B);have hl:((A++B).map u8).length=12:=by simp[l1,l2]
  have ht:((A++B).map u8).take 12=(A++B).map u8:=tJ (by simp[l1,l2]);refine ae.intro (aC R.xq.2) (by simp[R.xq]) ?_;have n0:¬t<0:=by omega
  have n1:¬(1099511627776:Int)<t:=by omega
  have w1:IntKind.i64.wrap (t/1000)=t/1000:=wrap_i64 (by omega);have w2:IntKind.i64.wrap (4611686018427387914+t/1000)=4611686018427387914+t/1000:=wrap_i64 (by omega);have w3:IntKind.u64.wrap (4611686018427387914+t/1000)=4611686018427387914+t/1000:=wrap_u64 (by omega);have w4:IntKind.i64.wrap (t%1000)=t%1000:=wrap_i64 (by omega);have w5:IntKind.i64.wrap (t%1000*1000000)=t%1000*1000000:=wrap_i64 (by omega);have w6:IntKind.u64.wrap (t%1000*1000000)=t%1000*1000000:=wrap_u64 (by omega);simp[R.xq,aj,av,n0,n1,q0,w1,w2,w3];refine ai.rA b1 ?_;simp[q1,w5,w6];refine ai.rA b2 ?_;simp;refine ai.rA hj ?_;have he:aP (A++B)= .sl 1 ((A++B).map u8) false:=rfl;rw[he];have hN:jl (A++B)= .ar 1 12 ((A++B).map u8):=rfl;rw[hN];generalize (A++B).map u8=D at*;simp[hl,ht];refine aA.plain [] ?_;simp[hp]
 ·refine⟨List.replicate 12 0,by simp,?_⟩;have hN:jl (List.replicate 12 0)= .ar 1 12 (zr 12 (.int .u8 0)):=by rw[Lu];rfl
  rw[hN];refine ae.intro (aC R.xq.2) (by simp[R.xq]) ?_;by_cases h0:t<0
  ·simp[R.xq,aj,av,h0];refine aA.plain [] ?_;simp
  ·have h1:(1099511627776:Int)<t:=by omega
   simp[R.xq,aj,av,h0,h1];refine aA.plain [] ?_;simp
noncomputable def F.dmi:cM:=⟨F.Dq.nt,F.Dq.res,mP (mP F.Dq.code [1]) [1,1]⟩
theorem T.dmi:nk Pg [44,103,147,1004006] [] 196=some F.dmi.er:=E7 (A:=⟨F.Dq.nt,F.Dq.res,mP F.Dq.code [1]⟩) [1,1] (E7 [1] T.Dq)
theorem Gn:∀l:List UInt8,ju (.i .u8) (l.map u8)=true
 |[]=>rfl
 |x::l=>by simp[ju,u8,Ab.fits,Gn l]
theorem VE {n:Nat} {l:List UInt8} (h:l.length=n):fits (.ar n (.i .u8)) (bA n l)=true:=by
 simp[bA,Ab.fits,rI,Gn,h]
theorem stl (l:List cV) (t:cV):(ji l t).length≤l.length+1:=by
 have:(bg l t.peer t.kind).length≤l.length:=JfZ _ _;have h2:=BQ t (bg l t.peer t.kind);simp only[ji,JaJ,lJ,JbV,JcX,List.length_nil];omega
structure Nz (d:bc) (p:bO) (k pr:Key) (d':bc) (p':bO) (O:List PV):Prop where
 ok:d.aS.length<32->kV (Gm (uD k.l fj).l fj) p.cH≠zK->kV pr p.cH≠zK->O≠[]
 y8:d'.random=(uD (uD k.l fj).l fj).fv
 Zy:d'.aS.length≤max 32 d.aS.length∧d'.aS.length≤d.aS.length+1
 VF:d'= {d with random:=d'.random,aS:=d'.aS,timers:=d'.timers}
 Dr:p'= {p with hand:=p'.hand,Ib:=p'.Ib}
 out:(d'.timers=kU p.cH d.timers [1]∧p'.hand=yL∧O=[])∨
  (d'.timers=(lv (wg d (ji d.timers ⟨IntKind.i64.wrap (d.now+d.rules.ret),p.cH,1⟩)) p).timers∧p'.hand.has=true∧p'.hand.C9=d.now∧p'.hand.started=(if p.hand.has=true then p.hand.started else d.now)∧∃b:List UInt8,b.length=148∧O=[lu p (aG zK) 0 b])
theorem alV (d:bc) (p:bO):(lv d p).random=d.random:=by unfold lv;split<;>rfl
theorem alW (d:bc) (p:bO):(lv d p).aS=d.aS:=by unfold lv;split<;>rfl
theorem at9 (d:bc) (p:bO):lv d p= {d with timers:=(lv d p).timers}:=by unfold lv;split<;>rfl
theorem E8 {d:bc} (ht:d.timers.length≤1000000) (hs:d.aS.length≤1000000) {ps:List bO} {i:Nat} (hi:i<ps.length) {k pr:Key} (hk:d.random=k.fv) (uO:d.jz=pr.fv) (xF:ps[i].rq=false) {ck:List UInt8} (B8:ck.length=16) (Mo:ps[i].tE.p=bA 16 ck):
  ∃(d':bc) (p':bO) (O:List PV),Nz d ps[i] k pr d' p' O∧MC 196 [.pt (KB+1) [.i i 464] ps.length] d ps (.tup []) d' (ps.set i p') O:=by
 obtain⟨y0,hy0,hN⟩:=Qw (d:=if ps[i].hand.has=true then pH d (cE d.aS [ps[i].hand.loc])else d) (k:=k) (by split<;>exact hk) ps;obtain⟨ds,hds⟩:∃ds,ds=(if ps[i].hand.has=true then pH d (cE d.aS [ps[i].hand.loc])else d):=⟨_,rfl⟩
 obtain⟨sta,aeJ⟩:∃sta,sta=(if ps[i].hand.has=true then ps[i].hand.started else d.now):=⟨_,rfl⟩
 rw[←hds]at hN
 have s1:ds.aS.length≤d.aS.length:=by
  rw[hds];split
  ·exact kC _ _
  ·exact JaQ _
 have s2:ds= {d with aS:=ds.aS}:=by rw[hds];split<;>rfl
 have sp:ds.jz=d.jz:=by rw[s2]
 have snow:ds.now=d.now:=by rw[s2]
 have srul:ds.rules=d.rules:=by rw[s2]
 have stim:ds.timers=d.timers:=by rw[s2]
 obtain⟨y,R,e1,Xr,hR,hy,hT⟩:=alK (l:=ds.aS) (by omega) hy0 ps[i].cH false;have hT:aK Pg 136 [bL ds.aS,.int .u32 y0,aG ps[i].cH,.bl false] (.tup [bL R,.int .u32 y,.int .i64 e1]):=hT;generalize qc:uD k.l fj=k1 at*;have hD:=Zw (d:=Nx ds k1) (k:=k1) rfl ps;generalize za:uD k1.l fj=k2 at*;generalize hep:Gm k1.l fj=ep at*;obtain⟨st,qT,hO⟩:=tOf d.now;obtain⟨y',E,S,U,na,nb,e2,⟨hS,hU⟩,Hc,hyy,hI⟩:=alX pr ps[i].cH ep qT y;obtain⟨d2,Hb⟩:∃d2,d2=Nx (Nx ds k1) k2:=⟨_,rfl⟩
 have hx:ps[i]? =some ps[i]:=gJ hi;have hDr:=Qu (d:=d) (by omega:d.aS.length≤1048576) (l:=[ps[i].hand.loc]) (by simp) ps;have hP:an (ps.map aQ):=aF iw ps
 --the first part
 have part1:∀(L:List PV),an L->L.length≤1000000->∀(Q:Exit->St->Prop),(∀s',s'=(⟨[(0,.pt KB [] 0),(1,.pt (KB+1) [.i i 464] ps.length),(4,.int .i64 sta)],[(KB,.box (tN ds (KB+1) ps.length (KB+2) L.length)),(KB+1,.arr 464 (ps.map aQ)),(KB+2,.arr 86 L)]⟩:St)->True)->True:=λ_ _ _ _ _=>trivial;clear part1;obtain⟨bb,Ib,⟨Ft,awa⟩,hM⟩:=acF (M:=wG) (N:=wG) ps[i].cH false B8 hy E hS hU;obtain⟨mF,hmF⟩:∃m:FV JX,m.p=bA 16 Ib:=⟨⟨bA 16 Ib,VE awa⟩,rfl⟩
 obtain⟨nF,hnF⟩:∃m:FV Qj,m.p=jt na nb:=⟨⟨jt na nb,by simp[jt,Ab.fits,rI,rK,dz,aG,Gn,na.h,nb.h]⟩,rfl⟩
 rw[←hmF]at hM;rw[←hnF]at hI;obtain⟨pG,hpG⟩:∃pG:bO,pG= {ps[i]with Ib:=mF,hand:=⟨true,y,ep.fv,nF,sta,d.now⟩}:=⟨_,rfl⟩
 have main:∀(d':bc) (p':bO) (O:List PV),(e1=0∧e2=0->d'=lv (wg (pH d2 R) (ji d.timers ⟨IntKind.i64.wrap (d.now+d.rules.ret),ps[i].cH,1⟩)) pG∧p'=pG∧O=[lu pG (aG zK) 0 bb])->(e1≠0∨e2≠0->d'=wg d2 (kU ps[i].cH d2.timers [1])∧p'=oz ps[i]∧O=[])->MC 196 [.pt (KB+1) [.i i 464] ps.length] d ps (.tup []) d' (ps.set i p') O:=by
  intro d' p' O aoJ KV L hL hb;refine ae.intro T.dmi (by simp[F.dmi,F.Dq]) ?_;simp[F.dmi,F.Dq,mP,aj,av,MB];refine SE.of (λs'=>s'=⟨[(0,.pt KB [] 0),(1,.pt (KB+1) [.i i 464] ps.length),(4,.int .i64 sta)],[(KB,.box (tN ds (KB+1) ps.length (KB+2) L.length)),(KB+1,.arr 464 (ps.map aQ)),(KB+2,.arr 86 L)]⟩) ?_ ?_
  ·cases hh:ps[i].hand.has
   ·simp[hi,hh];refine⟨[.keep [0,1,4]],?_⟩;simp[aeJ,hds,hh]
   ·simp[hi,hh];refine ai.mc hDr (by simp) (by simp) (by simp) hL (by simp at hb⊢;omega) (by simp[ah,af,bR,idx]) (by simp[aR,aE,bz,idx,oC]) (by simp[af,ah]) (by simp[aE,aR]) (by simp) ?_;simp;refine⟨[.keep [0,1,4]],?_⟩;simp[aeJ,hds,hh]
  ·rintro s' rfl;have hRp:an (R.map aU):=aF gD R;simp;refine SE.of (λs'=>s'=⟨[(0,.pt KB [] 0),(1,.pt (KB+1) [.i i 464] ps.length),(4,.int .i64 sta),(5,bL R),(6,.int .u32 y),(7,.int .i64 e1)],[(KB,.box (tN (Nx ds k1) (KB+1) ps.length (KB+2) L.length)),(KB+1,.arr 464 (ps.map aQ)),(KB+2,.arr 86 L)]⟩) ?_ ?_
   ·simp;refine Ym.run [KB,KB] rfl rfl rfl ?_;simp[hi];refine⟨?_,?_⟩
    all_goals
     refine ai.BP hN hL (by simp at hb⊢;omega) (by simp) ?_
     simp
     refine aN.ret hT (by simp[show(Nx ds k1).aS=ds.aS from rfl]) (by simp) (by simp) ?_
     simp
     refine⟨[.keep [0,1,4,5,6,7]],?_⟩
     simp
   ·rintro s' rfl;simp;refine ai.BP hD hL (by simp at hb⊢;omega) (by simp) ?_;rw[←Hb];have e1p:d2.jz.p=aG pr:=by rw[Hb];show ds.jz.p=_;rw[sp,uO];rfl
    have e1n:d2.now=d.now:=by rw[Hb];exact snow
    have e1r:d2.rules=d.rules:=by rw[Hb];exact srul
    have e1s:d2.timers=d.timers:=by rw[Hb];exact stim
    have eh:yD ps[i] (.st 100 [.bl false,.int .u32 0,.ar 1 32 (zr 32 (.int .u8 0)),.st 64 [.ar 1 32 (zr 32 (.int .u8 0)),.ar 1 32 (zr 32 (.int .u8 0))],.int .i64 0,.int .i64 0])=aQ (oz ps[i]):=rfl;have em:(ps.map aQ).set i (aQ (oz ps[i]))=(ps.set i (oz ps[i])).map aQ:=(JfJ).symm
    have hC:MC 116 [.pt (KB+1) [.i i 464] ps.length,.sl 1 [.int .i64 1] false] d2 (ps.set i (oz ps[i])) (.tup []) (wg d2 (kU ps[i].cH d2.timers [1])) (ps.set i (oz ps[i])) []:=by
     have:=yJ (d:=d2) (by rw[e1s];omega) (ps:=ps.set i (oz ps[i])) (i:=i) (by simpa using hi) (ks:=[1]) (by simp);simpa[oz]using this
    simp;refine lH.run [] rfl ?_;simp[hi,e1p,e1n];refine aN.rA hO ?_;simp;refine aN.ret hI (by simp) (by simp) (by simp[gY]) ?_;simp[hi];refine⟨λhx1=> ?_,λhx1 D0=> ?_⟩
    ·obtain⟨rfl,rfl,rfl⟩:=KV hx1;rw[eh,em];refine ai.BP hC hL (by simpa using hb) (by simp) ?_;simp;refine aA.with [] [KB,KB+1,KB+2] ?_;simp[dj,hL.refs,hL.aE]
    ·obtain⟨rfl,rfl,rfl⟩:=aoJ ⟨hx1,D0⟩;obtain rfl:=hyy D0;refine lH.run [] rfl ?_;simp[hi];have hCk:=VC (pH d2 R) hi xF;refine ai.mc hCk (by simp;rfl) (by simp) (by simp) hL (by simp at hb⊢;omega) (by simp[ah,af,bR,idx]) (by simp[aR,aE,bz,idx]) (by simp[af]) (by simp[aE]) (by simp) ?_;simp[Mo];refine⟨rfl,?_⟩;refine aN.ret hM (by simp) (by simp[gY]) (by simp) ?_;simp[hi];have hGp:p'.cH=ps[i].cH:=by rw[hpG]
     have eD:(pH d2 R).now=d.now:=e1n
     have hSd:MC 144 [.pt (KB+1) [.i i 464] ps.length,aP bb] (pH d2 R) (ps.set i p') (.tup []) (pH d2 R) (ps.set i p') [lu p' (aG zK) 0 bb]:=by
      have:=alQ (pH d2 R) (ps:=ps.set i p') (i:=i) (by simpa using hi) bb;simpa using this
     have hSt:MC 179 [.pt (KB+1) [.i i 464] ps.length,.int .i64 1,.int .i64 (IntKind.i64.wrap (d.now+d.rules.ret))] (pH d2 R) (ps.set i p') (.tup []) (wg (pH d2 R) (ji d.timers ⟨IntKind.i64.wrap (d.now+d.rules.ret),ps[i].cH,1⟩)) (ps.set i p') []:=by
      have:=acL (d:=pH d2 R) (by show d2.timers.length≤_;rw[e1s];omega) (ps:=ps.set i p') (i:=i) (by simpa using hi) 1 (IntKind.i64.wrap (d.now+d.rules.ret));rw[show(pH d2 R).timers=d.timers from e1s]at this;simpa[hGp]using this
     obtain⟨d4,hd4⟩:∃d4,d4=wg (pH d2 R) (ji d.timers ⟨IntKind.i64.wrap (d.now+d.rules.ret),ps[i].cH,1⟩):=⟨_,rfl⟩
     rw[←hd4]at hSt
     have hTr:MC 86 [.pt (KB+1) [.i i 464] ps.length] d4 (ps.set i p') (.tup []) (lv d4 p') (ps.set i p') []:=by
      have:=E6 (d:=d4) (by rw[hd4];show(ji d.timers _).length≤_;have:=stl d.timers ⟨IntKind.i64.wrap (d.now+d.rules.ret),ps[i].cH,1⟩;omega) (ps:=ps.set i p') (i:=i) (by simpa using hi);simpa[lv]using this
     rw[←hd4];have hOp:an [lu p' (aG zK) 0 bb]:=by simp[lu]
     have ux:=hL.append hOp;have A9:L.length+1≤1000000:=by simpa using hb
     refine ai.mc hSd (by simp) (by simp[hpG,JfJ,eD];rfl) (by simp) hL (by simpa using A9) (by simp[ah,af,bR,idx]) (by simp[aR,aE,bz,idx]) (by simp[af,ah]) (by simp[aE,aR]) hOp ?_;generalize hLd:L++[lu p' (aG zK) 0 bb]=L2 at*;have aeK:L2.length=L.length+1:=by rw[←hLd];simp
     have eR:(pH d2 R).rules=d.rules:=e1r;simp[eD,eR];refine ai.mc hSt (L:=L2) (by simp) (by simp[JfJ]) (by simp) ux (by rw[aeK];simpa using A9) (by simp[ah,af,bR,idx]) (by simp[aR,aE,bz,idx]) (by simp[af,ah]) (by simp[aE,aR]) (by simp) ?_;simp;refine ai.mc hTr (L:=L2) (by simp) (by simp[JfJ]) (by simp) ux (by rw[aeK];simpa using A9) (by simp[ah,af,bR,idx]) (by simp[aR,aE,bz,idx]) (by simp[af,ah]) (by simp[aE,aR]) (by simp) ?_;simp;refine aA.with [] [KB,KB+1,KB+2] ?_;simp[dj,ux.refs,ux.aE,aeK]
 have rr:d2.random=k2.fv:=by rw[Hb];rfl
 have rs:d2.aS=ds.aS:=by rw[Hb];rfl
 have rest:d2= {d with random:=k2.fv,aS:=ds.aS}:=by rw[Hb];exact(congrArg (λx=>Nx (Nx x k1) k2) s2).trans rfl
 by_cases KV:e1≠0∨e2≠0
 ·refine⟨_,_,[],⟨?_,?_,?_,?_,rfl,.inl ⟨?_,rfl,rfl⟩⟩,main _ _ [] (λh=>absurd KV (by rw[h.1,h.2];simp)) (λ_=>⟨rfl,rfl,rfl⟩)⟩
  ·intro a1 a2 a3;exfalso;rcases KV with h|h
   ·exact h (Xr (by omega))
   ·exact h (Hc (by rw[qc,hep]at a2;exact a2) a3)
  ·rw[qc,za];exact rr
  ·constructor<;>(show d2.aS.length≤_;rw[rs];omega)
  ·rw[rest];rfl
  ·show kU ps[i].cH d2.timers [1]=_;rw[rest]
 ·have hg:e1=0∧e2=0:=by
   constructor
   ·exact Decidable.not_not.1 λh=>KV (.inl h)
   ·exact Decidable.not_not.1 λh=>KV (.inr h)
  refine⟨_,_,_,⟨λ_ _ _=>by simp,?_,?_,?_,?_,.inr ⟨?_,?_,?_,?_,bb,Ft,?_⟩⟩,main _ _ _ (λ_=>⟨rfl,rfl,rfl⟩) (λh=>absurd h KV)⟩
  ·rw[alV,qc,za];exact rr
  ·rw[alW];constructor<;>(show R.length≤_;omega)
  ·rw[rest];unfold lv;split<;>rfl
  ·rw[hpG]
  ·simp only[lv,hpG,rest];split<;>rfl
  ·rw[hpG]
  ·rw[hpG]
  ·rw[hpG];exact aeJ
  ·rw[hpG];rfl
def NA (d:bc) (p:bO):Bool:=p.iU&& !(p.hand.has&&decide (IntKind.i64.wrap (d.now-p.hand.C9)<d.rules.ret))
def Qy (d:bc) (p:bO) (k pr:Key) (d':bc) (p':bO) (O:List PV):Prop:=(NA d p=false∧d'=d∧p'=p∧O=[])∨(NA d p=true∧Nz d p k pr d' p' O)
theorem sS {d:bc} {p:bO} {k pr:Key} {d':bc} {p':bO} {O:List PV} (h:Nz d p k pr d' p' O):an O∧O.length≤1:=by
 rcases h.out with⟨_,_,rfl⟩|⟨_,_,_,_,b,_,rfl⟩
 ·simp
 ·simp[lu]
theorem Gp {d:bc} (ht:d.timers.length≤1000000) (hs:d.aS.length≤1000000) {ps:List bO} {i:Nat} (hi:i<ps.length) {k pr:Key} (hk:d.random=k.fv) (uO:d.jz=pr.fv) (xF:ps[i].rq=false) {ck:List UInt8} (B8:ck.length=16) (Mo:ps[i].tE.p=bA 16 ck):
  ∃(d':bc) (p':bO) (O:List PV),Qy d ps[i] k pr d' p' O∧MC 112 [.pt (KB+1) [.i i 464] ps.length] d ps (.tup []) d' (ps.set i p') O:=by
 have hx:ps[i]? =some ps[i]:=gJ hi;cases uf:NA d ps[i]
 ·refine⟨d,ps[i],[],.inl ⟨uf,rfl,rfl,rfl⟩,?_⟩;intro L hL hb;unfold NA at uf;refine ae.intro T.S6 (by simp[F.S6]) ?_;rw[JsV];cases he:ps[i].iU
  ·simp[F.S6,aj,av,MB,hi,he];refine aA.with [] [KB,KB+1,KB+2] ?_;simp[dj,hL.refs,hL.aE]
  ·rw[he]at uf;cases hh:ps[i].hand.has
   ·rw[hh]at uf;simp at uf
   ·rw[hh]at uf;simp at uf;simp[F.S6,aj,av,MB,hi,he,hh,uf];refine aA.with [] [KB,KB+1,KB+2] ?_;simp[dj,hL.refs,hL.aE]
 ·obtain⟨d',p',O,hI,hM⟩:=E8 ht hs hi hk uO xF B8 Mo;obtain⟨hOp,hOl⟩:=sS hI;refine⟨d',p',O,.inr ⟨uf,hI⟩,?_⟩;intro L hL hb;have ux:=hL.append hOp;unfold NA at uf;refine ae.intro T.S6 (by simp[F.S6]) ?_;cases he:ps[i].iU
  ·rw[he]at uf;simp at uf
  ·rw[he]at uf;cases hh:ps[i].hand.has
   ·simp[F.S6,aj,av,MB,hi,he,hh];refine ai.BP hM hL hb hOp ?_;simp;refine aA.with [] [KB,KB+1,KB+2] ?_;simp[dj,ux.refs,ux.aE]
   ·rw[hh]at uf;have Sm:¬IntKind.i64.wrap (d.now-ps[i].hand.C9)<d.rules.ret:=by simpa using uf
    simp[F.S6,aj,av,MB,hi,he,hh,Sm];refine ai.BP hM hL hb hOp ?_;simp;refine aA.with [] [KB,KB+1,KB+2] ?_;simp[dj,ux.refs,ux.aE]
theorem acN {d:bc} {ps:List bO} {i:Nat} (hi:i<ps.length) (he:ps[i].iU=false):MC 148 [.pt (KB+1) [.i i 464] ps.length] d ps (.tup []) d ps []:=by
 intro L hL hb;have hx:ps[i]? =some ps[i]:=gJ hi;refine ae.intro (aC R.bI.2) (by simp[R.bI]) ?_;simp[R.bI,aj,av,MB,hi,he];refine aA.with [] [KB,KB+1,KB+2] ?_;simp[dj,hL.refs,hL.aE]
theorem Qz {d d':bc} {ps:List bO} {i:Nat} (hi:i<ps.length) {p':bO} {O:List PV} (hO:an O) (hK:MC 148 [.pt (KB+1) [.i i 464] ps.length] d ps (.tup []) d' (ps.set i p') O) (ht:d'.timers.length≤1048575):
  MC 158 [.pt (KB+1) [.i i 464] ps.length] d ps (.tup []) (wg d' (ji d'.timers ⟨IntKind.i64.wrap (d'.now+p'.jg),p'.cH,4⟩)) (ps.set i p') O:=by
 intro L hL hb;have hx:ps[i]? =some ps[i]:=gJ hi;have ux:=hL.append hO
 have hS:MC 179 [.pt (KB+1) [.i i 464] ps.length,.int .i64 4,.int .i64 (IntKind.i64.wrap (d'.now+p'.jg))] d' (ps.set i p') (.tup []) (wg d' (ji d'.timers ⟨IntKind.i64.wrap (d'.now+p'.jg),p'.cH,4⟩)) (ps.set i p') []:=by
  have:=acL ht (ps:=ps.set i p') (i:=i) (by simpa using hi) 4 (IntKind.i64.wrap (d'.now+p'.jg));simpa using this
 refine ae.intro (aC R.jm.2) (by simp[R.jm]) ?_;simp[R.jm,aj,av,MB];refine ai.BP hK hL hb hO ?_;simp[hi];refine ai.mc hS (L:=L++O) (by simp) (by simp[JfJ]) (by simp) ux (by simpa using hb) (by simp[ah,af,bR,idx]) (by simp[aR,aE,bz,idx]) (by simp[af,ah]) (by simp[aE,aR]) (by simp) ?_;simp;refine aA.with [] [KB,KB+1,KB+2] ?_;simp[dj,ux.refs,ux.aE]
theorem MC.nsz {f:FuncId} {x y:PV} {sz:Nat} {d:bc} {ps:List bO} {v:PV} {d':bc} {Be:List bO} {O:List PV} (h:MC f [x,y,.sl sz [] false] d ps v d' Be O):MC f [x,y,.sl 0 [] false] d ps v d' Be O:=λL hL hb=>ae.alB (sz:=sz) (h L hL hb)
theorem QA (d:bc) (p:bO):(lv d p).timers.length≤d.timers.length+1:=by
 unfold lv;split
 ·omega
 ·exact stl _ _
theorem acO {s:ld} {d:bc} (h:Zs s d.rules d.now=true):okT d s:=by
 simp[Zs]at h;exact⟨h.2.1,h.2.2.1,h.2.2.2⟩
def Ii (d:bc) (p:bO) (k pr:Key) (d':bc) (p':bO) (O:List PV):Prop:=
 (p.iU=false∧d'=d∧p'=p∧O=[])∨
 (p.iU=true∧J9 d p=false∧Qy d p k pr d' p' O)∨
 (p.iU=true∧J9 d p=true∧d'=wg (lv d p) (kU p.cH (lv d p).timers [3])∧p'=Oy p∧∃b:List UInt8,b.length=32∧O=[lu p p.ring.c.nn.send.p p.ring.c.nn.next b])
theorem Zz {d:bc} (h0:0≤d.now) (h9:d.now≤9000000000000000000) (ht:d.timers.length≤1000000) (hs:d.aS.length≤1000000) {ps:List bO} {i:Nat} (hi:i<ps.length) {k pr:Key} (hk:d.random=k.fv) (uO:d.jz=pr.fv) (xF:ps[i].rq=false) {ck:List UInt8} (B8:ck.length=16) (Mo:ps[i].tE.p=bA 16 ck)
  (uf:0≤ps[i].ring.c.nn.born) {sk:Key} (hsk:ps[i].ring.c.nn.send=sk.fv) (hr:0≤ps[i].ring.c.nn.rem∧ps[i].ring.c.nn.rem≤4294967295) (Mi:0≤ps[i].ring.c.nn.next):
  ∃(d':bc) (p':bO) (O:List PV),Ii d ps[i] k pr d' p' O∧(an O∧O.length≤1)∧MC 148 [.pt (KB+1) [.i i 464] ps.length] d ps (.tup []) d' (ps.set i p') O:=by
 have hx:ps[i]? =some ps[i]:=gJ hi;cases he:ps[i].iU
 ·exact⟨d,ps[i],[],.inl ⟨he,rfl,rfl,rfl⟩,by simp,by rw[JsV];exact acN hi he⟩
 ·have hC:=Ih h0 h9 hi uf;cases hc:J9 d ps[i]
  ·rw[hc]at hC;obtain⟨d',p',O,hB,hM⟩:=Gp ht hs hi hk uO xF B8 Mo
   have hO:an O∧O.length≤1:=by
    rcases hB with⟨_,_,_,rfl⟩|⟨_,h⟩
    ·simp
    ·exact sS h
   refine⟨d',p',O,.inr (.inl ⟨he,hc,hB⟩),hO,?_⟩;intro L hL hb;have ux:=hL.append hO.1;refine ae.intro (aC R.bI.2) (by simp[R.bI]) ?_;simp[R.bI,aj,av,MB,hi,he];refine ai.BP hC hL (by simp;omega) (by simp) ?_;simp;refine ai.BP hM hL hb hO.1 ?_;simp;refine aA.with [] [KB,KB+1,KB+2] ?_;simp[dj,ux.refs,ux.aE]
  ·rw[hc]at hC
   have hu:Zs ps[i].ring.c.nn d.rules d.now=true:=by
    unfold J9 at hc;exact(JmJ.1 hc).2
   obtain⟨b,ue,hT⟩:=Ny (by omega:d.timers.length≤1048575) hi hsk hr Mi (acO hu);have hkp:ps[i].ring.c.nn.send.p=aG sk:=by rw[hsk];rfl
   rw[←hkp]at hT;have hO:an [lu ps[i] ps[i].ring.c.nn.send.p ps[i].ring.c.nn.next b]:=by simp[lu]
   refine⟨_,_,_,.inr (.inr ⟨he,hc,rfl,rfl,b,ue,rfl⟩),⟨hO,by simp⟩,?_⟩
   have awc:MC 116 [.pt (KB+1) [.i i 464] ps.length,.sl 1 [.int .i64 3] false] (lv d ps[i]) (ps.set i (Oy ps[i])) (.tup []) (wg (lv d ps[i]) (kU ps[i].cH (lv d ps[i]).timers [3])) (ps.set i (Oy ps[i])) []:=by
    have:=yJ (d:=lv d ps[i]) (by have:=QA d ps[i];omega) (ps:=ps.set i (Oy ps[i])) (i:=i) (by simpa using hi) (ks:=[3]) (by simp);simpa[Oy]using this
   intro L hL hb;have ux:=hL.append hO;have A9:L.length+1≤1000000:=by simpa using hb
   refine ae.intro (aC R.bI.2) (by simp[R.bI]) ?_;simp[R.bI,aj,av,MB,hi,he];refine ai.BP hC hL (by simp;omega) (by simp) ?_;simp;refine ai.BP hT.nsz hL hb hO ?_;simp;refine ai.mc awc (L:=L++[lu ps[i] ps[i].ring.c.nn.send.p ps[i].ring.c.nn.next b]) (by simp) (by simp[JfJ]) (by simp) ux (by simpa using A9) (by simp[ah,af,bR,idx]) (by simp[aR,aE,bz,idx]) (by simp[af,ah]) (by simp[aE,aR]) (by simp) ?_;simp;refine aA.with [] [KB,KB+1,KB+2] ?_;simp[dj,ux.refs,ux.aE]
theorem oG {l:List uL} (h:l.length≤8) (b:Bool):aK Pg 248 [.sl 77 (l.map ib) b] (oC (uM l)):=by
 refine ae.intro (aC R.oG.2) (by simp[R.oG]) ?_;simp[R.oG,aj,av,oC];refine eW.fD l.length (λ_=>True) [2,3,6,7,8] (λi=>[(3,.rs 3 [] 0 (uM (l.take i)).length (uM (l.take i)).length 1 .tip),(8,.int .i64 i)]) (λi=>[(3,.arr 1 ((uM (l.take i)).map (λn:Int=>PV.int .u32 n)))]) [.vt 3 3 1] ?_;simp[show uM []=[] from rfl];refine⟨λi hi K hK=> ?_,λK=> ?_⟩
 ·have hx:l[i]? =some l[i]:=gJ hi;have hlen:=Ae (l.take i);have Mg:(l.take i).length≤i:=by rw[lJ];omega
  rw[Ij hi]at hK;generalize uM (l.take i)=out at*;by_cases h1:l[i].has=true
  ·simp[↓al,hi,h1,dM hi (by omega)];refine⟨⟨by omega,by omega⟩,[.keep [2,3,6,7,8],.dr 5],?_⟩;simp[bt,b8,af,ab];exact hK _ (by simp[h1])
  ·simp[↓al,hi,h1,dM hi (by omega)];refine⟨[.keep [2,3,6,7,8],.dr 5],?_⟩;simp[bt,b8,af,ab];exact hK _ (by simp[h1])
 ·simp[↓al];refine aA.plain [.keep [2],.fz 3,.wk 2] ?_;simp
theorem oH (r:ss):aK Pg 251 [iH r] (oC (uM [r.p,r.c,r.n])):=by
 refine ae.intro (aC R.oH.2) (by simp[R.oH]) ?_;simp[R.oH,aj,av];refine ai.rA (oG (l:=[r.p,r.c,r.n]) (by simp) false) ?_;simp;refine aA.plain [] ?_;simp
theorem VG (l:List uL):(uM l).length≤l.length:=by
 unfold uM;rw[JaX];exact JfZ _ _
def Eg (p:bO):bO:= {p with ring:=⟨qE,qE,qE⟩,hand:=yL}
def NB (d:bc) (p:bO):bc:=let e:=mQ (pH d (cE d.aS (uM [p.ring.p,p.ring.c,p.ring.n]))) p;wg e (kU p.cH e.timers [2,3])
theorem alY {d:bc} (ht:d.timers.length≤1000000) (hs:d.aS.length≤1000000) {ps:List bO} {i:Nat} (hi:i<ps.length):
  MC 159 [.pt (KB+1) [.i i 464] ps.length] d ps (.tup []) (NB d ps[i]) (ps.set i (Eg ps[i])) []:=by
 intro L hL hb;have hx:ps[i]? =some ps[i]:=gJ hi;have hl:=VG [ps[i].ring.p,ps[i].ring.c,ps[i].ring.n];have hLo:=oH ps[i].ring;have hD:=Qu (d:=d) (by omega:d.aS.length≤1048576) (l:=uM [ps[i].ring.p,ps[i].ring.c,ps[i].ring.n]) (by simp at hl;omega) ps;have hdl:=kC (uM [ps[i].ring.p,ps[i].ring.c,ps[i].ring.n]) d.aS;refine ae.intro (aC R.lx.2) (by simp[R.lx]) ?_;simp[R.lx,aj,av,MB,hi];refine ai.rA hLo ?_;simp;refine ai.BP hD hL (by simpa using hb) (by simp) ?_;obtain⟨d1,OE⟩:∃d1,d1=pH d (cE d.aS (uM [ps[i].ring.p,ps[i].ring.c,ps[i].ring.n])):=⟨_,rfl⟩
 have aAm:d1.aS.length≤1000000:=by rw[OE];show(cE d.aS _).length≤_;omega
 have aAn:d1.timers.length≤1000000:=by rw[OE];exact ht
 rw[←OE];obtain⟨p1,Jd⟩:∃p1:bO,p1= {ps[i]with ring:=⟨qE,qE,qE⟩}:=⟨_,rfl⟩
 have e1:mQ d1 p1=mQ d1 ps[i]:=by rw[Jd];rfl
 have e2:oz p1=Eg ps[i]:=by rw[Jd];rfl
 have e3:p1.cH=ps[i].cH:=by rw[Jd]
 have hF:MC 250 [.pt (KB+1) [.i i 464] ps.length] d1 (ps.set i p1) (.tup []) (mQ d1 ps[i]) (ps.set i (Eg ps[i])) []:=by
  have:=Lw (d:=d1) (by omega) (by omega) (ps:=ps.set i p1) (i:=i) (by simpa using hi);simpa[e1,e2]using this
 have hft:(mQ d1 ps[i]).timers.length≤1000000:=by
  have h1:=wh ps[i].cH [1] d1.timers;show(kU ps[i].cH d1.timers [1]).length≤_;omega
 have hCn:MC 116 [.pt (KB+1) [.i i 464] ps.length,.sl 1 [.int .i64 2,.int .i64 3] false] (mQ d1 ps[i]) (ps.set i (Eg ps[i])) (.tup []) (NB d ps[i]) (ps.set i (Eg ps[i])) []:=by
  have:=yJ (d:=mQ d1 ps[i]) (by omega) (ps:=ps.set i (Eg ps[i])) (i:=i) (by simpa using hi) (ks:=[2,3]) (by simp);unfold NB;rw[←OE];simpa[show(Eg ps[i]).cH=ps[i].cH from rfl]using this
 have em:∀v,sP ps[i] v=aQ p1->(ps.map aQ).set i (sP ps[i] v)=(ps.set i p1).map aQ:=by
  intro v hv;rw[hv];exact(JfJ).symm
 simp[hi];rw[em _ (by rw[Jd];rfl)];refine ai.BP hF hL (by simpa using hb) (by simp) ?_;simp;refine ai.mc hCn (by simp) (by simp[JfJ]) (by simp) hL (by simpa using hb) (by simp[ah,af,bR,idx]) (by simp[aR,aE,bz,idx]) (by simp[af,ah]) (by simp[aE,aR]) (by simp) ?_;simp;refine aA.with [] [KB,KB+1,KB+2] ?_;simp[dj,hL.refs,hL.aE]
def Gq (m:cV) (l:List cV):cV:=l.foldl (λm t=>if eg t m=true then t else m) m
theorem QB {m:cV} {l:List cV} {i:Nat} (h:i<l.length):Gq m (l.take (i+1))=if eg l[i] (Gq m (l.take i))=true then l[i]else Gq m (l.take i):=by
 rw[JcZ h,Gq,List.foldl_append];rfl
def zT:cV:=⟨0,zK,0⟩
theorem alZ:PV.st 34 [.int .i64 0,.ar 1 32 (zr 32 (.int .u8 0)),.int .i64 0]=bj zT:=by rw[tF];rfl
def NC (l:List cV) (to:Int):cV×Bool:=match l with
 |[]=>(zT,false)
 |t::r=>if(Gq t r).at_≤to then(Gq t r,true)else(zT,false)
theorem al0 {l:List cV} (hl:l.length≤1000000) (to:Int):aK Pg 78 [cC l,.int .i64 to] (.tup [bj (NC l to).1,.bl (NC l to).2]):=by
 refine ae.intro (aC R.wo.2) (by simp[R.wo]) ?_;cases l with
 |
  nil=>
  simp[R.wo,aj,av,NC]
  refine aA.plain [] ?_
  simp[alZ]
 |
  cons t r=>
  simp at hl
  simp[R.wo,aj,av,NC,cC]
  refine⟨λh=>by omega,λ_=>⟨by omega,?_⟩⟩
  refine eW.fD r.length (λ_=>True) [1,4,5,6,17,18,19] (λi=>[(19,.int .i64 i)]) (λi=>[(6,.box (bj (Gq t (r.take i))))]) [.keep [1,4,5,6,17,18,19]] ?_
  simp[show Gq t []=t from rfl]
  refine⟨λi hi K hK=> ?_,λK=> ?_⟩
  ·have hx:r[i]? =some r[i]:=gJ hi
   have hw:IntKind.i64.wrap ((i:Int)+1)=(i:Int)+1:=wrap_i64 (by omega)
   rw[QB hi]at hK
   have hle:=ZA r[i] (Gq t (r.take i))
   generalize Gq t (r.take i)=m at*
   simp[↓al,hi]
   refine ai.rA hle ?_
   cases hc:eg r[i] m
   ·rw[hc]at hK
    simp[hw]
    refine⟨[.keep [1,4,5,6,17,18,19],.dr 8],?_⟩
    simp
    exact hK _ (by simp)
   ·rw[hc]at hK
    simp[hw]
    refine⟨[.keep [1,4,5,6,17,18,19],.dr 8],?_⟩
    simp
    exact hK _ (by simp)
  ·simp[↓al]
   generalize Gq t r=m at*
   by_cases hm:m.at_≤to
   ·have hn:¬to<m.at_:=by omega
    simp[hm,hn]
    refine aA.plain [] ?_
    simp[hm]
   ·have hn:to<m.at_:=by omega
    simp[hm,hn]
    refine aA.plain [] ?_
    simp[alZ,show¬m.at_≤to by omega]
def VH (b:Nat):aV:= .map b (.i .i64) .b [(.int .i64 1,.fn (.func 157) [] []),(.int .i64 2,.fn (.func 112) [] []),(.int .i64 3,.fn (.func 148) [] []),(.int .i64 4,.fn (.func 158) [] []),(.int .i64 5,.fn (.func 159) [] [])]
theorem VI:ae Pg 77 [] [] (λr fp=>∃b,r= .mp 1 b∧fp=[VH b]):=by
 refine ae.intro (aC R.rY.2) (by simp[R.rY]) ?_;simp[R.rY,aj,av];intro b;simp[ed,msP,wA,PV.beq];simp[Ab.fits,oV];refine aA.with [] [1] ?_;simp[ab,az,VH];simp only[ed];simp only[PV.flat,af,aE];exact⟨⟨trivial,trivial⟩,trivial⟩
noncomputable def F.drt:cM:=⟨R.ND.1.nt,R.ND.1.res,mP R.ND.1.code [1,1]⟩
theorem T.drt:nk Pg [] [] 157=some F.drt.er:=E7 [1,1] (aC R.ND.2)
def Ka (d:bc) (p:bO):Bool:=decide (IntKind.i64.wrap (d.now-p.hand.started)<d.rules.att)
def Du (p:bO):bO:= {p with hand:=yL,dI:=[]}
def VJ (d:bc) (p:bO):bc:=wg (mQ d p) (kU p.cH (mQ d p).timers [2,3])
def acP (d:bc) (p:bO) (k pr:Key) (d':bc) (p':bO) (O:List PV):Prop:=(Ka d p=true∧Nz d p k pr d' p' O)∨(Ka d p=false∧d'=VJ d p∧p'=Du p∧O=[])
theorem y6.st0 {l:List PV} {i:Nat} (hi:i<l.length) {p q:PV} (h:y6 [p] [q]):y6 (l.set i p) (l.set i q):=by
 induction l generalizing i with
 |nil=>simp at hi
 |
  cons x l ih=>
  cases i with
  |
   zero=>
   simp only[JqX]
   cases h with
   |same _=>exact .refl _
   |emp _=>exact .emp (.refl _)
   |st h _=>exact .st h (.refl _)
  |
   succ i=>
   simp only[List.set_cons_succ]
   exact .same (ih (by simpa using hi))
theorem acQ {d:bc} (ht:d.timers.length≤1000000) (hs:d.aS.length≤1000000) {ps:List bO} {i:Nat} (hi:i<ps.length) {k pr:Key} (hk:d.random=k.fv) (uO:d.jz=pr.fv) (xF:ps[i].rq=false) {ck:List UInt8} (B8:ck.length=16) (Mo:ps[i].tE.p=bA 16 ck):
  ∃(d':bc) (p':bO) (O:List PV),acP d ps[i] k pr d' p' O∧(an O∧O.length≤1)∧MC 157 [.pt (KB+1) [.i i 464] ps.length] d ps (.tup []) d' (ps.set i p') O:=by
 have hx:ps[i]? =some ps[i]:=gJ hi;by_cases hr:IntKind.i64.wrap (d.now-ps[i].hand.started)<d.rules.att
 ·obtain⟨d',p',O,hI,hM⟩:=E8 ht hs hi hk uO xF B8 Mo;have hO:=sS hI;refine⟨d',p',O,.inl ⟨by simp[Ka,hr],hI⟩,hO,?_⟩;intro L hL hb;have ux:=hL.append hO.1;refine ae.intro (aC R.kD.2) (by simp[R.kD]) ?_;simp[R.kD,aj,av,MB,hi,hr];refine ai.BP hM hL hb hO.1 ?_;simp;refine aA.with [] [KB,KB+1,KB+2] ?_;simp[dj,ux.refs,ux.aE]
 ·refine⟨_,_,[],.inr ⟨by simp[Ka,hr],rfl,rfl,rfl⟩,by simp,?_⟩;have hF:=Lw (d:=d) (by omega) (by omega) hi
  have hft:(mQ d ps[i]).timers.length≤1000000:=by
   have h1:=wh ps[i].cH [1] d.timers;show(kU ps[i].cH d.timers [1]).length≤_;omega
  have hCn:MC 116 [.pt (KB+1) [.i i 464] ps.length,.sl 1 [.int .i64 2,.int .i64 3] false] (mQ d ps[i]) (ps.set i (Du ps[i])) (.tup []) (VJ d ps[i]) (ps.set i (Du ps[i])) []:=by
   have:=yJ (d:=mQ d ps[i]) (by omega) (ps:=ps.set i (Du ps[i])) (i:=i) (by simpa using hi) (ks:=[2,3]) (by simp);simpa[VJ,show(Du ps[i]).cH=ps[i].cH from rfl]using this
  intro L hL hb;refine ae.intro T.drt (by simp[F.drt,R.ND]) ?_;simp[F.drt,R.ND,mP,aj,av,MB,hi,hr];refine ai.BP hF hL (by simpa using hb) (by simp) ?_;simp
  have eS:y6 [nZ (oz ps[i]) (.sl 0 [] false)] [aQ (Du ps[i])]:=by
   refine .st ?_ .nil;repeat (first|exact y6.emp .nil|refine y6.same ?_)
  refine SE.of (λs'=>s'=⟨[(0,.pt KB [] 0),(1,.pt (KB+1) [.i i 464] ps.length)],[(KB,.box (tN (mQ d ps[i]) (KB+1) ps.length (KB+2) L.length)),(KB+1,.arr 464 ((ps.map aQ).set i (aQ (Du ps[i])))),(KB+2,.arr 86 L)]⟩) ?_ ?_
  ·simp[hi];refine⟨[.keep [0,1],.es (KB+1) ((ps.map aQ).set i (aQ (Du ps[i])))],?_⟩;simp;exact y6.st0 (by simpa using hi) eS
  ·rintro s' rfl;simp;refine ai.mc hCn (by simp) (by simp[JfJ]) (by simp) hL (by simpa using hb) (by simp[ah,af,bR,idx]) (by simp[aR,aE,bz,idx]) (by simp[af,ah]) (by simp[aE,aR]) (by simp) ?_;simp;refine aA.with [] [KB,KB+1,KB+2] ?_;simp[dj,hL.refs,hL.aE]
end Go.Ab
