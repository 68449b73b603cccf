/- Functions of the program and of the document, as the abstract reading walks them, part 6. No condition. -/
import Derived.Test.YtlcojgogfjlceaaGreatDoorB5
import Derived.Test.YtlcojgogfjlceaaGreatDoorA5
set_option maxRecDepth 10000
set_option maxHeartbeats 4000000
set_option linter.all false
noncomputable section
namespace Go.Ab
structure VD (d:bc):Prop where
 ru:AV d.rules
 n0:0≤d.now
 n1:d.now≤16777216
 p0:0≤d.port
 p1:d.port≤65535
 bad:d.bad=0
 Gw:IT d.au
 Dr:∀p∈d.au,nN d p
 rts:Rx d.bH
 rtl:d.bH.length=d.au.length
 sls:s6 d
 tis:Rz d
 s0:0≤d.qC
 s1:d.qC≤d.now
 rcn:d.dT=[]
 buc:d.buckets=[]
 kp:∃k:Key,d.jz=k.fv
 kr:∃k:Key,d.random=k.fv
theorem WW {d:bc} (h:VD d):aK Pg 94 [eX d] (.int .i64 0):=by
 refine ae.intro (aC R.nG.2) (by simp[R.nG]) ?_;have hl:=h.Gw.1;have hs:0≤d.rules.vh:=by have:=h.ru.2.2.2.2.2.2.2.2.2.2.2.2.2.2.2.1;omega
 have On:∀(i:Nat) (h:i+1<d.au.length),WN d.au[i].cH d.au[i+1].cH=true:=by
  intro i hi;rw[h.Gw.2 i (by omega),h.Gw.2 (i+1) hi];exact Rw (by omega) (by omega)
 have hb:=h.bad;simp[R.nG,aj,av];refine ai.rA (GL h.ru) ?_;simp;refine ai.rA (jE (n:=d.now) (a:=0) (b:=1099511627776) h.n0 (by have:=h.n1;omega)) ?_;simp;refine ai.rA (jE (n:=d.port) (a:=0) (b:=65535) h.p0 h.p1) ?_;simp[hb];refine ai.rA (jE (n:=0) (a:=0) (b:=1099511627776) (by omega) (by omega)) ?_;simp;refine ai.rA (WU (d:=d) (by omega) On) ?_;simp;refine ai.rA (Ku (d:=d) (k:=3) (by omega) (by omega) h.Dr h.n0 hs) ?_;simp;refine ai.rA (Ku (d:=d) (k:=4) (by omega) (by omega) h.Dr h.n0 hs) ?_;simp;refine ai.rA (Ku (d:=d) (k:=5) (by omega) (by omega) h.Dr h.n0 hs) ?_;simp;refine ai.rA (Ry (d:=d) h.rts h.Gw h.rtl) ?_;simp;refine ai.rA (WV (d:=d) h.sls h.Gw h.Dr) ?_;simp;refine ai.rA (RA (d:=d) h.tis h.n0 h.Gw h.Dr) ?_;simp;refine ai.rA (adI (d:=d) h.s0 h.s1 h.rcn h.buc) ?_;simp;refine aA.plain [] ?_;simp
theorem WX {d:bc} (h:VD d):aK Pg 42 [eX d] (.bl true):=by
 refine ae.intro (aC R.nH.2) (by simp[R.nH]) ?_;simp[R.nH,aj,av];refine ai.rA (WW h) ?_;simp;refine aA.plain [] ?_;simp
def RE:PV:= .sl 86 [] true
@[simp] theorem ahP:Pure RE:=by simp[RE]
@[simp] theorem adL:RE.width=1:=rfl
def Fg (d:bc) (p:PV):PV:= .st 149 [aZ d p,RE]
@[simp↓] theorem am7 (d:bc) (p:PV) (r:List Step):aM (Fg d p) (.f 0 0::r)=aM (aZ d p) r:=by simp[Fg]
def RG (c:PV):PV:= .st 149 [c,RE]
@[simp↓] theorem am8 (d:bc) (p:PV) (r:List Step) (x:PV):bT (Fg d p) (.f 0 0::r) x=(bT (aZ d p) r x).bind λc=>some (RG c):=by
 simp[Fg,RG]
@[simp↓] theorem arw (d:bc) (p:PV):RG (aZ d p)=Fg d p:=_root_.id rfl
@[simp] theorem am9 (f:Nat->Bool) (d:bc) (p:PV):af f (Fg d p)=af f p:=by
 simp[Fg,ah]
@[simp] theorem arx (ρ:Nat->Nat) (d:bc) (p:PV):aE ρ (Fg d p)=Fg d (aE ρ p):=by
 simp[Fg,aR]
theorem aae (d:bc) (p:PV):PV.st 149 [aZ d p,.sl 86 [] true]=Fg d p:=rfl
def pH (d:bc) (s:List gr):bc:= {d with aS:=s}
def wg (d:bc) (s:List cV):bc:= {d with timers:=s}
@[simp] theorem ahQ (d:bc) (s:List gr):(pH d s).aS=s:=rfl
@[simp] theorem auP (d:bc) (s t:List gr):pH (pH d s) t=pH d t:=rfl
def cE (s:List gr) (l:List Int):List gr:=l.foldl (λs x=>s.filter (Gl x)) s
theorem kC:∀(l:List Int) (s:List gr),(cE s l).length≤s.length
 |[],s=>JaQ _
 |x::l,s=>JeW (kC l _) (JfZ _ _)
theorem yK {s:List gr} {l:List Int} {i:Nat} (h:i<l.length):cE s (l.take (i+1))=(cE s (l.take i)).filter (Gl l[i]):=by
 rw[JcZ h];unfold cE;rw[List.foldl_append];rfl
theorem yX {d:bc} (hs:d.aS.length≤1048576) {l:List Int} (hl:l.length≤8) (ps:List bO):
  ae Pg 49 [.pt KB [] 0,oC l] [.box (Fg d (.rs (KB+1) [] 0 ps.length ps.length 464 .tip)),.arr 464 (ps.map aQ)]
   (λr fp=>r= .tup []∧fp=[.box (Fg (pH d (cE d.aS l)) (.rs (KB+1) [] 0 ps.length ps.length 464 .tip)),.arr 464 (ps.map aQ)]):=by
 refine ae.intro (aC R.iC.2) (by simp[R.iC]) ?_;simp[R.iC,aj,av];refine eW.fD l.length (λ_=>True) [0,6,7,8] (λi=>[(8,.int .i64 i)]) (λi=>[(KB,.box (Fg (pH d (cE d.aS (l.take i))) (.rs (KB+1) [] 0 ps.length ps.length 464 .tip)))]) [.keep [0,6,7,8]] ?_;simp[show∀s,cE s []=s from λ_=>rfl,show pH d d.aS=d from rfl];refine⟨λi hi K hK=> ?_,λK=> ?_⟩
 ·have hx:l[i]? =some l[i]:=gJ hi;rw[yK hi]at hK;have hle:=kC (l.take i) d.aS;generalize cE d.aS (l.take i)=S at*;simp[↓al,hi];refine ai.rA (Rq (l:=S) (by omega) l[i]) ?_;simp[dM hi (by omega)];refine⟨[.keep [0,6,7,8]],?_⟩;simp;exact hK _ (by simp[pH])
 ·simp[↓al];refine aA.with [] [KB,KB+1] ?_;simp[dj]
theorem AY {d:bc} (ht:d.timers.length≤1048575) {ps:List bO} {i:Nat} (hi:i<ps.length) (k:Int) {n:Int} (h1:0≤d.now) (h2:d.now≤16777216) (h3:0≤n) (h4:n≤16777216):
  ae Pg 51 [.pt KB [] 0,.int .i64 i,.int .i64 k,.int .i64 n] [.box (Fg d (.rs (KB+1) [] 0 ps.length ps.length 464 .tip)),.arr 464 (ps.map aQ)]
   (λr fp=>r= .tup []∧fp=[.box (Fg (wg d (ji d.timers ⟨d.now+n,ps[i].cH,k⟩)) (.rs (KB+1) [] 0 ps.length ps.length 464 .tip)),.arr 464 (ps.map aQ)]):=by
 refine ae.intro T.eu (by simp[F.eu]) ?_;have hx:ps[i]? =some ps[i]:=gJ hi;have hw:IntKind.i64.wrap (d.now+n)=d.now+n:=wrap_i64 (by omega);have e:PV.st 34 [.int .i64 (d.now+n),aG ps[i].cH,.int .i64 k]=bj ⟨d.now+n,ps[i].cH,k⟩:=rfl;simp[F.eu,aj,av,hi,hw,e];refine aN.rA (dR (l:=d.timers) ht ⟨d.now+n,ps[i].cH,k⟩) ?_;simp;refine aA.with [] [KB,KB+1] ?_;simp[dj,wg]
theorem VD.sml {d:bc} (h:VD d):Kb d where
 au:=by have:=h.Gw.1;omega
 bH:=by have:=h.rts.1;omega
 aS:=by have:=h.sls.len h.Gw.1;omega
 timers:=by have:=h.tis.len;omega
 dT:=by rw[h.rcn];simp
 buckets:=by rw[h.buc];simp
 dI:=λp hp=>by rw[(h.Dr p hp).dI];simp
def vG (r:ss) (s:ld) (own:Bool):ss:=if own=true then xB r s else Rs r s
def kN (r:ss) (own:Bool):List Int:=if own=true then ub r else IP r
def pR (p:bO) (r:ss):bO:= {p with ring:=r}
def nO (d:bc) (i:Nat) (hi:i<d.au.length) (s:ld) (own:Bool):bc:=
 {d with au:=d.au.set i (pR d.au[i] (vG d.au[i].ring s own)),aS:=Bq (cE d.aS (kN d.au[i].ring own)) ⟨s.loc,pK i,true⟩,timers:=ji d.timers ⟨d.now+3*d.rules.sN,pK i,5⟩}
theorem Fh (r:ss) (own:Bool):(kN r own).length≤8:=by
 unfold kN ub IP;split
 ·split
  ·exact JeW (Ae _) (by simp)
  ·exact JeW (Ae _) (by simp)
 ·exact JeW (Ae _) (by simp)
theorem vH {x:gr}:∀ {l:List Int} {s:List gr},x∈cE s l->x∈s
 |[],s,h=>h
 |y::l,s,h=>(JgW.1 (vH (l:=l) h)).1
theorem N0 {d:bc} (h:VD d) {i:Nat} (hi:i<d.au.length) {s:ld} (hs:yV d s) (h1:1≤s.loc) (pS:∀x∈d.aS,x.index≠s.loc) (own:Bool):
  aK Pg 22 [eX d,aG (pK i),fa s,.bl own] (.tup [eX (nO d i hi s own),.int .i64 0]):=by
 refine ae.intro T.gk (by simp[F.gk]) ?_;have EA:=h.sls.len h.Gw.1;have hni:¬(i:Int)<0:=by omega
 have Mi:¬s.loc=0:=by omega
 have xL:=h.ru;have hx:d.au[i]? =some d.au[i]:=gJ hi
 have hw:IntKind.i64.wrap (3*d.rules.sN)=3*d.rules.sN:=by
  obtain⟨h1,h2,h3,h4,h5,h6,h7,h8,h9,h10,h11,_⟩:=xL;exact wrap_i64 (by omega)
 simp[F.gk,aj,av];refine ai.rA (WX h) ?_;simp;refine ai.rA (Kv h.Gw hi) ?_;simp[hni];refine ai.rA (AW (l:=d.aS) (by omega) pS) ?_;simp[Mi];refine ai.rA (LZ hs) ?_;simp;refine ai.gA [] [47] [] (fx h.sml) (by simp) (by simp) (by simp[ab,af,c9]) ?_;simp[aI,az,aE,cU,hi];obtain⟨PS,hPS⟩:∃PS,PS=d.au.set i (pR d.au[i] (vG d.au[i].ring s own)):=⟨_,rfl⟩
 have hPl:PS.length=d.au.length:=by rw[hPS,JlJ]
 obtain⟨SD,hSD⟩:∃SD,SD=cE d.aS (kN d.au[i].ring own):=⟨_,rfl⟩
 have aBg:SD.length≤9:=by have:=kC (kN d.au[i].ring own) d.aS;rw[←hSD]at this;omega
 have hT:=Take (l:=SD) (by omega) h1 (λx hx=>pS x (by rw[hSD]at hx;exact vH hx)) (pK i) true;obtain⟨SL,hSL⟩:∃SL,SL=Bq SD ⟨s.loc,pK i,true⟩:=⟨_,rfl⟩
 rw[←hSL]at hT
 have hPi:PS[i].cH=pK i:=by
  simp only[hPS,List.getElem_set_self];exact h.Gw.2 i hi
 have Fw:=h.tis.len;have aBh:=h.n0;have aBi:=h.n1;obtain⟨q1,q2,q3,q4,q5,q6,q7,q8,q9,q10,q11,_⟩:=xL;cases own with
 |
  true=>
  have kX:(List.map aQ d.au).set i (aQ {d.au[i]with ring:=xB d.au[i].ring s})=PS.map aQ:=by
   rw[hPS,JfJ];rfl
  have hD:=yX (d:=d) (by omega) (l:=ub d.au[i].ring) (Fh d.au[i].ring true) PS
  have aeS:cE d.aS (ub d.au[i].ring)=SD:=by rw[hSD];rfl
  have hS:=AY (d:=pH d SL) (by show d.timers.length≤1048575;omega) (ps:=PS) (i:=i) (by omega) 5 (n:=3*d.rules.sN) h.n0 h.n1 (by omega) (by omega)
  rw[hPi]at hS
  rw[hPl]at hD hS
  dsimp only at kX
  simp[aae]
  refine aN.rA (dN d.au[i].ring s) ?_
  simp[hi]
  rw[kX]
  refine ai.gA [13,47] [] [.box (Fg d (.rs 47 [] 0 d.au.length d.au.length 464 .tip)),.arr 464 (PS.map aQ)] hD (by simp[ab,af,bR,idx]) (by simp[az,aE,bz,idx]) (by simp[ab,af,c9]) ?_
  simp[aI,az,aE,cU,aeS]
  refine ai.rA hT ?_
  simp[hw]
  refine ai.gen [13,47] [] [.box (Fg (pH d SL) (.rs 47 [] 0 d.au.length d.au.length 464 .tip)),.arr 464 (PS.map aQ)] hS (by simp[getAll];rfl) (by simp) (by simp) (by simp[ah,af,bR,idx]) (by simp[ab,af,bR,idx]) (by simp[aR,aE,bz,idx]) (by simp[az,aE,bz,idx]) (by simp[ab,af,c9]) ?_
  simp[aI,az,aE,cU]
  refine aA.plain [.keep [8,9],.dr 13,.fz 47] ?_
  simp[bt,b8,af,ab]
  have ht:List.take d.au.length (List.map aQ PS)=List.map aQ PS:=tJ (by simp[hPl])
  rw[if_pos ⟨hPl.symm,Nat.le_of_eq hPl.symm⟩,ht]
  refine⟨Dh _ (by simp),?_⟩
  have he:nO d i hi s true= {wg (pH d SL) (ji (pH d SL).timers ⟨(pH d SL).now+3*d.rules.sN,pK i,5⟩)with au:=PS}:=by
   simp only[nO,hPS,hSL,hSD,wg,pH]
  rw[he]
  rfl
 |
  false=>
  have kX:(List.map aQ d.au).set i (aQ {d.au[i]with ring:=Rs d.au[i].ring s})=PS.map aQ:=by
   rw[hPS,JfJ];rfl
  have hD:=yX (d:=d) (by omega) (l:=IP d.au[i].ring) (Fh d.au[i].ring false) PS
  have aeS:cE d.aS (IP d.au[i].ring)=SD:=by rw[hSD];rfl
  have hS:=AY (d:=pH d SL) (by show d.timers.length≤1048575;omega) (ps:=PS) (i:=i) (by omega) 5 (n:=3*d.rules.sN) h.n0 h.n1 (by omega) (by omega)
  rw[hPi]at hS
  rw[hPl]at hD hS
  dsimp only at kX
  simp[aae]
  refine aN.rA (gK d.au[i].ring s) ?_
  simp[hi]
  rw[kX]
  refine ai.gA [13,47] [] [.box (Fg d (.rs 47 [] 0 d.au.length d.au.length 464 .tip)),.arr 464 (PS.map aQ)] hD (by simp[ab,af,bR,idx]) (by simp[az,aE,bz,idx]) (by simp[ab,af,c9]) ?_
  simp[aI,az,aE,cU,aeS]
  refine ai.rA hT ?_
  simp[hw]
  refine ai.gen [13,47] [] [.box (Fg (pH d SL) (.rs 47 [] 0 d.au.length d.au.length 464 .tip)),.arr 464 (PS.map aQ)] hS (by simp[getAll];rfl) (by simp) (by simp) (by simp[ah,af,bR,idx]) (by simp[ab,af,bR,idx]) (by simp[aR,aE,bz,idx]) (by simp[az,aE,bz,idx]) (by simp[ab,af,c9]) ?_
  simp[aI,az,aE,cU]
  refine aA.plain [.keep [8,9],.dr 13,.fz 47] ?_
  simp[bt,b8,af,ab]
  have ht:List.take d.au.length (List.map aQ PS)=List.map aQ PS:=tJ (by simp[hPl])
  rw[if_pos ⟨hPl.symm,Nat.le_of_eq hPl.symm⟩,ht]
  refine⟨Dh _ (by simp),?_⟩
  have he:nO d i hi s false= {wg (pH d SL) (ji (pH d SL).timers ⟨(pH d SL).now+3*d.rules.sN,pK i,5⟩)with au:=PS}:=by
   simp only[nO,hPS,hSL,hSD,wg,pH]
  rw[he]
  rfl
theorem Fi {l:List gr}:uq l↔(∀s∈l,s.index≠0)∧l.Pairwise (λa b=>a.index<b.index):=by
 constructor
 ·intro h;refine⟨λs hs=> ?_,JkQ.2 (λi j hi hj Ha=>h.lt' Ha hj)⟩;obtain⟨i,hi,rfl⟩:=List.mem_iff_getElem.1 hs;exact h.1 i hi
 ·rintro⟨h1,h2⟩;exact⟨λi hi=>h1 _ (JbQ hi),λi hi=>JkQ.1 h2 i (i+1) (by omega) hi (by omega)⟩
theorem RH (s:gr):Bq [] s=[s]:=rfl
theorem Fj (a:gr) (l:List gr) (s:gr):Bq (a::l) s=if a.index<s.index then a::Bq l s else s::a::l:=by
 unfold Bq;by_cases h:a.index<s.index<;>simp[mS,h]
theorem s7 (s:gr):∀l,(Bq l s).Perm (s::l)
 |[]=> .refl _
 |
  a::l=>by
  rw[Fj];split
  ·exact((s7 s l).cons a).trans (.swap s a l)
  ·exact .refl _
theorem Fk {s:gr}:∀ {l:List gr},l.Pairwise (λa b=>a.index<b.index)->(∀x∈l,x.index≠s.index)->(Bq l s).Pairwise (λa b=>a.index<b.index)
 |[],_,_=>by simp[RH]
 |
  a::l,h,hn=>by
  obtain⟨h1,h2⟩:=JjQ.1 h
  have hna:=hn a (by simp)
  rw[Fj];split
  ·rename_i dq
   refine JjQ.2 ⟨λx hx=> ?_,Fk h2 (λx hx=>hn x (by simp[hx]))⟩
   rcases cJ.1 ((s7 s l).mem_iff.1 hx)with rfl|hx
   ·exact dq
   ·exact h1 x hx
  ·rename_i dq
   refine JjQ.2 ⟨λx hx=> ?_,h⟩
   rcases cJ.1 hx with rfl|hx
   ·omega
   ·have:=h1 x hx;omega
theorem DM:∀(l:List Int) (s:List gr),cE s l=s.filter (λx=>decide (x.index∉l))
 |
  [],s=>by
  have:s.filter (λx=>decide (x.index∉([]:List Int)))=s:=JfX.2 (by simp)
  rw[this];rfl
 |
  y::l,s=>by
  have h:cE s (y::l)=cE (s.filter (Gl y)) l:=rfl
  rw[h,DM l,JkX]
  congr 1;funext x
  by_cases h1:x.index=y<;>by_cases h2:x.index∈l<;>simp[Gl,h1,h2]
theorem Kw (r:ss) (s:ld) (own:Bool) (h:(Eo r).Nodup):
  (Eo (vG r s own)).Perm (s.loc::(Eo r).filter (λx=>decide (x∉kN r own))):=by
 obtain⟨⟨ph,ps⟩,⟨ch,cs⟩,⟨nh,ns⟩⟩:=r
 cases own<;>cases ph<;>cases ch<;>cases nh<;>
  simp_all [Eo,uM,vG,kN,xB,ub,Rs,IP,WQ,qE,JpX]<;>
  first
   |exact List.Perm.swap _ _ _
   |(rw[if_neg (λe=>h e.symm)];exact List.Perm.swap _ _ _)
   |(rw[if_neg (λe=>h.1.1 e.symm)];exact List.Perm.swap _ _ _)
   |(rw[if_pos ⟨λe=>h.1.2 e.symm,λe=>h.2 e.symm⟩];exact List.Perm.swap _ _ _)
theorem Kx {r:ss} {own:Bool} {x:Int} (h:x∈kN r own):x∈Eo r:=by
 obtain⟨⟨ph,ps⟩,⟨ch,cs⟩,⟨nh,ns⟩⟩:=r
 cases own<;>cases ph<;>cases ch<;>cases nh<;>
  simp_all [Eo,uM,kN,ub,IP]<;>first|done|(rcases h with h|h<;>simp[h])
theorem RI {α:Type} {l:List α} {i:Nat} (h:i<l.length):l=l.take i++l[i]::l.drop (i+1):=by
 rw[←List.drop_eq_getElem_cons h,JcQ]
theorem N4 {α:Type} {l:List α} {i:Nat} (h:i<l.length) (x:α):l.set i x=l.take i++x::l.drop (i+1):=by
 rw[JpJ,if_pos h]
theorem WY (p:bO) (r:ss):si (pR p r)=(Eo r).map (λx=>⟨x,p.cH,true⟩):=rfl
theorem s6.inst {d:bc} (h:s6 d) {i:Nat} (hi:i<d.au.length) (hk:d.au[i].cH=pK i) {s:ld} (h1:1≤s.loc) (pS:∀x∈d.aS,x.index≠s.loc) (own:Bool):s6 (nO d i hi s own):=by
 obtain⟨Ev,Bv⟩:=Fi.1 h.so;have He:=h.nd;have oT:=h.pm;have hE:cE d.aS (kN d.au[i].ring own)=d.aS.filter (λx=>decide (x.index∉kN d.au[i].ring own)):=DM _ _;constructor
 ·show uq (Bq (cE d.aS (kN d.au[i].ring own)) ⟨s.loc,pK i,true⟩);rw[Fi,hE];refine⟨λx hx=> ?_,Fk (Bv.filter _) (λx hx=>pS x (JgW.1 hx).1)⟩;rcases cJ.1 ((s7 _ _).mem_iff.1 hx)with rfl|hx
  ·show s.loc≠0;omega
  ·exact Ev x (JgW.1 hx).1
 ·show(Bq (cE d.aS (kN d.au[i].ring own)) ⟨s.loc,pK i,true⟩).Perm ((d.au.set i (pR d.au[i] (vG d.au[i].ring s own))).flatMap si);rw[hE];refine(s7 _ _).trans ?_;rw[N4 hi,List.flatMap_append,JsJ,WY];have GW:=RI hi;obtain⟨A,hA⟩:∃A,A=d.au.take i:=⟨_,rfl⟩
  obtain⟨B,hB⟩:∃B,B=d.au.drop (i+1):=⟨_,rfl⟩
  obtain⟨p,hp⟩:∃p,p=d.au[i]:=⟨_,rfl⟩
  rw[←hA,←hB,←hp]at GW;rw[←hA,←hB,←hp];rw[←hp]at hk;rw[GW,List.flatMap_append,JsJ]at oT He;have G1:=JgJ.1 He;have hn2:=JgJ.1 G1.2.1;have hI:=Kw p.ring s own hn2.1;have hf:=oT.filter (λx=>decide (x.index∉kN p.ring own))
  have key:∀ {l:List bO},(∀q∈l,∀x∈Eo q.ring,x∉Eo p.ring)->(l.flatMap si).filter (λx=>decide (x.index∉kN p.ring own))=l.flatMap si:=by
   intro l hl;refine JfX.2 (λx hx=> ?_);obtain⟨q,hq,hx⟩:=JlZ.1 hx;obtain⟨y,hy,rfl⟩:=JhW.1 hx;simp only[decide_eq_true_eq];exact λhd=>hl q hq y hy (Kx hd)
  have kA:=key (l:=A) (λq hq x hx hxp=>G1.2.2 x (JlZ.2 ⟨q,hq,hx⟩) x (JaZ.2 (.inl hxp)) rfl);have kB:=key (l:=B) (λq hq x hx hxp=>hn2.2.2 x hxp x (JlZ.2 ⟨q,hq,hx⟩) rfl)
  have kp:(si p).filter (λx=>decide (x.index∉kN p.ring own))=((Eo p.ring).filter (λx=>decide (x∉kN p.ring own))).map (λx=>⟨x,p.cH,true⟩):=by
   unfold si;rw[List.filter_map];rfl
  rw[JkZ,JkZ,kA,kB,kp]at hf;have hI2:=hI.map (λx=>(⟨x,p.cH,true⟩:gr));refine((hf.cons _).trans ?_);refine List.Perm.trans ?_ ((hI2.symm.append_right _).append_left _);rw[JdX,hk,JeZ];exact List.perm_middle.symm
def Tok (t:cV):Prop:=∃i,i<3∧t.peer=pK i
theorem s8 {a b:cV} {i j:Nat} (hi:i<3) (hj:j<3) (ha:a.peer=pK i) (hb:b.peer=pK j):
  eg a b=true↔a.at_<b.at_∨a.at_=b.at_∧(i<j∨i=j∧a.kind<b.kind):=by
 unfold eg;by_cases h1:a.at_=b.at_
 ·by_cases h2:i=j
  ·subst h2;have:a.peer=b.peer:=by rw[ha,hb]
   simp[h1,this]
  ·have h3:¬a.peer=b.peer:=by rw[ha,hb];exact λe=>h2 (yT hi hj e)
   rcases Nat.lt_or_gt_of_ne h2 with h4|h4
   ·have:=Rw h4 hj;simp[h1,ha,hb,this,h4];exact Or.inl (λe=>h2 (yT hi hj e))
   ·have h5:WN (pK i) (pK j)=false:=by
     rcases(by omega:i=1∧j=0∨i=2∧j=0∨i=2∧j=1)with⟨rfl,rfl⟩|⟨rfl,rfl⟩|⟨rfl,rfl⟩<;>rfl
    have h6:¬i<j:=by omega
    simp[h1,ha,hb,h5,h6,h2];intro e;exact absurd (yT hi hj e) h2
 ·simp[h1]
def Ep (t:cV):List cV->List cV
 |[]=>[t]
 |x::r=>if eg t x=true then t::x::r else x::Ep t r
theorem yN (l:List cV) (t:cV):ji l t=Ep t (bg l t.peer t.kind):=by
 have:∀r:List cV,r.take (im t r)++[t]++r.drop (im t r)=Ep t r:=by
  intro r;induction r with
  |nil=>rfl
  |
   cons x r ih=>
   by_cases h:eg t x=true
   ·simp[im,Ep,h]
   ·simp[im,Ep,h]at ih⊢
    exact ih
 exact this _
theorem n8 (t:cV):∀l,(Ep t l).Perm (t::l)
 |[]=> .refl _
 |
  x::l=>by
  simp only[Ep];split
  ·exact .refl _
  ·exact((n8 t l).cons x).trans (.swap t x l)
theorem Fl {t:cV} (ht:Tok t):∀ {l:List cV},(∀x∈l,Tok x)->(∀x∈l,¬(x.peer=t.peer∧x.kind=t.kind))->l.Pairwise (λa b=>eg a b=true)->(Ep t l).Pairwise (λa b=>eg a b=true)
 |[],_,_,_=>by simp[Ep]
 |
  x::l,hT,hn,h=>by
  obtain⟨h1,h2⟩:=JjQ.1 h
  obtain⟨i,hi,hti⟩:=ht
  obtain⟨j,hj,hxj⟩:=hT x (by simp)
  have hxn:=hn x (by simp)
  simp only[Ep];split
  ·rename_i dq
   refine JjQ.2 ⟨λy hy=> ?_,h⟩
   rcases cJ.1 hy with rfl|hy
   ·exact dq
   ·obtain⟨k,hk,Tq⟩:=hT y (by simp[hy])
    have:=h1 y hy
    rw[s8 hj hk hxj Tq]at this
    rw[s8 hi hj hti hxj]at dq
    rw[s8 hi hk hti Tq]
    omega
  ·rename_i dq
   refine JjQ.2 ⟨λy hy=> ?_,Fl ⟨i,hi,hti⟩ (λz hz=>hT z (by simp[hz])) (λz hz=>hn z (by simp[hz])) h2⟩
   rcases cJ.1 ((n8 t l).mem_iff.1 hy)with rfl|hy
   ·rw[s8 hi hj hti hxj]at dq
    rw[s8 hj hi hxj hti]
    have cI:¬(j=i∧x.kind=y.kind):=λe=>hxn ⟨by rw[hxj,hti,e.1],e.2⟩
    omega
   ·exact h1 y hy
structure om (d:bc) (l:List cV) (m:Nat):Prop where
 so:l.Pairwise (λa b=>eg a b=true)
 rg:∀t∈l,2≤t.kind∧t.kind≤5∧d.now<t.at_∧t.at_≤4398046511104∧∃i,∃h:i<d.au.length,t.peer=pK i∧(t.kind=4->d.au[i].jg≠0)
 un:l.Pairwise (λa b=>¬(b.peer=a.peer∧b.kind=a.kind))
 len:l.length≤m
theorem om.toT {d:bc} {m:Nat} (hm:m≤1000) (h:om d d.timers m):Rz d where
 so:=λi hi=>JkQ.1 h.so i (i+1) (by omega) hi (by omega)
 rg:=h.rg
 un:=λi j hi hj Ha=>JkQ.1 h.un i j hi hj Ha
 len:=JeW h.len hm
theorem mD {l:List cV} {k:Key} {n:Int} {x:cV} (h:x∈bg l k n):x∈l∧¬(x.peer=k∧x.kind=n):=by
 obtain⟨h1,h2⟩:=JgW.1 h;refine⟨h1,λe=> ?_⟩;simp[oE,e.1,e.2]at h2
theorem om.set {d:bc} {l:List cV} {m:Nat} (h:om d l m) (hp:d.au.length≤3) {t:cV} (k1:2≤t.kind) (k2:t.kind≤5) (a1:d.now<t.at_) (a2:t.at_≤4398046511104) {i:Nat} (hi:i<d.au.length) (ht:t.peer=pK i) (h4:t.kind=4->d.au[i].jg≠0):om d (ji l t) (m+1):=by
 have awM:∀x∈l,Tok x:=λx hx=>by obtain⟨_,_,_,_,j,hj,e,_⟩:=h.rg x hx;exact⟨j,by omega,e⟩
 have lW:Tok t:=⟨i,by omega,ht⟩
 rw[yN];have hc:∀x∈bg l t.peer t.kind,x∈l∧¬(x.peer=t.peer∧x.kind=t.kind):=λx hx=>mD hx;have SA:=n8 t (bg l t.peer t.kind);constructor
 ·exact Fl lW (λx hx=>awM x (hc x hx).1) (λx hx=>(hc x hx).2) (h.so.filter _)
 ·intro x hx;rcases cJ.1 (SA.mem_iff.1 hx)with rfl|hx
  ·exact⟨k1,k2,a1,a2,i,hi,ht,h4⟩
  ·exact h.rg x (hc x hx).1
 ·have aeM:∀ {a b:cV},¬(b.peer=a.peer∧b.kind=a.kind)->¬(a.peer=b.peer∧a.kind=b.kind):=λhn e=>hn ⟨e.1.symm,e.2.symm⟩;refine(SA.pairwise_iff aeM).2 (JjQ.2 ⟨λx hx=>(hc x hx).2,h.un.filter _⟩)
 ·rw[SA.length_eq,JcX];have:(bg l t.peer t.kind).length≤l.length:=JfZ _ _;have:=h.len;omega
structure VM (d:bc) (m:Nat):Prop where
 vd:VD d
 ti:om d d.timers m
 wp:∀p∈d.au,si p≠[]->∃t∈d.timers,t.peer=p.cH∧t.kind=5∧t.at_≤d.now+3*d.rules.sN
theorem yV.of {d e:bc} (hn:e.now=d.now) (hr:e.rules=d.rules) {s:ld} (h:yV d s):yV e s:=by
 obtain⟨h1,h2,h3,h4,h5,h6,h7,h8⟩:=h;exact⟨h1,by rw[hn];exact h2,by rw[hr];exact h3,h4,h5,h6,h7,h8⟩
theorem nE.of {d e:bc} (hn:e.now=d.now) (hr:e.rules=d.rules) {s:uL} (h:nE d s):nE e s:=by
 rcases h with⟨h1,h2⟩|h
 ·exact Or.inl ⟨h1,h2.of hn hr⟩
 ·exact Or.inr h
theorem nE.z (d:bc):nE d qE:=Or.inr ⟨rfl,rfl⟩
theorem nE.WQ {d:bc} {p:uL} (h:nE d p):nE d (WQ p):=by
 unfold Ab.WQ;split
 ·exact h
 ·exact .z d
theorem nN.of {d e:bc} (hn:e.now=d.now) (hr:e.rules=d.rules) {p:bO} (h:nN d p):nN e p:=by
 obtain⟨h1,h2,h3,h4,h5,h6,h7,h8,h9,h10,h11,Hh⟩:=h;exact⟨h1,h2,h3,h4,h5,h6,h7,h8,h9,h10.of hn hr,h11.of hn hr,Hh.of hn hr⟩
theorem nN.pR {d:bc} {p:bO} (h:nN d p) {r:ss} (h1:nE d r.p) (h2:nE d r.c) (h3:nE d r.n):nN d (pR p r):=by
 obtain⟨g1,g2,g3,g4,g5,g6,g7,g8,g9,g10,g11,g12⟩:=h;exact⟨g1,g2,g3,g4,g5,g6,g7,g8,g9,h1,h2,h3⟩
theorem RJ {d:bc} {p:bO} (h:nN d p) {s:ld} (hs:yV d s) (own:Bool):nE d (vG p.ring s own).p∧nE d (vG p.ring s own).c∧nE d (vG p.ring s own).n:=by
 have GV:nE d ⟨true,s⟩:=Or.inl ⟨rfl,hs⟩;unfold vG;split
 ·unfold xB;split
  ·exact⟨h.rn,GV,.z d⟩
  ·exact⟨h.rc.WQ,GV,.z d⟩
 ·exact⟨.z d,h.rc,GV⟩
theorem VM.inst {d:bc} {m:Nat} (h:VM d m) (hm:m≤999) {i:Nat} (hi:i<d.au.length) {s:ld} (hs:yV d s) (h1:1≤s.loc) (pS:∀x∈d.aS,x.index≠s.loc) (own:Bool):VM (nO d i hi s own) (m+1):=by
 obtain⟨v,t,hwp⟩:=h;have oR:=v.Gw.1;have GZ:d.au[i].cH=pK i:=v.Gw.2 i hi;have hlen:(nO d i hi s own).au.length=d.au.length:=JlJ;have G2:=RJ (v.Dr _ (JbQ hi)) hs own;obtain⟨q1,q2,q3,q4,q5,q6,q7,q8,q9,q10,q11,_⟩:=v.ru;have Mi:=v.n0;have G1:=v.n1
 have b9:∀(j:Nat) (hj:j<d.au.length) (Sy:j<(nO d i hi s own).au.length),(nO d i hi s own).au[j].cH=d.au[j].cH∧(nO d i hi s own).au[j].jg=d.au[j].jg:=by
  intro j hj Sy;simp only[nO,List.getElem_set];split
  ·rename_i e;subst e;exact⟨rfl,rfl⟩
  ·exact⟨rfl,rfl⟩
 have ht0:=t.set oR (t:=⟨d.now+3*d.rules.sN,pK i,5⟩) (by show(2:Int)≤5;omega) (by show(5:Int)≤5;omega) (by show d.now<d.now+3*d.rules.sN;omega) (by show d.now+3*d.rules.sN≤4398046511104;omega) hi rfl (λe=>absurd e (by show¬(5:Int)=4;omega))
 have ht1:om (nO d i hi s own) (nO d i hi s own).timers (m+1):=by
  obtain⟨a,b,c,e⟩:=ht0;refine⟨a,λx hx=> ?_,c,e⟩;obtain⟨r1,r2,r3,r4,j,hj,r5,r6⟩:=b x hx;exact⟨r1,r2,r3,r4,j,by rw[hlen];exact hj,r5,λhk=>by rw[(b9 j hj _).2];exact r6 hk⟩
 have hsm:∀(l:List cV) (y x:cV),x∈ji l y↔x=y∨(x∈l∧¬(x.peer=y.peer∧x.kind=y.kind)):=by
  intro l y x;rw[yN,(n8 y _).mem_iff,cJ];constructor
  ·rintro(h|h)
   ·exact .inl h
   ·exact .inr (mD h)
  ·rintro(h|⟨h,hn⟩)
   ·exact .inl h
   ·exact .inr (JgW.2 ⟨h,by simp only[oE,JiQ,Bool.and_eq_false_iff,decide_eq_false_iff_not];exact Decidable.not_and_iff_or_not.1 hn⟩)
 refine⟨?_,ht1,λp hp EA=> ?_⟩;rotate_left
 ·have hp':p∈d.au.set i (Ab.pR d.au[i] (vG d.au[i].ring s own)):=hp;by_cases wM:p.cH=pK i
  ·exact⟨⟨d.now+3*d.rules.sN,pK i,5⟩,(hsm _ _ _).2 (.inl rfl),wM.symm,rfl,Int.le_refl _⟩
  ·rcases JhX hp' with hp|rfl
   ·obtain⟨t,ht,e1,e2,e3⟩:=hwp p hp EA;exact⟨t,(hsm _ _ _).2 (.inr ⟨ht,λe=>wM (by rw[←e1];exact e.1)⟩),e1,e2,e3⟩
   ·exact absurd GZ wM
 constructor
 ·exact v.ru
 ·exact v.n0
 ·exact v.n1
 ·exact v.p0
 ·exact v.p1
 ·exact v.bad
 ·refine⟨by rw[hlen];exact oR,λj hj=> ?_⟩;rw[(b9 j (by rw[hlen]at hj;exact hj) hj).1];exact v.Gw.2 j _
 ·intro p hp;have hp':p∈d.au.set i (Ab.pR d.au[i] (vG d.au[i].ring s own)):=hp;refine nN.of (d:=d) (e:=nO d i hi s own) rfl rfl ?_;rcases JhX hp' with hp|rfl
  ·exact v.Dr p hp
  ·exact(v.Dr _ (JbQ hi)).pR G2.1 G2.2.1 G2.2.2
 ·exact v.rts
 ·rw[hlen];exact v.rtl
 ·exact v.sls.inst hi GZ h1 pS own
 ·exact ht1.toT (by omega)
 ·exact v.s0
 ·exact v.s1
 ·exact v.rcn
 ·exact v.buc
 ·exact v.kp
 ·exact v.kr
def Key.put (k:Key) (j:Nat) (b:UInt8):Key:=⟨k.l.set j b,by rw[JlJ];exact k.h⟩
theorem DN (k:Key) {j:Nat} (hj:j<32) {n:Int} (h0:0≤n) (h1:n<256):bT (aG k) [.i j 1] (.int .u8 n)=some (aG (k.put j (UInt8.ofNat n.toNat))):=by
 have hn:(UInt8.ofNat n.toNat).toNat=n.toNat:=by simp;omega
 have hx:(k.l.map u8)[j]? =some (u8 (k.l[j]'(by rw[k.h];exact hj))):=by
  rw[List.getElem?_map,gJ (by rw[k.h];exact hj)];rfl
 have hu:PV.int .u8 n=u8 (UInt8.ofNat n.toNat):=by simp only[u8,hn];congr 1;omega
 have h2:bT (.ar 1 32 (k.l.map u8)) [.i j 1] (.int .u8 n)=some (.ar 1 32 ((k.l.map u8).set j (.int .u8 n))):=by simp[hx,u8]
 have h3:aG (k.put j (UInt8.ofNat n.toNat))= .ar 1 32 ((k.l.map u8).set j (.int .u8 n)):=by
  show PV.ar 1 32 ((k.l.set j (UInt8.ofNat n.toNat)).map u8)=_;rw[JfJ,hu]
 rw[h3];exact h2
theorem N5 (s:ld) (k:Key):Gc s (aG k)=fa {s with send:=k.fv}:=rfl
theorem N6 (s:ld) (k:Key):Gd s (aG k)=fa {s with recv:=k.fv}:=rfl
@[simp] theorem arz (w:Aj):Pure (wP w):=by simp[wP]
@[simp] theorem axC (w:Aj):wk (wP w)=wP w:=by simp[wP]
@[simp↓] theorem auQ (g:Bool) (w:Aj) (K:PV->Prop):ed g (wP w) K=K (wP w):=_root_.id rfl
@[simp] theorem ana (w:Aj):(wP w).width=6:=_root_.id rfl
@[simp] theorem arA (w:Aj):(wP w).aT=true:=_root_.id rfl
def zW:Aj:=⟨false,0,0,0,0,0⟩
theorem RK:GK zW=NY:=by
 unfold GK NY;congr 1;rw[cg];rfl
theorem Al (s:ld) (w:Aj):Gf s (wP w)=fa {s with G4:=GK w}:=rfl
theorem Ky (w:Aj):(GK w).p=wP w:=rfl
def WI (w:Aj):Prop:=0≤w.top∧w.top<8∧(w.used=true∨w=zW)
theorem WI.z:WI zW:=⟨by decide,by decide,Or.inr rfl⟩
theorem WI.acc {w:Aj} (h:WI w) {c:Int} (c0:0≤c) (c8:c<8):SmW w c∧WI (uK w c).1:=by
 have hs:SmW w c:=⟨h.1,h.2.1,c0,c8⟩
 refine⟨hs,(IN hs).1,(IN hs).2,?_⟩;rcases WO hs with⟨_,h2⟩|h2
 ·rw[h2];exact h.2.2
 ·exact Or.inl h2
theorem WI.ok {w:Aj} (h:WI w):aad (GK w):=by
 rcases h.2.2 with h2|h2
 ·exact Or.inr ⟨w,h2,⟨h.1,h.2.1⟩,rfl⟩
 ·rw[h2];exact Or.inl RK
def uN (c:uo):Nat->Aj×uo
 |0=>(zW,c)
 |i+1=>((uK (uN c i).1 ((oN (uN c i).2 8).1:Int)).1,(oN (uN c i).2 8).2)
theorem xC {c:uo} (h:iE c):∀i,WI (uN c i).1∧iE (uN c i).2
 |0=>⟨.z,h⟩
 |
  i+1=>by
  obtain⟨h1,h2⟩:=xC h i
  have hl:=dG (uN c i).2 (n:=8) (by omega)
  exact⟨(h1.acc (by omega) (by omega)).2,dF h2 8⟩
def sW (s:ld) (w:Aj):ld:= {s with G4:=GK w}
theorem adM {s:ld} (h:s.G4=NY):sW s zW=s:=by unfold sW;rw[RK,←h]
theorem dX {c:uo} (h:iE c) {d:bc} (h0:0≤d.now) (h1:d.now≤16777216) (hr:AV d.rules) {n:Nat} (G1:1≤n) (hn2:n≤100):
  ae Pg 23 [.pt KB [] 0,eX d,.int .u32 n] [.box (eY c)] (λr fp=>∃w:ld×uo,(yV d w.1∧w.1.loc=n∧iE w.2)∧r=fa w.1∧fp=[.box (eY w.2)]):=by
 refine ae.intro T.dX (by simp[F.dX]) ?_;simp[F.dX,aj,av];refine lH.run [KB] rfl ?_;simp;refine ai.jQ KB (bh h 12 (by omega)) ?_;have l0:=dG c (n:=12) (by omega);have o0:=dF h 12;generalize oN c 12=x0 at*;have w1:IntKind.i64.wrap ((x0.1:Int)*5000)=(x0.1:Int)*5000:=wrap_i64 (by omega);have w2:IntKind.i64.wrap (d.now-min d.now ((x0.1:Int)*5000))=d.now-min d.now ((x0.1:Int)*5000):=wrap_i64 (by omega);simp[w1,w2];obtain⟨b,hb⟩:∃b,b=d.now-min d.now ((x0.1:Int)*5000):=⟨_,rfl⟩
 rw[←hb];refine lH.run [KB,8] rfl ?_;have w3:IntKind.u32.wrap (7000+(n:Int))=7000+(n:Int):=by simp[IntKind.wrap,IntKind.bits,IntKind.signed];omega
 simp[w3];refine ai.um KB (qb o0) ?_;rintro⟨k1,c1⟩ o1;simp;refine ai.um KB (qb o1) ?_;rintro⟨k2,c2⟩ o2;simp;refine ai.jQ KB (DK o2) ?_;have o3:iE (bool c2).2:=dF o2 2;generalize bool c2=x3 at*;simp;refine aN.ret (jD n (7000+n) k1.fv k2.fv b x3.1 d.rules.uy) (by simp[Key.fv]) (by simp) (by simp) ?_;have w5:IntKind.u8.wrap (n:Int)=(n:Int):=wrap_u8 (by omega)
 have e1:∀k:Key,bT (aG k) [.i 0 1] (.int .u8 (n:Int))=some (aG (k.put 0 (UInt8.ofNat n))):=λk=>by
  have:=DN k (j:=0) (by omega) (n:=(n:Int)) (by omega) (by omega);simpa using this
 have e2:∀k:Key,bT (aG k) [.i 1 1] (.int .u8 1)=some (aG (k.put 1 1)):=λk=>by
  have:=DN k (j:=1) (by omega) (n:=1) (by omega) (by omega);simpa using this
 have e3:∀k:Key,bT (aG k) [.i 1 1] (.int .u8 2)=some (aG (k.put 1 2)):=λk=>by
  have:=DN k (j:=1) (by omega) (n:=2) (by omega) (by omega);simpa using this
 simp[w5,e1,e2,e3,N5,N6];refine ai.jQ KB (bh o3 4 (by omega)) ?_;have l4:=dG x3.2 (n:=4) (by omega);have o4:=dF o3 4;generalize oN x3.2 4=x4 at*;obtain⟨s0,By⟩:∃s0:ld,s0=⟨n,7000+n,((k1.put 0 (UInt8.ofNat n)).put 1 1).fv,((k2.put 0 (UInt8.ofNat n)).put 1 2).fv,0,d.rules.uy,NY,b,x3.1⟩:=⟨_,rfl⟩
 rw[←By];simp;have aeT:s0.G4=NY:=by rw[By]
 refine⟨λhx=> ?_,λhx=>⟨λD0=> ?_,λD0=> ?_⟩⟩
 ·refine ai.jQ KB (bh o4 40 (by omega)) ?_;have l5:=dG x4.2 (n:=40) (by omega);have o5:=dF o4 40;generalize oN x4.2 40=x5 at*;have w8:IntKind.u64.wrap (x5.1:Int)=(x5.1:Int):=by simp[IntKind.wrap,IntKind.bits,IntKind.signed];omega
  simp[w8];obtain⟨s1,Ev⟩:∃s1:ld,s1= {s0 with next:=(x5.1:Int)}:=⟨_,rfl⟩
  rw[←Ev];have SB:s1.G4=NY:=by rw[Ev];exact aeT
  have Xu:0≤s1.next∧s1.next≤18446744073709543423:=by rw[Ev];show 0≤(x5.1:Int)∧(x5.1:Int)≤18446744073709543423;omega
  have KK:s1.fM=s0.fM∧s1.born=s0.born∧s1.loc=s0.loc:=by rw[Ev];exact⟨rfl,rfl,rfl⟩
  refine ai.jQ KB (bh o5 4 (by omega)) ?_;have l6:=dG x5.2 (n:=4) (by omega);have o6:=dF o5 4;generalize oN x5.2 4=x6 at*;simp;refine eW.fD x6.1 (λ_=>True) [0,6,8,9] (λi=>[(9,.int .i64 ((x6.1:Int)-i))]) (λi=>[(8,.box (fa (sW s1 (uN x6.2 i).1))),(KB,.box (eY (uN x6.2 i).2))]) [.keep [0,6,8,9]] ?_;simp[show(uN x6.2 0)=(zW,x6.2) from rfl,adM SB];refine⟨λi hi K hK=> ?_,λK=> ?_⟩
  ·obtain⟨g1,g2⟩:=xC o6 i;have gl:=dG (uN x6.2 i).2 (n:=8) (by omega);have qT:uN x6.2 (i+1)=((uK (uN x6.2 i).1 ((oN (uN x6.2 i).2 8).1:Int)).1,(oN (uN x6.2 i).2 8).2):=rfl;rw[qT]at hK;generalize uN x6.2 i=y at*;have hgt:(0:Int)<(x6.1:Int)-i:=by omega
   have hw9:IntKind.i64.wrap ((x6.1:Int)-i-1)=(x6.1:Int)-(i+1):=by rw[wrap_i64 (by omega)];omega
   simp[↓al,hi];refine lH.run [KB] rfl ?_;simp[sW];refine ai.jQ KB (bh g2 8 (by omega)) ?_;generalize oN y.2 8=z at*;have hw8:IntKind.u64.wrap (z.1:Int)=(z.1:Int):=by simp[IntKind.wrap,IntKind.bits,IntKind.signed];omega
   simp[hw8,Ky];refine aN.rA (bB (g1.acc (c:=(z.1:Int)) (by omega) (by omega)).1) ?_;simp[Al,hw9];refine⟨[.keep [0,6,8,9]],?_⟩;simp;exact hK _ (by simp[sW])
  ·obtain⟨g1,g2⟩:=xC o6 x6.1;generalize uN x6.2 x6.1=y at*;simp[↓al,↓al];refine aA.with [] [KB] ?_;simp[ab,az];refine⟨sW s1 y.1,y.2,⟨⟨?_,?_,?_,?_,?_,?_,?_,?_⟩,?_,g2⟩,rfl,rfl⟩
   ·show 0≤s1.born;rw[KK.2.1,By];dsimp only;omega
   ·show s1.born≤d.now;rw[KK.2.1,By];dsimp only;omega
   ·show s1.fM=d.rules.uy;rw[KK.1,By]
   ·show 0≤s1.next;have:=Xu;omega
   ·show s1.next≤_;have:=Xu;omega
   ·exact g1.ok
   ·exact⟨_,by show s1.send=_;rw[Ev,By]⟩
   ·show 0≤s1.rem∧s1.rem≤4294967295;rw[Ev,By];dsimp only;omega
   ·show s1.loc=n;rw[KK.2.2,By]
 ·obtain⟨q1,q2,q3,_⟩:=hr;have hfe:s0.fM=d.rules.uy:=by rw[By]
  refine lH.run [KB] rfl ?_;simp;refine ai.jQ KB (bh o4 4 (by omega)) ?_;have l5:=dG x4.2 (n:=4) (by omega);have o5:=dF o4 4;generalize oN x4.2 4=x5 at*;have w8:IntKind.u64.wrap (x5.1:Int)=(x5.1:Int):=by simp[IntKind.wrap,IntKind.bits,IntKind.signed];omega
  have w9:IntKind.u64.wrap (s0.fM-min s0.fM (x5.1:Int))=s0.fM-min s0.fM (x5.1:Int):=by rw[hfe];simp[IntKind.wrap,IntKind.bits,IntKind.signed];omega
  simp[w8,w9];obtain⟨s1,Ev⟩:∃s1:ld,s1= {s0 with next:=s0.fM-min s0.fM (x5.1:Int)}:=⟨_,rfl⟩
  rw[←Ev];have SB:s1.G4=NY:=by rw[Ev];exact aeT
  have Xu:0≤s1.next∧s1.next≤18446744073709543423:=by rw[Ev];show 0≤s0.fM-min s0.fM (x5.1:Int)∧s0.fM-min s0.fM (x5.1:Int)≤18446744073709543423;rw[hfe];omega
  have KK:s1.fM=s0.fM∧s1.born=s0.born∧s1.loc=s0.loc:=by rw[Ev];exact⟨rfl,rfl,rfl⟩
  refine ai.jQ KB (bh o5 4 (by omega)) ?_;have l6:=dG x5.2 (n:=4) (by omega);have o6:=dF o5 4;generalize oN x5.2 4=x6 at*;simp;refine eW.fD x6.1 (λ_=>True) [0,6,8,9] (λi=>[(9,.int .i64 ((x6.1:Int)-i))]) (λi=>[(8,.box (fa (sW s1 (uN x6.2 i).1))),(KB,.box (eY (uN x6.2 i).2))]) [.keep [0,6,8,9]] ?_;simp[show(uN x6.2 0)=(zW,x6.2) from rfl,adM SB];refine⟨λi hi K hK=> ?_,λK=> ?_⟩
  ·obtain⟨g1,g2⟩:=xC o6 i;have gl:=dG (uN x6.2 i).2 (n:=8) (by omega);have qT:uN x6.2 (i+1)=((uK (uN x6.2 i).1 ((oN (uN x6.2 i).2 8).1:Int)).1,(oN (uN x6.2 i).2 8).2):=rfl;rw[qT]at hK;generalize uN x6.2 i=y at*;have hgt:(0:Int)<(x6.1:Int)-i:=by omega
   have hw9:IntKind.i64.wrap ((x6.1:Int)-i-1)=(x6.1:Int)-(i+1):=by rw[wrap_i64 (by omega)];omega
   simp[↓al,hi];refine lH.run [KB] rfl ?_;simp[sW];refine ai.jQ KB (bh g2 8 (by omega)) ?_;generalize oN y.2 8=z at*;have hw8:IntKind.u64.wrap (z.1:Int)=(z.1:Int):=by simp[IntKind.wrap,IntKind.bits,IntKind.signed];omega
   simp[hw8,Ky];refine aN.rA (bB (g1.acc (c:=(z.1:Int)) (by omega) (by omega)).1) ?_;simp[Al,hw9];refine⟨[.keep [0,6,8,9]],?_⟩;simp;exact hK _ (by simp[sW])
  ·obtain⟨g1,g2⟩:=xC o6 x6.1;generalize uN x6.2 x6.1=y at*;simp[↓al,↓al];refine aA.with [] [KB] ?_;simp[ab,az];refine⟨sW s1 y.1,y.2,⟨⟨?_,?_,?_,?_,?_,?_,?_,?_⟩,?_,g2⟩,rfl,rfl⟩
   ·show 0≤s1.born;rw[KK.2.1,By];dsimp only;omega
   ·show s1.born≤d.now;rw[KK.2.1,By];dsimp only;omega
   ·show s1.fM=d.rules.uy;rw[KK.1,By]
   ·show 0≤s1.next;have:=Xu;omega
   ·show s1.next≤_;have:=Xu;omega
   ·exact g1.ok
   ·exact⟨_,by show s1.send=_;rw[Ev,By]⟩
   ·show 0≤s1.rem∧s1.rem≤4294967295;rw[Ev,By];dsimp only;omega
   ·show s1.loc=n;rw[KK.2.2,By]
 ·refine ai.jQ KB (bh o4 4 (by omega)) ?_;have l6:=dG x4.2 (n:=4) (by omega);have o6:=dF o4 4;generalize oN x4.2 4=x6 at*;simp;refine eW.fD x6.1 (λ_=>True) [0,6,8,9] (λi=>[(9,.int .i64 ((x6.1:Int)-i))]) (λi=>[(8,.box (fa (sW s0 (uN x6.2 i).1))),(KB,.box (eY (uN x6.2 i).2))]) [.keep [0,6,8,9]] ?_;simp[show(uN x6.2 0)=(zW,x6.2) from rfl,adM aeT];refine⟨λi hi K hK=> ?_,λK=> ?_⟩
  ·obtain⟨g1,g2⟩:=xC o6 i;have gl:=dG (uN x6.2 i).2 (n:=8) (by omega);have qT:uN x6.2 (i+1)=((uK (uN x6.2 i).1 ((oN (uN x6.2 i).2 8).1:Int)).1,(oN (uN x6.2 i).2 8).2):=rfl;rw[qT]at hK;generalize uN x6.2 i=y at*;have hgt:(0:Int)<(x6.1:Int)-i:=by omega
   have hw9:IntKind.i64.wrap ((x6.1:Int)-i-1)=(x6.1:Int)-(i+1):=by rw[wrap_i64 (by omega)];omega
   simp[↓al,hi];refine lH.run [KB] rfl ?_;simp[sW];refine ai.jQ KB (bh g2 8 (by omega)) ?_;generalize oN y.2 8=z at*;have hw8:IntKind.u64.wrap (z.1:Int)=(z.1:Int):=by simp[IntKind.wrap,IntKind.bits,IntKind.signed];omega
   simp[hw8,Ky];refine aN.rA (bB (g1.acc (c:=(z.1:Int)) (by omega) (by omega)).1) ?_;simp[Al,hw9];refine⟨[.keep [0,6,8,9]],?_⟩;simp;exact hK _ (by simp[sW])
  ·obtain⟨g1,g2⟩:=xC o6 x6.1;generalize uN x6.2 x6.1=y at*;simp[↓al,↓al];refine aA.with [] [KB] ?_;simp[ab,az];refine⟨sW s0 y.1,y.2,⟨⟨?_,?_,?_,?_,?_,?_,?_,?_⟩,?_,g2⟩,rfl,rfl⟩
   ·show 0≤s0.born;rw[By];dsimp only;omega
   ·show s0.born≤d.now;rw[By];dsimp only;omega
   ·show s0.fM=d.rules.uy;rw[By]
   ·show 0≤s0.next;rw[By];dsimp only;omega
   ·show s0.next≤_;rw[By];dsimp only;omega
   ·exact g1.ok
   ·exact⟨_,by show s0.send=_;rw[By]⟩
   ·show 0≤s0.rem∧s0.rem≤4294967295;rw[By];dsimp only;omega
   ·show s0.loc=n;rw[By]
structure VP (d:bc) (i:Nat):Prop where
 vm:VM d i
 sl:d.aS=[]
 len:d.au.length=i
 rg:∀p∈d.au,si p=[]
def s9 (d:bc) (p:bO) (i:Nat) (T:List cV):bc:= {d with au:=d.au++[p],bH:=d.bH++[rt i],timers:=T}
theorem VP.add {d:bc} {i:Nat} (h:VP d i) (hi:i<3) {p:bO} (hp:nN d p) (hk:p.cH=pK i) (hr:si p=[]) {T:List cV}
  (hT:T=d.timers∨∃a,d.now<a∧a≤4398046511104∧p.jg≠0∧T=ji d.timers ⟨a,pK i,4⟩):VP (s9 d p i T) (i+1):=by
 obtain⟨⟨v,t,_⟩,EA,hlen,hrg⟩:=h;have Fy:(s9 d p i T).au.length=i+1:=by show(d.au++[p]).length=i+1;simp[hlen]
 have b9:∀(j:Nat) (hj:j<d.au.length) (Sy:j<(s9 d p i T).au.length),(s9 d p i T).au[j]=d.au[j]:=by
  intro j hj Sy;show(d.au++[p])[j]=d.au[j];exact List.getElem_append_left hj
 have aaF:∀(Sy:i<(s9 d p i T).au.length),(s9 d p i T).au[i]=p:=by
  intro Sy;have:(d.au++[p])[d.au.length]'(by simp)=p:=by simp
  show(d.au++[p])[i]'(by simpa[hlen]using Sy)=p;simp only[←hlen,List.getElem_concat_length]
 have t0:om (s9 d p i T) d.timers i:=by
  obtain⟨a,b,c,e⟩:=t;refine⟨a,λx hx=> ?_,c,e⟩;obtain⟨r1,r2,r3,r4,j,hj,r5,r6⟩:=b x hx;exact⟨r1,r2,r3,r4,j,by rw[Fy];omega,r5,λhk=>by rw[b9 j hj];exact r6 hk⟩
 have t1:om (s9 d p i T) (s9 d p i T).timers (i+1):=by
  show om (s9 d p i T) T (i+1);rcases hT with rfl|⟨a,a1,a2,a3,e⟩
  ·obtain⟨a,b,c,e⟩:=t0;exact⟨a,b,c,by omega⟩
  ·have:=t0.set (by rw[Fy];omega) (t:=⟨a,pK i,4⟩) (by show(2:Int)≤4;omega) (by show(4:Int)≤5;omega) a1 a2 (i:=i) (by rw[Fy];omega) rfl (λ_=>by rw[aaF];exact a3);rw[←e]at this;exact this
 have aeU:∀q∈(s9 d p i T).au,si q=[]:=by
  intro q hq;rcases JaZ.1 (show q∈d.au++[p] from hq)with hq|hq
  ·exact hrg q hq
  ·rw[JqW.1 hq];exact hr
 refine⟨⟨?_,t1,λq hq cI=>absurd (aeU q hq) cI⟩,EA,Fy,aeU⟩;constructor
 ·exact v.ru
 ·exact v.n0
 ·exact v.n1
 ·exact v.p0
 ·exact v.p1
 ·exact v.bad
 ·refine⟨by rw[Fy];omega,λj hj=> ?_⟩;rw[Fy]at hj;by_cases e:j<d.au.length
  ·rw[b9 j e];exact v.Gw.2 j e
  ·have:j=i:=by omega
   subst this;rw[aaF];exact hk
 ·intro q hq;refine nN.of (d:=d) (e:=s9 d p i T) rfl rfl ?_;rcases JaZ.1 (show q∈d.au++[p] from hq)with hq|hq
  ·exact v.Dr q hq
  ·rw[JqW.1 hq];exact hp
 ·have Hd:=v.rtl;refine⟨?_,λj hj=> ?_⟩
  ·show(d.bH++[rt i]).length≤3;simp;omega
  ·have Ez:j<(d.bH++[rt i]).length:=hj;show(d.bH++[rt i])[j]=rt j;by_cases e:j<d.bH.length
   ·rw[List.getElem_append_left e];exact v.rts.2 j e
   ·have:j=d.bH.length:=by simp at Ez;omega
    have h2:j=i:=by omega
    rw[List.getElem_append_right (by omega)];simp[h2]
 ·show(d.bH++[rt i]).length=(d.au++[p]).length;have Hd:=v.rtl;simp;omega
 ·constructor
  ·show uq d.aS;exact v.sls.so
  ·show d.aS.Perm ((d.au++[p]).flatMap si);rw[EA]
   have:(d.au++[p]).flatMap si=[]:=by
    rw[List.flatMap_eq_nil_iff];exact aeU
   rw[this]
 ·exact t1.toT (by omega)
 ·exact v.s0
 ·exact v.s1
 ·exact v.rcn
 ·exact v.buc
 ·exact v.kp
 ·exact v.kr
def zD:PV:=PV.st 148 [PV.st 10 [.int .u64 0,.int .u64 0,.int .i64 0,.int .i64 0,.int .i64 0,.int .i64 0,.int .i64 0,.int .i64 0,.int .i64 0,.int .i64 0],
 .ar 1 32 (zr 32 (.int .u8 0)),.ar 1 32 (zr 32 (.int .u8 0)),.int .i64 0,.ar 1 32 (zr 32 (.int .u8 0)),.int .i64 0,.sl 464 [] true,.sl 50 [] true,.sl 34 [] true,.sl 34 [] true,
 .ar 1 32 (zr 32 (.int .u8 0)),.int .i64 0,.sl 1 [] true,.sl 19 [] true,.int .i64 0]
@[simp] theorem anb:zD.width=148:=rfl
@[simp] theorem auR (k sz:Nat) (l:List PV):iQ k sz l zD=zD:=by simp[zD]
theorem om.mono {d:bc} {l:List cV} {m k:Nat} (h:om d l m) (hk:m≤k):om d l k:=⟨h.so,h.rg,h.un,JeW h.len hk⟩
def auS (d:bc) (m:Int):Prop:=∀x∈d.aS,0≤x.index∧x.index<m
def Bd (d:bc):Prop:=∀x∈d.aS,0≤x.index∧x.index≤1000
theorem N7 {d:bc} {i:Nat} {hi:i<d.au.length} {s:ld} {own:Bool} {x:gr} (h:x∈(nO d i hi s own).aS):x.index=s.loc∨x∈d.aS:=by
 rcases cJ.1 ((s7 _ _).mem_iff.1 h)with h|h
 ·left;rw[h]
 ·right;exact vH h
theorem N8 {d:bc} {i:Nat} {hi:i<d.au.length} {s:ld} {own:Bool}:(nO d i hi s own).au.length=d.au.length:=JlJ
theorem N9 {d:bc} {c:uo} {n:Nat} (hV:VP d n) (hn:n=2∨n=3) (hC:iE c):
  aw Pg F.lC (ends 1 [AK.load true 148 (AX.t 2)] λr fp=>∃a b,(VM a 40∧2≤a.au.length∧iE b∧Bd a)∧r=eX a∧fp=[aV.box (eY b)])
   {
    env:=[(0,.pt KB [] 0),(2,.pt 2 [] 0),(3,.pt 3 [] 0),(4,.int .i64 n),(5,.int .i64 n),(38,.int .i64 n),(39,.int .i64 n),(40,.bl false)],
    bx:=[(2,.box zD),(3,.box (aZ d (.rs 80 [] 0 n n 464 .tip))),(80,.arr 464 (d.au.map aQ)),(KB,.box (eY c))]}:=by
 simp[F.lC];refine eW.abJ n (d,c) (λi y=>(VM y.1 (3+3*i)∧y.1.au.length=n∧auS y.1 (10*i))∧iE y.2) [0,2,3,4,7] (λi _=>[(7,.int .i64 i)]) (λi y=>[(3,.box (eX y.1)),(KB,.box (eY y.2))]) [.keep [0,2,3,4,7],.fz 80] ?_;simp;have hL:=hV.len;have ht:List.take n (List.map aQ d.au)=List.map aQ d.au:=tJ (by simp[hL]);refine⟨by rw[if_pos ⟨hL.symm,Nat.le_of_eq hL.symm⟩,ht];rfl,⟨⟨⟨hV.vm.vd,hV.vm.ti.mono (by omega),hV.vm.wp⟩,hL,?_⟩,hC⟩,?_,?_⟩
 ·intro x hx;rw[hV.sl]at hx;simp at hx
 ·intro i d c hi hV hL hS hC K hK;have EB:IntKind.i64.wrap ((i:Int)+1)=(i:Int)+1:=wrap_i64 (by omega);simp[F.lD,hi];refine ai.jQ KB (bh hC 4 (by omega)) ?_;have m1:=dG c (n:=4) (by omega);have p1:=dF hC 4;generalize oN c 4=y1 at*;simp;refine eW.abJ y1.1 (d,y1.2) (λj y=>(VM y.1 (3+3*i+j)∧y.1.au.length=n∧(∀x∈y.1.aS,0≤x.index∧(x.index<10*i∨10*(i:Int)+y1.1-j<x.index∧x.index≤10*i+3)))∧iE y.2) [0,2,3,4,7,8] (λj _=>[(8,.int .i64 ((y1.1:Int)-j))]) (λj y=>[(3,.box (eX y.1)),(KB,.box (eY y.2))]) [.keep [0,2,3,4,7,8]] ?_;simp;refine⟨⟨⟨hV,hL,λx hx=>⟨(hS x hx).1,Or.inl (hS x hx).2⟩⟩,p1⟩,?_,?_⟩
  ·intro j d c hj hV hL hS hC K2 sr;have hgt:(0:Int)<(y1.1:Int)-j:=by omega
   have v1:IntKind.i64.wrap (10*(i:Int))=10*(i:Int):=wrap_i64 (by omega);have v2:IntKind.i64.wrap (10*(i:Int)+((y1.1:Int)-j))=10*(i:Int)+((y1.1:Int)-j):=wrap_i64 (by omega);obtain⟨m,hm⟩:∃m:Nat,m=10*i+(y1.1-j):=⟨_,rfl⟩
   have v3:IntKind.u32.wrap (10*(i:Int)+((y1.1:Int)-j))=(m:Int):=by rw[wrap_u32 (by omega)];omega
   have v4:IntKind.i64.wrap ((y1.1:Int)-j-1)=(y1.1:Int)-(j+1):=by rw[wrap_i64 (by omega)];omega
   simp[F.lE,hj];refine lH.run [KB] rfl ?_;simp;refine aN.rA (gZ (i:=i) (by omega)) ?_;simp[v1,v2,v3];refine ai.um KB (dX hC hV.vd.n0 hV.vd.n1 hV.vd.ru (n:=m) (by omega) (by omega)) ?_;rintro⟨s,c1⟩ ⟨hs,EA,o1⟩;simp at hs EA o1;simp;refine ai.jQ KB (DK o1) ?_;have o2:iE (bool c1).2:=dF o1 2;generalize bool c1=x2 at*;simp;have hip:i<d.au.length:=by omega
   have pS:∀x∈d.aS,x.index≠s.loc:=by
    intro x hx he;rcases(hS x hx).2 with h|h<;>omega
   refine aN.rA (N0 hV.vd hip hs (by omega) pS x2.1) ?_;simp[v4];refine⟨[.keep [0,2,3,4,7,8]],?_⟩;simp;refine sr (nO d i hip s x2.1) x2.2 _ (by simp) (hV.inst (by omega) hip hs (by omega) pS x2.1) (N8.trans hL) ?_ o2;intro x hx;rcases N7 hx with h|h
   ·exact⟨by omega,by right;omega⟩
   ·have g:=hS x h;exact⟨g.1,by rcases g.2 with h|h<;>omega⟩
  ·intro d c hV hL hS hC K2;simp[F.lE,F.px,EB];refine⟨[.keep [0,2,3,4,7]],?_⟩;simp;refine hK d c _ (by simp) ⟨hV.vd,hV.ti.mono (by omega),hV.wp⟩ hL ?_ hC;intro x hx;have g:=hS x hx;exact⟨g.1,by rcases g.2 with h|h<;>omega⟩
 ·intro d c hV hL hS hC K;simp[F.lD,F.py];refine aA.with [] [KB] ?_;simp[ab,az];exact⟨d,c,⟨⟨hV.vd,hV.ti.mono (by omega),hV.wp⟩,by omega,hC,λx hx=>⟨(hS x hx).1,by have:=(hS x hx).2;omega⟩⟩,rfl,rfl⟩
def V4:ss:=⟨qE,qE,qE⟩
def pz (i:Nat) (e:Bool) (k:Int):bO:=⟨pK i,Ly,e,if e=true then vv i else IS,k,zSm,false,0,yL,false,LC,0,LC,V4,[]⟩
theorem adN:ic IS= .st 18 [.st 17 [.bl false,.ar 1 16 (zr 16 (.int .u8 0))],.int .i64 0]:=by rw[cg];rfl
theorem anc (i:Nat) (k:Int):aQ (pz i false k)= .st 464 [aG (pK i),Ly.p,.bl false,.st 18 [.st 17 [.bl false,.ar 1 16 (zr 16 (.int .u8 0))],.int .i64 0],.int .i64 k,zSm.p,.bl false,.int .i64 0,mL yL,.bl false,LC.p,.int .i64 0,LC.p,iH V4,gz []]:=by
 show PV.st 464 [aG (pK i),Ly.p,.bl false,ic IS,.int .i64 k,zSm.p,.bl false,.int .i64 0,mL yL,.bl false,LC.p,.int .i64 0,LC.p,iH V4,gz []]=_;rw[adN]
theorem L8 {d:bc} {i:Nat} (hi:i<3) {e:Bool} {k:Int} (hk:k=0∨1000≤k∧k≤1073741824):nN d (pz i e k):=by
 refine⟨?_,hk,rfl,rfl,rfl,rfl,rfl,rfl,rfl,.z d,.z d,.z d⟩;cases e
 ·exact Or.inr ⟨rfl,rfl⟩
 ·exact Or.inl ⟨rfl,i,hi,rfl⟩
theorem eO {c:uo} (h:iE c):
  ae Pg 5 [.pt KB [] 0] [.box (eY c)] (λr fp=>∃w:bc×uo,(VM w.1 40∧w.1.au.length≥2∧iE w.2∧Bd w.1)∧r=eX w.1∧fp=[.box (eY w.2)]):=by
 refine ae.intro T.eO (by simp[F.eO]) ?_;simp[F.eO,aj,av];refine ai.um KB (IK h) ?_;rintro⟨ru,c1⟩ ⟨xL,o1⟩;simp;refine ai.um KB (qb o1) ?_;rintro⟨k1,c2⟩ o2;simp;refine ai.um KB (qb o2) ?_;rintro⟨k2,c3⟩ o3;simp;refine ai.um KB ((Ff o3 65536 (by omega) (by omega)).mono (R':=λr fp=>∃w:Nat×uo,(iE w.2∧w.1<65536)∧r= .int .i64 w.1∧fp=[.box (eY w.2)]) ?_) ?_
 ·rintro r fp ⟨m,c',a,b,e,f⟩;exact⟨⟨m,c'⟩,⟨a,b⟩,e,f⟩
 rintro⟨po,c4⟩ ⟨o4,hpo⟩;simp;refine ai.um KB (qb o4) ?_;rintro⟨k3,c5⟩ o5;simp;refine ai.um KB ((Ff o5 16777216 (by omega) (by omega)).mono (R':=λr fp=>∃w:Nat×uo,(iE w.2∧w.1<16777216)∧r= .int .i64 w.1∧fp=[.box (eY w.2)]) ?_) ?_
 ·rintro r fp ⟨m,c',a,b,e,f⟩;exact⟨⟨m,c'⟩,⟨a,b⟩,e,f⟩
 rintro⟨nw,c6⟩ ⟨o6,B7⟩;dsimp only at hpo B7 o1 o2 o3 o4 o5 o6 xL;have w1:IntKind.i64.wrap (nw:Int)=(nw:Int):=wrap_i64 (by omega);simp;refine lH.run [KB] rfl ?_;simp;refine ai.um KB (qb o6) ?_;rintro⟨k4,c7⟩ o7;simp;refine ai.jQ KB (bh o7 2 (by omega)) ?_;have l8:=dG c7 (n:=2) (by omega);have o8:=dF o7 2;generalize oN c7 2=x8 at*;simp;refine ai.jQ KB (bh o8 2 (by omega)) ?_;have l9:=dG x8.2 (n:=2) (by omega);have o9:=dF o8 2;generalize oN x8.2 2=x9 at*
 have w2:IntKind.i64.wrap ((x8.1:Int)*min (nw:Int) 20000)=(x8.1:Int)*min (nw:Int) 20000:=by
  rcases(by omega:x8.1=0∨x8.1=1)with e|e<;>rw[e]<;>exact wrap_i64 (by omega)
 have h3:0≤(nw:Int)-(x8.1:Int)*min (nw:Int) 20000∧(nw:Int)-(x8.1:Int)*min (nw:Int) 20000≤nw:=by
  rcases(by omega:x8.1=0∨x8.1=1)with e|e<;>rw[e]<;>omega
 have w3:IntKind.i64.wrap ((nw:Int)-(x8.1:Int)*min (nw:Int) 20000)=(nw:Int)-(x8.1:Int)*min (nw:Int) 20000:=wrap_i64 (by omega);have w4:IntKind.i64.wrap (2+(x9.1:Int))=((2+x9.1:Nat):Int):=by rw[wrap_i64 (by omega)];omega
 obtain⟨n,hn⟩:∃n,n=2+x9.1:=⟨_,rfl⟩
 obtain⟨sa,hsa⟩:∃sa,sa=(nw:Int)-(x8.1:Int)*min (nw:Int) 20000:=⟨_,rfl⟩
 rw[←hsa]at h3 w3;simp only[w2,w3,←hsa];simp;simp only[w4,←hn];obtain⟨d0,hd0⟩:∃d:bc,d=⟨ru,k1.fv,k2.fv,po,k3.fv,nw,[],[],[],[],k4.fv,sa,[],[],0⟩:=⟨_,rfl⟩
 refine eW.abJ n (d0,x9.2) (λi y=>VP y.1 i∧iE y.2) [0,2,3,4,5] (λi _=>[(5,.int .i64 i)]) (λi y=>[(3,.box (aZ y.1 (.rs 80 [] 0 i i 464 .tip))),(80,.arr 464 (y.1.au.map aQ)),(KB,.box (eY y.2))]) [.vb 3 [.f 6 108] 80 464,.wb 3,.keep [0,2,3,4,5]] ?_;simp;refine⟨by rw[hd0];exact⟨rfl,rfl⟩,⟨?_,o9⟩,?_,?_⟩
 ·rw[hd0];refine⟨⟨?_,⟨.nil,by simp,.nil,by simp⟩,by simp⟩,rfl,rfl,by simp⟩;exact⟨xL,by show(0:Int)≤nw;omega,by show(nw:Int)≤16777216;omega,by show(0:Int)≤po;omega,by show(po:Int)≤65535;omega,rfl,⟨by simp,by simp⟩,by simp,⟨by simp,by simp⟩,rfl,⟨⟨by simp,by simp⟩,by simp⟩,⟨by simp,by simp,by simp,by simp⟩,h3.1,h3.2,rfl,rfl,⟨k1,rfl⟩,⟨k3,rfl⟩⟩
 ·intro i d cc hi hV hC K hK;have EB:IntKind.i64.wrap ((i:Int)+1)=((i+1:Nat):Int):=by rw[wrap_i64 (by omega)];omega
  have hu8:((UInt8.ofNat (i+1)).toNat:Int)=((i+1:Nat):Int):=by simp[UInt8.toNat_ofNat];omega
  have hH:=e9 (UInt8.ofNat (i+1)) 0;obtain⟨u,hu⟩:∃u,u=UInt8.ofNat (i+1):=⟨_,rfl⟩
  have hrt:rt i=⟨vE u,pK i⟩:=by rw[hu];rfl
  rw[hu8,show(((0:UInt8).toNat:Nat):Int)=0 from rfl]at hH;have hVv:=hV.vm.vd;have Mi:=hVv.n0;have G1:=hVv.n1;have Hd:d.bH.length=i:=by rw[hVv.rtl,hV.len]
  have Fw:=hVv.tis.len
  have hro:∀r∈d.bH,∃m,m<UInt8.ofNat (i+1)∧r.D1=vE m:=by
   intro r hr;obtain⟨j,hj,rfl⟩:=List.mem_iff_getElem.1 hr;refine⟨UInt8.ofNat (j+1),?_,by rw[hVv.rts.2 j hj];rfl⟩;rw[JoX];simp[UInt8.toNat_ofNat];omega
  rw[←hu]at hH hro;simp[F.lF,hi];refine ai.rA (gZ (i:=i) (by omega)) ?_;simp;refine ai.jQ KB (bh hC 8 (by omega)) ?_;have m1:=dG cc (n:=8) (by omega);have p1:=dF hC 8;generalize oN cc 8=y1 at*;by_cases hb:0<y1.1
  ·simp[hb];refine ai.rA (jJ (i:=i) (by omega)) ?_;simp;refine ai.jQ KB (bh p1 4 (by omega)) ?_;have m2:=dG y1.2 (n:=4) (by omega);have p2:=dF p1 4;generalize oN y1.2 4=y2 at*;by_cases hc:(y2.1:Int)=1
   ·simp[hc];refine ai.jQ KB (bh p2 30 (by omega)) ?_;have m3:=dG y2.2 (n:=30) (by omega);have p3:=dF p2 30;generalize oN y2.2 30=y3 at*;have v1:IntKind.i64.wrap (1+(y3.1:Int))=1+(y3.1:Int):=wrap_i64 (by omega);have v2:IntKind.i64.wrap (1000*(1+(y3.1:Int)))=1000*(1+(y3.1:Int)):=wrap_i64 (by omega);simp[v1,v2];refine lH.run [KB] rfl ?_;simp;refine ai.jQ KB (bh p3 200 (by omega)) ?_;have m4:=dG y3.2 (n:=200) (by omega);have p4:=dF p3 200;generalize oN y3.2 200=y4 at*;have v3:IntKind.i64.wrap (d.now+1)=d.now+1:=wrap_i64 (by omega);have v4:IntKind.i64.wrap ((y4.1:Int)*10)=(y4.1:Int)*10:=wrap_i64 (by omega);have v5:IntKind.i64.wrap (d.now+1+(y4.1:Int)*10)=d.now+1+(y4.1:Int)*10:=wrap_i64 (by omega);simp[v3,v4,v5];obtain⟨A,hA⟩:∃A,A=d.now+1+(y4.1:Int)*10:=⟨_,rfl⟩
    rw[←hA];refine aN.ret (dR (l:=d.timers) (by omega) ⟨A,pK i,4⟩) (by simp;rfl) (by simp) (by simp) ?_;obtain⟨T,hT⟩:∃T,T=ji d.timers ⟨A,pK i,4⟩:=⟨_,rfl⟩
    rw[←hT];simp[EB,hV.len];refine⟨⟨by omega,by omega⟩,?_⟩;refine aN.rA hH ?_;simp;refine aN.rA (dk (a:=gh u 0) (tW _)) ?_;simp;refine aN.ret (bD (l:=d.bH) (n:=u) hro (by omega) (pK i)) (by simp;rfl) (by simp) (by simp) ?_;simp[EB];refine⟨[.keep [0,2,3,4,5],.dr 6],?_⟩;simp[bt,b8,af,ab];refine hK (s9 d (pz i true (1000*(1+(y3.1:Int)))) i T) y4.2 _ ?_ (hV.add (by omega) (L8 (by omega) ?_) rfl rfl ?_) ?_
    ·simp[s9,hrt];exact⟨rfl,rfl⟩
    ·exact Or.inr (by omega)
    ·exact Or.inr ⟨A,by omega,by omega,by show(1000*(1+(y3.1:Int)))≠0;omega,hT⟩
    ·assumption
   ·simp[hc];simp[EB,hV.len];refine⟨⟨by omega,by omega⟩,?_⟩;refine aN.rA hH ?_;simp;refine aN.rA (dk (a:=gh u 0) (tW _)) ?_;simp;refine aN.ret (bD (l:=d.bH) (n:=u) hro (by omega) (pK i)) (by simp;rfl) (by simp) (by simp) ?_;simp[EB];refine⟨[.keep [0,2,3,4,5],.dr 6],?_⟩;simp[bt,b8,af,ab];refine hK (s9 d (pz i true 0) i d.timers) y2.2 _ ?_ (hV.add (by omega) (L8 (by omega) ?_) rfl rfl ?_) ?_
    ·simp[s9,hrt];exact⟨rfl,rfl⟩
    ·exact Or.inl rfl
    ·exact Or.inl rfl
    ·assumption
  ·simp[hb];refine ai.jQ KB (bh p1 4 (by omega)) ?_;have m2:=dG y1.2 (n:=4) (by omega);have p2:=dF p1 4;generalize oN y1.2 4=y2 at*;by_cases hc:(y2.1:Int)=1
   ·simp[hc];refine ai.jQ KB (bh p2 30 (by omega)) ?_;have m3:=dG y2.2 (n:=30) (by omega);have p3:=dF p2 30;generalize oN y2.2 30=y3 at*;have v1:IntKind.i64.wrap (1+(y3.1:Int))=1+(y3.1:Int):=wrap_i64 (by omega);have v2:IntKind.i64.wrap (1000*(1+(y3.1:Int)))=1000*(1+(y3.1:Int)):=wrap_i64 (by omega);simp[v1,v2];refine lH.run [KB] rfl ?_;simp;refine ai.jQ KB (bh p3 200 (by omega)) ?_;have m4:=dG y3.2 (n:=200) (by omega);have p4:=dF p3 200;generalize oN y3.2 200=y4 at*;have v3:IntKind.i64.wrap (d.now+1)=d.now+1:=wrap_i64 (by omega);have v4:IntKind.i64.wrap ((y4.1:Int)*10)=(y4.1:Int)*10:=wrap_i64 (by omega);have v5:IntKind.i64.wrap (d.now+1+(y4.1:Int)*10)=d.now+1+(y4.1:Int)*10:=wrap_i64 (by omega);simp[v3,v4,v5];obtain⟨A,hA⟩:∃A,A=d.now+1+(y4.1:Int)*10:=⟨_,rfl⟩
    rw[←hA];refine aN.ret (dR (l:=d.timers) (by omega) ⟨A,pK i,4⟩) (by simp;rfl) (by simp) (by simp) ?_;obtain⟨T,hT⟩:∃T,T=ji d.timers ⟨A,pK i,4⟩:=⟨_,rfl⟩
    rw[←hT];simp[EB,hV.len];refine⟨⟨by omega,by omega⟩,?_⟩;refine aN.rA hH ?_;simp;refine aN.rA (dk (a:=gh u 0) (tW _)) ?_;simp;refine aN.ret (bD (l:=d.bH) (n:=u) hro (by omega) (pK i)) (by simp;rfl) (by simp) (by simp) ?_;simp[EB];refine⟨[.keep [0,2,3,4,5],.dr 6],?_⟩;simp[bt,b8,af,ab];refine hK (s9 d (pz i false (1000*(1+(y3.1:Int)))) i T) y4.2 _ ?_ (hV.add (by omega) (L8 (by omega) ?_) rfl rfl ?_) ?_
    ·simp[s9,hrt];exact⟨by first|rfl|(rw[cg];rfl),(anc i _).symm⟩
    ·exact Or.inr (by omega)
    ·exact Or.inr ⟨A,by omega,by omega,by show(1000*(1+(y3.1:Int)))≠0;omega,hT⟩
    ·assumption
   ·simp[hc];simp[EB,hV.len];refine⟨⟨by omega,by omega⟩,?_⟩;refine aN.rA hH ?_;simp;refine aN.rA (dk (a:=gh u 0) (tW _)) ?_;simp;refine aN.ret (bD (l:=d.bH) (n:=u) hro (by omega) (pK i)) (by simp;rfl) (by simp) (by simp) ?_;simp[EB];refine⟨[.keep [0,2,3,4,5],.dr 6],?_⟩;simp[bt,b8,af,ab];refine hK (s9 d (pz i false 0) i d.timers) y2.2 _ ?_ (hV.add (by omega) (L8 (by omega) ?_) rfl rfl ?_) ?_
    ·simp[s9,hrt];exact⟨by first|rfl|(rw[cg];rfl),(anc i _).symm⟩
    ·exact Or.inl rfl
    ·exact Or.inl rfl
    ·assumption
 ·intro d cc hV hC K;simp[F.lF];exact N9 hV (by omega) hC
@[simp] theorem axD (f:Fn) (a b:List PV):wk (.fn f a b)= .fn f a b:=by simp only[wk]
def fst (p:Nat->Bool):Nat->Nat
 |0=>0
 |n+1=>if fst p n<n then fst p n else if p n=true then n else n+1
theorem GN (p:Nat->Bool):∀n,fst p n≤n
 |0=>JaQ _
 |
  n+1=>by
  have:=GN p n
  unfold fst;(repeat' split)<;>omega
theorem GO {p:Nat->Bool}:∀ {n i},i<fst p n->p i=false
 |0,i,h=>by simp[fst]at h
 |
  n+1,i,h=>by
  have hl:=GN p n
  unfold fst at h
  split at h
  ·exact GO h
  ·rename_i h1
   have he:fst p n=n:=by omega
   split at h
   ·exact GO (n:=n) (by omega)
   ·rename_i h2
    by_cases e:i=n
    ·subst e;simpa using h2
    ·exact GO (n:=n) (by omega)
theorem RM {p:Nat->Bool}:∀ {n},fst p n<n->p (fst p n)=true
 |0,h=>by simp[fst]at h
 |
  n+1,h=>by
  have hl:=GN p n
  unfold fst at h⊢
  split
  ·rename_i h1;exact RM h1
  ·rename_i h1
   rw[if_neg h1]at h
   split
   ·assumption
   ·rename_i h2;rw[if_neg h2]at h;omega
theorem L9 {p:Nat->Bool} {n:Nat}:fst p n=n↔∀i,i<n->p i=false:=by
 refine⟨λh i hi=>GO (n:=n) (by omega),λh=> ?_⟩;have h1:=GN p n;by_cases h2:fst p n<n
 ·have:=RM h2;rw[h _ h2]at this;cases this
 ·omega
structure Els {α:Type} (sz:Nat) (g:Bool) (e:α->PV) (l:List α):Prop where
 len:l.length≤1048576
 el:∀x:α,((e x).width=sz∧(e x).isAgg=g)∧Pure (e x)∧wk (e x)=e x∧∀K:PV->Prop,ed true (e x) K=K (e x)
def fi {α:Type} (p:α->Bool) (l:List α):Int:=if l.any p=true then(l.findIdx p:Int)else-1
section
variable {α:Type} {sz:Nat} {ag:Bool} {f ix:FuncId} {e:α->PV} {l:List α} {p:α->Bool} {g:FuncId} {v w:PV}
end
def inR (x a b:Int):Bool:=decide (a≤x)&&decide (x≤b)
def I64 (x:Int):Prop:= -9223372036854775808≤x∧x≤9223372036854775807
theorem I64.w {x:Int} (h:I64 x):IntKind.i64.wrap x=x:=wrap_i64 (by unfold I64 at h;omega)
end Go.Ab
