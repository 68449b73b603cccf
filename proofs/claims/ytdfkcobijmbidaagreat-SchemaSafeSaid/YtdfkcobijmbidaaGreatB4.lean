/- The checks of the reference hold of a made daemon. No condition. -/
import Derived.Test.YtdfkcobijmbidaaGreatB3
set_option maxRecDepth 10000
set_option maxHeartbeats 2000000
set_option linter.all false
noncomputable section G1s
namespace Go.Ab
open Go.Ab
def No:sQ:=⟨false,List.replicate 16 0,rfl⟩
def wG:IF:=⟨No,0⟩
def A5:FV xO:=⟨.ar 1 16 (zr 16 (.int .u8 0)),by rw[gC];rfl⟩
def zSm:FV QW:=⟨.ar 1 12 (zr 12 (.int .u8 0)),by rw[gC];rfl⟩
def zNo:FV Ka:=⟨.st 64 [.ar 1 32 (zr 32 (.int .u8 0)),.ar 1 32 (zr 32 (.int .u8 0))],by rw[gC];rfl⟩
def rK:Hh:=⟨false,0,IM,zNo,0,0⟩
theorem Hp:iU wG=(.st 18 [(.st 17 [(.bl false),(.ar 1 16 (zr 16 (.int .u8 0)))]),(.int .i64 0)]):=by first|rfl|(rw[gC];rfl)
theorem afw:PV.beq (.st 18 [(.st 17 [(.bl false),(.ar 1 16 (zr 16 (.int .u8 0)))]),(.int .i64 0)]) (.st 18 [(.st 17 [(.bl false),(.ar 1 16 (zr 16 (.int .u8 0)))]),(.int .i64 0)])=true:=by
 have h:=Nd wG;rw[Hp]at h;exact h
theorem afx:fits (Sh.st [Sh.st [Sh.b,Sh.ar 16 (Sh.i IntKind.u8)],Sh.i IntKind.i64]) (.st 18 [(.st 17 [(.bl false),(.ar 1 16 (zr 16 (.int .u8 0)))]),(.int .i64 0)])=true:=by
 have h:=Cd wG;rw[Hp]at h;exact h
theorem Np:A5.p=(.ar 1 16 (zr 16 (.int .u8 0))):=by first|rfl|(rw[gC];rfl)
def kV (d:bU) (p:oC):Prop:=(p.has=true∧u4 d p.ju)∨(p.has=false∧p=pU)
structure lU (d:bU) (p:dC):Prop where
 ep:(p.lS=true∧∃i,i<3∧p.ep=tB i)∨(p.lS=false∧p.ep=wG)
 pq:p.pq=0∨1000≤p.pq∧p.pq≤1073741824
 uW:p.uW=0
 w7:p.qS=false
 Gp:p.nk=false
 qW:p.qW=0
 pd:p.pd=A5
 bk:p.bk=[]
 hand:p.hand=rK
 rp:kV d p.ring.p
 rc:kV d p.ring.c
 rn:kV d p.ring.n
theorem Nq {d:bU} {p:dC} (h:lU d p) (hn:0≤d.now) (hs:0≤d.rules.oo):bI Pg I.eo [gO d,aP p] (.bl true):=by
 refine ah.intro T.eo (by simp[F.eo]) ?_
 have h2:=h.uW
 have h3:=h.qW
 have h4:=h.pd
 have h5:=h.bk
 have h6:=h.w7
 have h7:=h.Gp
 have hf:fits (Sh.ar 16 (Sh.i IntKind.u8)) (PV.ar 1 16 (zr 16 (PV.int IntKind.u8 0)))=true:=by rw[gC];rfl
 have A7:¬d.rules.oo<0:=by omega
 have hp0:bI Pg I.dF [gO d,.int .i64 0] (.bl true):=Hn (by omega) hn
 have hb:PV.beq A5.p A5.p=true:=FV.beq A5
 rw[Np]at hb
 rcases h.ep with⟨he,i,hi,e⟩|⟨he,e⟩
 ·simp[F.eo,au,aG,he,e]
  refine al.ret (Ay hi) (by simp) (by simp) (by simp) ?_
  simp[Nn,he]
  refine al.ret (IQ h.pq) (by simp) (by simp) (by simp) ?_
  simp[h2]
  refine al.ret hp0 (by simp) (by simp) (by simp) ?_
  simp[h2,h3,h6]
  refine al.ret hp0 (by simp) (by simp) (by simp) ?_
  simp[h3,h4,h5,Np,A7,h7,hb,hf]
  refine jx.kl 0 (λ_=>True) [4,82,83,84] (λi=>[]) (λi=>[]) [.keep [4,82,83,84]] ?_
  simp
  intro K
  simp[↓aA,↓aA]
  refine aL.plain [] ?_
  simp
 ·simp[F.eo,au,aG,he,e,Hp,afw,afx]
  refine al.ret (IQ h.pq) (by simp) (by simp) (by simp) ?_
  simp[h2]
  refine al.ret hp0 (by simp) (by simp) (by simp) ?_
  simp[h2,h3,h6]
  refine al.ret hp0 (by simp) (by simp) (by simp) ?_
  simp[h3,h4,h5,Np,A7,h7,hb,hf]
  refine jx.kl 0 (λ_=>True) [4,82,83,84] (λi=>[]) (λi=>[]) [.keep [4,82,83,84]] ?_
  simp
  intro K
  simp[↓aA,↓aA]
  refine aL.plain [] ?_
  simp
theorem X5 {d:bU} {p:dC} (h:lU d p):bI Pg I.fA [gO d,aP p] (.bl true):=by
 refine ah.intro T.fA (by simp[F.fA]) ?_
 have h1:=h.hand
 have h2:rK.has=false:=rfl
 have hb:=Nf rK
 have hf:=Ce rK
 have e:jD rK=(.st 100 [.bl false,.int .u32 0,.ar 1 32 (zr 32 (.int .u8 0)),.st 64 [.ar 1 32 (zr 32 (.int .u8 0)),.ar 1 32 (zr 32 (.int .u8 0))],.int .i64 0,.int .i64 0]):=rfl
 rw[e]at hb hf
 simp[F.fA,au,aG,h1,e]
 refine⟨hf,?_⟩
 refine aL.plain [] ?_
 simp[hb]
theorem X6 {d:bU} {p:dC} (h:lU d p):bI Pg I.fB [gO d,aP p] (.bl true):=by
 refine ah.intro T.fB (by simp[F.fB]) ?_
 have hg:∀i,i<3->kV d (lf p.ring (i+1)):=by
  intro i hi
  rcases(by omega:i=0∨i=1∨i=2)with rfl|rfl|rfl
  ·exact h.rp
  ·exact h.rc
  ·exact h.rn
 have hb:=Fu pU
 have hf:=Cf pU
 simp[F.fB,au,aG]
 refine jx.kl 3 (λ_=>True) [2,3,4,5] (λi=>[(5,.int .i64 ((i:Int)+1))]) (λi=>[]) [.keep [2,3,4,5]] ?_
 simp
 refine⟨λi hi K hK=> ?_,λK=> ?_⟩
 ·have hi3:(i:Int)+1≤3:=by omega
  have hw:IntKind.i64.wrap ((i:Int)+1+1)=(i:Int)+1+1:=wrap_i64 (by omega)
  have eH:=dQ p.ring (k:=i+1) (by omega)
  rw[show((i+1:Nat):Int)=(i:Int)+1 by omega]at eH
  have hp:=hg i hi
  generalize lf p.ring (i+1)=q at*
  simp[↓aA,hi3]
  refine al.ret eH (by simp) (by simp) (by simp) ?_
  rcases hp with⟨h1,h2⟩|⟨h1,h2⟩
  ·simp[h1]
   refine al.ret (IN h2) (by simp) (by simp) (by simp) ?_
   simp[h1,hw]
   refine⟨[.keep [2,3,4,5],.dr 6],?_⟩
   simp
   exact hK _ (by simp)
  ·have h0:pU.has=false:=rfl
   have D9:PV.beq (iy pU) (.st 77 [(.bl false),(.st 76 [(.int .u32 0),(.int .u32 0),(.ar 1 32 (zr 32 (.int .u8 0))),(.ar 1 32 (zr 32 (.int .u8 0))),(.int .u64 0),(.int .u64 0),(.st 6 [(.bl false),(.int .u64 0),(.ar 1 4 (zr 4 (.int .u64 0)))]),(.int .i64 0),(.bl false)])])=true:=Fu pU
   simp[h2,h0,hw,D9]
   refine⟨hf,[.keep [2,3,4,5],.dr 6],?_⟩
   simp
   exact hK _ (by simp)
 ·simp[↓aA,↓aA]
  refine aL.plain [] ?_
  simp
theorem Hq {d:bU} (hl:d.aj.length≤8) {k:Int} (hk:k=3∨k=4∨k=5) (h:∀p∈d.aj,lU d p) (hn:0≤d.now) (hs:0≤d.rules.oo):bI Pg I.fC [gO d,.int .i64 k] (.bl true):=by
 refine ah.intro T.fC (by simp[F.fC]) ?_
 simp[F.fC,au,aG]
 refine jx.kl d.aj.length (λ_=>True) [1,2,4,8,9,10] (λi=>[(10,.int .i64 i)]) (λi=>[]) [.keep [1,2,4,8,9,10]] ?_
 simp
 refine⟨λi hi K hK=> ?_,λK=> ?_⟩
 ·have hx:d.aj[i]? =some d.aj[i]:=gJ hi
  have hp:=h _ (List.getElem_mem hi)
  rcases hk with rfl|rfl|rfl
  ·simp[↓aA,hi]
   refine al.ret (Nq hp hn hs) (by simp) (by simp) (by simp) ?_
   simp[fV hi (by omega)]
   refine⟨[.keep [1,2,4,8,9,10],.dr 6],?_⟩
   simp
   exact hK _ (by simp)
  ·simp[↓aA,hi]
   refine al.ret (X5 hp) (by simp) (by simp) (by simp) ?_
   simp[fV hi (by omega)]
   refine⟨[.keep [1,2,4,8,9,10],.dr 6],?_⟩
   simp
   exact hK _ (by simp)
  ·simp[↓aA,hi]
   refine al.ret (X6 hp) (by simp) (by simp) (by simp) ?_
   simp[fV hi (by omega)]
   refine⟨[.keep [1,2,4,8,9,10],.dr 6],?_⟩
   simp
   exact hK _ (by simp)
 ·simp[↓aA,↓aA]
  refine aL.plain [] ?_
  simp
theorem RP {d:bU} (hl:d.aj.length≤8) (h:∀(i:Nat) (h:i+1<d.aj.length),RL d.aj[i].gF d.aj[i+1].gF=true):bI Pg I.fI [gO d] (.bl true):=by
 refine ah.intro T.fI (by simp[F.fI]) ?_
 simp[F.fI,au,aG]
 refine jx.kl d.aj.length (λ_=>True) [1,2,6,7,8] (λi=>[(8,.int .i64 i)]) (λi=>[]) [.keep [1,2,6,7,8]] ?_
 simp
 refine⟨λi hi K hK=> ?_,λK=> ?_⟩
 ·have hx:d.aj[i]? =some d.aj[i]:=gJ hi
  by_cases hz:i=0
  ·subst hz
   simp[↓aA,hi]
   refine⟨[.keep [1,2,6,7,8],.dr 4],?_⟩
   simp
   exact hK _ (by simp)
  ·obtain⟨j,A9⟩:∃j,i=j+1:=⟨i-1,by omega⟩
   have hj:j<d.aj.length:=by omega
   have hy:d.aj[j]? =some d.aj[j]:=gJ hj
   have fZ:=h j (by omega)
   have Y3:RL d.aj[j].gF d.aj[i].gF=true:=by subst A9;exact fZ
   have hw:IntKind.i64.wrap ((i:Int)-1)=j:=by rw[wrap_i64 (by omega)];omega
   have ta:(d.aj[j].gF.l.map u8).take 32=d.aj[j].gF.l.map u8:=tJ (by simp[d.aj[j].gF.h])
   have tb:(d.aj[i].gF.l.map u8).take 32=d.aj[i].gF.l.map u8:=tJ (by simp[d.aj[i].gF.h])
   simp[↓aA,hi,hj,hw,show 0<i by omega,fV hi (by omega),ey,ta,tb,(show Op.bytesLess d.aj[j].gF.l d.aj[i].gF.l=true from Y3)]
   refine⟨[.keep [1,2,6,7,8],.dr 4],?_⟩
   simp
   exact hK _ (by simp)
 ·have hl8:(d.aj.length:Int)≤8:=by omega
  simp[↓aA,↓aA,hl8]
  refine aL.plain [] ?_
  simp
end Go.Ab
end G1s
noncomputable section G2s
namespace Go.Ab
open Go.Ab
def rt (i:Nat):vD:=⟨qH (UInt8.ofNat (i+1)),nn i⟩
theorem u6 {i j:Nat} (hi:i<3) (hj:j<3) (h:nn i=nn j):i=j:=by
 have h2:=congrArg (λk:Key=>k.l.head?) h
 rcases(by omega:i=0∨i=1∨i=2)with rfl|rfl|rfl<;>rcases(by omega:j=0∨j=1∨j=2)with rfl|rfl|rfl<;>simp[nn]at h2<;>rfl
theorem Nr {i j:Nat} (Lb:i<j) (hj:j<3):RL (nn i) (nn j)=true:=by
 rcases(by omega:i=0∧j=1∨i=0∧j=2∨i=1∧j=2)with⟨rfl,rfl⟩|⟨rfl,rfl⟩|⟨rfl,rfl⟩<;>rfl
theorem afy {i j:Nat} (Lb:i<j) (hj:j<3):UInt8.ofNat (i+1)<UInt8.ofNat (j+1):=by
 rcases(by omega:i=0∧j=1∨i=0∧j=2∨i=1∧j=2)with⟨rfl,rfl⟩|⟨rfl,rfl⟩|⟨rfl,rfl⟩<;>decide
def Ch (l:List vD):Prop:=l.length≤3∧∀(i:Nat) (h:i<l.length),l[i]=rt i
theorem Bq {l:List vD} (h:Ch l):bI Pg I.dN [eE l] (.bl true):=by
 refine ah.intro T.dN (by simp[F.dN]) ?_
 have hl:=h.1
 simp[F.dN,au,aG]
 refine jx.kl l.length (λ_=>True) [0,2,5,6,7] (λi=>[(7,.int .i64 i)]) (λi=>[]) [.keep [0,2,5,6,7]] ?_
 simp
 refine⟨λi hi K hK=> ?_,λK=> ?_⟩
 ·have hx:l[i]? =some l[i]:=gJ hi
  have he:=h.2 i hi
  have hp:l[i].K6=qH (UInt8.ofNat (i+1)):=by rw[he];rfl
  have hv:bI Pg I.b8 [jZ l[i].K6] (.bl true):=by rw[hp];exact b8 (ss _) rfl
  by_cases hz:i=0
  ·subst hz
   simp[↓aA,hi]
   refine a8.ret hv (by simp) (by simp) (by simp) ?_
   simp
   refine⟨[.keep [0,2,5,6,7],.dr 4],?_⟩
   simp
   exact hK _ (by simp)
  ·obtain⟨j,A9⟩:∃j,i=j+1:=⟨i-1,by omega⟩
   have hj:j<l.length:=by omega
   have hy:l[j]? =some l[j]:=gJ hj
   have hq:l[j].K6=qH (UInt8.ofNat (j+1)):=by rw[h.2 j hj];rfl
   have fZ:=afy (i:=j) (j:=i) (by omega) (by omega)
   have hb:=cE (UInt8.ne_of_lt fZ)
   rw[Hk fZ,←hp,←hq]at hb
   have hw:IntKind.i64.wrap ((i:Int)-1)=j:=by rw[wrap_i64 (by omega)];omega
   simp[↓aA,hi]
   refine a8.ret hv (by simp) (by simp) (by simp) ?_
   simp[hj,hw,show 0<i by omega]
   refine a8.ret hb (by simp) (by simp) (by simp) ?_
   simp[fV hi (by omega)]
   refine⟨[.keep [0,2,5,6,7],.dr 4],?_⟩
   simp
   exact hK _ (by simp)
 ·have hl8:(l.length:Int)≤16:=by omega
  simp[↓aA,↓aA,hl8]
  refine aL.plain [] ?_
  simp
def xu (l:List dC):Prop:=l.length≤3∧∀(i:Nat) (h:i<l.length),l[i].gF=nn i
theorem Hr {d:bU} (h:xu d.aj) {i:Nat} (hi:i<d.aj.length):bI Pg I.cm [gO d,ey (nn i)] (.int .i64 i):=by
 have hl:=h.1
 refine Nk (by omega) hi (h.2 i hi) (λj hj A9=> ?_)
 rw[h.2 j hj]
 intro e
 exact absurd (u6 (by omega) (by omega) e) (by omega)
theorem Ns {d:bU} (h:Ch d.bD) (hp:xu d.aj) (hl:d.bD.length=d.aj.length):bI Pg I.eS [gO d] (.bl true):=by
 refine ah.intro T.eS (by simp[F.eS]) ?_
 have Tb:=h.1
 simp[F.eS,au,aG]
 refine jx.kl d.bD.length (λ_=>True) [1,2,6,7,8] (λi=>[(8,.int .i64 i)]) (λi=>[]) [.keep [1,2,6,7,8]] ?_
 simp
 refine⟨λi hi K hK=> ?_,λK=> ?_⟩
 ·have hx:d.bD[i]? =some d.bD[i]:=gJ hi
  have he:d.bD[i].peer=nn i:=by rw[h.2 i hi];rfl
  have hf:=Hr hp (i:=i) (by omega)
  rw[←he]at hf
  have hn:¬(i:Int)<0:=by omega
  simp[↓aA,hi]
  refine al.ret hf (by simp) (by simp) (by simp) ?_
  simp[hn,fV hi (by omega)]
  refine⟨[.keep [1,2,6,7,8],.dr 4],?_⟩
  simp
  exact hK _ (by simp)
 ·simp[↓aA,↓aA]
  refine al.ret (Bq h) (by simp) (by simp) (by simp) ?_
  simp
  refine aL.plain [] ?_
  simp
theorem X7 {d:bU} (h0:0≤d.kU) (h1:d.kU≤d.now) (h2:d.cN=[]) (h3:d.buckets=[]):bI Pg I.fW [gO d] (.bl true):=by
 refine ah.intro T.fW (by simp[F.fW]) ?_
 simp[F.fW,au,aG]
 refine al.ret (Hn h0 h1) (by simp) (by simp) (by simp) ?_
 simp[h2,h3]
 refine jx.kl 0 (λ_=>True) [1,2,25,26,27] (λi=>[]) (λi=>[]) [.keep [1,2,25,26,27]] ?_
 simp
 intro K
 simp[↓aA,↓aA,h3]
 refine jx.kl 0 (λ_=>True) [1,2,52,53,54] (λi=>[]) (λi=>[]) [.keep [1,2,52,53,54]] ?_
 simp
 intro K
 simp[↓aA,↓aA]
 refine aL.plain [] ?_
 simp
end Go.Ab
end G2s
namespace Go.Ab
open Go.Ab
structure Nt (d:bU):Prop where
 so:∀(i:Nat) (h:i+1<d.timers.length),iI d.timers[i] d.timers[i+1]=true
 rg:∀t∈d.timers,2≤t.kind∧t.kind≤5∧d.now<t.at_∧t.at_≤4398046511104∧∃i,∃h:i<d.aj.length,t.peer=nn i∧(t.kind=4->d.aj[i].pq≠0)
 un:∀(i j:Nat) (hi:i<d.timers.length) (hj:j<d.timers.length),i<j->¬(d.timers[j].peer=d.timers[i].peer∧d.timers[j].kind=d.timers[i].kind)
 len:d.timers.length≤1000
theorem X8 {l:List fS} (hl:l.length≤1000) {k:Key} {n:Int} (h:∀t∈l,t.kind≠n):bI Pg I.cy [dA l,ey k,.int .i64 n] (.bl false):=by
 refine ah.intro T.cy (by simp[F.cy]) ?_
 simp[F.cy,au,aG]
 refine jx.kl l.length (λ_=>True) [2,4,6,9,10,11] (λi=>[(11,.int .i64 i)]) (λi=>[]) [.keep [2,4,6,9,10,11]] ?_
 simp
 refine⟨λi hi K hK=> ?_,λK=> ?_⟩
 ·have hx:l[i]? =some l[i]:=gJ hi
  have he:=h _ (List.getElem_mem hi)
  by_cases h1:l[i].peer=k
  ·simp[↓aA,hi,he,h1,fV hi (by omega)]
   refine⟨[.keep [2,4,6,9,10,11],.dr 8],?_⟩
   simp
   exact hK _ (by simp)
  ·simp[↓aA,hi,he,xt,h1,fV hi (by omega)]
   refine⟨[.keep [2,4,6,9,10,11],.dr 8],?_⟩
   simp
   exact hK _ (by simp)
 ·simp[↓aA,↓aA]
  refine aL.plain [] ?_
  simp
theorem Br {l:List fS} (hl:l.length≤1000) (hso:∀(i:Nat) (h:i+1<l.length),iI l[i] l[i+1]=true)
  (hrg:∀t∈l,2≤t.kind∧t.kind≤5∧0≤t.at_∧t.at_≤4398046511104)
  (Ec:∀(i j:Nat) (hi:i<l.length) (hj:j<l.length),i<j->¬(l[j].peer=l[i].peer∧l[j].kind=l[i].kind)):bI Pg I.cK [dA l] (.bl true):=by
 refine ah.intro T.cK (by simp[F.cK]) ?_
 simp[F.cK,au,aG]
 refine jx.kl l.length (λ_=>True) [0,2,7,8,9] (λi=>[(9,.int .i64 i)]) (λi=>[]) [.keep [0,2,7,8,9]] ?_
 simp
 refine⟨λi hi K hK=> ?_,λK=> ?_⟩
 ·have hx:l[i]? =some l[i]:=gJ hi
  obtain⟨r1,r2,r3,r4⟩:=hrg _ (List.getElem_mem hi)
  have g1:¬l[i].kind<1:=by omega
  have g2:¬5<l[i].kind:=by omega
  have g3:¬l[i].at_<0:=by omega
  have g4:¬4398046511104<l[i].at_:=by omega
  by_cases hz:i=0
  ·subst hz
   simp[↓aA,hi,g1,g2,g3,g4,dA]
   refine jx.kl 0 (λ_=>True) [0,2,4,7,8,9,48,49,50] (λi=>[]) (λi=>[]) [.keep [0,2,4,7,8,9,48,49,50]] ?_
   simp
   intro K2
   simp[↓aA,↓aA]
   refine⟨[.keep [0,2,7,8,9],.dr 4],?_⟩
   simp
   exact hK _ (by simp[dA])
  ·obtain⟨j,A9⟩:∃j,i=j+1:=⟨i-1,by omega⟩
   have hj:j<l.length:=by omega
   have hy:l[j]? =some l[j]:=gJ hj
   have fZ:iI l[j] l[i]=true:=by subst A9;exact hso j hi
   have hw:IntKind.i64.wrap ((i:Int)-1)=j:=by rw[wrap_i64 (by omega)];omega
   have Vv:=bm l[j] l[i]
   rw[fZ]at Vv
   simp[↓aA,hi,hj,g1,g2,g3,g4,hw,show 0<i by omega]
   refine a8.ret Vv (by simp) (by simp) (by simp) ?_
   simp[dA,show i≤l.length by omega]
   refine jx.kl i (λ_=>True) [0,2,4,7,8,9,48,49,50] (λm=>[(50,.int .i64 m)]) (λi=>[]) [.keep [0,2,4,7,8,9,48,49,50]] ?_
   simp
   refine⟨λm hm K2 sX=> ?_,λK2=> ?_⟩
   ·have PF:m<l.length:=by omega
    have sv:m<min i l.length:=by omega
    have hxm:l[m]? =some l[m]:=gJ PF
    have hu:=Ec m i PF hi hm
    by_cases hp:l[i].peer=l[m].peer
    ·have hk:¬l[i].kind=l[m].kind:=λe=>hu ⟨hp,e⟩
     simp[↓aA,hm,PF,hp,hk,fV hm (by omega)]
     refine⟨sv,[.keep [0,2,4,7,8,9,48,49,50],.dr 6],?_⟩
     simp
     exact sX _ (by simp)
    ·simp[↓aA,hm,PF,xt,hp,fV hm (by omega)]
     refine⟨sv,[.keep [0,2,4,7,8,9,48,49,50],.dr 6],?_⟩
     simp
     exact sX _ (by simp)
   ·simp[↓aA,↓aA,fV hi (by omega)]
    refine⟨[.keep [0,2,7,8,9],.dr 4],?_⟩
    simp
    exact hK _ (by simp[dA])
 ·simp[↓aA,↓aA]
  refine aL.plain [] ?_
  simp
theorem Nu {d:bU} (h:Nt d) (hn:0≤d.now) (hp:xu d.aj) (hh:∀p∈d.aj,lU d p):bI Pg I.fk [gO d] (.bl true):=by
 refine ah.intro T.fk (by simp[F.fk]) ?_
 have hl:=h.len
 have qZ:=hp.1
 have hv:bI Pg I.cK [dA d.timers] (.bl true):=
  Br hl h.so (λt ht=>by obtain⟨r1,r2,r3,r4,_⟩:=h.rg t ht;exact⟨r1,r2,by omega,r4⟩) h.un
 simp[F.fk,au,aG]
 refine al.ret hv (by simp) (by simp) (by simp) ?_
 simp
 refine jx.kl d.timers.length (λ_=>True) [1,2,13,14,15] (λi=>[(15,.int .i64 i)]) (λi=>[]) [.keep [1,2,13,14,15]] ?_
 simp
 refine⟨λi hi K hK=> ?_,λK=> ?_⟩
 ·have hx:d.timers[i]? =some d.timers[i]:=gJ hi
  obtain⟨r1,r2,r3,r4,j,hj,he,h4⟩:=h.rg _ (List.getElem_mem hi)
  have hf:=Hr hp hj
  rw[←he]at hf
  have CH:¬d.timers[i].at_≤d.now:=by omega
  have OQ:¬(j:Int)<0:=by omega
  have hy:d.aj[j]? =some d.aj[j]:=gJ hj
  simp[↓aA,hi]
  refine al.ret hf (by simp) (by simp) (by simp) ?_
  by_cases hk:d.timers[i].kind=4
  ·have h4':=h4 hk
   simp[CH,OQ,hk,hj,h4',fV hi (by omega)]
   refine⟨[.keep [1,2,13,14,15],.dr 4],?_⟩
   simp
   exact hK _ (by simp)
  ·simp[CH,OQ,hk,fV hi (by omega)]
   refine⟨[.keep [1,2,13,14,15],.dr 4],?_⟩
   simp
   exact hK _ (by simp)
 ·simp[↓aA,↓aA]
  refine jx.kl d.aj.length (λ_=>True) [1,2,48,49,50] (λi=>[(50,.int .i64 i)]) (λi=>[]) [.keep [1,2,48,49,50]] ?_
  simp
  refine⟨λi hi K hK=> ?_,λK=> ?_⟩
  ·have hx:d.aj[i]? =some d.aj[i]:=gJ hi
   have h5:=(hh _ (List.getElem_mem hi)).hand
   have h6:d.aj[i].hand.has=false:=by rw[h5];rfl
   have hs:bI Pg I.cy [dA d.timers,ey d.aj[i].gF,.int .i64 1] (.bl false):=
    X8 hl (λt ht=>by have:=(h.rg t ht).1;omega)
   simp[↓aA,hi]
   refine a8.ret hs (by simp) (by simp) (by simp) ?_
   simp[h6,fV hi (by omega)]
   refine⟨[.keep [1,2,48,49,50],.dr 7],?_⟩
   simp
   exact hK _ (by simp)
  ·simp[↓aA,↓aA]
   refine aL.plain [] ?_
   simp
end Go.Ab
noncomputable section G4s
namespace Go.Ab
open Go.Ab
def Bs (r:lB):List Int:=DB [r.p,r.c,r.n]
def pW (p:dC):List ja:=(Bs p.ring).map (λx=>⟨x,p.gF,true⟩)
theorem Nv (r:lB):(Bs r).length≤3:=Ax _
structure pX (d:bU):Prop where
 so:qT d.aM
 pm:d.aM.Perm (d.aj.flatMap pW)
theorem qT.lt {l:List ja} (h:qT l):∀(k i:Nat) (hk:i+k+1<l.length),l[i].index<l[i+k+1].index
 |0,i,hk=>h.2 i hk
 |k+1,i,hk=>Int.lt_trans (qT.lt h k i (by omega)) (h.2 (i+k+1) (by omega))
theorem qT.lt' {l:List ja} (h:qT l) {i j:Nat} (Lb:i<j) (hj:j<l.length):l[i].index<l[j].index:=by
 obtain⟨k,rfl⟩:∃k,j=i+k+1:=⟨j-i-1,by omega⟩
 exact h.lt k i hj
theorem qT.nodup {l:List ja} (h:qT l):(l.map (λs=>s.index)).Nodup:=by
 rw[List.nodup_iff_pairwise_ne,List.pairwise_map,List.pairwise_iff_getElem]
 intro i j hi hj Lb e
 have:=h.lt' Lb hj
 omega
theorem Nw (p:dC):(pW p).map (λs=>s.index)=Bs p.ring:=by simp[pW,Function.comp_def]
theorem pX.nd {d:bU} (h:pX d):(d.aj.flatMap (λp=>Bs p.ring)).Nodup:=by
 have h1:=h.so.nodup
 have h2:(d.aM.map (λs=>s.index)).Perm (d.aj.flatMap (λp=>Bs p.ring)):=by
  have:=h.pm.map (λs=>s.index)
  rw[List.map_flatMap]at this
  simpa[Nw]using this
 exact h2.nodup_iff.1 h1
theorem IS {α β:Type} {f:α->List β}:∀ {l:List α},(l.flatMap f).Nodup->∀x∈l,(f x).Nodup
 |
  y::l,h,x,hx=>by
  rw[List.flatMap_cons,List.nodup_append]at h
  rcases List.mem_cons.1 hx with rfl|hx
  ·exact h.1
  ·exact IS h.2.1 x hx
theorem pX.nd1 {d:bU} (h:pX d) {p:dC} (hp:p∈d.aj):(Bs p.ring).Nodup:=IS h.nd p hp
theorem IT {l:List dC}:(l.flatMap pW).length≤3*l.length:=by
 induction l with
 |nil=>simp
 |
  cons p l ih=>
  rw[List.flatMap_cons,List.length_append,List.length_cons]
  have:(pW p).length≤3:=by rw[pW,List.length_map];exact Nv _
  omega
theorem pX.len {d:bU} (h:pX d) (hp:d.aj.length≤3):d.aM.length≤9:=by
 have h1:=h.pm.length_eq
 have h2:=IT (l:=d.aj)
 omega
theorem pX.find {d:bU} (h:pX d) (hp:d.aj.length≤3) {p:dC} (hm:p∈d.aj) {x:Int} (hx:x∈Bs p.ring):
  bI Pg I.bn [dX d.aM,.int .u32 x] (.tup [cI ⟨x,p.gF,true⟩,.bl true]):=by
 have iZ:(⟨x,p.gF,true⟩:ja)∈d.aM:=by
  rw[h.pm.mem_iff,List.mem_flatMap]
  exact⟨p,hm,by rw[pW,List.mem_map];exact⟨x,hx,rfl⟩⟩
 obtain⟨f,hf,he⟩:=List.mem_iff_getElem.1 iZ
 have hl:=h.len hp
 have:=u0 (l:=d.aM) (by omega) (x:=x) hf (by rw[he]) (λj hj hjf=>by have:=h.so.lt' hjf hf;rw[he]at this;simp at this;omega)
 rw[he]at this
 exact this
def K8 (l:List dC) (i:Nat):Nat:=((l.take i).flatMap pW).length
theorem Nx {l:List dC} {i:Nat} (h:i<l.length):K8 l (i+1)=K8 l i+(Bs l[i].ring).length:=by
 unfold K8
 rw[List.take_succ_eq_append_getElem h,List.flatMap_append,List.length_append]
 simp[pW]
theorem X9 (l:List dC) (i:Nat):K8 l i≤3*i:=by
 have:=IT (l:=l.take i)
 rw[lJ]at this
 unfold K8;omega
theorem RQ {d:bU} (h:pX d) (hp:xu d.aj) (hh:∀p∈d.aj,lU d p):bI Pg I.fK [gO d] (.bl true):=by
 refine ah.intro T.fK (by simp[F.fK]) ?_
 have hl:=h.len hp.1
 have qZ:=hp.1
 have hv:=Hl (by omega) h.so
 simp[F.fK,au,aG]
 refine al.ret hv (by simp) (by simp) (by simp) ?_
 simp
 refine jx.kl d.aj.length (λ_=>True) [1,2,3,22,23,24] (λi=>[(3,.int .i64 (K8 d.aj i)),(24,.int .i64 i)]) (λi=>[]) [.keep [1,2,3,22,23,24]] ?_
 simp[show K8 d.aj 0=0 from rfl]
 refine⟨λi hi K hK=> ?_,λK=> ?_⟩
 ·have hx:d.aj[i]? =some d.aj[i]:=gJ hi
  have hm:=List.getElem_mem hi
  have h5:=(hh _ hm).hand
  have h6:d.aj[i].hand.has=false:=by rw[h5];rfl
  have yM:=h.nd1 hm
  have hfn:∀x∈Bs d.aj[i].ring,bI Pg I.bn [dX d.aM,.int .u32 x] (.tup [cI ⟨x,d.aj[i].gF,true⟩,.bl true]):=λx hx=>h.find qZ hm hx
  have hLc:=cQ d.aj[i].ring
  have hc:=Nx hi
  have sI:=X9 d.aj i
  have Tb:=Nv d.aj[i].ring
  have e3:DB [d.aj[i].ring.p,d.aj[i].ring.c,d.aj[i].ring.n]=Bs d.aj[i].ring:=rfl
  rw[e3]at hLc
  generalize Bs d.aj[i].ring=L at*
  rw[hc]at hK
  simp[↓aA,hi,h6]
  refine al.ret hLc (by simp) (by simp) (by simp) ?_
  simp
  refine jx.kl L.length (λ_=>True) [1,2,3,5,22,23,24,57,58,59] (λj=>[(3,.int .i64 ((K8 d.aj i:Int)+j)),(59,.int .i64 j)]) (λi=>[]) [.keep [1,2,3,5,22,23,24,57,58,59]] ?_
  simp
  refine⟨λj hj K2 sX=> ?_,λK2=> ?_⟩
  ·have hy:L[j]? =some L[j]:=gJ hj
   have hf:=hfn _ (List.getElem_mem hj)
   have Zq:IntKind.i64.wrap ((K8 d.aj i:Int)+j+1)=(K8 d.aj i:Int)+((j:Int)+1):=by rw[wrap_i64 (by omega)];omega
   simp[↓aA,hj]
   refine al.ret hf (by simp) (by simp) (by simp) ?_
   simp[Zq,fV hj (by omega)]
   refine⟨[.keep [1,2,3,5,22,23,24,57,58,59],.dr 10],?_⟩
   simp
   exact sX _ (by simp)
  ·simp[↓aA,↓aA]
   refine al.ret hLc (by simp) (by simp) (by simp) ?_
   simp
   refine jx.kl L.length (λ_=>True) [1,2,3,5,12,22,23,24,90,91,92] (λj=>[(92,.int .i64 j)]) (λi=>[]) [.keep [1,2,3,5,12,22,23,24,90,91,92]] ?_
   simp
   refine⟨λj hj K3 hK3=> ?_,λK3=> ?_⟩
   ·have hy:L[j]? =some L[j]:=gJ hj
    simp[↓aA,hj,nI,show j≤L.length by omega]
    refine jx.kl j (λ_=>True) [1,2,3,5,12,14,22,23,24,90,91,92,99,100,101] (λm=>[(101,.int .i64 m)]) (λi=>[]) [.keep [1,2,3,5,12,14,22,23,24,90,91,92,99,100,101]] ?_
    simp
    refine⟨λm hm2 K4 hK4=> ?_,λK4=> ?_⟩
    ·have PF:m<L.length:=by omega
     have sv:m<min j L.length:=by omega
     have hxm:L[m]? =some L[m]:=gJ PF
     have fc:¬L[j]=L[m]:=by
      intro e
      exact List.pairwise_iff_getElem.1 (List.nodup_iff_pairwise_ne.1 yM) m j PF hj hm2 e.symm
     simp[↓aA,hm2,sv,fc,fV hm2 (by omega)]
     refine⟨[.keep [1,2,3,5,12,14,22,23,24,90,91,92,99,100,101]],?_⟩
     simp
     exact hK4 _ (by simp)
    ·simp[↓aA,↓aA,fV hj (by omega)]
     refine⟨[.keep [1,2,3,5,12,22,23,24,90,91,92]],?_⟩
     simp
     exact hK3 _ (by simp[nI])
   ·simp[↓aA,↓aA,fV hi (by omega)]
    refine⟨[.keep [1,2,3,22,23,24],.dr 5],?_⟩
    simp
    exact hK _ (by simp)
 ·have hcn:K8 d.aj d.aj.length=d.aM.length:=by
   unfold K8;rw[List.take_length];exact h.pm.length_eq.symm
  simp[↓aA,↓aA,hcn]
  refine aL.plain [] ?_
  simp
end Go.Ab
end G4s
namespace Go.Ab
open Go.Ab
structure VD (d:bU):Prop where
 ru:xr d.rules
 n0:0≤d.now
 n1:d.now≤16777216
 p0:0≤d.port
 p1:d.port≤65535
 bad:d.bad=0
 Gf:xu d.aj
 xR:∀p∈d.aj,lU d p
 Ya:Ch d.bD
 rtl:d.bD.length=d.aj.length
 sls:pX d
 tis:Nt d
 s0:0≤d.kU
 s1:d.kU≤d.now
 rcn:d.cN=[]
 buc:d.buckets=[]
theorem RR {d:bU} (h:VD d):bI Pg I.fi [gO d] (.int .i64 0):=by
 refine ah.intro T.fi (by simp[F.fi]) ?_
 have hl:=h.Gf.1
 have hs:0≤d.rules.oo:=by have:=h.ru.2.2.2.2.2.2.2.2.2.2.2.2.2.2.2.1;omega
 have KZ:∀(i:Nat) (h:i+1<d.aj.length),RL d.aj[i].gF d.aj[i+1].gF=true:=by
  intro i hi
  rw[h.Gf.2 i (by omega),h.Gf.2 (i+1) hi]
  exact Nr (by omega) (by omega)
 have hb:=h.bad
 simp[F.fi,au,aG]
 refine al.ret (DC h.ru) (by simp) (by simp) (by simp) ?_
 simp
 refine al.ret (jK (n:=d.now) (a:=0) (b:=1099511627776) h.n0 (by have:=h.n1;omega)) (by simp) (by simp) (by simp) ?_
 simp
 refine al.ret (jK (n:=d.port) (a:=0) (b:=65535) h.p0 h.p1) (by simp) (by simp) (by simp) ?_
 simp[hb]
 refine al.ret (jK (n:=0) (a:=0) (b:=1099511627776) (by omega) (by omega)) (by simp) (by simp) (by simp) ?_
 simp
 refine al.ret (RP (d:=d) (by omega) KZ) (by simp) (by simp) (by simp) ?_
 simp
 refine al.ret (Hq (d:=d) (k:=3) (by omega) (by omega) h.xR h.n0 hs) (by simp) (by simp) (by simp) ?_
 simp
 refine al.ret (Hq (d:=d) (k:=4) (by omega) (by omega) h.xR h.n0 hs) (by simp) (by simp) (by simp) ?_
 simp
 refine al.ret (Hq (d:=d) (k:=5) (by omega) (by omega) h.xR h.n0 hs) (by simp) (by simp) (by simp) ?_
 simp
 refine al.ret (Ns (d:=d) h.Ya h.Gf h.rtl) (by simp) (by simp) (by simp) ?_
 simp
 refine al.ret (RQ (d:=d) h.sls h.Gf h.xR) (by simp) (by simp) (by simp) ?_
 simp
 refine al.ret (Nu (d:=d) h.tis h.n0 h.Gf h.xR) (by simp) (by simp) (by simp) ?_
 simp
 refine al.ret (X7 (d:=d) h.s0 h.s1 h.rcn h.buc) (by simp) (by simp) (by simp) ?_
 simp
 refine aL.plain [] ?_
 simp
theorem RS {d:bU} (h:VD d):bI Pg I.eL [gO d] (.bl true):=by
 refine ah.intro T.eL (by simp[F.eL]) ?_
 simp[F.eL,au,aG]
 refine al.ret (RR h) (by simp) (by simp) (by simp) ?_
 simp
 refine aL.plain [] ?_
 simp
end Go.Ab
