/- The checks of the reference hold of a made daemon. No condition. -/
import Derived.Test.YtjkfnhhekobfgaaGreatDoorB3
set_option maxRecDepth 10000
set_option maxHeartbeats 2000000
set_option linter.all false
noncomputable section G1s
namespace Go.Ab
open Go.Ab
def E4:im:=⟨false,List.replicate 16 0,rfl⟩
def tZ:Cl:=⟨E4,0⟩
def Gv:FV EY:=⟨.ar 1 16 (zr 16 (.int .u8 0)),by rw[fC];rfl⟩
def zSm:FV Kj:=⟨.ar 1 12 (zr 12 (.int .u8 0)),by rw[fC];rfl⟩
def zNo:FV Ki:=⟨.st 64 [.ar 1 32 (zr 32 (.int .u8 0)),.ar 1 32 (zr 32 (.int .u8 0))],by rw[fC];rfl⟩
def ua:Cm:=⟨false,0,Kt,zNo,0,0⟩
theorem yC:gZ tZ=(.st 18 [(.st 17 [(.bl false),(.ar 1 16 (zr 16 (.int .u8 0)))]),(.int .i64 0)]):=by first|rfl|(rw[fC];rfl)
theorem abH:PV.beq (.st 18 [(.st 17 [(.bl false),(.ar 1 16 (zr 16 (.int .u8 0)))]),(.int .i64 0)]) (.st 18 [(.st 17 [(.bl false),(.ar 1 16 (zr 16 (.int .u8 0)))]),(.int .i64 0)])=true:=by
 have h:=Km tZ;rw[yC]at h;exact h
theorem Kw:fits (Sh.st [Sh.st [Sh.b,Sh.ar 16 (Sh.i IntKind.u8)],Sh.i IntKind.i64]) (.st 18 [(.st 17 [(.bl false),(.ar 1 16 (zr 16 (.int .u8 0)))]),(.int .i64 0)])=true:=by
 have h:=rm tZ;rw[yC]at h;exact h
theorem Dp:Gv.p=(.ar 1 16 (zr 16 (.int .u8 0))):=by first|rfl|(rw[fC];rfl)
def j9 (d:cK) (p:rl):Prop:=(p.has=true∧tW d p.pk)∨(p.has=false∧p=ql)
structure lC (d:cK) (p:fg):Prop where
 ep:(p.jL=true∧∃i,i<3∧p.ep=sE i)∨(p.jL=false∧p.ep=tZ)
 oS:p.oS=0∨1000≤p.oS∧p.oS≤1073741824
 oU:p.oU=0
 za:p.oT=false
 Ej:p.n9=false
 nS:p.nS=0
 pN:p.pN=Gv
 bD:p.bD=[]
 hand:p.hand=ua
 rp:j9 d p.ring.p
 rc:j9 d p.ring.c
 rn:j9 d p.ring.n
theorem Kx {d:cK} {p:fg} (h:lC d p) (hn:0≤d.now) (hs:0≤d.rules.gC):bg Pg I.bI [bE d,br p] (.bl true):=by
 refine ai.intro T.bI (by simp[F.bI]) ?_
 have h2:=h.oU
 have h3:=h.nS
 have h4:=h.pN
 have h5:=h.bD
 have h6:=h.za
 have h7:=h.Ej
 have hf:fits (Sh.ar 16 (Sh.i IntKind.u8)) (PV.ar 1 16 (zr 16 (PV.int IntKind.u8 0)))=true:=by rw[fC];rfl
 have ur:¬d.rules.gC<0:=by omega
 have hp0:bg Pg I.bO [bE d,.int .i64 0] (.bl true):=E2 (by omega) hn
 have hb:PV.beq Gv.p Gv.p=true:=FV.beq Gv
 rw[Dp]at hb
 rcases h.ep with⟨he,i,hi,e⟩|⟨he,e⟩
 ·simp[F.bI,aj,aF,he,e]
  refine an.ret (yB hi) (by simp) (by simp) (by simp) ?_
  simp[Kv,he]
  refine an.ret (Gu h.oS) (by simp) (by simp) (by simp) ?_
  simp[h2]
  refine an.ret hp0 (by simp) (by simp) (by simp) ?_
  simp[h2,h3,h6]
  refine an.ret hp0 (by simp) (by simp) (by simp) ?_
  simp[h3,h4,h5,Dp,ur,h7,hb,hf]
  refine fb.fG 0 (λ_=>True) [4,82,83,84] (λi=>[]) (λi=>[]) [.keep [4,82,83,84]] ?_
  simp
  intro K
  simp[↓ah,↓ah]
  refine al.plain [] ?_
  simp
 ·simp[F.bI,aj,aF,he,e,yC,abH,Kw]
  refine an.ret (Gu h.oS) (by simp) (by simp) (by simp) ?_
  simp[h2]
  refine an.ret hp0 (by simp) (by simp) (by simp) ?_
  simp[h2,h3,h6]
  refine an.ret hp0 (by simp) (by simp) (by simp) ?_
  simp[h3,h4,h5,Dp,ur,h7,hb,hf]
  refine fb.fG 0 (λ_=>True) [4,82,83,84] (λi=>[]) (λi=>[]) [.keep [4,82,83,84]] ?_
  simp
  intro K
  simp[↓ah,↓ah]
  refine al.plain [] ?_
  simp
theorem Um {d:cK} {p:fg} (h:lC d p):bg Pg I.cM [bE d,br p] (.bl true):=by
 refine ai.intro T.cM (by simp[F.cM]) ?_
 have h1:=h.hand
 have h2:ua.has=false:=rfl
 have hb:=Kn ua
 have hf:=rq ua
 have e:iU ua=(.st 100 [.bl false,.int .u32 0,.ar 1 32 (zr 32 (.int .u8 0)),.st 64 [.ar 1 32 (zr 32 (.int .u8 0)),.ar 1 32 (zr 32 (.int .u8 0))],.int .i64 0,.int .i64 0]):=rfl
 rw[e]at hb hf
 simp[F.cM,aj,aF,h1,e,av]
 refine⟨hf,?_⟩
 refine al.plain [] ?_
 simp[hb]
theorem Un {d:cK} {p:fg} (h:lC d p):bg Pg I.df [bE d,br p] (.bl true):=by
 refine ai.intro T.df (by simp[F.df]) ?_
 have hg:∀i,i<3->j9 d (kW p.ring (i+1)):=by
  intro i hi
  rcases(by omega:i=0∨i=1∨i=2)with rfl|rfl|rfl
  ·exact h.rp
  ·exact h.rc
  ·exact h.rn
 have hb:=De ql
 have hf:=vl ql
 simp[F.df,aj,aF]
 refine fb.fG 3 (λ_=>True) [2,3,4,5] (λi=>[(5,.int .i64 ((i:Int)+1))]) (λi=>[]) [.keep [2,3,4,5]] ?_
 simp
 refine⟨λi hi K hK=> ?_,λK=> ?_⟩
 ·have Ef:(i:Int)+1≤3:=by omega
  have hw:IntKind.i64.wrap ((i:Int)+1+1)=(i:Int)+1+1:=wrap_i64 (by omega)
  have da:=dW p.ring (k:=i+1) (by omega)
  rw[show((i+1:Nat):Int)=(i:Int)+1 by omega]at da
  have hp:=hg i hi
  generalize kW p.ring (i+1)=q at*
  simp[↓ah,hi,Ef]
  refine an.ret da (by simp) (by simp) (by simp) ?_
  rcases hp with⟨h1,h2⟩|⟨h1,h2⟩
  ·simp[h1]
   refine an.ret (Gt h2) (by simp) (by simp) (by simp) ?_
   simp[h1,hw]
   refine⟨[.keep [2,3,4,5],.dr 6],?_⟩
   simp
   exact hK _ (by simp)
  ·have h0:ql.has=false:=rfl
   have pg:PV.beq (iD ql) (.st 77 [(.bl false),(.st 76 [(.int .u32 0),(.int .u32 0),(.ar 1 32 (zr 32 (.int .u8 0))),(.ar 1 32 (zr 32 (.int .u8 0))),(.int .u64 0),(.int .u64 0),(.st 6 [(.bl false),(.int .u64 0),(.ar 1 4 (zr 4 (.int .u64 0)))]),(.int .i64 0),(.bl false)])])=true:=De ql
   simp[h2,h0,hw,pg]
   refine⟨hf,[.keep [2,3,4,5],.dr 6],?_⟩
   simp
   exact hK _ (by simp)
 ·simp[↓ah,↓ah]
  refine al.plain [] ?_
  simp
theorem E5 {d:cK} (hl:d.aa.length≤8) {k:Int} (hk:k=3∨k=4∨k=5) (h:∀p∈d.aa,lC d p) (hn:0≤d.now) (hs:0≤d.rules.gC):bg Pg I.bn [bE d,.int .i64 k] (.bl true):=by
 refine ai.intro T.bn (by simp[F.bn]) ?_
 simp[F.bn,aj,aF]
 refine fb.fG d.aa.length (λ_=>True) [1,2,4,8,9,10] (λi=>[(10,.int .i64 i)]) (λi=>[]) [.keep [1,2,4,8,9,10]] ?_
 simp
 refine⟨λi hi K hK=> ?_,λK=> ?_⟩
 ·have hx:d.aa[i]? =some d.aa[i]:=gJ hi
  have hp:=h _ (List.getElem_mem hi)
  rcases hk with rfl|rfl|rfl
  ·simp[↓ah,hx,hi]
   refine an.ret (Kx hp hn hs) (by simp) (by simp) (by simp) ?_
   simp[cu hi (by omega)]
   refine⟨[.keep [1,2,4,8,9,10],.dr 6],?_⟩
   simp
   exact hK _ (by simp)
  ·simp[↓ah,hx,hi]
   refine an.ret (Um hp) (by simp) (by simp) (by simp) ?_
   simp[cu hi (by omega)]
   refine⟨[.keep [1,2,4,8,9,10],.dr 6],?_⟩
   simp
   exact hK _ (by simp)
  ·simp[↓ah,hx,hi]
   refine an.ret (Un hp) (by simp) (by simp) (by simp) ?_
   simp[cu hi (by omega)]
   refine⟨[.keep [1,2,4,8,9,10],.dr 6],?_⟩
   simp
   exact hK _ (by simp)
 ·simp[↓ah,↓ah]
  refine al.plain [] ?_
  simp
theorem OR {d:cK} (hl:d.aa.length≤8) (h:∀(i:Nat) (h:i+1<d.aa.length),RL d.aa[i].fF d.aa[i+1].fF=true):bg Pg I.dh [bE d] (.bl true):=by
 refine ai.intro T.dh (by simp[F.dh]) ?_
 simp[F.dh,aj,aF]
 refine fb.fG d.aa.length (λ_=>True) [1,2,6,7,8] (λi=>[(8,.int .i64 i)]) (λi=>[]) [.keep [1,2,6,7,8]] ?_
 simp
 refine⟨λi hi K hK=> ?_,λK=> ?_⟩
 ·have hx:d.aa[i]? =some d.aa[i]:=gJ hi
  by_cases hz:i=0
  ·subst hz
   simp[↓ah,hx,hi]
   refine⟨[.keep [1,2,6,7,8],.dr 4],?_⟩
   simp
   exact hK _ (by simp)
  ·obtain⟨j,zT⟩:∃j,i=j+1:=⟨i-1,by omega⟩
   have hj:j<d.aa.length:=by omega
   have hy:d.aa[j]? =some d.aa[j]:=gJ hj
   have dG:=h j (by omega)
   have VK:RL d.aa[j].fF d.aa[i].fF=true:=by subst zT;exact dG
   have hw:IntKind.i64.wrap ((i:Int)-1)=j:=by rw[wrap_i64 (by omega)];omega
   have ta:(d.aa[j].fF.l.map u8).take 32=d.aa[j].fF.l.map u8:=tJ (by simp[d.aa[j].fF.h])
   have tb:(d.aa[i].fF.l.map u8).take 32=d.aa[i].fF.l.map u8:=tJ (by simp[d.aa[i].fF.h])
   simp[↓ah,hx,hy,hi,hj,hw,show 0<i by omega,cu hi (by omega),dU,ta,tb,(show Op.bytesLess d.aa[j].fF.l d.aa[i].fF.l=true from VK)]
   refine⟨[.keep [1,2,6,7,8],.dr 4],?_⟩
   simp
   exact hK _ (by simp)
 ·have V7:(d.aa.length:Int)≤8:=by omega
  simp[↓ah,↓ah,V7]
  refine al.plain [] ?_
  simp[V7,hl]
end Go.Ab
end G1s
noncomputable section G2s
namespace Go.Ab
open Go.Ab
def rt (i:Nat):pn:=⟨qM (UInt8.ofNat (i+1)),nK i⟩
theorem xc {i j:Nat} (hi:i<3) (hj:j<3) (h:nK i=nK j):i=j:=by
 have h2:=congrArg (λk:Key=>k.l.head?) h
 rcases(by omega:i=0∨i=1∨i=2)with rfl|rfl|rfl<;>rcases(by omega:j=0∨j=1∨j=2)with rfl|rfl|rfl<;>simp[nK]at h2<;>rfl
theorem Ky {i j:Nat} (D8:i<j) (hj:j<3):RL (nK i) (nK j)=true:=by
 rcases(by omega:i=0∧j=1∨i=0∧j=2∨i=1∧j=2)with⟨rfl,rfl⟩|⟨rfl,rfl⟩|⟨rfl,rfl⟩<;>rfl
theorem abI {i j:Nat} (D8:i<j) (hj:j<3):UInt8.ofNat (i+1)<UInt8.ofNat (j+1):=by
 rcases(by omega:i=0∧j=1∨i=0∧j=2∨i=1∧j=2)with⟨rfl,rfl⟩|⟨rfl,rfl⟩|⟨rfl,rfl⟩<;>decide
def Kz (l:List pn):Prop:=l.length≤3∧∀(i:Nat) (h:i<l.length),l[i]=rt i
theorem zu {l:List pn} (h:Kz l):bg Pg I.bZ [ee l] (.bl true):=by
 refine ai.intro T.bZ (by simp[F.bZ]) ?_
 have hl:=h.1
 simp[F.bZ,aj,aF]
 refine fb.fG l.length (λ_=>True) [0,2,5,6,7] (λi=>[(7,.int .i64 i)]) (λi=>[]) [.keep [0,2,5,6,7]] ?_
 simp
 refine⟨λi hi K hK=> ?_,λK=> ?_⟩
 ·have hx:l[i]? =some l[i]:=gJ hi
  have he:=h.2 i hi
  have hp:l[i].mA=qM (UInt8.ofNat (i+1)):=by rw[he];rfl
  have hv:bg Pg I.bK [iE l[i].mA] (.bl true):=by rw[hp];exact bK (rv _) rfl
  by_cases hz:i=0
  ·subst hz
   simp[↓ah,hx,hi]
   refine aU.ret hv (by simp) (by simp) (by simp) ?_
   simp
   refine⟨[.keep [0,2,5,6,7],.dr 4],?_⟩
   simp
   exact hK _ (by simp)
  ·obtain⟨j,zT⟩:∃j,i=j+1:=⟨i-1,by omega⟩
   have hj:j<l.length:=by omega
   have hy:l[j]? =some l[j]:=gJ hj
   have hq:l[j].mA=qM (UInt8.ofNat (j+1)):=by rw[h.2 j hj];rfl
   have dG:=abI (i:=j) (j:=i) (by omega) (by omega)
   have hb:=bu (UInt8.ne_of_lt dG)
   rw[E0 dG,←hp,←hq]at hb
   have hw:IntKind.i64.wrap ((i:Int)-1)=j:=by rw[wrap_i64 (by omega)];omega
   simp[↓ah,hx,hy,hi,hj,hw,show 0<i by omega]
   refine aU.ret hv (by simp) (by simp) (by simp) ?_
   simp[hx,hy,hi,hj,hw,show 0<i by omega]
   refine aU.ret hb (by simp) (by simp) (by simp) ?_
   simp[cu hi (by omega)]
   refine⟨[.keep [0,2,5,6,7],.dr 4],?_⟩
   simp
   exact hK _ (by simp)
 ·have V7:(l.length:Int)≤16:=by omega
  simp[↓ah,↓ah,V7]
  refine al.plain [] ?_
  simp[V7]
def Dq (l:List fg):Prop:=l.length≤3∧∀(i:Nat) (h:i<l.length),l[i].fF=nK i
theorem E6 {d:cK} (h:Dq d.aa) {i:Nat} (hi:i<d.aa.length):bg Pg I.cL [bE d,dU (nK i)] (.int .i64 i):=by
 have hl:=h.1
 refine Ks (by omega) hi (h.2 i hi) (λj hj zT=> ?_)
 rw[h.2 j hj]
 intro e
 exact absurd (xc (by omega) (by omega) e) (by omega)
theorem KA {d:cK} (h:Kz d.aV) (hp:Dq d.aa) (hl:d.aV.length=d.aa.length):bg Pg I.cH [bE d] (.bl true):=by
 refine ai.intro T.cH (by simp[F.cH]) ?_
 have Me:=h.1
 simp[F.cH,aj,aF]
 refine fb.fG d.aV.length (λ_=>True) [1,2,6,7,8] (λi=>[(8,.int .i64 i)]) (λi=>[]) [.keep [1,2,6,7,8]] ?_
 simp
 refine⟨λi hi K hK=> ?_,λK=> ?_⟩
 ·have hx:d.aV[i]? =some d.aV[i]:=gJ hi
  have he:d.aV[i].peer=nK i:=by rw[h.2 i hi];rfl
  have hf:=E6 hp (i:=i) (by omega)
  rw[←he]at hf
  have hn:¬(i:Int)<0:=by omega
  simp[↓ah,hx,hi]
  refine an.ret hf (by simp) (by simp) (by simp) ?_
  simp[hn,cu hi (by omega)]
  refine⟨[.keep [1,2,6,7,8],.dr 4],?_⟩
  simp
  exact hK _ (by simp)
 ·simp[↓ah,↓ah]
  refine an.ret (zu h) (by simp) (by simp) (by simp) ?_
  simp
  refine al.plain [] ?_
  simp
theorem Uo {d:cK} (h0:0≤d.kT) (h1:d.kT≤d.now) (h2:d.aR=[]) (h3:d.buckets=[]):bg Pg I.dA [bE d] (.bl true):=by
 refine ai.intro T.dA (by simp[F.dA]) ?_
 simp[F.dA,aj,aF]
 refine an.ret (E2 h0 h1) (by simp) (by simp) (by simp) ?_
 simp[h2,h3]
 refine fb.fG 0 (λ_=>True) [1,2,25,26,27] (λi=>[]) (λi=>[]) [.keep [1,2,25,26,27]] ?_
 simp
 intro K
 simp[↓ah,↓ah,h3]
 refine fb.fG 0 (λ_=>True) [1,2,52,53,54] (λi=>[]) (λi=>[]) [.keep [1,2,52,53,54]] ?_
 simp
 intro K
 simp[↓ah,↓ah]
 refine al.plain [] ?_
 simp
end Go.Ab
end G2s
namespace Go.Ab
open Go.Ab
structure KC (d:cK):Prop where
 so:∀(i:Nat) (h:i+1<d.timers.length),iF d.timers[i] d.timers[i+1]=true
 rg:∀t∈d.timers,2≤t.kind∧t.kind≤5∧d.now<t.at_∧t.at_≤4398046511104∧∃i,∃h:i<d.aa.length,t.peer=nK i∧(t.kind=4->d.aa[i].oS≠0)
 un:∀(i j:Nat) (hi:i<d.timers.length) (hj:j<d.timers.length),i<j->¬(d.timers[j].peer=d.timers[i].peer∧d.timers[j].kind=d.timers[i].kind)
 len:d.timers.length≤1000
theorem Up {l:List iR} (hl:l.length≤1000) {k:Key} {n:Int} (h:∀t∈l,t.kind≠n):bg Pg I.dp [cN l,dU k,.int .i64 n] (.bl false):=by
 refine ai.intro T.dp (by simp[F.dp]) ?_
 simp[F.dp,aj,aF]
 refine fb.fG l.length (λ_=>True) [2,4,6,9,10,11] (λi=>[(11,.int .i64 i)]) (λi=>[]) [.keep [2,4,6,9,10,11]] ?_
 simp
 refine⟨λi hi K hK=> ?_,λK=> ?_⟩
 ·have hx:l[i]? =some l[i]:=gJ hi
  have he:=h _ (List.getElem_mem hi)
  by_cases h1:l[i].peer=k
  ·simp[↓ah,hx,hi,he,gr,h1,cu hi (by omega)]
   refine⟨[.keep [2,4,6,9,10,11],.dr 8],?_⟩
   simp
   exact hK _ (by simp)
  ·simp[↓ah,hx,hi,he,gr,h1,cu hi (by omega)]
   refine⟨[.keep [2,4,6,9,10,11],.dr 8],?_⟩
   simp
   exact hK _ (by simp)
 ·simp[↓ah,↓ah]
  refine al.plain [] ?_
  simp
theorem zw {l:List iR} (hl:l.length≤1000) (hso:∀(i:Nat) (h:i+1<l.length),iF l[i] l[i+1]=true)
  (YP:∀t∈l,2≤t.kind∧t.kind≤5∧0≤t.at_∧t.at_≤4398046511104)
  (IW:∀(i j:Nat) (hi:i<l.length) (hj:j<l.length),i<j->¬(l[j].peer=l[i].peer∧l[j].kind=l[i].kind)):bg Pg I.bB [cN l] (.bl true):=by
 refine ai.intro T.bB (by simp[F.bB]) ?_
 simp[F.bB,aj,aF]
 refine fb.fG l.length (λ_=>True) [0,2,7,8,9] (λi=>[(9,.int .i64 i)]) (λi=>[]) [.keep [0,2,7,8,9]] ?_
 simp
 refine⟨λi hi K hK=> ?_,λK=> ?_⟩
 ·have hx:l[i]? =some l[i]:=gJ hi
  obtain⟨r1,r2,r3,r4⟩:=YP _ (List.getElem_mem hi)
  have g1:¬l[i].kind<1:=by omega
  have g2:¬5<l[i].kind:=by omega
  have g3:¬l[i].at_<0:=by omega
  have g4:¬4398046511104<l[i].at_:=by omega
  by_cases hz:i=0
  ·subst hz
   simp[↓ah,hx,hi,g1,g2,g3,g4,cN]
   refine fb.fG 0 (λ_=>True) [0,2,4,7,8,9,48,49,50] (λi=>[]) (λi=>[]) [.keep [0,2,4,7,8,9,48,49,50]] ?_
   simp
   intro K2
   simp[↓ah,↓ah]
   refine⟨[.keep [0,2,7,8,9],.dr 4],?_⟩
   simp
   exact hK _ (by simp[cN])
  ·obtain⟨j,zT⟩:∃j,i=j+1:=⟨i-1,by omega⟩
   have hj:j<l.length:=by omega
   have hy:l[j]? =some l[j]:=gJ hj
   have dG:iF l[j] l[i]=true:=by subst zT;exact hso j hi
   have hw:IntKind.i64.wrap ((i:Int)-1)=j:=by rw[wrap_i64 (by omega)];omega
   have Sa:=aW l[j] l[i]
   rw[dG]at Sa
   simp[↓ah,hx,hy,hi,hj,g1,g2,g3,g4,hw,show 0<i by omega]
   refine aU.ret Sa (by simp) (by simp) (by simp) ?_
   simp[cN,show i≤l.length by omega]
   refine fb.fG i (λ_=>True) [0,2,4,7,8,9,48,49,50] (λm=>[(50,.int .i64 m)]) (λi=>[]) [.keep [0,2,4,7,8,9,48,49,50]] ?_
   simp
   refine⟨λm hm K2 lX=> ?_,λK2=> ?_⟩
   ·have mD:m<l.length:=by omega
    have mO:m<min i l.length:=by omega
    have uw:l[m]? =some l[m]:=gJ mD
    have hu:=IW m i mD hi hm
    by_cases hp:l[i].peer=l[m].peer
    ·have hk:¬l[i].kind=l[m].kind:=λe=>hu ⟨hp,e⟩
     simp[↓ah,uw,hm,mD,gr,hp,hk,cu hm (by omega)]
     refine⟨mO,[.keep [0,2,4,7,8,9,48,49,50],.dr 6],?_⟩
     simp
     exact lX _ (by simp)
    ·simp[↓ah,uw,hm,mD,gr,hp,cu hm (by omega)]
     refine⟨mO,[.keep [0,2,4,7,8,9,48,49,50],.dr 6],?_⟩
     simp
     exact lX _ (by simp)
   ·simp[↓ah,↓ah,cu hi (by omega)]
    refine⟨[.keep [0,2,7,8,9],.dr 4],?_⟩
    simp
    exact hK _ (by simp[cN])
 ·simp[↓ah,↓ah]
  refine al.plain [] ?_
  simp
theorem KD {d:cK} (h:KC d) (hn:0≤d.now) (hp:Dq d.aa) (hh:∀p∈d.aa,lC d p):bg Pg I.cX [bE d] (.bl true):=by
 refine ai.intro T.cX (by simp[F.cX]) ?_
 have hl:=h.len
 have sZ:=hp.1
 have hv:bg Pg I.bB [cN d.timers] (.bl true):=
  zw hl h.so (λt ht=>by obtain⟨r1,r2,r3,r4,_⟩:=h.rg t ht;exact⟨r1,r2,by omega,r4⟩) h.un
 simp[F.cX,aj,aF]
 refine an.ret hv (by simp) (by simp) (by simp) ?_
 simp
 refine fb.fG d.timers.length (λ_=>True) [1,2,13,14,15] (λi=>[(15,.int .i64 i)]) (λi=>[]) [.keep [1,2,13,14,15]] ?_
 simp
 refine⟨λi hi K hK=> ?_,λK=> ?_⟩
 ·have hx:d.timers[i]? =some d.timers[i]:=gJ hi
  obtain⟨r1,r2,r3,r4,j,hj,he,h4⟩:=h.rg _ (List.getElem_mem hi)
  have hf:=E6 hp hj
  rw[←he]at hf
  have wK:¬d.timers[i].at_≤d.now:=by omega
  have DX:¬(j:Int)<0:=by omega
  have hy:d.aa[j]? =some d.aa[j]:=gJ hj
  simp[↓ah,hx,hi]
  refine an.ret hf (by simp) (by simp) (by simp) ?_
  by_cases hk:d.timers[i].kind=4
  ·have V8:=h4 hk
   simp[wK,DX,hk,hy,hj,V8,cu hi (by omega)]
   refine⟨[.keep [1,2,13,14,15],.dr 4],?_⟩
   simp
   exact hK _ (by simp)
  ·simp[wK,DX,hk,hy,hj,cu hi (by omega)]
   refine⟨[.keep [1,2,13,14,15],.dr 4],?_⟩
   simp
   exact hK _ (by simp)
 ·simp[↓ah,↓ah]
  refine fb.fG d.aa.length (λ_=>True) [1,2,48,49,50] (λi=>[(50,.int .i64 i)]) (λi=>[]) [.keep [1,2,48,49,50]] ?_
  simp
  refine⟨λi hi K hK=> ?_,λK=> ?_⟩
  ·have hx:d.aa[i]? =some d.aa[i]:=gJ hi
   have h5:=(hh _ (List.getElem_mem hi)).hand
   have h6:d.aa[i].hand.has=false:=by rw[h5];rfl
   have hs:bg Pg I.dp [cN d.timers,dU d.aa[i].fF,.int .i64 1] (.bl false):=
    Up hl (λt ht=>by have:=(h.rg t ht).1;omega)
   simp[↓ah,hx,hi]
   refine aU.ret hs (by simp) (by simp) (by simp) ?_
   simp[h6,cu hi (by omega)]
   refine⟨[.keep [1,2,48,49,50],.dr 7],?_⟩
   simp
   exact hK _ (by simp)
  ·simp[↓ah,↓ah]
   refine al.plain [] ?_
   simp
end Go.Ab
noncomputable section G4s
namespace Go.Ab
open Go.Ab
def yD (r:nO):List Int:=rU [r.p,r.c,r.n]
def nL (p:fg):List cS:=(yD p.ring).map (λx=>⟨x,p.fF,true⟩)
theorem E7 (r:nO):(yD r).length≤3:=sG _
structure oW (d:cK):Prop where
 so:qb d.bq
 pm:d.bq.Perm (d.aa.flatMap nL)
theorem qb.lt {l:List cS} (h:qb l):∀(k i:Nat) (hk:i+k+1<l.length),l[i].index<l[i+k+1].index
 |0,i,hk=>h.2 i hk
 |k+1,i,hk=>Int.lt_trans (qb.lt h k i (by omega)) (h.2 (i+k+1) (by omega))
theorem qb.lt' {l:List cS} (h:qb l) {i j:Nat} (D8:i<j) (hj:j<l.length):l[i].index<l[j].index:=by
 obtain⟨k,rfl⟩:∃k,j=i+k+1:=⟨j-i-1,by omega⟩
 exact h.lt k i hj
theorem qb.nodup {l:List cS} (h:qb l):(l.map (λs=>s.index)).Nodup:=by
 rw[List.nodup_iff_pairwise_ne,List.pairwise_map,List.pairwise_iff_getElem]
 intro i j hi hj D8 e
 have:=h.lt' D8 hj
 omega
theorem KE (p:fg):(nL p).map (λs=>s.index)=yD p.ring:=by simp[nL,Function.comp_def]
theorem oW.nd {d:cK} (h:oW d):(d.aa.flatMap (λp=>yD p.ring)).Nodup:=by
 have h1:=h.so.nodup
 have h2:(d.bq.map (λs=>s.index)).Perm (d.aa.flatMap (λp=>yD p.ring)):=by
  have:=h.pm.map (λs=>s.index)
  rw[List.map_flatMap]at this
  simpa[KE]using this
 exact h2.nodup_iff.1 h1
theorem Gw {α β:Type} {f:α->List β}:∀ {l:List α},(l.flatMap f).Nodup->∀x∈l,(f x).Nodup
 |
  y::l,h,x,hx=>by
  rw[List.flatMap_cons,List.nodup_append]at h
  rcases List.mem_cons.1 hx with rfl|hx
  ·exact h.1
  ·exact Gw h.2.1 x hx
theorem oW.nd1 {d:cK} (h:oW d) {p:fg} (hp:p∈d.aa):(yD p.ring).Nodup:=Gw h.nd p hp
theorem Gx {l:List fg}:(l.flatMap nL).length≤3*l.length:=by
 induction l with
 |nil=>simp
 |
  cons p l ih=>
  rw[List.flatMap_cons,List.length_append,List.length_cons]
  have:(nL p).length≤3:=by rw[nL,List.length_map];exact E7 _
  omega
theorem oW.len {d:cK} (h:oW d) (hp:d.aa.length≤3):d.bq.length≤9:=by
 have h1:=h.pm.length_eq
 have h2:=Gx (l:=d.aa)
 omega
theorem oW.find {d:cK} (h:oW d) (hp:d.aa.length≤3) {p:fg} (hm:p∈d.aa) {x:Int} (hx:x∈yD p.ring):
  bg Pg I.aX [b6 d.bq,.int .u32 x] (.tup [aM ⟨x,p.fF,true⟩,.bl true]):=by
 have iV:(⟨x,p.fF,true⟩:cS)∈d.bq:=by
  rw[h.pm.mem_iff,List.mem_flatMap]
  exact⟨p,hm,by rw[nL,List.mem_map];exact⟨x,hx,rfl⟩⟩
 obtain⟨f,hf,he⟩:=List.mem_iff_getElem.1 iV
 have hl:=h.len hp
 have:=tU (l:=d.bq) (by omega) (x:=x) hf (by rw[he]) (λj hj hjf=>by have:=h.so.lt' hjf hf;rw[he]at this;simp at this;omega)
 rw[he]at this
 exact this
def IL (l:List fg) (i:Nat):Nat:=((l.take i).flatMap nL).length
theorem KF {l:List fg} {i:Nat} (h:i<l.length):IL l (i+1)=IL l i+(yD l[i].ring).length:=by
 unfold IL
 rw[List.take_succ_eq_append_getElem h,List.flatMap_append,List.length_append]
 simp[nL]
theorem Uq (l:List fg) (i:Nat):IL l i≤3*i:=by
 have:=Gx (l:=l.take i)
 rw[lJ]at this
 unfold IL;omega
theorem OS {d:cK} (h:oW d) (hp:Dq d.aa) (hh:∀p∈d.aa,lC d p):bg Pg I.di [bE d] (.bl true):=by
 refine ai.intro T.di (by simp[F.di]) ?_
 have hl:=h.len hp.1
 have sZ:=hp.1
 have hv:=E1 (by omega) h.so
 simp[F.di,aj,aF]
 refine an.ret hv (by simp) (by simp) (by simp) ?_
 simp
 refine fb.fG d.aa.length (λ_=>True) [1,2,3,22,23,24] (λi=>[(3,.int .i64 (IL d.aa i)),(24,.int .i64 i)]) (λi=>[]) [.keep [1,2,3,22,23,24]] ?_
 simp[show IL d.aa 0=0 from rfl]
 refine⟨λi hi K hK=> ?_,λK=> ?_⟩
 ·have hx:d.aa[i]? =some d.aa[i]:=gJ hi
  have hm:=List.getElem_mem hi
  have h5:=(hh _ hm).hand
  have h6:d.aa[i].hand.has=false:=by rw[h5];rfl
  have xi:=h.nd1 hm
  have YQ:∀x∈yD d.aa[i].ring,bg Pg I.aX [b6 d.bq,.int .u32 x] (.tup [aM ⟨x,d.aa[i].fF,true⟩,.bl true]):=λx hx=>h.find sZ hm hx
  have FN:=cy d.aa[i].ring
  have hc:=KF hi
  have rN:=Uq d.aa i
  have Me:=E7 d.aa[i].ring
  have e3:rU [d.aa[i].ring.p,d.aa[i].ring.c,d.aa[i].ring.n]=yD d.aa[i].ring:=rfl
  rw[e3]at FN
  generalize yD d.aa[i].ring=L at*
  rw[hc]at hK
  simp[↓ah,hx,hi,h6]
  refine an.ret FN (by simp) (by simp) (by simp) ?_
  simp
  refine fb.fG L.length (λ_=>True) [1,2,3,5,22,23,24,57,58,59] (λj=>[(3,.int .i64 ((IL d.aa i:Int)+j)),(59,.int .i64 j)]) (λi=>[]) [.keep [1,2,3,5,22,23,24,57,58,59]] ?_
  simp
  refine⟨λj hj K2 lX=> ?_,λK2=> ?_⟩
  ·have hy:L[j]? =some L[j]:=gJ hj
   have hf:=YQ _ (List.getElem_mem hj)
   have Ed:IntKind.i64.wrap ((IL d.aa i:Int)+j+1)=(IL d.aa i:Int)+((j:Int)+1):=by rw[wrap_i64 (by omega)];omega
   simp[↓ah,hy,hj]
   refine an.ret hf (by simp) (by simp) (by simp) ?_
   simp[gr,Ed,cu hj (by omega)]
   refine⟨[.keep [1,2,3,5,22,23,24,57,58,59],.dr 10],?_⟩
   simp
   exact lX _ (by simp)
  ·simp[↓ah,↓ah]
   refine an.ret FN (by simp) (by simp) (by simp) ?_
   simp
   refine fb.fG L.length (λ_=>True) [1,2,3,5,12,22,23,24,90,91,92] (λj=>[(92,.int .i64 j)]) (λi=>[]) [.keep [1,2,3,5,12,22,23,24,90,91,92]] ?_
   simp
   refine⟨λj hj K3 P1=> ?_,λK3=> ?_⟩
   ·have hy:L[j]? =some L[j]:=gJ hj
    simp[↓ah,hy,hj,jE,show j≤L.length by omega]
    refine fb.fG j (λ_=>True) [1,2,3,5,12,14,22,23,24,90,91,92,99,100,101] (λm=>[(101,.int .i64 m)]) (λi=>[]) [.keep [1,2,3,5,12,14,22,23,24,90,91,92,99,100,101]] ?_
    simp
    refine⟨λm Cj K4 IE=> ?_,λK4=> ?_⟩
    ·have mD:m<L.length:=by omega
     have mO:m<min j L.length:=by omega
     have uw:L[m]? =some L[m]:=gJ mD
     have bS:¬L[j]=L[m]:=by
      intro e
      exact List.pairwise_iff_getElem.1 (List.nodup_iff_pairwise_ne.1 xi) m j mD hj Cj e.symm
     simp[↓ah,uw,Cj,mO,mD,bS,cu Cj (by omega)]
     refine⟨[.keep [1,2,3,5,12,14,22,23,24,90,91,92,99,100,101]],?_⟩
     simp
     exact IE _ (by simp)
    ·simp[↓ah,↓ah,cu hj (by omega)]
     refine⟨[.keep [1,2,3,5,12,22,23,24,90,91,92]],?_⟩
     simp
     exact P1 _ (by simp[jE])
   ·simp[↓ah,↓ah,cu hi (by omega)]
    refine⟨[.keep [1,2,3,22,23,24],.dr 5],?_⟩
    simp
    exact hK _ (by simp)
 ·have hcn:IL d.aa d.aa.length=d.bq.length:=by
   unfold IL;rw[List.take_length];exact h.pm.length_eq.symm
  simp[↓ah,↓ah,hcn]
  refine al.plain [] ?_
  simp
end Go.Ab
end G4s
namespace Go.Ab
open Go.Ab
structure VD (d:cK):Prop where
 ru:vT d.rules
 n0:0≤d.now
 n1:d.now≤16777216
 p0:0≤d.port
 p1:d.port≤65535
 bad:d.bad=0
 D5:Dq d.aa
 IM:∀p∈d.aa,lC d p
 rts:Kz d.aV
 Yt:d.aV.length=d.aa.length
 Ur:oW d
 tis:KC d
 s0:0≤d.kT
 s1:d.kT≤d.now
 rcn:d.aR=[]
 buc:d.buckets=[]
theorem OT {d:cK} (h:VD d):bg Pg I.cV [bE d] (.int .i64 0):=by
 refine ai.intro T.cV (by simp[F.cV]) ?_
 have hl:=h.D5.1
 have hs:0≤d.rules.gC:=by have:=h.ru.2.2.2.2.2.2.2.2.2.2.2.2.2.2.2.1;omega
 have PZ:∀(i:Nat) (h:i+1<d.aa.length),RL d.aa[i].fF d.aa[i+1].fF=true:=by
  intro i hi
  rw[h.D5.2 i (by omega),h.D5.2 (i+1) hi]
  exact Ky (by omega) (by omega)
 have hb:=h.bad
 simp[F.cV,aj,aF]
 refine an.ret (BH h.ru) (by simp) (by simp) (by simp) ?_
 simp
 refine an.ret (jx (n:=d.now) (a:=0) (b:=1099511627776) h.n0 (by have:=h.n1;omega)) (by simp) (by simp) (by simp) ?_
 simp
 refine an.ret (jx (n:=d.port) (a:=0) (b:=65535) h.p0 h.p1) (by simp) (by simp) (by simp) ?_
 simp[hb]
 refine an.ret (jx (n:=0) (a:=0) (b:=1099511627776) (by omega) (by omega)) (by simp) (by simp) (by simp) ?_
 simp
 refine an.ret (OR (d:=d) (by omega) PZ) (by simp) (by simp) (by simp) ?_
 simp
 refine an.ret (E5 (d:=d) (k:=3) (by omega) (by omega) h.IM h.n0 hs) (by simp) (by simp) (by simp) ?_
 simp
 refine an.ret (E5 (d:=d) (k:=4) (by omega) (by omega) h.IM h.n0 hs) (by simp) (by simp) (by simp) ?_
 simp
 refine an.ret (E5 (d:=d) (k:=5) (by omega) (by omega) h.IM h.n0 hs) (by simp) (by simp) (by simp) ?_
 simp
 refine an.ret (KA (d:=d) h.rts h.D5 h.Yt) (by simp) (by simp) (by simp) ?_
 simp
 refine an.ret (OS (d:=d) h.Ur h.D5 h.IM) (by simp) (by simp) (by simp) ?_
 simp
 refine an.ret (KD (d:=d) h.tis h.n0 h.D5 h.IM) (by simp) (by simp) (by simp) ?_
 simp
 refine an.ret (Uo (d:=d) h.s0 h.s1 h.rcn h.buc) (by simp) (by simp) (by simp) ?_
 simp
 refine al.plain [] ?_
 simp
theorem OU {d:cK} (h:VD d):bg Pg I.ew [bE d] (.bl true):=by
 refine ai.intro T.ew (by simp[F.ew]) ?_
 simp[F.ew,aj,aF]
 refine an.ret (OT h) (by simp) (by simp) (by simp) ?_
 simp
 refine al.plain [] ?_
 simp
end Go.Ab
