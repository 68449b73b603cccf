/- The checks of the reference hold of a made daemon. No condition. -/
import Derived.Test.YtdfkcobijmbidaaGreatB3
set_option maxRecDepth 10000
set_option maxHeartbeats 2000000
set_option linter.all false
noncomputable section G1s
namespace Go.Ab
open Go.Ab
def Oq:tm:=⟨false,List.replicate 16 0,rfl⟩
def xE:H0:=⟨Oq,0⟩
def wN:FV vR:=⟨.ar 1 16 (zr 16 (.int .u8 0)),by rw[gX];rfl⟩
def zSm:FV N9:=⟨.ar 1 12 (zr 12 (.int .u8 0)),by rw[gX];rfl⟩
def zNo:FV HZ:=⟨.st 64 [.ar 1 32 (zr 32 (.int .u8 0)),.ar 1 32 (zr 32 (.int .u8 0))],by rw[gX];rfl⟩
def qI:Gk:=⟨false,0,Jx,zNo,0,0⟩
theorem Ig:ji xE=(.st 18 [(.st 17 [(.bl false),(.ar 1 16 (zr 16 (.int .u8 0)))]),(.int .i64 0)]):=by first|rfl|(rw[gX];rfl)
theorem ag6:PV.beq (.st 18 [(.st 17 [(.bl false),(.ar 1 16 (zr 16 (.int .u8 0)))]),(.int .i64 0)]) (.st 18 [(.st 17 [(.bl false),(.ar 1 16 (zr 16 (.int .u8 0)))]),(.int .i64 0)])=true:=by
 have h:=Of xE;rw[Ig]at h;exact h
theorem ag7:fits (Sh.st [Sh.st [Sh.b,Sh.ar 16 (Sh.i IntKind.u8)],Sh.i IntKind.i64]) (.st 18 [(.st 17 [(.bl false),(.ar 1 16 (zr 16 (.int .u8 0)))]),(.int .i64 0)])=true:=by
 have h:=CY xE;rw[Ig]at h;exact h
theorem Ot:wN.p=(.ar 1 16 (zr 16 (.int .u8 0))):=by first|rfl|(rw[gX];rfl)
def lG (d:bK) (p:pq):Prop:=(p.has=true∧vV d p.iO)∨(p.has=false∧p=qG)
structure mC (d:bK) (p:dC):Prop where
 ep:(p.lF=true∧∃i,i<3∧p.ep=uq i)∨(p.lF=false∧p.ep=xE)
 nI:p.nI=0∨1000≤p.nI∧p.nI≤1073741824
 tn:p.tn=0
 yf:p.pK=false
 Hc:p.mP=false
 qB:p.qB=0
 ot:p.ot=wN
 aW:p.aW=[]
 hand:p.hand=qI
 rp:lG d p.ring.p
 rc:lG d p.ring.c
 rn:lG d p.ring.n
theorem Ou {d:bK} {p:dC} (h:mC d p) (hn:0≤d.now) (hs:0≤d.rules.oX):bB Pg I.eK [dY d,aC p] (.bl true):=by
 refine af.intro T.eK (by simp[F.eK]) ?_
 have h2:=h.tn
 have h3:=h.qB
 have h4:=h.ot
 have h5:=h.aW
 have h6:=h.yf
 have h7:=h.Hc
 have hf:fits (Sh.ar 16 (Sh.i IntKind.u8)) (PV.ar 1 16 (zr 16 (PV.int IntKind.u8 0)))=true:=by rw[gX];rfl
 have BX:¬d.rules.oX<0:=by omega
 have hp0:bB Pg I.dN [dY d,.int .i64 0] (.bl true):=Ic (by omega) hn
 have hb:PV.beq wN.p wN.p=true:=FV.beq wN
 rw[Ot]at hb
 rcases h.ep with⟨he,i,hi,e⟩|⟨he,e⟩
 ·simp[F.eK,an,aG,he,e]
  refine al.ret (Bt hi) (by simp) (by simp) (by simp) ?_
  simp[Oo,he]
  refine al.ret (JA h.nI) (by simp) (by simp) (by simp) ?_
  simp[h2]
  refine al.ret hp0 (by simp) (by simp) (by simp) ?_
  simp[h2,h3,h6]
  refine al.ret hp0 (by simp) (by simp) (by simp) ?_
  simp[h3,h4,h5,Ot,BX,h7,hb,hf]
  refine jh.jY 0 (λ_=>True) [4,82,83,84] (λi=>[]) (λi=>[]) [.keep [4,82,83,84]] ?_
  simp
  intro K
  simp[↓av,↓av]
  refine aM.plain [] ?_
  simp
 ·simp[F.eK,an,aG,he,e,Ig,ag6,ag7]
  refine al.ret (JA h.nI) (by simp) (by simp) (by simp) ?_
  simp[h2]
  refine al.ret hp0 (by simp) (by simp) (by simp) ?_
  simp[h2,h3,h6]
  refine al.ret hp0 (by simp) (by simp) (by simp) ?_
  simp[h3,h4,h5,Ot,BX,h7,hb,hf]
  refine jh.jY 0 (λ_=>True) [4,82,83,84] (λi=>[]) (λi=>[]) [.keep [4,82,83,84]] ?_
  simp
  intro K
  simp[↓av,↓av]
  refine aM.plain [] ?_
  simp
theorem YZ {d:bK} {p:dC} (h:mC d p):bB Pg I.fQ [dY d,aC p] (.bl true):=by
 refine af.intro T.fQ (by simp[F.fQ]) ?_
 have h1:=h.hand
 have h2:qI.has=false:=rfl
 have hb:=Og qI
 have hf:=CZ qI
 have e:jV qI=(.st 100 [.bl false,.int .u32 0,.ar 1 32 (zr 32 (.int .u8 0)),.st 64 [.ar 1 32 (zr 32 (.int .u8 0)),.ar 1 32 (zr 32 (.int .u8 0))],.int .i64 0,.int .i64 0]):=rfl
 rw[e]at hb hf
 simp[F.fQ,an,aG,h1,e]
 refine⟨hf,?_⟩
 refine aM.plain [] ?_
 simp[hb]
theorem Y0 {d:bK} {p:dC} (h:mC d p):bB Pg I.fR [dY d,aC p] (.bl true):=by
 refine af.intro T.fR (by simp[F.fR]) ?_
 have hg:∀i,i<3->lG d (mf p.ring (i+1)):=by
  intro i hi
  rcases(by omega:i=0∨i=1∨i=2)with rfl|rfl|rfl
  ·exact h.rp
  ·exact h.rc
  ·exact h.rn
 have hb:=Gl qG
 have hf:=qE qG
 simp[F.fR,an,aG]
 refine jh.jY 3 (λ_=>True) [2,3,4,5] (λi=>[(5,.int .i64 ((i:Int)+1))]) (λi=>[]) [.keep [2,3,4,5]] ?_
 simp
 refine⟨λi hi K hK=> ?_,λK=> ?_⟩
 ·have hi3:(i:Int)+1≤3:=by omega
  have hw:IntKind.i64.wrap ((i:Int)+1+1)=(i:Int)+1+1:=wrap_i64 (by omega)
  have fb:=dQ p.ring (k:=i+1) (by omega)
  rw[show((i+1:Nat):Int)=(i:Int)+1 by omega]at fb
  have hp:=hg i hi
  generalize mf p.ring (i+1)=q at*
  simp[↓av,hi3]
  refine al.ret fb (by simp) (by simp) (by simp) ?_
  rcases hp with⟨h1,h2⟩|⟨h1,h2⟩
  ·simp[h1]
   refine al.ret (Jy h2) (by simp) (by simp) (by simp) ?_
   simp[h1,hw]
   refine⟨[.keep [2,3,4,5],.dr 6],?_⟩
   simp
   exact hK _ (by simp)
  ·have h0:qG.has=false:=rfl
   have EN:PV.beq (gP qG) (.st 77 [(.bl false),(.st 76 [(.int .u32 0),(.int .u32 0),(.ar 1 32 (zr 32 (.int .u8 0))),(.ar 1 32 (zr 32 (.int .u8 0))),(.int .u64 0),(.int .u64 0),(.st 6 [(.bl false),(.int .u64 0),(.ar 1 4 (zr 4 (.int .u64 0)))]),(.int .i64 0),(.bl false)])])=true:=Gl qG
   simp[h2,h0,hw,EN]
   refine⟨hf,[.keep [2,3,4,5],.dr 6],?_⟩
   simp
   exact hK _ (by simp)
 ·simp[↓av,↓av]
  refine aM.plain [] ?_
  simp
theorem Ih {d:bK} (hl:d.aj.length≤8) {k:Int} (hk:k=3∨k=4∨k=5) (h:∀p∈d.aj,mC d p) (hn:0≤d.now) (hs:0≤d.rules.oX):bB Pg I.fT [dY d,.int .i64 k] (.bl true):=by
 refine af.intro T.fT (by simp[F.fT]) ?_
 simp[F.fT,an,aG]
 refine jh.jY d.aj.length (λ_=>True) [1,2,4,8,9,10] (λi=>[(10,.int .i64 i)]) (λi=>[]) [.keep [1,2,4,8,9,10]] ?_
 simp
 refine⟨λi hi K hK=> ?_,λK=> ?_⟩
 ·have hx:d.aj[i]? =some d.aj[i]:=gJ hi
  have hp:=h _ (List.getElem_mem hi)
  rcases hk with rfl|rfl|rfl
  ·simp[↓av,hi]
   refine al.ret (Ou hp hn hs) (by simp) (by simp) (by simp) ?_
   simp[fG hi (by omega)]
   refine⟨[.keep [1,2,4,8,9,10],.dr 6],?_⟩
   simp
   exact hK _ (by simp)
  ·simp[↓av,hi]
   refine al.ret (YZ hp) (by simp) (by simp) (by simp) ?_
   simp[fG hi (by omega)]
   refine⟨[.keep [1,2,4,8,9,10],.dr 6],?_⟩
   simp
   exact hK _ (by simp)
  ·simp[↓av,hi]
   refine al.ret (Y0 hp) (by simp) (by simp) (by simp) ?_
   simp[fG hi (by omega)]
   refine⟨[.keep [1,2,4,8,9,10],.dr 6],?_⟩
   simp
   exact hK _ (by simp)
 ·simp[↓av,↓av]
  refine aM.plain [] ?_
  simp
theorem SJ {d:bK} (hl:d.aj.length≤8) (h:∀(i:Nat) (h:i+1<d.aj.length),SF d.aj[i].gC d.aj[i+1].gC=true):bB Pg I.gh [dY d] (.bl true):=by
 refine af.intro T.gh (by simp[F.gh]) ?_
 simp[F.gh,an,aG]
 refine jh.jY d.aj.length (λ_=>True) [1,2,6,7,8] (λi=>[(8,.int .i64 i)]) (λi=>[]) [.keep [1,2,6,7,8]] ?_
 simp
 refine⟨λi hi K hK=> ?_,λK=> ?_⟩
 ·have hx:d.aj[i]? =some d.aj[i]:=gJ hi
  by_cases hz:i=0
  ·subst hz
   simp[↓av,hi]
   refine⟨[.keep [1,2,6,7,8],.dr 4],?_⟩
   simp
   exact hK _ (by simp)
  ·obtain⟨j,BZ⟩:∃j,i=j+1:=⟨i-1,by omega⟩
   have hj:j<d.aj.length:=by omega
   have hy:d.aj[j]? =some d.aj[j]:=gJ hj
   have gG:=h j (by omega)
   have aaq:SF d.aj[j].gC d.aj[i].gC=true:=by subst BZ;exact gG
   have hw:IntKind.i64.wrap ((i:Int)-1)=j:=by rw[wrap_i64 (by omega)];omega
   have ta:(d.aj[j].gC.l.map u8).take 32=d.aj[j].gC.l.map u8:=tJ (by simp[d.aj[j].gC.h])
   have tb:(d.aj[i].gC.l.map u8).take 32=d.aj[i].gC.l.map u8:=tJ (by simp[d.aj[i].gC.h])
   simp[↓av,hi,hj,hw,show 0<i by omega,fG hi (by omega),eF,ta,tb,(show Op.bytesLess d.aj[j].gC.l d.aj[i].gC.l=true from aaq)]
   refine⟨[.keep [1,2,6,7,8],.dr 4],?_⟩
   simp
   exact hK _ (by simp)
 ·have hl8:(d.aj.length:Int)≤8:=by omega
  simp[↓av,↓av,hl8]
  refine aM.plain [] ?_
  simp
end Go.Ab
end G1s
noncomputable section G2s
namespace Go.Ab
open Go.Ab
def rt (i:Nat):uk:=⟨rE (UInt8.ofNat (i+1)),nZ i⟩
theorem vX {i j:Nat} (hi:i<3) (hj:j<3) (h:nZ i=nZ j):i=j:=by
 have h2:=congrArg (λk:Key=>k.l.head?) h
 rcases(by omega:i=0∨i=1∨i=2)with rfl|rfl|rfl<;>rcases(by omega:j=0∨j=1∨j=2)with rfl|rfl|rfl<;>simp[nZ]at h2<;>rfl
theorem Ov {i j:Nat} (Me:i<j) (hj:j<3):SF (nZ i) (nZ j)=true:=by
 rcases(by omega:i=0∧j=1∨i=0∧j=2∨i=1∧j=2)with⟨rfl,rfl⟩|⟨rfl,rfl⟩|⟨rfl,rfl⟩<;>rfl
theorem ag8 {i j:Nat} (Me:i<j) (hj:j<3):UInt8.ofNat (i+1)<UInt8.ofNat (j+1):=by
 rcases(by omega:i=0∧j=1∨i=0∧j=2∨i=1∧j=2)with⟨rfl,rfl⟩|⟨rfl,rfl⟩|⟨rfl,rfl⟩<;>decide
def C1 (l:List uk):Prop:=l.length≤3∧∀(i:Nat) (h:i<l.length),l[i]=rt i
theorem Cg {l:List uk} (h:C1 l):bB Pg I.ec [dV l] (.bl true):=by
 refine af.intro T.ec (by simp[F.ec]) ?_
 have hl:=h.1
 simp[F.ec,an,aG]
 refine jh.jY l.length (λ_=>True) [0,2,5,6,7] (λi=>[(7,.int .i64 i)]) (λi=>[]) [.keep [0,2,5,6,7]] ?_
 simp
 refine⟨λi hi K hK=> ?_,λK=> ?_⟩
 ·have hx:l[i]? =some l[i]:=gJ hi
  have he:=h.2 i hi
  have hp:l[i].K6=rE (UInt8.ofNat (i+1)):=by rw[he];rfl
  have hv:bB Pg I.cA [kq l[i].K6] (.bl true):=by rw[hp];exact cA (s7 _) rfl
  by_cases hz:i=0
  ·subst hz
   simp[↓av,hi]
   refine a0.ret hv (by simp) (by simp) (by simp) ?_
   simp
   refine⟨[.keep [0,2,5,6,7],.dr 4],?_⟩
   simp
   exact hK _ (by simp)
  ·obtain⟨j,BZ⟩:∃j,i=j+1:=⟨i-1,by omega⟩
   have hj:j<l.length:=by omega
   have hy:l[j]? =some l[j]:=gJ hj
   have hq:l[j].K6=rE (UInt8.ofNat (j+1)):=by rw[h.2 j hj];rfl
   have gG:=ag8 (i:=j) (j:=i) (by omega) (by omega)
   have hb:=cM (UInt8.ne_of_lt gG)
   rw[H9 gG,←hp,←hq]at hb
   have hw:IntKind.i64.wrap ((i:Int)-1)=j:=by rw[wrap_i64 (by omega)];omega
   simp[↓av,hi]
   refine a0.ret hv (by simp) (by simp) (by simp) ?_
   simp[hj,hw,show 0<i by omega]
   refine a0.ret hb (by simp) (by simp) (by simp) ?_
   simp[fG hi (by omega)]
   refine⟨[.keep [0,2,5,6,7],.dr 4],?_⟩
   simp
   exact hK _ (by simp)
 ·have hl8:(l.length:Int)≤16:=by omega
  simp[↓av,↓av,hl8]
  refine aM.plain [] ?_
  simp
def yB (l:List dC):Prop:=l.length≤3∧∀(i:Nat) (h:i<l.length),l[i].gC=nZ i
theorem Ii {d:bK} (h:yB d.aj) {i:Nat} (hi:i<d.aj.length):bB Pg I.cD [dY d,eF (nZ i)] (.int .i64 i):=by
 have hl:=h.1
 refine Ol (by omega) hi (h.2 i hi) (λj hj BZ=> ?_)
 rw[h.2 j hj]
 intro e
 exact absurd (vX (by omega) (by omega) e) (by omega)
theorem Ow {d:bK} (h:C1 d.bn) (hp:yB d.aj) (hl:d.bn.length=d.aj.length):bB Pg I.fg [dY d] (.bl true):=by
 refine af.intro T.fg (by simp[F.fg]) ?_
 have hl3:=h.1
 simp[F.fg,an,aG]
 refine jh.jY d.bn.length (λ_=>True) [1,2,6,7,8] (λi=>[(8,.int .i64 i)]) (λi=>[]) [.keep [1,2,6,7,8]] ?_
 simp
 refine⟨λi hi K hK=> ?_,λK=> ?_⟩
 ·have hx:d.bn[i]? =some d.bn[i]:=gJ hi
  have he:d.bn[i].peer=nZ i:=by rw[h.2 i hi];rfl
  have hf:=Ii hp (i:=i) (by omega)
  rw[←he]at hf
  have hn:¬(i:Int)<0:=by omega
  simp[↓av,hi]
  refine al.ret hf (by simp) (by simp) (by simp) ?_
  simp[hn,fG hi (by omega)]
  refine⟨[.keep [1,2,6,7,8],.dr 4],?_⟩
  simp
  exact hK _ (by simp)
 ·simp[↓av,↓av]
  refine al.ret (Cg h) (by simp) (by simp) (by simp) ?_
  simp
  refine aM.plain [] ?_
  simp
theorem Y1 {d:bK} (h0:0≤d.ka) (h1:d.ka≤d.now) (h2:d.bD=[]) (h3:d.buckets=[]):bB Pg I.gD [dY d] (.bl true):=by
 refine af.intro T.gD (by simp[F.gD]) ?_
 simp[F.gD,an,aG]
 refine al.ret (Ic h0 h1) (by simp) (by simp) (by simp) ?_
 simp[h2,h3]
 refine jh.jY 0 (λ_=>True) [1,2,25,26,27] (λi=>[]) (λi=>[]) [.keep [1,2,25,26,27]] ?_
 simp
 intro K
 simp[↓av,↓av,h3]
 refine jh.jY 0 (λ_=>True) [1,2,52,53,54] (λi=>[]) (λi=>[]) [.keep [1,2,52,53,54]] ?_
 simp
 intro K
 simp[↓av,↓av]
 refine aM.plain [] ?_
 simp
end Go.Ab
end G2s
namespace Go.Ab
open Go.Ab
structure Ox (d:bK):Prop where
 so:∀(i:Nat) (h:i+1<d.timers.length),jf d.timers[i] d.timers[i+1]=true
 rg:∀t∈d.timers,2≤t.kind∧t.kind≤5∧d.now<t.at_∧t.at_≤4398046511104∧∃i,∃h:i<d.aj.length,t.peer=nZ i∧(t.kind=4->d.aj[i].nI≠0)
 un:∀(i j:Nat) (hi:i<d.timers.length) (hj:j<d.timers.length),i<j->¬(d.timers[j].peer=d.timers[i].peer∧d.timers[j].kind=d.timers[i].kind)
 len:d.timers.length≤1000
theorem Y3 {l:List fX} (hl:l.length≤1000) {k:Key} {n:Int} (h:∀t∈l,t.kind≠n):bB Pg I.cG [db l,eF k,.int .i64 n] (.bl false):=by
 refine af.intro T.cG (by simp[F.cG]) ?_
 simp[F.cG,an,aG]
 refine jh.jY l.length (λ_=>True) [2,4,6,9,10,11] (λi=>[(11,.int .i64 i)]) (λi=>[]) [.keep [2,4,6,9,10,11]] ?_
 simp
 refine⟨λi hi K hK=> ?_,λK=> ?_⟩
 ·have hx:l[i]? =some l[i]:=gJ hi
  have he:=h _ (List.getElem_mem hi)
  by_cases h1:l[i].peer=k
  ·simp[↓av,hi,he,h1,fG hi (by omega)]
   refine⟨[.keep [2,4,6,9,10,11],.dr 8],?_⟩
   simp
   exact hK _ (by simp)
  ·simp[↓av,hi,he,yA,h1,fG hi (by omega)]
   refine⟨[.keep [2,4,6,9,10,11],.dr 8],?_⟩
   simp
   exact hK _ (by simp)
 ·simp[↓av,↓av]
  refine aM.plain [] ?_
  simp
theorem Ch {l:List fX} (hl:l.length≤1000) (hso:∀(i:Nat) (h:i+1<l.length),jf l[i] l[i+1]=true)
  (hrg:∀t∈l,2≤t.kind∧t.kind≤5∧0≤t.at_∧t.at_≤4398046511104)
  (E4:∀(i j:Nat) (hi:i<l.length) (hj:j<l.length),i<j->¬(l[j].peer=l[i].peer∧l[j].kind=l[i].kind)):bB Pg I.cR [db l] (.bl true):=by
 refine af.intro T.cR (by simp[F.cR]) ?_
 simp[F.cR,an,aG]
 refine jh.jY l.length (λ_=>True) [0,2,7,8,9] (λi=>[(9,.int .i64 i)]) (λi=>[]) [.keep [0,2,7,8,9]] ?_
 simp
 refine⟨λi hi K hK=> ?_,λK=> ?_⟩
 ·have hx:l[i]? =some l[i]:=gJ hi
  obtain⟨r1,r2,r3,r4⟩:=hrg _ (List.getElem_mem hi)
  have g1:¬l[i].kind<1:=by omega
  have g2:¬5<l[i].kind:=by omega
  have g3:¬l[i].at_<0:=by omega
  have g4:¬4398046511104<l[i].at_:=by omega
  by_cases hz:i=0
  ·subst hz
   simp[↓av,hi,g1,g2,g3,g4,db]
   refine jh.jY 0 (λ_=>True) [0,2,4,7,8,9,48,49,50] (λi=>[]) (λi=>[]) [.keep [0,2,4,7,8,9,48,49,50]] ?_
   simp
   intro K2
   simp[↓av,↓av]
   refine⟨[.keep [0,2,7,8,9],.dr 4],?_⟩
   simp
   exact hK _ (by simp[db])
  ·obtain⟨j,BZ⟩:∃j,i=j+1:=⟨i-1,by omega⟩
   have hj:j<l.length:=by omega
   have hy:l[j]? =some l[j]:=gJ hj
   have gG:jf l[j] l[i]=true:=by subst BZ;exact hso j hi
   have hw:IntKind.i64.wrap ((i:Int)-1)=j:=by rw[wrap_i64 (by omega)];omega
   have Wv:=bu l[j] l[i]
   rw[gG]at Wv
   simp[↓av,hi,hj,g1,g2,g3,g4,hw,show 0<i by omega]
   refine a0.ret Wv (by simp) (by simp) (by simp) ?_
   simp[db,show i≤l.length by omega]
   refine jh.jY i (λ_=>True) [0,2,4,7,8,9,48,49,50] (λm=>[(50,.int .i64 m)]) (λi=>[]) [.keep [0,2,4,7,8,9,48,49,50]] ?_
   simp
   refine⟨λm hm K2 xY=> ?_,λK2=> ?_⟩
   ·have QF:m<l.length:=by omega
    have s9:m<min i l.length:=by omega
    have hxm:l[m]? =some l[m]:=gJ QF
    have hu:=E4 m i QF hi hm
    by_cases hp:l[i].peer=l[m].peer
    ·have hk:¬l[i].kind=l[m].kind:=λe=>hu ⟨hp,e⟩
     simp[↓av,hm,QF,hp,hk,fG hm (by omega)]
     refine⟨s9,[.keep [0,2,4,7,8,9,48,49,50],.dr 6],?_⟩
     simp
     exact xY _ (by simp)
    ·simp[↓av,hm,QF,yA,hp,fG hm (by omega)]
     refine⟨s9,[.keep [0,2,4,7,8,9,48,49,50],.dr 6],?_⟩
     simp
     exact xY _ (by simp)
   ·simp[↓av,↓av,fG hi (by omega)]
    refine⟨[.keep [0,2,7,8,9],.dr 4],?_⟩
    simp
    exact hK _ (by simp[db])
 ·simp[↓av,↓av]
  refine aM.plain [] ?_
  simp
theorem Oy {d:bK} (h:Ox d) (hn:0≤d.now) (hp:yB d.aj) (hh:∀p∈d.aj,mC d p):bB Pg I.fH [dY d] (.bl true):=by
 refine af.intro T.fH (by simp[F.fH]) ?_
 have hl:=h.len
 have rU:=hp.1
 have hv:bB Pg I.cR [db d.timers] (.bl true):=
  Ch hl h.so (λt ht=>by obtain⟨r1,r2,r3,r4,_⟩:=h.rg t ht;exact⟨r1,r2,by omega,r4⟩) h.un
 simp[F.fH,an,aG]
 refine al.ret hv (by simp) (by simp) (by simp) ?_
 simp
 refine jh.jY d.timers.length (λ_=>True) [1,2,13,14,15] (λi=>[(15,.int .i64 i)]) (λi=>[]) [.keep [1,2,13,14,15]] ?_
 simp
 refine⟨λi hi K hK=> ?_,λK=> ?_⟩
 ·have hx:d.timers[i]? =some d.timers[i]:=gJ hi
  obtain⟨r1,r2,r3,r4,j,hj,he,h4⟩:=h.rg _ (List.getElem_mem hi)
  have hf:=Ii hp hj
  rw[←he]at hf
  have Dr:¬d.timers[i].at_≤d.now:=by omega
  have PD:¬(j:Int)<0:=by omega
  have hy:d.aj[j]? =some d.aj[j]:=gJ hj
  simp[↓av,hi]
  refine al.ret hf (by simp) (by simp) (by simp) ?_
  by_cases hk:d.timers[i].kind=4
  ·have h4':=h4 hk
   simp[Dr,PD,hk,hj,h4',fG hi (by omega)]
   refine⟨[.keep [1,2,13,14,15],.dr 4],?_⟩
   simp
   exact hK _ (by simp)
  ·simp[Dr,PD,hk,fG hi (by omega)]
   refine⟨[.keep [1,2,13,14,15],.dr 4],?_⟩
   simp
   exact hK _ (by simp)
 ·simp[↓av,↓av]
  refine jh.jY d.aj.length (λ_=>True) [1,2,48,49,50] (λi=>[(50,.int .i64 i)]) (λi=>[]) [.keep [1,2,48,49,50]] ?_
  simp
  refine⟨λi hi K hK=> ?_,λK=> ?_⟩
  ·have hx:d.aj[i]? =some d.aj[i]:=gJ hi
   have h5:=(hh _ (List.getElem_mem hi)).hand
   have h6:d.aj[i].hand.has=false:=by rw[h5];rfl
   have hs:bB Pg I.cG [db d.timers,eF d.aj[i].gC,.int .i64 1] (.bl false):=
    Y3 hl (λt ht=>by have:=(h.rg t ht).1;omega)
   simp[↓av,hi]
   refine a0.ret hs (by simp) (by simp) (by simp) ?_
   simp[h6,fG hi (by omega)]
   refine⟨[.keep [1,2,48,49,50],.dr 7],?_⟩
   simp
   exact hK _ (by simp)
  ·simp[↓av,↓av]
   refine aM.plain [] ?_
   simp
end Go.Ab
noncomputable section G4s
namespace Go.Ab
open Go.Ab
def Ci (r:kN):List Int:=Eo [r.p,r.c,r.n]
def qJ (p:dC):List iK:=(Ci p.ring).map (λx=>⟨x,p.gC,true⟩)
theorem Oz (r:kN):(Ci r).length≤3:=Bs _
structure qK (d:bK):Prop where
 so:rP d.aD
 pm:d.aD.Perm (d.aj.flatMap qJ)
theorem rP.lt {l:List iK} (h:rP l):∀(k i:Nat) (hk:i+k+1<l.length),l[i].index<l[i+k+1].index
 |0,i,hk=>h.2 i hk
 |k+1,i,hk=>Int.lt_trans (rP.lt h k i (by omega)) (h.2 (i+k+1) (by omega))
theorem rP.lt' {l:List iK} (h:rP l) {i j:Nat} (Me:i<j) (hj:j<l.length):l[i].index<l[j].index:=by
 obtain⟨k,rfl⟩:∃k,j=i+k+1:=⟨j-i-1,by omega⟩
 exact h.lt k i hj
theorem rP.nodup {l:List iK} (h:rP l):(l.map (λs=>s.index)).Nodup:=by
 rw[List.nodup_iff_pairwise_ne,List.pairwise_map,List.pairwise_iff_getElem]
 intro i j hi hj Me e
 have:=h.lt' Me hj
 omega
theorem OA (p:dC):(qJ p).map (λs=>s.index)=Ci p.ring:=by simp[qJ,Function.comp_def]
theorem qK.nd {d:bK} (h:qK d):(d.aj.flatMap (λp=>Ci p.ring)).Nodup:=by
 have h1:=h.so.nodup
 have h2:(d.aD.map (λs=>s.index)).Perm (d.aj.flatMap (λp=>Ci p.ring)):=by
  have:=h.pm.map (λs=>s.index)
  rw[List.map_flatMap]at this
  simpa[OA]using this
 exact h2.nodup_iff.1 h1
theorem JB {α β:Type} {f:α->List β}:∀ {l:List α},(l.flatMap f).Nodup->∀x∈l,(f x).Nodup
 |
  y::l,h,x,hx=>by
  rw[List.flatMap_cons,List.nodup_append]at h
  rcases List.mem_cons.1 hx with rfl|hx
  ·exact h.1
  ·exact JB h.2.1 x hx
theorem qK.nd1 {d:bK} (h:qK d) {p:dC} (hp:p∈d.aj):(Ci p.ring).Nodup:=JB h.nd p hp
theorem JC {l:List dC}:(l.flatMap qJ).length≤3*l.length:=by
 induction l with
 |nil=>simp
 |
  cons p l ih=>
  rw[List.flatMap_cons,List.length_append,List.length_cons]
  have:(qJ p).length≤3:=by rw[qJ,List.length_map];exact Oz _
  omega
theorem qK.len {d:bK} (h:qK d) (hp:d.aj.length≤3):d.aD.length≤9:=by
 have h1:=h.pm.length_eq
 have h2:=JC (l:=d.aj)
 omega
theorem qK.find {d:bK} (h:qK d) (hp:d.aj.length≤3) {p:dC} (hm:p∈d.aj) {x:Int} (hx:x∈Ci p.ring):
  bB Pg I.bw [cZ d.aD,.int .u32 x] (.tup [cy ⟨x,p.gC,true⟩,.bl true]):=by
 have jz:(⟨x,p.gC,true⟩:iK)∈d.aD:=by
  rw[h.pm.mem_iff,List.mem_flatMap]
  exact⟨p,hm,by rw[qJ,List.mem_map];exact⟨x,hx,rfl⟩⟩
 obtain⟨f,hf,he⟩:=List.mem_iff_getElem.1 jz
 have hl:=h.len hp
 have:=vU (l:=d.aD) (by omega) (x:=x) hf (by rw[he]) (λj hj hjf=>by have:=h.so.lt' hjf hf;rw[he]at this;simp at this;omega)
 rw[he]at this
 exact this
def L9 (l:List dC) (i:Nat):Nat:=((l.take i).flatMap qJ).length
theorem OB {l:List dC} {i:Nat} (h:i<l.length):L9 l (i+1)=L9 l i+(Ci l[i].ring).length:=by
 unfold L9
 rw[List.take_succ_eq_append_getElem h,List.flatMap_append,List.length_append]
 simp[qJ]
theorem Y4 (l:List dC) (i:Nat):L9 l i≤3*i:=by
 have:=JC (l:=l.take i)
 rw[lJ]at this
 unfold L9;omega
theorem SM {d:bK} (h:qK d) (hp:yB d.aj) (hh:∀p∈d.aj,mC d p):bB Pg I.gi [dY d] (.bl true):=by
 refine af.intro T.gi (by simp[F.gi]) ?_
 have hl:=h.len hp.1
 have rU:=hp.1
 have hv:=Ia (by omega) h.so
 simp[F.gi,an,aG]
 refine al.ret hv (by simp) (by simp) (by simp) ?_
 simp
 refine jh.jY d.aj.length (λ_=>True) [1,2,3,22,23,24] (λi=>[(3,.int .i64 (L9 d.aj i)),(24,.int .i64 i)]) (λi=>[]) [.keep [1,2,3,22,23,24]] ?_
 simp[show L9 d.aj 0=0 from rfl]
 refine⟨λi hi K hK=> ?_,λK=> ?_⟩
 ·have hx:d.aj[i]? =some d.aj[i]:=gJ hi
  have hm:=List.getElem_mem hi
  have h5:=(hh _ hm).hand
  have h6:d.aj[i].hand.has=false:=by rw[h5];rfl
  have zY:=h.nd1 hm
  have hfn:∀x∈Ci d.aj[i].ring,bB Pg I.bw [cZ d.aD,.int .u32 x] (.tup [cy ⟨x,d.aj[i].gC,true⟩,.bl true]):=λx hx=>h.find rU hm hx
  have hLc:=cW d.aj[i].ring
  have hc:=OB hi
  have tx:=Y4 d.aj i
  have hl3:=Oz d.aj[i].ring
  have e3:Eo [d.aj[i].ring.p,d.aj[i].ring.c,d.aj[i].ring.n]=Ci d.aj[i].ring:=rfl
  rw[e3]at hLc
  generalize Ci d.aj[i].ring=L at*
  rw[hc]at hK
  simp[↓av,hi,h6]
  refine al.ret hLc (by simp) (by simp) (by simp) ?_
  simp
  refine jh.jY L.length (λ_=>True) [1,2,3,5,22,23,24,57,58,59] (λj=>[(3,.int .i64 ((L9 d.aj i:Int)+j)),(59,.int .i64 j)]) (λi=>[]) [.keep [1,2,3,5,22,23,24,57,58,59]] ?_
  simp
  refine⟨λj hj K2 xY=> ?_,λK2=> ?_⟩
  ·have hy:L[j]? =some L[j]:=gJ hj
   have hf:=hfn _ (List.getElem_mem hj)
   have hw3:IntKind.i64.wrap ((L9 d.aj i:Int)+j+1)=(L9 d.aj i:Int)+((j:Int)+1):=by rw[wrap_i64 (by omega)];omega
   simp[↓av,hj]
   refine al.ret hf (by simp) (by simp) (by simp) ?_
   simp[hw3,fG hj (by omega)]
   refine⟨[.keep [1,2,3,5,22,23,24,57,58,59],.dr 10],?_⟩
   simp
   exact xY _ (by simp)
  ·simp[↓av,↓av]
   refine al.ret hLc (by simp) (by simp) (by simp) ?_
   simp
   refine jh.jY L.length (λ_=>True) [1,2,3,5,12,22,23,24,90,91,92] (λj=>[(92,.int .i64 j)]) (λi=>[]) [.keep [1,2,3,5,12,22,23,24,90,91,92]] ?_
   simp
   refine⟨λj hj K3 hK3=> ?_,λK3=> ?_⟩
   ·have hy:L[j]? =some L[j]:=gJ hj
    simp[↓av,hj,oq,show j≤L.length by omega]
    refine jh.jY j (λ_=>True) [1,2,3,5,12,14,22,23,24,90,91,92,99,100,101] (λm=>[(101,.int .i64 m)]) (λi=>[]) [.keep [1,2,3,5,12,14,22,23,24,90,91,92,99,100,101]] ?_
    simp
    refine⟨λm hm2 K4 hK4=> ?_,λK4=> ?_⟩
    ·have QF:m<L.length:=by omega
     have s9:m<min j L.length:=by omega
     have hxm:L[m]? =some L[m]:=gJ QF
     have fB:¬L[j]=L[m]:=by
      intro e
      exact List.pairwise_iff_getElem.1 (List.nodup_iff_pairwise_ne.1 zY) m j QF hj hm2 e.symm
     simp[↓av,hm2,s9,fB,fG hm2 (by omega)]
     refine⟨[.keep [1,2,3,5,12,14,22,23,24,90,91,92,99,100,101]],?_⟩
     simp
     exact hK4 _ (by simp)
    ·simp[↓av,↓av,fG hj (by omega)]
     refine⟨[.keep [1,2,3,5,12,22,23,24,90,91,92]],?_⟩
     simp
     exact hK3 _ (by simp[oq])
   ·simp[↓av,↓av,fG hi (by omega)]
    refine⟨[.keep [1,2,3,22,23,24],.dr 5],?_⟩
    simp
    exact hK _ (by simp)
 ·have hcn:L9 d.aj d.aj.length=d.aD.length:=by
   unfold L9;rw[List.take_length];exact h.pm.length_eq.symm
  simp[↓av,↓av,hcn]
  refine aM.plain [] ?_
  simp
end Go.Ab
end G4s
namespace Go.Ab
open Go.Ab
structure VD (d:bK):Prop where
 ru:yz d.rules
 n0:0≤d.now
 n1:d.now≤16777216
 p0:0≤d.port
 p1:d.port≤65535
 bad:d.bad=0
 G5:yB d.aj
 yV:∀p∈d.aj,mC d p
 Y5:C1 d.bn
 rtl:d.bn.length=d.aj.length
 sls:qK d
 tis:Ox d
 s0:0≤d.ka
 s1:d.ka≤d.now
 rcn:d.bD=[]
 buc:d.buckets=[]
theorem SN {d:bK} (h:VD d):bB Pg I.fD [dY d] (.int .i64 0):=by
 refine af.intro T.fD (by simp[F.fD]) ?_
 have hl:=h.G5.1
 have hs:0≤d.rules.oX:=by have:=h.ru.2.2.2.2.2.2.2.2.2.2.2.2.2.2.2.1;omega
 have J1:∀(i:Nat) (h:i+1<d.aj.length),SF d.aj[i].gC d.aj[i+1].gC=true:=by
  intro i hi
  rw[h.G5.2 i (by omega),h.G5.2 (i+1) hi]
  exact Ov (by omega) (by omega)
 have hb:=h.bad
 simp[F.fD,an,aG]
 refine al.ret (Ep h.ru) (by simp) (by simp) (by simp) ?_
 simp
 refine al.ret (kb (n:=d.now) (a:=0) (b:=1099511627776) h.n0 (by have:=h.n1;omega)) (by simp) (by simp) (by simp) ?_
 simp
 refine al.ret (kb (n:=d.port) (a:=0) (b:=65535) h.p0 h.p1) (by simp) (by simp) (by simp) ?_
 simp[hb]
 refine al.ret (kb (n:=0) (a:=0) (b:=1099511627776) (by omega) (by omega)) (by simp) (by simp) (by simp) ?_
 simp
 refine al.ret (SJ (d:=d) (by omega) J1) (by simp) (by simp) (by simp) ?_
 simp
 refine al.ret (Ih (d:=d) (k:=3) (by omega) (by omega) h.yV h.n0 hs) (by simp) (by simp) (by simp) ?_
 simp
 refine al.ret (Ih (d:=d) (k:=4) (by omega) (by omega) h.yV h.n0 hs) (by simp) (by simp) (by simp) ?_
 simp
 refine al.ret (Ih (d:=d) (k:=5) (by omega) (by omega) h.yV h.n0 hs) (by simp) (by simp) (by simp) ?_
 simp
 refine al.ret (Ow (d:=d) h.Y5 h.G5 h.rtl) (by simp) (by simp) (by simp) ?_
 simp
 refine al.ret (SM (d:=d) h.sls h.G5 h.yV) (by simp) (by simp) (by simp) ?_
 simp
 refine al.ret (Oy (d:=d) h.tis h.n0 h.G5 h.yV) (by simp) (by simp) (by simp) ?_
 simp
 refine al.ret (Y1 (d:=d) h.s0 h.s1 h.rcn h.buc) (by simp) (by simp) (by simp) ?_
 simp
 refine aM.plain [] ?_
 simp
theorem SO {d:bK} (h:VD d):bB Pg I.eZ [dY d] (.bl true):=by
 refine af.intro T.eZ (by simp[F.eZ]) ?_
 simp[F.eZ,an,aG]
 refine al.ret (SN h) (by simp) (by simp) (by simp) ?_
 simp
 refine aM.plain [] ?_
 simp
end Go.Ab
