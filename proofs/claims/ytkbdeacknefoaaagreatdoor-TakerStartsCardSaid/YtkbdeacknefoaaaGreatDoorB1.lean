/- Daemons and prefixes as the abstract reading has them; field elements of the program. No condition. -/
import Derived.Test.YtkbdeacknefoaaaGreatDoorSF1
import Derived.Test.YtkbdeacknefoaaaGreatDoorSF2
import Derived.Test.YtkbdeacknefoaaaGreatDoorSF3
import Derived.Test.YtkbdeacknefoaaaGreatDoorSF4
import Derived.Test.YtkbdeacknefoaaaGreatDoorSF5
import Derived.Test.YtkbdeacknefoaaaGreatDoorA5
import Derived.Laws.BitsAllLaws
import Derived.Laws.Externs
set_option maxRecDepth 20000
set_option maxHeartbeats 4000000
set_option linter.all false
noncomputable section D1s
namespace Go.Ab
open Go.Ab
abbrev vu:Sh:= .ar 32 (.i .u8)
@[simp] theorem ajM:rZ vu=32:=rfl
@[simp] theorem acR:Sh.agg vu=true:=rfl
abbrev JB:Sh:= .st [.b,.i .u64,.ar 4 (.i .u64)]
@[simp] theorem ajN:rZ JB=6:=rfl
@[simp] theorem acS:Sh.agg JB=true:=rfl
abbrev PF:Sh:= .st [.ar 32 (.i .u8),.ar 32 (.i .u8)]
@[simp] theorem ajO:rZ PF=64:=rfl
@[simp] theorem acT:Sh.agg PF=true:=rfl
abbrev L8:Sh:= .ar 16 (.i .u8)
@[simp] theorem ajP:rZ L8=16:=rfl
@[simp] theorem acU:Sh.agg L8=true:=rfl
abbrev PG:Sh:= .ar 12 (.i .u8)
@[simp] theorem ajQ:rZ PG=12:=rfl
@[simp] theorem acV:Sh.agg PG=true:=rfl
def eY (b:(List UInt8)):PV:= .sl 1 (b.map u8) false
@[simp] theorem B8 (e:(List UInt8)):Pure (eY e):=by simp[eY]
@[simp] theorem ahm (e:(List UInt8)):wk (eY e)=eY e:=by simp[eY]
@[simp↓] theorem acW (g:Bool) (e:(List UInt8)) (K:PV->Prop):iv g (eY e) K=K (eY e):=_root_.id rfl
@[simp] theorem Vq (e:(List UInt8)):(eY e).width=1:=_root_.id rfl
@[simp] theorem acX (e:(List UInt8)):(eY e).isAgg=false:=_root_.id rfl
@[simp] theorem Zf (e:(List UInt8)):(eY e).bG=true:=_root_.id rfl
@[simp↓] theorem Zg (s:St) (K:PV->Prop) (l:List UInt8):vo s K (eY l)=K (.int .i64 l.length):=by simp[eY]
@[simp↓] theorem Vr (s:St) (sz:Nat) (j:Int) (K:PV->Prop) (l:List UInt8):oi s sz j K (eY l)=((1=sz∧0≤j∧j<l.length)∧K (.fp sz (l.map u8) [.i j.toNat sz])):=by simp[eY]
@[simp↓] theorem Zh (s:St) (K:Nat->List PV->Prop) (l:List UInt8):wQ s K (eY l)=K 1 (l.map u8):=by simp[eY]
def oY (l:(List (List UInt8))):PV:= .sl 1 (l.map eY) false
@[simp] theorem Vs (e:(List (List UInt8))):Pure (oY e):=by simp[oY]
@[simp] theorem acY (e:(List (List UInt8))):wk (oY e)=oY e:=by simp[oY]
@[simp↓] theorem Zi (g:Bool) (e:(List (List UInt8))) (K:PV->Prop):iv g (oY e) K=K (oY e):=_root_.id rfl
@[simp] theorem SO (e:(List (List UInt8))):(oY e).width=1:=_root_.id rfl
@[simp] theorem Zj (e:(List (List UInt8))):(oY e).isAgg=false:=_root_.id rfl
@[simp↓] theorem Vt (s:St) (K:PV->Prop) (l:List (List UInt8)):vo s K (oY l)=K (.int .i64 l.length):=by simp[oY]
@[simp↓] theorem SP (s:St) (sz:Nat) (j:Int) (K:PV->Prop) (l:List (List UInt8)):oi s sz j K (oY l)=((1=sz∧0≤j∧j<l.length)∧K (.fp sz (l.map eY) [.i j.toNat sz])):=by simp[oY]
def lp (l:(List Int)):PV:= .sl 1 (l.map (λn:Int=>PV.int .i64 n)) false
@[simp] theorem ub (e:(List Int)):Pure (lp e):=by simp[lp]
@[simp] theorem acZ (e:(List Int)):wk (lp e)=lp e:=by simp[lp]
@[simp↓] theorem Zk (g:Bool) (e:(List Int)) (K:PV->Prop):iv g (lp e) K=K (lp e):=_root_.id rfl
@[simp] theorem SQ (e:(List Int)):(lp e).width=1:=_root_.id rfl
@[simp] theorem Zl (e:(List Int)):(lp e).isAgg=false:=_root_.id rfl
@[simp↓] theorem Vu (s:St) (K:PV->Prop) (l:List Int):vo s K (lp l)=K (.int .i64 l.length):=by simp[lp]
@[simp↓] theorem SR (s:St) (sz:Nat) (j:Int) (K:PV->Prop) (l:List Int):oi s sz j K (lp l)=((1=sz∧0≤j∧j<l.length)∧K (.fp sz (l.map (λn:Int=>PV.int .i64 n)) [.i j.toNat sz])):=by simp[lp]
structure Key where
 l:List UInt8
 h:l.length=32
def aW (k:Key):PV:= .ar 1 32 (k.l.map u8)
@[simp] theorem eR (e:Key):Pure (aW e):=by simp[aW]
@[simp] theorem ahn (e:Key):wk (aW e)=aW e:=by simp[aW]
@[simp↓] theorem ac0 (g:Bool) (e:Key) (K:PV->Prop):iv g (aW e) K=K (aW e):=_root_.id rfl
@[simp] theorem Vv (e:Key):(aW e).width=32:=_root_.id rfl
@[simp] theorem ac1 (e:Key):(aW e).isAgg=true:=_root_.id rfl
@[simp] theorem Zm (e:Key):(aW e).bG=true:=_root_.id rfl
@[simp] theorem Zn (e:Key):(aW e).flat=true:=_root_.id rfl
structure GC where
 loc:Int
 rem:Int
 send:FV vu
 recv:FV vu
 next:Int
 L9:Int
 Uo:FV JB
 born:Int
 ini:Bool
def ED (s:GC):PV:= .st 76 [.int .u32 s.loc,.int .u32 s.rem,s.send.p,s.recv.p,.int .u64 s.next,.int .u64 s.L9,s.Uo.p,.int .i64 s.born,.bl s.ini]
@[simp] theorem Zo (e:GC):Pure (ED e):=by simp[ED]
@[simp] theorem aho (e:GC):wk (ED e)=ED e:=by simp[ED]
structure FK where
 has:Bool
 FL:GC
def yi (p:FK):PV:= .st 77 [.bl p.has,ED p.FL]
@[simp] theorem Zp (e:FK):Pure (yi e):=by simp[yi]
@[simp] theorem ahp (e:FK):wk (yi e)=yi e:=by simp[yi]
structure JC where
 p:FK
 c:FK
 n:FK
def wT (r:JC):PV:= .st 231 [yi r.p,yi r.c,yi r.n]
@[simp] theorem Zq (e:JC):Pure (wT e):=by simp[wT]
@[simp] theorem ahq (e:JC):wk (wT e)=wT e:=by simp[wT]
@[simp] theorem Vw (e:JC):(wT e).width=231:=_root_.id rfl
@[simp] theorem ac2 (e:JC):(wT e).isAgg=true:=_root_.id rfl
structure nS where
 Al:Int
 wU:Int
 wV:Int
 rV:Int
 SS:Int
 ret:Int
 EE:Int
 Vx:Int
 load:Int
 lq:Int
def dE (r:nS):PV:= .st 10 [.int .u64 r.Al,.int .u64 r.wU,.int .i64 r.wV,.int .i64 r.rV,.int .i64 r.SS,.int .i64 r.ret,.int .i64 r.EE,.int .i64 r.Vx,.int .i64 r.load,.int .i64 r.lq]
@[simp] theorem uc (e:nS):Pure (dE e):=by simp[dE]
@[simp] theorem ac3 (e:nS):wk (dE e)=dE e:=by simp[dE]
@[simp↓] theorem Zr (g:Bool) (e:nS) (K:PV->Prop):iv g (dE e) K=K (dE e):=_root_.id rfl
@[simp] theorem SU (e:nS):(dE e).width=10:=_root_.id rfl
@[simp] theorem Zs (e:nS):(dE e).isAgg=true:=_root_.id rfl
@[simp] theorem Vy (e:nS):(dE e).bG=true:=_root_.id rfl
@[simp↓] theorem PH (e:nS) (r:List Step):aX (dE e) (.f 0 0::r)=aX (.int .u64 e.Al) r:=by simp[dE,av]
@[simp↓] theorem PI (e:nS) (r:List Step):aX (dE e) (.f 1 1::r)=aX (.int .u64 e.wU) r:=by simp[dE,av]
@[simp↓] theorem PJ (e:nS) (r:List Step):aX (dE e) (.f 2 2::r)=aX (.int .i64 e.wV) r:=by simp[dE,av]
@[simp↓] theorem PK (e:nS) (r:List Step):aX (dE e) (.f 3 3::r)=aX (.int .i64 e.rV) r:=by simp[dE,av]
@[simp↓] theorem PL (e:nS) (r:List Step):aX (dE e) (.f 4 4::r)=aX (.int .i64 e.SS) r:=by simp[dE,av]
@[simp↓] theorem PM (e:nS) (r:List Step):aX (dE e) (.f 5 5::r)=aX (.int .i64 e.ret) r:=by simp[dE,av]
@[simp↓] theorem PN (e:nS) (r:List Step):aX (dE e) (.f 6 6::r)=aX (.int .i64 e.EE) r:=by simp[dE,av]
@[simp↓] theorem PO (e:nS) (r:List Step):aX (dE e) (.f 7 7::r)=aX (.int .i64 e.Vx) r:=by simp[dE,av]
@[simp↓] theorem PQ (e:nS) (r:List Step):aX (dE e) (.f 8 8::r)=aX (.int .i64 e.load) r:=by simp[dE,av]
@[simp↓] theorem PR (e:nS) (r:List Step):aX (dE e) (.f 9 9::r)=aX (.int .i64 e.lq) r:=by simp[dE,av]
def Am (e:nS) (c:PV):PV:= .st 10 [.int .u64 e.Al,.int .u64 e.wU,.int .i64 e.wV,.int .i64 e.rV,.int .i64 e.SS,.int .i64 e.ret,.int .i64 e.EE,.int .i64 e.Vx,.int .i64 e.load,c]
@[simp↓] theorem PS (e:nS) (r:List Step) (x:PV):gN (dE e) (.f 9 9::r) x=(gN (.int .i64 e.lq) r x).bind λc=>some (Am e c):=by simp[dE,Am,av]
@[simp↓] theorem Vz (e:nS) (v:Int):Am e (.int .i64 v)=dE {e with lq:=v}:=_root_.id rfl
structure iO where
 na:Bool
 ip:List UInt8
 h:ip.length=16
def ft (a:iO):PV:= .st 17 [.bl a.na,.ar 1 16 (a.ip.map u8)]
@[simp] theorem jQ (e:iO):Pure (ft e):=by simp[ft]
@[simp] theorem ahr (e:iO):wk (ft e)=ft e:=by simp[ft]
@[simp↓] theorem ac4 (g:Bool) (e:iO) (K:PV->Prop):iv g (ft e) K=K (ft e):=_root_.id rfl
@[simp] theorem VA (e:iO):(ft e).width=17:=_root_.id rfl
@[simp] theorem ac5 (e:iO):(ft e).isAgg=true:=_root_.id rfl
@[simp] theorem Zt (e:iO):(ft e).bG=true:=_root_.id rfl
@[simp] theorem Zu (e:iO):(ft e).flat=true:=_root_.id rfl
@[simp↓] theorem SV (e:iO) (r:List Step):aX (ft e) (.f 0 0::r)=aX (.bl e.na) r:=by simp[ft,av]
@[simp↓] theorem SW (e:iO) (r:List Step):aX (ft e) (.f 1 1::r)=aX (.ar 1 16 (e.ip.map u8)) r:=by simp[ft,av]
def vv (e:iO) (c:PV):PV:= .st 17 [.bl e.na,c]
@[simp↓] theorem SX (e:iO) (r:List Step) (x:PV):gN (ft e) (.f 1 1::r) x=(gN (.ar 1 16 (e.ip.map u8)) r x).bind λc=>some (vv e c):=by simp[ft,vv,av]
structure Bo where
 addr:iO
 port:Int
def jR (e:Bo):PV:= .st 18 [ft e.addr,.int .i64 e.port]
@[simp] theorem Zv (e:Bo):Pure (jR e):=by simp[jR]
@[simp] theorem ahs (e:Bo):wk (jR e)=jR e:=by simp[jR]
@[simp↓] theorem ac6 (g:Bool) (e:Bo) (K:PV->Prop):iv g (jR e) K=K (jR e):=_root_.id rfl
@[simp] theorem VB (e:Bo):(jR e).width=18:=_root_.id rfl
@[simp] theorem ac7 (e:Bo):(jR e).isAgg=true:=_root_.id rfl
@[simp] theorem Zw (e:Bo):(jR e).bG=true:=_root_.id rfl
@[simp↓] theorem SY (e:Bo) (r:List Step):aX (jR e) (.f 0 0::r)=aX (ft e.addr) r:=by simp[jR,av]
@[simp↓] theorem SZ (e:Bo) (r:List Step):aX (jR e) (.f 1 17::r)=aX (.int .i64 e.port) r:=by simp[jR,av]
structure lr where
 addr:iO
 bits:Int
def dX (e:lr):PV:= .st 18 [ft e.addr,.int .i64 e.bits]
@[simp] theorem gW (e:lr):Pure (dX e):=by simp[dX]
@[simp] theorem aht (e:lr):wk (dX e)=dX e:=by simp[dX]
@[simp↓] theorem ac8 (g:Bool) (e:lr) (K:PV->Prop):iv g (dX e) K=K (dX e):=_root_.id rfl
@[simp] theorem VC (e:lr):(dX e).width=18:=_root_.id rfl
@[simp] theorem ac9 (e:lr):(dX e).isAgg=true:=_root_.id rfl
@[simp] theorem Zx (e:lr):(dX e).bG=true:=_root_.id rfl
@[simp] theorem Zy (e:lr):(dX e).flat=true:=_root_.id rfl
@[simp] theorem vy (l:List lr):aB (l.map dX):=aS gW l
@[simp↓] theorem S0 (e:lr) (r:List Step):aX (dX e) (.f 0 0::r)=aX (ft e.addr) r:=by simp[dX,av]
@[simp↓] theorem S1 (e:lr) (r:List Step):aX (dX e) (.f 1 17::r)=aX (.int .i64 e.bits) r:=by simp[dX,av]
structure kX where
 s6:lr
 peer:Key
def bN (r:kX):PV:= .st 50 [dX r.s6,aW r.peer]
@[simp] theorem bM (e:kX):Pure (bN e):=by simp[bN]
@[simp] theorem ada (e:kX):wk (bN e)=bN e:=by simp[bN]
@[simp↓] theorem Zz (g:Bool) (e:kX) (K:PV->Prop):iv g (bN e) K=K (bN e):=_root_.id rfl
@[simp] theorem S2 (e:kX):(bN e).width=50:=_root_.id rfl
@[simp] theorem ZA (e:kX):(bN e).isAgg=true:=_root_.id rfl
@[simp] theorem VE (e:kX):(bN e).bG=true:=_root_.id rfl
@[simp↓] theorem PT (e:kX) (r:List Step):aX (bN e) (.f 0 0::r)=aX (dX e.s6) r:=by simp[bN,av]
def fZ (l:(List kX)):PV:= .sl 50 (l.map bN) false
@[simp] theorem sv (e:(List kX)):Pure (fZ e):=by simp[fZ]
@[simp] theorem ZB (e:(List kX)):wk (fZ e)=fZ e:=by simp[fZ]
@[simp↓] theorem VF (g:Bool) (e:(List kX)) (K:PV->Prop):iv g (fZ e) K=K (fZ e):=_root_.id rfl
@[simp] theorem PU (e:(List kX)):(fZ e).width=1:=_root_.id rfl
@[simp] theorem VG (e:(List kX)):(fZ e).isAgg=false:=_root_.id rfl
@[simp] theorem S3 (e:(List kX)):(fZ e).bG=true:=_root_.id rfl
@[simp↓] theorem S4 (s:St) (K:PV->Prop) (l:List kX):vo s K (fZ l)=K (.int .i64 l.length):=by simp[fZ]
@[simp↓] theorem PW (s:St) (sz:Nat) (j:Int) (K:PV->Prop) (l:List kX):oi s sz j K (fZ l)=((50=sz∧0≤j∧j<l.length)∧K (.fp sz (l.map bN) [.i j.toNat sz])):=by simp[fZ]
structure An where
 index:Int
 peer:Key
 FL:Bool
def oZ (s:An):PV:= .st 34 [.int .u32 s.index,aW s.peer,.bl s.FL]
@[simp] theorem VH (e:An):Pure (oZ e):=by simp[oZ]
@[simp] theorem adb (e:An):wk (oZ e)=oZ e:=by simp[oZ]
@[simp↓] theorem ZC (g:Bool) (e:An) (K:PV->Prop):iv g (oZ e) K=K (oZ e):=_root_.id rfl
@[simp] theorem S5 (e:An):(oZ e).width=34:=_root_.id rfl
@[simp] theorem ZD (e:An):(oZ e).isAgg=true:=_root_.id rfl
def jg (l:(List An)):PV:= .sl 34 (l.map oZ) false
@[simp] theorem sx (e:(List An)):Pure (jg e):=by simp[jg]
@[simp] theorem ZE (e:(List An)):wk (jg e)=jg e:=by simp[jg]
@[simp↓] theorem VI (g:Bool) (e:(List An)) (K:PV->Prop):iv g (jg e) K=K (jg e):=_root_.id rfl
@[simp] theorem PX (e:(List An)):(jg e).width=1:=_root_.id rfl
@[simp] theorem VJ (e:(List An)):(jg e).isAgg=false:=_root_.id rfl
@[simp↓] theorem S6 (s:St) (K:PV->Prop) (l:List An):vo s K (jg l)=K (.int .i64 l.length):=by simp[jg]
@[simp↓] theorem PY (s:St) (sz:Nat) (j:Int) (K:PV->Prop) (l:List An):oi s sz j K (jg l)=((34=sz∧0≤j∧j<l.length)∧K (.fp sz (l.map oZ) [.i j.toNat sz])):=by simp[jg]
structure gZ where
 at_:Int
 peer:Key
 kind:Int
def bT (t:gZ):PV:= .st 34 [.int .i64 t.at_,aW t.peer,.int .i64 t.kind]
@[simp] theorem ba (e:gZ):Pure (bT e):=by simp[bT]
@[simp] theorem ahu (e:gZ):wk (bT e)=bT e:=by simp[bT]
@[simp↓] theorem ade (g:Bool) (e:gZ) (K:PV->Prop):iv g (bT e) K=K (bT e):=_root_.id rfl
@[simp] theorem VK (e:gZ):(bT e).width=34:=_root_.id rfl
@[simp] theorem adf (e:gZ):(bT e).isAgg=true:=_root_.id rfl
@[simp] theorem ZF (e:gZ):(bT e).bG=true:=_root_.id rfl
@[simp] theorem ahv (l:List gZ):aB (l.map bT):=aS ba l
@[simp↓] theorem S7 (e:gZ) (r:List Step):aX (bT e) (.f 0 0::r)=aX (.int .i64 e.at_) r:=by simp[bT,av]
@[simp↓] theorem S8 (e:gZ) (r:List Step):aX (bT e) (.f 1 1::r)=aX (aW e.peer) r:=by simp[bT,av]
@[simp↓] theorem S9 (e:gZ) (r:List Step):aX (bT e) (.f 2 33::r)=aX (.int .i64 e.kind) r:=by simp[bT,av]
def gv (l:(List gZ)):PV:= .sl 34 (l.map bT) false
@[simp] theorem ud (e:(List gZ)):Pure (gv e):=by simp[gv]
@[simp] theorem adg (e:(List gZ)):wk (gv e)=gv e:=by simp[gv]
@[simp↓] theorem ZG (g:Bool) (e:(List gZ)) (K:PV->Prop):iv g (gv e) K=K (gv e):=_root_.id rfl
@[simp] theorem Ta (e:(List gZ)):(gv e).width=1:=_root_.id rfl
@[simp] theorem ZH (e:(List gZ)):(gv e).isAgg=false:=_root_.id rfl
@[simp] theorem VL (e:(List gZ)):(gv e).bG=true:=_root_.id rfl
@[simp↓] theorem VN (s:St) (K:PV->Prop) (l:List gZ):vo s K (gv l)=K (.int .i64 l.length):=by simp[gv]
@[simp↓] theorem Tb (s:St) (sz:Nat) (j:Int) (K:PV->Prop) (l:List gZ):oi s sz j K (gv l)=((34=sz∧0≤j∧j<l.length)∧K (.fp sz (l.map bT) [.i j.toNat sz])):=by simp[gv]
structure EF where
 addr:iO
 tokens:Int
 at_:Int
def pd (b:EF):PV:= .st 19 [ft b.addr,.int .i64 b.tokens,.int .i64 b.at_]
@[simp] theorem VO (e:EF):Pure (pd e):=by simp[pd]
@[simp] theorem adh (e:EF):wk (pd e)=pd e:=by simp[pd]
@[simp↓] theorem ZI (g:Bool) (e:EF) (K:PV->Prop):iv g (pd e) K=K (pd e):=_root_.id rfl
@[simp] theorem Tc (e:EF):(pd e).width=19:=_root_.id rfl
@[simp] theorem ZJ (e:EF):(pd e).isAgg=true:=_root_.id rfl
def jh (l:(List EF)):PV:= .sl 19 (l.map pd) false
@[simp] theorem sy (e:(List EF)):Pure (jh e):=by simp[jh]
@[simp] theorem ZK (e:(List EF)):wk (jh e)=jh e:=by simp[jh]
@[simp↓] theorem VQ (g:Bool) (e:(List EF)) (K:PV->Prop):iv g (jh e) K=K (jh e):=_root_.id rfl
@[simp] theorem PZ (e:(List EF)):(jh e).width=1:=_root_.id rfl
@[simp] theorem VR (e:(List EF)):(jh e).isAgg=false:=_root_.id rfl
@[simp↓] theorem Td (s:St) (K:PV->Prop) (l:List EF):vo s K (jh l)=K (.int .i64 l.length):=by simp[jh]
@[simp↓] theorem P4 (s:St) (sz:Nat) (j:Int) (K:PV->Prop) (l:List EF):oi s sz j K (jh l)=((19=sz∧0≤j∧j<l.length)∧K (.fp sz (l.map pd) [.i j.toNat sz])):=by simp[jh]
structure P5 where
 has:Bool
 loc:Int
 eph:FV vu
 Te:FV PF
 started:Int
 Ma:Int
def ue (h:P5):PV:= .st 100 [.bl h.has,.int .u32 h.loc,h.eph.p,h.Te.p,.int .i64 h.started,.int .i64 h.Ma]
@[simp] theorem ZL (e:P5):Pure (ue e):=by simp[ue]
@[simp] theorem ahw (e:P5):wk (ue e)=ue e:=by simp[ue]
@[simp] theorem VS (e:P5):(ue e).width=100:=_root_.id rfl
@[simp] theorem adi (e:P5):(ue e).isAgg=true:=_root_.id rfl
structure jy where
 eK:Key
 shared:FV vu
 nm:Bool
 ep:Bo
 kY:Int
 Tf:FV PG
 HR:Bool
 JD:Int
 hand:P5
 HS:Bool
 Mb:FV L8
 JE:Int
 mac:FV L8
 ring:JC
 mR:List (List UInt8)
def bj (p:jy):PV:= .st 464 [aW p.eK,p.shared.p,.bl p.nm,jR p.ep,.int .i64 p.kY,p.Tf.p,.bl p.HR,.int .i64 p.JD,ue p.hand,.bl p.HS,p.Mb.p,.int .i64 p.JE,p.mac.p,wT p.ring,oY p.mR]
@[simp] theorem gf (e:jy):Pure (bj e):=by simp[bj]
@[simp] theorem adj (e:jy):wk (bj e)=bj e:=by simp[bj]
@[simp↓] theorem ZM (g:Bool) (e:jy) (K:PV->Prop):iv g (bj e) K=K (bj e):=_root_.id rfl
@[simp] theorem Th (e:jy):(bj e).width=464:=_root_.id rfl
@[simp] theorem ZN (e:jy):(bj e).isAgg=true:=_root_.id rfl
@[simp] theorem VT (e:jy):(bj e).bG=true:=_root_.id rfl
@[simp] theorem qI (l:List jy):aB (l.map bj):=aS gf l
@[simp↓] theorem P6 (e:jy) (r:List Step):aX (bj e) (.f 0 0::r)=aX (aW e.eK) r:=by simp[bj,av]
@[simp↓] theorem P7 (e:jy) (r:List Step):aX (bj e) (.f 1 32::r)=aX (e.shared.p) r:=by simp[bj,av]
@[simp↓] theorem P8 (e:jy) (r:List Step):aX (bj e) (.f 2 64::r)=aX (.bl e.nm) r:=by simp[bj,av]
@[simp↓] theorem P9 (e:jy) (r:List Step):aX (bj e) (.f 3 65::r)=aX (jR e.ep) r:=by simp[bj,av]
@[simp↓] theorem Qa (e:jy) (r:List Step):aX (bj e) (.f 4 83::r)=aX (.int .i64 e.kY) r:=by simp[bj,av]
@[simp↓] theorem Qb (e:jy) (r:List Step):aX (bj e) (.f 5 84::r)=aX (e.Tf.p) r:=by simp[bj,av]
@[simp↓] theorem Qc (e:jy) (r:List Step):aX (bj e) (.f 6 96::r)=aX (.bl e.HR) r:=by simp[bj,av]
@[simp↓] theorem Qd (e:jy) (r:List Step):aX (bj e) (.f 7 97::r)=aX (.int .i64 e.JD) r:=by simp[bj,av]
@[simp↓] theorem Qe (e:jy) (r:List Step):aX (bj e) (.f 8 98::r)=aX (ue e.hand) r:=by simp[bj,av]
@[simp↓] theorem Qg (e:jy) (r:List Step):aX (bj e) (.f 9 198::r)=aX (.bl e.HS) r:=by simp[bj,av]
@[simp↓] theorem N6 (e:jy) (r:List Step):aX (bj e) (.f 10 199::r)=aX (e.Mb.p) r:=by simp[bj,av]
@[simp↓] theorem N7 (e:jy) (r:List Step):aX (bj e) (.f 11 215::r)=aX (.int .i64 e.JE) r:=by simp[bj,av]
@[simp↓] theorem N8 (e:jy) (r:List Step):aX (bj e) (.f 12 216::r)=aX (e.mac.p) r:=by simp[bj,av]
@[simp↓] theorem N9 (e:jy) (r:List Step):aX (bj e) (.f 13 232::r)=aX (wT e.ring) r:=by simp[bj,av]
@[simp↓] theorem Oa (e:jy) (r:List Step):aX (bj e) (.f 14 463::r)=aX (oY e.mR) r:=by simp[bj,av]
def gh (l:(List jy)):PV:= .sl 464 (l.map bj) false
@[simp] theorem pR (e:(List jy)):Pure (gh e):=by simp[gh]
@[simp] theorem ZO (e:(List jy)):wk (gh e)=gh e:=by simp[gh]
@[simp↓] theorem VU (g:Bool) (e:(List jy)) (K:PV->Prop):iv g (gh e) K=K (gh e):=_root_.id rfl
@[simp] theorem Qh (e:(List jy)):(gh e).width=1:=_root_.id rfl
@[simp] theorem VV (e:(List jy)):(gh e).isAgg=false:=_root_.id rfl
@[simp↓] theorem Ti (s:St) (K:PV->Prop) (l:List jy):vo s K (gh l)=K (.int .i64 l.length):=by simp[gh]
@[simp↓] theorem Qi (s:St) (sz:Nat) (j:Int) (K:PV->Prop) (l:List jy):oi s sz j K (gh l)=((464=sz∧0≤j∧j<l.length)∧K (.fp sz (l.map bj) [.i j.toNat sz])):=by simp[gh]
structure gU where
 rules:nS
 pD:FV vu
 yj:FV vu
 port:Int
 random:FV vu
 now:Int
 aj:List jy
 gL:List kX
 kN:List An
 timers:List gZ
 nY:FV vu
 sA:Int
 lD:List Int
 buckets:List EF
 bad:Int
def bV (d:gU) (p:PV):PV:= .st 148 [dE d.rules,d.pD.p,d.yj.p,.int .i64 d.port,d.random.p,.int .i64 d.now,p,fZ d.gL,jg d.kN,gv d.timers,d.nY.p,.int .i64 d.sA,lp d.lD,jh d.buckets,.int .i64 d.bad]
@[simp] theorem Tj (e:gU) (p:PV):(bV e p).width=148:=_root_.id rfl
@[simp] theorem ZP (e:gU) (p:PV):(bV e p).isAgg=true:=rfl
@[simp] theorem VW (e:gU) (p:PV):(bV e p).bG=true:=rfl
@[simp] theorem VX (e:gU) (p:PV):(bV e p).flat=true:=rfl
@[simp↓] theorem ZQ (g:Bool) (e:gU) (p:PV) (K:PV->Prop):iv g (bV e p) K=K (bV e p):=_root_.id rfl
@[simp↓] theorem Qj (e:gU) (p:PV) (r:List Step):aX (bV e p) (.f 0 0::r)=aX (dE e.rules) r:=by simp[bV,av]
@[simp↓] theorem Qk (e:gU) (p:PV) (r:List Step):aX (bV e p) (.f 1 10::r)=aX (e.pD.p) r:=by simp[bV,av]
@[simp↓] theorem Ql (e:gU) (p:PV) (r:List Step):aX (bV e p) (.f 2 42::r)=aX (e.yj.p) r:=by simp[bV,av]
@[simp↓] theorem Qm (e:gU) (p:PV) (r:List Step):aX (bV e p) (.f 3 74::r)=aX (.int .i64 e.port) r:=by simp[bV,av]
@[simp↓] theorem Qn (e:gU) (p:PV) (r:List Step):aX (bV e p) (.f 4 75::r)=aX (e.random.p) r:=by simp[bV,av]
def vz (e:gU) (p:PV) (c:PV):PV:= .st 148 [dE e.rules,e.pD.p,e.yj.p,.int .i64 e.port,c,.int .i64 e.now,p,fZ e.gL,jg e.kN,gv e.timers,e.nY.p,.int .i64 e.sA,lp e.lD,jh e.buckets,.int .i64 e.bad]
@[simp↓] theorem Qo (e:gU) (p:PV) (r:List Step) (x:PV):gN (bV e p) (.f 4 75::r) x=(gN (e.random.p) r x).bind λc=>some (vz e p c):=by simp[bV,vz,av]
@[simp↓] theorem Qp (e:gU) (p:PV) (r:List Step):aX (bV e p) (.f 5 107::r)=aX (.int .i64 e.now) r:=by simp[bV,av]
@[simp↓] theorem Qq (e:gU) (p:PV) (r:List Step):aX (bV e p) (.f 6 108::r)=aX (p) r:=by simp[bV,av]
def Ao (e:gU) (p:PV) (c:PV):PV:= .st 148 [dE e.rules,e.pD.p,e.yj.p,.int .i64 e.port,e.random.p,.int .i64 e.now,c,fZ e.gL,jg e.kN,gv e.timers,e.nY.p,.int .i64 e.sA,lp e.lD,jh e.buckets,.int .i64 e.bad]
@[simp↓] theorem Qr (e:gU) (p:PV) (r:List Step) (x:PV):gN (bV e p) (.f 6 108::r) x=(gN (p) r x).bind λc=>some (Ao e p c):=by simp[bV,Ao,av]
@[simp↓] theorem VY (e:gU) (p:PV) (v:PV):Ao e p v=bV e v:=_root_.id rfl
@[simp↓] theorem Qs (e:gU) (p:PV) (hp:p.width=1) (r:List Step):aX (bV e p) (.f 7 109::r)=aX (fZ e.gL) r:=by simp[bV,av,hp]
def Ap (e:gU) (p:PV) (c:PV):PV:= .st 148 [dE e.rules,e.pD.p,e.yj.p,.int .i64 e.port,e.random.p,.int .i64 e.now,p,c,jg e.kN,gv e.timers,e.nY.p,.int .i64 e.sA,lp e.lD,jh e.buckets,.int .i64 e.bad]
@[simp↓] theorem Qt (e:gU) (p:PV) (hp:p.width=1) (r:List Step) (x:PV):gN (bV e p) (.f 7 109::r) x=(gN (fZ e.gL) r x).bind λc=>some (Ap e p c):=by simp[bV,Ap,av,hp]
@[simp↓] theorem VZ (e:gU) (p:PV) (v:List kX):Ap e p (fZ v)=bV {e with gL:=v} p:=_root_.id rfl
@[simp↓] theorem Qu (e:gU) (p:PV) (hp:p.width=1) (r:List Step):aX (bV e p) (.f 8 110::r)=aX (jg e.kN) r:=by simp[bV,av,hp]
@[simp↓] theorem Qw (e:gU) (p:PV) (hp:p.width=1) (r:List Step):aX (bV e p) (.f 9 111::r)=aX (gv e.timers) r:=by simp[bV,av,hp]
def Aq (e:gU) (p:PV) (c:PV):PV:= .st 148 [dE e.rules,e.pD.p,e.yj.p,.int .i64 e.port,e.random.p,.int .i64 e.now,p,fZ e.gL,jg e.kN,c,e.nY.p,.int .i64 e.sA,lp e.lD,jh e.buckets,.int .i64 e.bad]
@[simp↓] theorem Qx (e:gU) (p:PV) (hp:p.width=1) (r:List Step) (x:PV):gN (bV e p) (.f 9 111::r) x=(gN (gv e.timers) r x).bind λc=>some (Aq e p c):=by simp[bV,Aq,av,hp]
@[simp↓] theorem V2 (e:gU) (p:PV) (v:List gZ):Aq e p (gv v)=bV {e with timers:=v} p:=_root_.id rfl
@[simp↓] theorem Ob (e:gU) (p:PV) (hp:p.width=1) (r:List Step):aX (bV e p) (.f 10 112::r)=aX (e.nY.p) r:=by simp[bV,av,hp]
def s7 (e:gU) (p:PV) (c:PV):PV:= .st 148 [dE e.rules,e.pD.p,e.yj.p,.int .i64 e.port,e.random.p,.int .i64 e.now,p,fZ e.gL,jg e.kN,gv e.timers,c,.int .i64 e.sA,lp e.lD,jh e.buckets,.int .i64 e.bad]
@[simp↓] theorem Oc (e:gU) (p:PV) (hp:p.width=1) (r:List Step) (x:PV):gN (bV e p) (.f 10 112::r) x=(gN (e.nY.p) r x).bind λc=>some (s7 e p c):=by simp[bV,s7,av,hp]
@[simp↓] theorem Od (e:gU) (p:PV) (hp:p.width=1) (r:List Step):aX (bV e p) (.f 11 144::r)=aX (.int .i64 e.sA) r:=by simp[bV,av,hp]
def s8 (e:gU) (p:PV) (c:PV):PV:= .st 148 [dE e.rules,e.pD.p,e.yj.p,.int .i64 e.port,e.random.p,.int .i64 e.now,p,fZ e.gL,jg e.kN,gv e.timers,e.nY.p,c,lp e.lD,jh e.buckets,.int .i64 e.bad]
@[simp↓] theorem Oe (e:gU) (p:PV) (hp:p.width=1) (r:List Step) (x:PV):gN (bV e p) (.f 11 144::r) x=(gN (.int .i64 e.sA) r x).bind λc=>some (s8 e p c):=by simp[bV,s8,av,hp]
@[simp↓] theorem Tk (e:gU) (p:PV) (v:Int):s8 e p (.int .i64 v)=bV {e with sA:=v} p:=_root_.id rfl
@[simp↓] theorem Of (e:gU) (p:PV) (hp:p.width=1) (r:List Step):aX (bV e p) (.f 12 145::r)=aX (lp e.lD) r:=by simp[bV,av,hp]
@[simp↓] theorem Og (e:gU) (p:PV) (hp:p.width=1) (r:List Step):aX (bV e p) (.f 13 146::r)=aX (jh e.buckets) r:=by simp[bV,av,hp]
@[simp↓] theorem Oh (e:gU) (p:PV) (hp:p.width=1) (r:List Step):aX (bV e p) (.f 14 147::r)=aX (.int .i64 e.bad) r:=by simp[bV,av,hp]
@[simp] theorem C2 (f:Nat->Bool) (e:gU) (p:PV):ab f (bV e p)=ab f p:=by
 have h1:ab f (dE e.rules)=true:=(uc _).refs f
 have h2:ab f (fZ e.gL)=true:=(sv _).refs f
 have h3:ab f (jg e.kN)=true:=(sx _).refs f
 have h4:ab f (gv e.timers)=true:=(ud _).refs f
 have h5:ab f (lp e.lD)=true:=(ub _).refs f
 have h6:ab f (jh e.buckets)=true:=(sy _).refs f
 have g1:ab f e.pD.p=true:=(FV.pure e.pD).refs f
 have g2:ab f e.yj.p=true:=(FV.pure e.yj).refs f
 have g3:ab f e.random.p=true:=(FV.pure e.random).refs f
 have g4:ab f e.nY.p=true:=(FV.pure e.nY).refs f
 simp[bV,ab,ae,h1,h2,h3,h4,h5,h6,g1,g2,g3,g4]
@[simp] theorem ZR (ρ:Nat->Nat) (e:gU) (p:PV):az ρ (bV e p)=bV e (az ρ p):=by
 simp[bV,az,aO,(uc _).az,(sv _).az,(sx _).az,(ud _).az,(ub _).az,(sy _).az,(FV.pure e.pD).az,(FV.pure e.yj).az,(FV.pure e.random).az,(FV.pure e.nY).az]
@[simp] theorem adk (e:gU) (p:PV):wk (bV e p)=bV e (wk p):=by simp[bV]
@[simp] theorem ZS (k sz:Nat) (l:List PV) (e:gU) (p:PV):jI k sz l (bV e p)=bV e (jI k sz l p):=by
 simp[bV,jI,kW,(uc _).jI,(sv _).jI,(sx _).jI,(ud _).jI,(ub _).jI,(sy _).jI,(FV.pure e.pD).jI,(FV.pure e.yj).jI,(FV.pure e.random).jI,(FV.pure e.nY).jI]
@[simp] theorem V3 (e:gU) {p:PV} (h:Pure p):Pure (bV e p):=Pure.of (by rw[C2];exact h.refs _)
def kO (d:gU):PV:=bV d (gh d.aj)
@[simp] theorem JF (e:gU):Pure (kO e):=by simp[kO]
@[simp] theorem ahx (e:gU):wk (kO e)=kO e:=by simp[kO]
@[simp↓] theorem adl (g:Bool) (e:gU) (K:PV->Prop):iv g (kO e) K=K (kO e):=_root_.id rfl
@[simp] theorem V4 (e:gU):(kO e).width=148:=_root_.id rfl
@[simp] theorem adm (e:gU):(kO e).isAgg=true:=_root_.id rfl
@[simp] theorem ZT (e:gU):(kO e).bG=true:=_root_.id rfl
@[simp] theorem ZU (e:gU):(kO e).flat=true:=_root_.id rfl
@[simp↓] theorem ZV (e:gU) (i o:Nat) (r:List Step):aX (kO e) (.f i o::r)=aX (bV e (gh e.aj)) (.f i o::r):=_root_.id rfl
@[simp↓] theorem ZW (e:gU) (i o:Nat) (r:List Step) (x:PV):gN (kO e) (.f i o::r) x=gN (bV e (gh e.aj)) (.f i o::r) x:=_root_.id rfl
theorem jr:∀l:List UInt8,tu (.i .u8) (l.map u8)=true
 |[]=>rfl
 |x::l=>by simp[tu,u8,fits,jr l]
@[simp] theorem qJ (k:Key):fits vu (aW k)=true:=by
 simp[aW,fits,jr,k.h,rZ]
def Key.fv (k:Key):FV vu:=⟨aW k,qJ k⟩
@[simp] theorem Key.anW (k:Key):k.fv.p=aW k:=rfl
@[simp] theorem adn (e:Key):PV.beq (aW e) (aW e)=true:=(fH _ _ (qJ e)).beq
abbrev ajR:Sh:= .st [.i .u64,.i .u64,.i .i64,.i .i64,.i .i64,.i .i64,.i .i64,.i .i64,.i .i64,.i .i64]
@[simp] theorem Ar (e:nS):fits ajR (dE e)=true:=by
 simp_all [dE,fits,kd,rZ,rU,jr]
@[simp] theorem ZX (e:nS):PV.beq (dE e) (dE e)=true:=(fH _ _ (Ar e)).beq
abbrev shA:Sh:= .st [.b,.ar 16 (.i .u8)]
@[simp] theorem B9 (e:iO):fits shA (ft e)=true:=by
 have:=e.h;simp_all [ft,fits,kd,rZ,rU,jr]
abbrev shE:Sh:= .st [.st [.b,.ar 16 (.i .u8)],.i .i64]
@[simp] theorem ml (e:Bo):fits shE (jR e)=true:=by
 have:=e.addr.h;simp_all [jR,fits,kd,rZ,rU,jr]
@[simp] theorem EG (e:Bo):PV.beq (jR e) (jR e)=true:=(fH _ _ (ml e)).beq
abbrev shX:Sh:= .st [.st [.b,.ar 16 (.i .u8)],.i .i64]
@[simp] theorem iL (e:lr):fits shX (dX e)=true:=by
 have:=e.addr.h;simp_all [dX,fits,kd,rZ,rU,jr]
@[simp] theorem Mc (e:lr):PV.beq (dX e) (dX e)=true:=(fH _ _ (iL e)).beq
abbrev ajT:Sh:= .st [.st [.st [.b,.ar 16 (.i .u8)],.i .i64],.ar 32 (.i .u8)]
@[simp] theorem GD (e:kX):fits ajT (bN e)=true:=by
 have:=iL e.s6;have:=qJ e.peer;simp_all [bN,fits,kd,rZ,rU,jr]
@[simp] theorem ZY (e:kX):PV.beq (bN e) (bN e)=true:=(fH _ _ (GD e)).beq
abbrev ajU:Sh:= .st [.i .u32,.ar 32 (.i .u8),.b]
@[simp] theorem GF (e:An):fits ajU (oZ e)=true:=by
 have:=qJ e.peer;simp_all [oZ,fits,kd,rZ,rU,jr]
@[simp] theorem ZZ (e:An):PV.beq (oZ e) (oZ e)=true:=(fH _ _ (GF e)).beq
abbrev shT:Sh:= .st [.i .i64,.ar 32 (.i .u8),.i .i64]
@[simp] theorem JG (e:gZ):fits shT (bT e)=true:=by
 have:=qJ e.peer;simp_all [bT,fits,kd,rZ,rU,jr]
@[simp] theorem ado (e:gZ):PV.beq (bT e) (bT e)=true:=(fH _ _ (JG e)).beq
abbrev ajV:Sh:= .st [.st [.b,.ar 16 (.i .u8)],.i .i64,.i .i64]
@[simp] theorem GG (e:EF):fits ajV (pd e)=true:=by
 have:=B9 e.addr;simp_all [pd,fits,kd,rZ,rU,jr]
@[simp] theorem Z0 (e:EF):PV.beq (pd e) (pd e)=true:=(fH _ _ (GG e)).beq
abbrev shH:Sh:= .st [.b,.i .u32,.ar 32 (.i .u8),.st [.ar 32 (.i .u8),.ar 32 (.i .u8)],.i .i64,.i .i64]
@[simp] theorem JH (e:P5):fits shH (ue e)=true:=by
 have:=e.eph.ok;have:=e.Te.ok;simp_all [ue,fits,kd,rZ,rU,jr]
@[simp] theorem adp (e:P5):PV.beq (ue e) (ue e)=true:=(fH _ _ (JH e)).beq
abbrev ajW:Sh:= .st [.i .u32,.i .u32,.ar 32 (.i .u8),.ar 32 (.i .u8),.i .u64,.i .u64,.st [.b,.i .u64,.ar 4 (.i .u64)],.i .i64,.b]
@[simp] theorem JI (e:GC):fits ajW (ED e)=true:=by
 have:=e.send.ok;have:=e.recv.ok;have:=e.Uo.ok;simp_all [ED,fits,kd,rZ,rU,jr]
abbrev ajX:Sh:= .st [.b,.st [.i .u32,.i .u32,.ar 32 (.i .u8),.ar 32 (.i .u8),.i .u64,.i .u64,.st [.b,.i .u64,.ar 4 (.i .u64)],.i .i64,.b]]
@[simp] theorem wW (e:FK):fits ajX (yi e)=true:=by
 have:=JI e.FL;simp_all [yi,fits,kd,rZ,rU,jr]
abbrev ajY:Sh:= .st [.st [.b,.st [.i .u32,.i .u32,.ar 32 (.i .u8),.ar 32 (.i .u8),.i .u64,.i .u64,.st [.b,.i .u64,.ar 4 (.i .u64)],.i .i64,.b]],.st [.b,.st [.i .u32,.i .u32,.ar 32 (.i .u8),.ar 32 (.i .u8),.i .u64,.i .u64,.st [.b,.i .u64,.ar 4 (.i .u64)],.i .i64,.b]],.st [.b,.st [.i .u32,.i .u32,.ar 32 (.i .u8),.ar 32 (.i .u8),.i .u64,.i .u64,.st [.b,.i .u64,.ar 4 (.i .u64)],.i .i64,.b]]]
@[simp] theorem JJ (e:JC):fits ajY (wT e)=true:=by
 have:=wW e.p;have:=wW e.c;have:=wW e.n;simp_all [wT,fits,kd,rZ,rU,jr]
@[simp] theorem adq (e:JC):PV.beq (wT e) (wT e)=true:=(fH _ _ (JJ e)).beq
end Go.Ab
end D1s
noncomputable section Y1s
namespace Go.Ab
open Go.Ab
structure Fe where
 a0:Nat
 a1:Nat
 a2:Nat
 a3:Nat
 a4:Nat
def Fe.l (a:Fe):List PV:=[.int .u64 a.a0,.int .u64 a.a1,.int .u64 a.a2,.int .u64 a.a3,.int .u64 a.a4]
def iU (a:Fe):PV:= .ar 1 5 a.l
@[simp] theorem Z1 (a:Fe):Pure (iU a):=by simp[iU,Fe.l]
@[simp] theorem ahy (a:Fe):wk (iU a)=iU a:=by simp[iU,Fe.l]
@[simp] theorem V5 (a:Fe):(iU a).width=5:=_root_.id rfl
@[simp] theorem adr (a:Fe):(iU a).isAgg=true:=rfl
@[simp] theorem Z2 (a:Fe):(iU a).bG=true:=rfl
@[simp] theorem Z3 (a:Fe):(iU a).flat=true:=rfl
@[simp↓] theorem ads (g:Bool) (a:Fe) (K:PV->Prop):iv g (iU a) K=K (iU a):=_root_.id rfl
structure Fe.Le (a:Fe) (n:Nat):Prop where
 h0:a.a0≤n
 h1:a.a1≤n
 h2:a.a2≤n
 h3:a.a3≤n
 h4:a.a4≤n
def qK (a:Fe):Fe:=⟨a.a0%2251799813685248+19*(a.a4/2251799813685248),a.a1%2251799813685248+a.a0/2251799813685248,a.a2%2251799813685248+a.a1/2251799813685248,a.a3%2251799813685248+a.a2/2251799813685248,a.a4%2251799813685248+a.a3/2251799813685248⟩
def pE (a b:Fe):Fe:=⟨a.a0+b.a0,a.a1+b.a1,a.a2+b.a2,a.a3+b.a3,a.a4+b.a4⟩
def pe (a b:Fe):Fe:=⟨a.a0+(4503599627370458-b.a0),a.a1+(4503599627370494-b.a1),a.a2+(4503599627370494-b.a2),a.a3+(4503599627370494-b.a3),a.a4+(4503599627370494-b.a4)⟩
theorem pS {n:Nat} (h:n<18446744073709551616):bits .and .u64 (n:Int) 2251799813685247=((n%2251799813685248:Nat):Int):=by
 have h2:(2251799813685247:Nat)=2^51-1:=by decide
 have:=u64_and_nat n 2251799813685247 h (by decide)
 rw[show((2251799813685247:Nat):Int)=2251799813685247 from rfl]at this
 rw[this,h2,Nat.and_two_pow_sub_one_eq_mod]
theorem pg (n:Nat):(n:Int).fdiv 2251799813685248=((n/2251799813685248:Nat):Int):=by
 rw[show(2251799813685248:Int)=((2251799813685248:Nat):Int) from rfl,Int.fdiv_eq_ediv_of_nonneg _ (Int.natCast_nonneg _),←Int.natCast_ediv]
theorem z5:zr 5 (PV.int IntKind.u64 0)=[.int .u64 0,.int .u64 0,.int .u64 0,.int .u64 0,.int .u64 0]:=by rw[iq];rfl
theorem tB {a:Fe} (h:a.Le 18446744073709551615):a8 Pg I.dz [iU a] (iU (qK a)):=by
 refine af.intro T.dz (by simp[F.dz]) ?_
 obtain⟨a0,a1,a2,a3,a4⟩:=a
 obtain⟨h0,h1,h2,h3,h4⟩:=h
 dsimp only at h0 h1 h2 h3 h4
 have n0:=pS (n:=a0) (by omega)
 have n1:=pS (n:=a1) (by omega)
 have n2:=pS (n:=a2) (by omega)
 have n3:=pS (n:=a3) (by omega)
 have n4:=pS (n:=a4) (by omega)
 have s0:=pg a0
 have s1:=pg a1
 have s2:=pg a2
 have s3:=pg a3
 have s4:=pg a4
 simp only[qK]
 have b0:a0%2251799813685248<2251799813685248:=Nat.mod_lt _ (by decide)
 have b1:a1%2251799813685248<2251799813685248:=Nat.mod_lt _ (by decide)
 have b2:a2%2251799813685248<2251799813685248:=Nat.mod_lt _ (by decide)
 have b3:a3%2251799813685248<2251799813685248:=Nat.mod_lt _ (by decide)
 have b4:a4%2251799813685248<2251799813685248:=Nat.mod_lt _ (by decide)
 have d0:a0/2251799813685248≤8192:=by omega
 have d1:a1/2251799813685248≤8192:=by omega
 have d2:a2/2251799813685248≤8192:=by omega
 have d3:a3/2251799813685248≤8192:=by omega
 have d4:a4/2251799813685248≤8192:=by omega
 generalize a0%2251799813685248=r0 at*
 generalize a1%2251799813685248=r1 at*
 generalize a2%2251799813685248=r2 at*
 generalize a3%2251799813685248=r3 at*
 generalize a4%2251799813685248=r4 at*
 generalize a0/2251799813685248=q0 at*
 generalize a1/2251799813685248=q1 at*
 generalize a2/2251799813685248=q2 at*
 generalize a3/2251799813685248=q3 at*
 generalize a4/2251799813685248=q4 at*
 have w4:IntKind.u64.wrap (19*(q4:Int))=19*q4:=wrap_u64 ⟨by omega,by omega⟩
 have v0:IntKind.u64.wrap ((r0:Int)+19*q4)=r0+19*q4:=wrap_u64 ⟨by omega,by omega⟩
 have v1:IntKind.u64.wrap ((r1:Int)+q0)=r1+q0:=wrap_u64 ⟨by omega,by omega⟩
 have v2:IntKind.u64.wrap ((r2:Int)+q1)=r2+q1:=wrap_u64 ⟨by omega,by omega⟩
 have v3:IntKind.u64.wrap ((r3:Int)+q2)=r3+q2:=wrap_u64 ⟨by omega,by omega⟩
 have v4:IntKind.u64.wrap ((r4:Int)+q3)=r4+q3:=wrap_u64 ⟨by omega,by omega⟩
 simp[F.dz,ai,aG,iU,Fe.l,z5,show IntKind.u64.bits=64 from rfl,n0,n1,n2,n3,n4,s0,s1,s2,s3,s4,w4,v0,v1,v2,v3,v4]
 refine aC.plain [.keep [2],.dr 1] ?_
 simp
def GH (c a:Fe) (i:Nat):List PV:=c.l.take i++a.l.drop i
theorem JK {a b:Fe} (ha:a.Le 9223372036854775807) (hb:b.Le 9223372036854775807):a8 Pg I.dG [iU a,iU b] (iU (pE a b)):=by
 refine af.intro T.dG (by simp[F.dG]) ?_
 obtain⟨a0,a1,a2,a3,a4⟩:=a
 obtain⟨b0,b1,b2,b3,b4⟩:=b
 obtain⟨h0,h1,h2,h3,h4⟩:=ha
 obtain⟨g0,g1,g2,g3,g4⟩:=hb
 dsimp only at h0 h1 h2 h3 h4 g0 g1 g2 g3 g4
 have v0:IntKind.u64.wrap ((a0:Int)+b0)=a0+b0:=wrap_u64 ⟨by omega,by omega⟩
 have v1:IntKind.u64.wrap ((a1:Int)+b1)=a1+b1:=wrap_u64 ⟨by omega,by omega⟩
 have v2:IntKind.u64.wrap ((a2:Int)+b2)=a2+b2:=wrap_u64 ⟨by omega,by omega⟩
 have v3:IntKind.u64.wrap ((a3:Int)+b3)=a3+b3:=wrap_u64 ⟨by omega,by omega⟩
 have v4:IntKind.u64.wrap ((a4:Int)+b4)=a4+b4:=wrap_u64 ⟨by omega,by omega⟩
 simp[F.dG,ai,aG,iU,Fe.l,pE]
 refine gR.iw 5 (λ_=>True) [2,3,4,6] (λi=>[(6,.int .i64 i)]) (λi=>[(2,.box (.ar 1 5 (GH (pE ⟨a0,a1,a2,a3,a4⟩ ⟨b0,b1,b2,b3,b4⟩) ⟨a0,a1,a2,a3,a4⟩ i)))]) [.keep [2,3,4,6]] ?_
 simp[GH,Fe.l,pE]
 refine⟨λi hi K hK=> ?_,λK=> ?_⟩
 ·rcases(by omega:i=0∨i=1∨i=2∨i=3∨i=4)with rfl|rfl|rfl|rfl|rfl
  all_goals
   simp[↓an,v0,v1,v2,v3,v4]at hK⊢
   refine⟨[.keep [2,3,4,6]],?_⟩
   simp
   exact hK _ (by simp)
 ·simp[↓an]
  refine aC.plain [.keep [4],.dr 2,.dr 3] ?_
  simp
theorem JL {a b:Fe} (ha:a.Le 9223372036854775807) (hb:b.Le 4503599627370458):a8 Pg I.dH [iU a,iU b] (iU (pe a b)):=by
 refine af.intro T.dH (by simp[F.dH]) ?_
 obtain⟨a0,a1,a2,a3,a4⟩:=a
 obtain⟨b0,b1,b2,b3,b4⟩:=b
 obtain⟨h0,h1,h2,h3,h4⟩:=ha
 obtain⟨g0,g1,g2,g3,g4⟩:=hb
 dsimp only at h0 h1 h2 h3 h4 g0 g1 g2 g3 g4
 have u0:IntKind.u64.wrap (4503599627370458-(b0:Int))=((4503599627370458-b0:Nat):Int):=by rw[wrap_u64 ⟨by omega,by omega⟩];omega
 have u1:IntKind.u64.wrap (4503599627370494-(b1:Int))=((4503599627370494-b1:Nat):Int):=by rw[wrap_u64 ⟨by omega,by omega⟩];omega
 have u2:IntKind.u64.wrap (4503599627370494-(b2:Int))=((4503599627370494-b2:Nat):Int):=by rw[wrap_u64 ⟨by omega,by omega⟩];omega
 have u3:IntKind.u64.wrap (4503599627370494-(b3:Int))=((4503599627370494-b3:Nat):Int):=by rw[wrap_u64 ⟨by omega,by omega⟩];omega
 have u4:IntKind.u64.wrap (4503599627370494-(b4:Int))=((4503599627370494-b4:Nat):Int):=by rw[wrap_u64 ⟨by omega,by omega⟩];omega
 have e:pe ⟨a0,a1,a2,a3,a4⟩ ⟨b0,b1,b2,b3,b4⟩=⟨a0+(4503599627370458-b0),a1+(4503599627370494-b1),a2+(4503599627370494-b2),a3+(4503599627370494-b3),a4+(4503599627370494-b4)⟩:=rfl
 rw[e]
 have l0:4503599627370458-b0≤4503599627370458:=Nat.sub_le _ _
 have l1:4503599627370494-b1≤4503599627370494:=Nat.sub_le _ _
 have l2:4503599627370494-b2≤4503599627370494:=Nat.sub_le _ _
 have l3:4503599627370494-b3≤4503599627370494:=Nat.sub_le _ _
 have l4:4503599627370494-b4≤4503599627370494:=Nat.sub_le _ _
 clear e
 generalize 4503599627370458-b0=c0 at*
 generalize 4503599627370494-b1=c1 at*
 generalize 4503599627370494-b2=c2 at*
 generalize 4503599627370494-b3=c3 at*
 generalize 4503599627370494-b4=c4 at*
 have v0:IntKind.u64.wrap ((a0:Int)+c0)=a0+c0:=wrap_u64 ⟨by omega,by omega⟩
 have v1:IntKind.u64.wrap ((a1:Int)+c1)=a1+c1:=wrap_u64 ⟨by omega,by omega⟩
 have v2:IntKind.u64.wrap ((a2:Int)+c2)=a2+c2:=wrap_u64 ⟨by omega,by omega⟩
 have v3:IntKind.u64.wrap ((a3:Int)+c3)=a3+c3:=wrap_u64 ⟨by omega,by omega⟩
 have v4:IntKind.u64.wrap ((a4:Int)+c4)=a4+c4:=wrap_u64 ⟨by omega,by omega⟩
 simp[F.dH,ai,aG,iU,Fe.l,u0,v0]
 refine gR.iw 4 (λ_=>True) [2,3,4,5] (λi=>[(5,.int .i64 ((i+1:Nat):Int))]) (λi=>[(2,.box (.ar 1 5 (GH ⟨a0+c0,a1+c1,a2+c2,a3+c3,a4+c4⟩ ⟨a0+c0,a1,a2,a3,a4⟩ (i+1))))]) [.keep [2,3,4,5]] ?_
 simp[GH,Fe.l]
 refine⟨λi hi K hK=> ?_,λK=> ?_⟩
 ·rcases(by omega:i=0∨i=1∨i=2∨i=3)with rfl|rfl|rfl|rfl
  all_goals
   simp[↓an,u1,u2,u3,u4,v1,v2,v3,v4]at hK⊢
   refine⟨[.keep [2,3,4,5]],?_⟩
   simp
   exact hK _ (by simp)
 ·simp[↓an]
  refine aC.plain [.keep [4],.dr 2,.dr 3] ?_
  simp
end Go.Ab
end Y1s
noncomputable section Y2s
namespace Go.Ab
open Go.Ab
theorem gp.three {Γ:Cx} {k:IntKind} {x y c:Int} {vs:List Value} (h:gp Γ [.int k x,.int k y,.int k c] vs):vs=[.int k x,.int k y,.int k c]:=by
 match vs,h with
 |
  [a,b,d],h=>
  simp only[gp]at h
  rw[h.1.int,h.2.1.int,h.2.2.1.int]
 |[],h=>simp[gp]at h
 |[_],h=>simp[gp]at h
 |[_,_],h=>simp[gp]at h
 |_::_::_::_::_,h=>simp[gp]at h
theorem a8.pair {f:FuncId} {x y c a b:Int} (h:∀w,(callFunc f #[.int .u64 x,.int .u64 y,.int .u64 c]).run Pg w= .ok (.value (.tuple #[.int .u64 a,.int .u64 b])) w):
  a8 Pg f [.int .u64 x,.int .u64 y,.int .u64 c] (.tup [.int .u64 a,.int .u64 b]):=by
 intro Γ w vs hw hm lj hA
 rw[hA.three]
 exact .inr ⟨_,w,h w,_,_,[],Γ,rfl,⟨rfl,rfl⟩,hw,hm,lj,⟨[.int .u64 a,.int .u64 b],rfl,.int _ _ .nil,.int _ _ .nil,trivial⟩,Le.refl Γ,WF.refl w⟩
theorem As (x y c:Nat) (hc:c≤1):
  a8 Pg I.lW [.int .u64 x,.int .u64 y,.int .u64 c] (.tup [.int .u64 (((x+y+c)%18446744073709551616:Nat):Int),.int .u64 (((x+y+c)/18446744073709551616:Nat):Int)]):=by
 refine a8.pair λw=> ?_
 rw[run_callFunc_extern (fn:=(Pg.funcs[I.lW]?).getD default) (by kernel_rfl) (by kernel_rfl) (by kernel_rfl) (by kernel_rfl) (e:=add64Entry) (by kernel_rfl),run_add64 x y c (by omega) (by omega) (by omega) (by omega)]
 congr 3
def HT (x y:Int):Int:=IntKind.u64.wrap
    (IntKind.u64.wrap
      (IntKind.u64.wrap (x.fdiv (2^min 32 IntKind.u64.bits)*y.fdiv (2^min 32 IntKind.u64.bits))+
       (IntKind.u64.wrap
          (IntKind.u64.wrap (x.fdiv (2^min 32 IntKind.u64.bits)*bits BinOp.and IntKind.u64 y 4294967295)+
           (IntKind.u64.wrap
              (bits BinOp.and IntKind.u64 x 4294967295*bits BinOp.and IntKind.u64 y 4294967295)).fdiv
            (2^min 32 IntKind.u64.bits))).fdiv
        (2^min 32 IntKind.u64.bits))+
     (IntKind.u64.wrap
        (bits BinOp.and IntKind.u64
          (IntKind.u64.wrap
           (IntKind.u64.wrap
             (x.fdiv (2^min 32 IntKind.u64.bits)*bits BinOp.and IntKind.u64 y 4294967295)+
            (IntKind.u64.wrap
               (bits BinOp.and IntKind.u64 x 4294967295*bits BinOp.and IntKind.u64 y 4294967295)).fdiv
             (2^min 32 IntKind.u64.bits)))
          4294967295+
         IntKind.u64.wrap
          (bits BinOp.and IntKind.u64 x 4294967295*y.fdiv (2^min 32 IntKind.u64.bits)))).fdiv
      (2^min 32 IntKind.u64.bits))
theorem Me {n:Nat} (h:n<18446744073709551616):bits .and .u64 (n:Int) 4294967295=((n%4294967296:Nat):Int):=by
 have h2:(4294967295:Nat)=2^32-1:=by decide
 have:=u64_and_nat n 4294967295 h (by decide)
 rw[show((4294967295:Nat):Int)=4294967295 from rfl]at this
 rw[this,h2,Nat.and_two_pow_sub_one_eq_mod]
theorem EH (n:Nat):(n:Int).fdiv (2^min 32 IntKind.u64.bits)=((n/4294967296:Nat):Int):=by
 rw[show((2:Int)^min 32 IntKind.u64.bits)=((4294967296:Nat):Int) from rfl,Int.fdiv_eq_ediv_of_nonneg _ (Int.natCast_nonneg _),←Int.natCast_ediv]
theorem rC {n:Nat} (h:n<18446744073709551616):IntKind.u64.wrap (n:Int)=n:=wrap_u64 ⟨by omega,by omega⟩
theorem ajZ (p q r s:Nat):(p*4294967296+q)*(r*4294967296+s)=p*r*18446744073709551616+(p*s+q*r)*4294967296+q*s:=by
 have h1:p*4294967296*(r*4294967296)=p*r*18446744073709551616:=by rw[Nat.mul_mul_mul_comm]
 have h2:p*4294967296*s=p*s*4294967296:=Nat.mul_right_comm _ _ _
 have h3:q*(r*4294967296)=q*r*4294967296:=(Nat.mul_assoc _ _ _).symm
 rw[Nat.add_mul,Nat.mul_add,Nat.mul_add,h1,h2,h3]
 omega
theorem Mf {x y:Nat} (hx:x<18446744073709551616) (hy:y<18446744073709551616):HT x y=((x*y/18446744073709551616:Nat):Int):=by
 unfold HT
 rw[Me hx,Me hy,EH x,EH y]
 have ex:x=x/4294967296*4294967296+x%4294967296:=by omega
 have ey:y=y/4294967296*4294967296+y%4294967296:=by omega
 have a1:x/4294967296≤4294967295:=by omega
 have a0:x%4294967296≤4294967295:=by omega
 have b1:y/4294967296≤4294967295:=by omega
 have b0:y%4294967296≤4294967295:=by omega
 have e:x*y=x/4294967296*(y/4294967296)*18446744073709551616+(x/4294967296*(y%4294967296)+x%4294967296*(y/4294967296))*4294967296+x%4294967296*(y%4294967296):=by
  have:=ajZ (x/4294967296) (x%4294967296) (y/4294967296) (y%4294967296)
  rw[←ex,←ey]at this
  exact this
 have p11:x/4294967296*(y/4294967296)≤4294967295*4294967295:=Nat.mul_le_mul a1 b1
 have p10:x/4294967296*(y%4294967296)≤4294967295*4294967295:=Nat.mul_le_mul a1 b0
 have p01:x%4294967296*(y/4294967296)≤4294967295*4294967295:=Nat.mul_le_mul a0 b1
 have p00:x%4294967296*(y%4294967296)≤4294967295*4294967295:=Nat.mul_le_mul a0 b0
 simp only[←Int.natCast_mul]
 rw[e]
 generalize x/4294967296*(y/4294967296)=m11 at*
 generalize x/4294967296*(y%4294967296)=m10 at*
 generalize x%4294967296*(y/4294967296)=m01 at*
 generalize x%4294967296*(y%4294967296)=m00 at*
 clear e ex ey a1 a0 b1 b0
 have t0:m10+m00/4294967296<18446744073709551616:=by omega
 have t1:(m10+m00/4294967296)%4294967296+m01<18446744073709551616:=by omega
 rw[rC (by omega:m11<_),rC (by omega:m10<_),rC (by omega:m00<_),rC (by omega:m01<_),EH m00,←Int.natCast_add,rC t0,Me t0,EH,←Int.natCast_add,←Int.natCast_add,rC t1,EH,rC (by omega),←Int.natCast_add,rC (by omega)]
 omega
theorem EI (x y:Int):a8 Pg I.fB [.int .u64 x,.int .u64 y] (.tup [.int .u64 (HT x y),.int .u64 (IntKind.u64.wrap (x*y))]):=by
 refine af.intro T.fB (by simp[F.fB]) ?_
 simp[F.fB,ai,aG]
 refine aC.plain [] ?_
 simp[HT]
theorem wrN (n:Nat):IntKind.u64.wrap (n:Int)=((n%18446744073709551616:Nat):Int):=by
 simp[IntKind.wrap,IntKind.bits,IntKind.signed]
theorem bits_Mul64 {x y:Nat} (hx:x<18446744073709551616) (hy:y<18446744073709551616):a8 Pg I.fB [.int .u64 x,.int .u64 y] (.tup [.int .u64 ((x*y/18446744073709551616:Nat):Int),.int .u64 ((x*y%18446744073709551616:Nat):Int)]):=by
 have h:=EI x y
 rw[Mf hx hy,←Int.natCast_mul,wrN]at h
 exact h
def lu (n:Nat):PV:= .st 2 [.int .u64 ((n/18446744073709551616:Nat):Int),.int .u64 ((n%18446744073709551616:Nat):Int)]
@[simp] theorem V6 (n:Nat):Pure (lu n):=by simp[lu]
@[simp] theorem adt (n:Nat):wk (lu n)=lu n:=by simp[lu]
theorem At {w a b:Nat} (ha:a<18446744073709551616) (hb:b<18446744073709551616) (h:w+a*b<340282366920938463463374607431768211456):a8 Pg I.fC [lu w,.int .u64 a,.int .u64 b] (lu (w+a*b)):=by
 refine af.intro T.fC (by simp[F.fC]) ?_
 have hm:=bits_Mul64 ha hb
 have e:lu (w+a*b)= .st 2 [.int .u64 (((a*b/18446744073709551616+w/18446744073709551616+(a*b%18446744073709551616+w%18446744073709551616+0)/18446744073709551616)%18446744073709551616:Nat):Int),.int .u64 (((a*b%18446744073709551616+w%18446744073709551616+0)%18446744073709551616:Nat):Int)]:=by
  have e1:(w+a*b)/18446744073709551616=(a*b/18446744073709551616+w/18446744073709551616+(a*b%18446744073709551616+w%18446744073709551616+0)/18446744073709551616)%18446744073709551616:=by
   generalize a*b=t at*
   omega
  have e2:(w+a*b)%18446744073709551616=(a*b%18446744073709551616+w%18446744073709551616+0)%18446744073709551616:=by
   generalize a*b=t at*
   omega
  rw[lu,e1,e2]
 rw[e]
 have hc:(a*b%18446744073709551616+w%18446744073709551616+0)/18446744073709551616≤1:=by omega
 have k1:=As (a*b%18446744073709551616) (w%18446744073709551616) 0 (by omega)
 have k2:=As (a*b/18446744073709551616) (w/18446744073709551616) _ hc
 unfold lu
 clear e h
 generalize a*b/18446744073709551616=m1 at*
 generalize a*b%18446744073709551616=m0 at*
 generalize w/18446744073709551616=w1 at*
 generalize w%18446744073709551616=w0 at*
 generalize (m0+w0+0)/18446744073709551616=c at*
 generalize (m0+w0+0)%18446744073709551616=lo at*
 generalize (m1+w1+c)%18446744073709551616=hi at*
 generalize (m1+w1+c)/18446744073709551616=c2 at*
 simp[F.fC,ai,aG]
 refine al.ret hm (by simp) (by simp) (by simp) ?_
 simp
 refine al.ret k1 (by simp) (by simp) (by simp) ?_
 simp
 refine al.ret k2 (by simp) (by simp) (by simp) ?_
 simp
 refine aC.plain [.keep [6],.dr 3] ?_
 simp
end Go.Ab
end Y2s
noncomputable section Y3s
namespace Go.Ab
open Go.Ab
def Fe.n (a:Fe):List Nat:=[a.a0,a.a1,a.a2,a.a3,a.a4]
theorem Fe.adu (a:Fe):a.n.length=5:=rfl
theorem Fe.HU (a:Fe):iU a= .ar 1 5 (a.n.map λx:Nat=>PV.int .u64 x):=rfl
theorem Fe.Le.Mg {a:Fe} {m:Nat} (h:a.Le m) {i:Nat} (hi:i<5):∃x,a.n[i]? =some x∧x≤m:=by
 rcases(by omega:i=0∨i=1∨i=2∨i=3∨i=4)with rfl|rfl|rfl|rfl|rfl
 ·exact⟨_,rfl,h.h0⟩
 ·exact⟨_,rfl,h.h1⟩
 ·exact⟨_,rfl,h.h2⟩
 ·exact⟨_,rfl,h.h3⟩
 ·exact⟨_,rfl,h.h4⟩
def Oi (x y i j:Nat) (S:List Nat):List Nat:=if i+j<5 then S.set (i+j) (S.getD (i+j) 0+x*y)else S.set (i+j-5) (S.getD (i+j-5) 0+19*x*y)
def C3 (b:Fe) (x i:Nat):Nat->List Nat->List Nat
 |0,S=>S
 |j+1,S=>Oi x (b.n.getD j 0) i j (C3 b x i j S)
def tk (a b:Fe):Nat->List Nat
 |0=>[0,0,0,0,0]
 |i+1=>C3 b (a.n.getD i 0) i 5 (tk a b i)
structure FM (S:List Nat) (m:Nat):Prop where
 len:S.length=5
 le:∀s∈S,s≤m
theorem FM.get {S:List Nat} {m:Nat} (h:FM S m) {k:Nat} (hk:k<5):∃s,S[k]? =some s∧s≤m:=by
 have IG:k<S.length:=by have:=h.len;omega
 exact⟨S[k],gJ IG,h.le _ (List.getElem_mem IG)⟩
theorem FM.Oi {S:List Nat} {m n x y i j:Nat} (h:FM S m) (Hb:19*x*y≤n):FM (Oi x y i j S) (m+n):=by
 have alu:x*y≤n:=by
  refine Nat.le_trans ?_ Hb
  rw[Nat.mul_assoc]
  omega
 have key:∀k v,v≤n->FM (S.set k (S.getD k 0+v)) (m+n):=by
  intro k v hv
  refine⟨by rw[List.length_set];exact h.len,λs hs=> ?_⟩
  rcases List.mem_or_eq_of_mem_set hs with hs|rfl
  ·have:=h.le s hs;omega
  ·have:S.getD k 0≤m:=by
    rw[List.getD_eq_getElem?_getD]
    cases hk:S[k]?with
    |none=>simp
    |some s=>simpa using h.le s (List.mem_of_getElem? hk)
   omega
 unfold Go.Ab.Oi
 split
 ·exact key _ _ alu
 ·exact key _ _ Hb
theorem Fe.Le.HV {a:Fe} {m:Nat} (h:a.Le m) (i:Nat):a.n.getD i 0≤m:=by
 rw[List.getD_eq_getElem?_getD]
 by_cases hi:i<5
 ·obtain⟨x,hx,hle⟩:=Fe.Le.Mg h hi
  rw[hx];exact hle
 ·rw[List.getElem?_eq_none (by rw[Fe.adu];omega)];simp
theorem FM.row {S:List Nat} {b:Fe} {m c x i:Nat} (h:FM S m) (hb:b.Le c) (j:Nat):FM (C3 b x i j S) (m+j*(19*x*c)):=by
 induction j with
 |zero=>simpa[C3]using h
 |
  succ j ih=>
  have:=ih.Oi (n:=19*x*c) (x:=x) (y:=b.n.getD j 0) (i:=i) (j:=j) (Nat.mul_le_mul_left _ (hb.HV j))
  rw[Nat.add_one_mul,←Nat.add_assoc]
  exact this
theorem FM.sum {a b:Fe} {ca cb:Nat} (ha:a.Le ca) (hb:b.Le cb) (i:Nat):FM (tk a b i) (i*(5*(19*ca*cb))):=by
 induction i with
 |zero=>exact⟨rfl,by simp[tk]⟩
 |
  succ i ih=>
  have h:=ih.row (x:=a.n.getD i 0) (i:=i) hb 5
  refine⟨h.len,λs hs=>Nat.le_trans (h.le s hs) ?_⟩
  have:19*a.n.getD i 0*cb≤19*ca*cb:=Nat.mul_le_mul_right _ (Nat.mul_le_mul_left _ (ha.HV i))
  rw[Nat.add_one_mul i (5*(19*ca*cb))]
  generalize i*(5*(19*ca*cb))=q
  omega
def C4 (S:List Nat):Fe:=⟨S.getD 0 0%2251799813685248+19*(S.getD 4 0/2251799813685248),S.getD 1 0%2251799813685248+S.getD 0 0/2251799813685248,S.getD 2 0%2251799813685248+S.getD 1 0/2251799813685248,S.getD 3 0%2251799813685248+S.getD 2 0/2251799813685248,S.getD 4 0%2251799813685248+S.getD 3 0/2251799813685248⟩
def iE (a b:Fe):Fe:=qK (C4 (tk a b 5))
@[simp] theorem Tl (n:Nat):(lu n).width=2:=_root_.id rfl
@[simp] theorem Z4 (n:Nat):(lu n).isAgg=true:=rfl
@[simp] theorem V7 (n:Nat):(lu n).bG=true:=rfl
@[simp] theorem V8 (n:Nat):(lu n).flat=true:=rfl
@[simp↓] theorem Z5 (g:Bool) (n:Nat) (K:PV->Prop):iv g (lu n) K=K (lu n):=_root_.id rfl
def Z6 (n:Nat):Int:=((n%18446744073709551616:Nat):Int)
def hiN (n:Nat):Int:=((n/18446744073709551616:Nat):Int)
@[simp↓] theorem Qy (n:Nat) (r:List Step):aX (lu n) (.f 0 0::r)=aX (.int .u64 (hiN n)) r:=by simp[lu,hiN,av]
@[simp↓] theorem Qz (n:Nat) (r:List Step):aX (lu n) (.f 1 1::r)=aX (.int .u64 (Z6 n)) r:=by simp[lu,Z6,av]
theorem Mh (n:Nat):bits .and .u64 (Z6 n) 2251799813685247=((n%2251799813685248:Nat):Int):=by
 unfold Z6
 rw[pS (Nat.mod_lt _ (by decide)),Nat.mod_mod_of_dvd _ (by decide)]
theorem Mi {n:Nat} (h:n<41538374868278621028243970633760768):bits .or .u64 (IntKind.u64.wrap (hiN n*8192)) ((Z6 n).fdiv 2251799813685248)=((n/2251799813685248:Nat):Int):=by
 unfold hiN Z6
 have h1:n/18446744073709551616*8192<18446744073709551616:=by omega
 have e1:IntKind.u64.wrap (((n/18446744073709551616:Nat):Int)*8192)=((n/18446744073709551616*8192:Nat):Int):=by
  rw[show((n/18446744073709551616:Nat):Int)*8192=((n/18446744073709551616*8192:Nat):Int) by simp]
  exact rC h1
 have h2:n%18446744073709551616/2251799813685248<8192:=by omega
 have h3:n/18446744073709551616*8192%2^13=0:=Nat.mul_mod_left _ _
 rw[e1,pg,u64_or_nat _ _ h1 (by omega),nat_join 13 _ _ h3 h2]
 congr 1
 omega
def HW (S:List Nat):PV:= .ar 2 5 (S.map lu)
def pj:Nat:=9007199254740992
theorem QA:33*(19*pj*pj)<340282366920938463463374607431768211456:=by decide
theorem V9:19*pj<18446744073709551616:=by decide
theorem FM.big {R:List Nat} {i j x:Nat} (h:FM R (i*(5*(19*pj*pj))+j*(19*x*pj))) (hi:i<5) (hj:j<5) (hx:x≤pj):FM R (32*(19*pj*pj)):=by
 refine⟨h.len,λs hs=>Nat.le_trans (h.le s hs) ?_⟩
 have Hb:19*x*pj≤19*pj*pj:=Nat.mul_le_mul_right _ (Nat.mul_le_mul_left _ hx)
 have h1:i*(5*(19*pj*pj))≤4*(5*(19*pj*pj)):=Nat.mul_le_mul_right _ (by omega)
 have h2:j*(19*x*pj)≤4*(19*pj*pj):=Nat.mul_le_mul (by omega) Hb
 generalize i*(5*(19*pj*pj))=u at*
 generalize j*(19*x*pj)=v at*
 generalize 19*pj*pj=w at*
 omega
theorem Mj (a b:Fe):tk a b 5=[0+a.a0*b.a0+19*a.a1*b.a4+19*a.a2*b.a3+19*a.a3*b.a2+19*a.a4*b.a1,
  0+a.a0*b.a1+a.a1*b.a0+19*a.a2*b.a4+19*a.a3*b.a3+19*a.a4*b.a2,
  0+a.a0*b.a2+a.a1*b.a1+a.a2*b.a0+19*a.a3*b.a4+19*a.a4*b.a3,
  0+a.a0*b.a3+a.a1*b.a2+a.a2*b.a1+a.a3*b.a0+19*a.a4*b.a4,
  0+a.a0*b.a4+a.a1*b.a3+a.a2*b.a2+a.a3*b.a1+a.a4*b.a0]:=by
 simp[tk,C3,Oi,Fe.n]
theorem Tn:5*(5*(19*pj*pj))<38536578246938173805499777443430401:=by decide
theorem adv {a b:Fe} (ha:a.Le pj) (hb:b.Le pj) {s:Nat} (h:(tk a b 5)[4]? =some s):s/2251799813685248≤180143985094819840:=by
 rw[Mj]at h
 obtain rfl:=Option.some.inj h
 have h1:=Nat.mul_le_mul ha.h0 hb.h4
 have h2:=Nat.mul_le_mul ha.h1 hb.h3
 have h3:=Nat.mul_le_mul ha.h2 hb.h2
 have h4:=Nat.mul_le_mul ha.h3 hb.h1
 have h5:=Nat.mul_le_mul ha.h4 hb.h0
 have hC:pj*pj=81129638414606681695789005144064:=by decide
 rw[hC]at h1 h2 h3 h4 h5
 generalize a.a0*b.a4=t1 at*
 generalize a.a1*b.a3=t2 at*
 generalize a.a2*b.a2=t3 at*
 generalize a.a3*b.a1=t4 at*
 generalize a.a4*b.a0=t5 at*
 show(0+t1+t2+t3+t4+t5)/2251799813685248≤_
 omega
theorem dW {a b:Fe} (ha:a.Le pj) (hb:b.Le pj):a8 Pg I.bI [iU a,iU b] (iU (iE a b)):=by
 refine af.intro T.bI (by simp[F.bI]) ?_
 have zw:zr 5 (PV.st 2 [.int .u64 0,.int .u64 0])=(tk a b 0).map lu:=by rw[iq];rfl
 have hS0:=λi=>FM.sum ha hb i
 have R3:=QA
 have h64:=V9
 simp[F.bI,ai,aG,Fe.HU,zw]
 refine gR.iw 5 (λ_=>True) [2,3,4,5,14,15] (λi=>[(15,.int .i64 i)]) (λi=>[(5,.box (HW (tk a b i)))]) [.keep [2,3,4,5,14,15]] ?_
 simp[HW]
 refine⟨λi hi K hK=> ?_,λK=> ?_⟩
 ·obtain⟨x,hx,hxl⟩:=ha.Mg hi
  have hxd:a.n.getD i 0=x:=by rw[List.getD_eq_getElem?_getD,hx];rfl
  have hi5:(i:Int)<5:=by omega
  simp only[tk,hxd]at hK
  have hS:=hS0 i
  generalize tk a b i=S at*
  simp[↓an,hx,hi,hi5,-getElem?_pos]
  refine gR.iw 5 (λ_=>True) [2,3,4,5,6,7,14,15,19,20] (λj=>[(20,.int .i64 j)]) (λj=>[(5,.box (HW (C3 b x i j S)))]) [.keep [2,3,4,5,6,7,14,15,19,20]] ?_
  simp[HW,C3]
  refine⟨λj hj K2 nn=> ?_,λK2=> ?_⟩
  ·obtain⟨y,hy,hyl⟩:=hb.Mg hj
   have hj5:(j:Int)<5:=by omega
   have hR:=(hS.row (x:=x) (i:=i) hb j).big hi hj hxl
   have R4:x*y≤pj*pj:=Nat.mul_le_mul hxl hyl
   have qo:19*x*y≤19*pj*pj:=Nat.mul_le_mul (Nat.mul_le_mul_left _ hxl) hyl
   have hp3:x*y≤19*x*y:=by rw[Nat.mul_assoc];omega
   have ao7:19*x<18446744073709551616:=Nat.lt_of_le_of_lt (Nat.mul_le_mul_left _ hxl) h64
   have afw:y<18446744073709551616:=by omega
   have hw:IntKind.i64.wrap ((i:Int)+j)=((i+j:Nat):Int):=by rw[wrap_i64 (by omega)];omega
   have xu:IntKind.i64.wrap ((j:Int)+1)=(j:Int)+1:=wrap_i64 (by omega)
   rw[hy]at nn
   generalize C3 b x i j S=R at*
   have T6:(Option.some y).getD 0=y:=rfl
   rw[T6]at nn
   clear hS0 hS hK R4
   generalize 19*pj*pj=c at*
   by_cases Co:i+j<5
   ·obtain⟨s,hs,Ks⟩:=hR.get Co
    have rT:Oi x y i j R=R.set (i+j) (s+x*y):=by
     unfold Oi;rw[if_pos Co,List.getD_eq_getElem?_getD,hs];rfl
    have R5:((i+j:Nat):Int)<5:=by omega
    have hc:=At (w:=s) (a:=x) (b:=y) (by omega) afw (by omega)
    rw[rT,List.map_set]at nn
    simp[↓an,hy,hj,hj5,hw,xu,Co,R5,hs,-getElem?_pos,-Int.natCast_add]
    refine al.ret hc (by simp) (by simp) (by simp) ?_
    simp[hs,Co,xu,-getElem?_pos,-Int.natCast_add]
    refine⟨R5,[.keep [2,3,4,5,6,7,14,15,19,20]],?_⟩
    simp
    exact nn _ (by simp)
   ·have hk:i+j-5<5:=by omega
    obtain⟨s,hs,Ks⟩:=hR.get hk
    have rT:Oi x y i j R=R.set (i+j-5) (s+19*x*y):=by
     unfold Oi;rw[if_neg Co,List.getD_eq_getElem?_getD,hs];rfl
    have R5:¬((i+j:Nat):Int)<5:=by omega
    have hw5:IntKind.i64.wrap (((i+j:Nat):Int)-5)=((i+j-5:Nat):Int):=by rw[wrap_i64 (by omega)];omega
    have alv:IntKind.u64.wrap (19*(x:Int))=((19*x:Nat):Int):=by rw[wrap_u64 ⟨by omega,by omega⟩];omega
    have hc:=At (w:=s) (a:=19*x) (b:=y) (by omega) afw (by omega)
    rw[rT,List.map_set]at nn
    generalize 19*x*y=t at*
    generalize 19*x=x19 at*
    generalize i+j-5=k at*
    have hk5:(k:Int)<5:=by omega
    simp[↓an,hy,hj,hj5,hw,xu,Co,R5,hk,hk5,hw5,alv,hs,-getElem?_pos,-Int.natCast_add]
    refine al.ret hc (by simp) (by simp) (by simp) ?_
    simp[hs,hk,xu,-getElem?_pos,-Int.natCast_add]
    refine⟨hk5,[.keep [2,3,4,5,6,7,14,15,19,20]],?_⟩
    simp
    exact nn _ (by simp)
  ·have xu:IntKind.i64.wrap ((i:Int)+1)=(i:Int)+1:=wrap_i64 (by omega)
   simp[↓an,xu]
   refine⟨[.keep [2,3,4,5,14,15]],?_⟩
   simp
   exact hK _ (by simp[C3])
 ·have hS5:=hS0 5
  have hm:iE a b=qK (C4 (tk a b 5)):=rfl
  rw[←Fe.HU,←Fe.HU,←Fe.HU,hm]
  have hq4:=λs=> @adv a b ha hb s
  generalize tk a b 5=S at*
  obtain⟨hl,hle⟩:=hS5
  match S,hl with
  |[s0,s1,s2,s3,s4],_=>
  have Kv:=Tn
  have g0:=Nat.lt_of_le_of_lt (hle s0 (by simp)) Kv
  have g1:=Nat.lt_of_le_of_lt (hle s1 (by simp)) Kv
  have g2:=Nat.lt_of_le_of_lt (hle s2 (by simp)) Kv
  have g3:=Nat.lt_of_le_of_lt (hle s3 (by simp)) Kv
  have g4:=Nat.lt_of_le_of_lt (hle s4 (by simp)) Kv
  have q4b:=hq4 s4 rfl
  have l0:=Mh s0
  have l1:=Mh s1
  have l2:=Mh s2
  have l3:=Mh s3
  have l4:=Mh s4
  have u0:=Mi (n:=s0) (by omega)
  have u1:=Mi (n:=s1) (by omega)
  have u2:=Mi (n:=s2) (by omega)
  have u3:=Mi (n:=s3) (by omega)
  have u4:=Mi (n:=s4) (by omega)
  have Ka:C4 [s0,s1,s2,s3,s4]=⟨s0%2251799813685248+19*(s4/2251799813685248),s1%2251799813685248+s0/2251799813685248,s2%2251799813685248+s1/2251799813685248,s3%2251799813685248+s2/2251799813685248,s4%2251799813685248+s3/2251799813685248⟩:=rfl
  rw[Ka]
  have b0:s0%2251799813685248<2251799813685248:=Nat.mod_lt _ (by decide)
  have b1:s1%2251799813685248<2251799813685248:=Nat.mod_lt _ (by decide)
  have b2:s2%2251799813685248<2251799813685248:=Nat.mod_lt _ (by decide)
  have b3:s3%2251799813685248<2251799813685248:=Nat.mod_lt _ (by decide)
  have b4:s4%2251799813685248<2251799813685248:=Nat.mod_lt _ (by decide)
  have d0:s0/2251799813685248<18446744073709551616-2251799813685248:=by omega
  have d1:s1/2251799813685248<18446744073709551616-2251799813685248:=by omega
  have d2:s2/2251799813685248<18446744073709551616-2251799813685248:=by omega
  have d3:s3/2251799813685248<18446744073709551616-2251799813685248:=by omega
  clear hq4 hle g0 g1 g2 g3 g4 Ka Kv hm hS0
  generalize s0%2251799813685248=r0 at*
  generalize s1%2251799813685248=r1 at*
  generalize s2%2251799813685248=r2 at*
  generalize s3%2251799813685248=r3 at*
  generalize s4%2251799813685248=r4 at*
  generalize s0/2251799813685248=q0 at*
  generalize s1/2251799813685248=q1 at*
  generalize s2/2251799813685248=q2 at*
  generalize s3/2251799813685248=q3 at*
  generalize s4/2251799813685248=q4 at*
  have w19:IntKind.u64.wrap (19*(q4:Int))=19*q4:=wrap_u64 ⟨by omega,by omega⟩
  have v0:IntKind.u64.wrap ((r0:Int)+19*q4)=r0+19*q4:=wrap_u64 ⟨by omega,by omega⟩
  have v1:IntKind.u64.wrap ((r1:Int)+q0)=r1+q0:=wrap_u64 ⟨by omega,by omega⟩
  have v2:IntKind.u64.wrap ((r2:Int)+q1)=r2+q1:=wrap_u64 ⟨by omega,by omega⟩
  have v3:IntKind.u64.wrap ((r3:Int)+q2)=r3+q2:=wrap_u64 ⟨by omega,by omega⟩
  have v4:IntKind.u64.wrap ((r4:Int)+q3)=r4+q3:=wrap_u64 ⟨by omega,by omega⟩
  have NL:=tB (a:=⟨r0+19*q4,r1+q0,r2+q1,r3+q2,r4+q3⟩) ⟨by dsimp only;omega,by dsimp only;omega,by dsimp only;omega,by dsimp only;omega,by dsimp only;omega⟩
  have he:iU ⟨r0+19*q4,r1+q0,r2+q1,r3+q2,r4+q3⟩= .ar 1 5 [.int .u64 ((r0:Int)+19*q4),.int .u64 ((r1:Int)+q0),.int .u64 ((r2:Int)+q1),.int .u64 ((r3:Int)+q2),.int .u64 ((r4:Int)+q3)]:=by simp[iU,Fe.l]
  rw[he]at NL
  simp[↓an,z5]
  refine gR.iw 5 (λ_=>True) [2,3,4,10,11,57,58] (λi=>[(58,.int .i64 i)]) (λi=>[(10,.box (.ar 1 5 (GH ⟨r0,r1,r2,r3,r4⟩ ⟨0,0,0,0,0⟩ i))),(11,.box (.ar 1 5 (GH ⟨q0,q1,q2,q3,q4⟩ ⟨0,0,0,0,0⟩ i)))]) [.keep [2,3,4,10,11,57,58],.dr 5] ?_
  simp[GH,Fe.l]
  refine⟨λi hi K hK=> ?_,λK=> ?_⟩
  ·rcases(by omega:i=0∨i=1∨i=2∨i=3∨i=4)with rfl|rfl|rfl|rfl|rfl
   all_goals
    simp[↓an]at hK⊢
    refine oJ.run [10,11] rfl ?_
    simp[l0,l1,l2,l3,l4,u0,u1,u2,u3,u4,show IntKind.u64.bits=64 from rfl]
    refine⟨[.keep [2,3,4,10,11,57,58],.dr 13],?_⟩
    simp
    exact hK _ (by simp)
  ·simp[↓an,w19,v0,v1,v2,v3,v4,z5]
   refine al.ret NL (by simp) (by simp) (by simp) ?_
   simp
   refine aC.plain [.keep [4],.dr 2,.dr 3,.dr 10,.dr 11] ?_
   simp
end Go.Ab
end Y3s
noncomputable section Y4s
namespace Go.Ab
open Go.Ab
def PB:Nat:=2251799813947392
theorem Fe.Le.mono {a:Fe} {m n:Nat} (h:a.Le m) (hn:m≤n):a.Le n:=⟨Nat.le_trans h.h0 hn,Nat.le_trans h.h1 hn,Nat.le_trans h.h2 hn,Nat.le_trans h.h3 hn,Nat.le_trans h.h4 hn⟩
theorem jF:PB≤pj:=by decide
theorem eP {a b:Fe} (ha:a.Le pj) (hb:b.Le pj):(iE a b).Le PB:=by
 have hS5:=FM.sum ha hb 5
 have hq4:=λs=> @adv a b ha hb s
 unfold iE
 generalize tk a b 5=S at*
 obtain⟨hl,hle⟩:=hS5
 match S,hl with
 |[s0,s1,s2,s3,s4],_=>
 have Kv:=Tn
 have g0:=Nat.lt_of_le_of_lt (hle s0 (by simp)) Kv
 have g1:=Nat.lt_of_le_of_lt (hle s1 (by simp)) Kv
 have g2:=Nat.lt_of_le_of_lt (hle s2 (by simp)) Kv
 have g3:=Nat.lt_of_le_of_lt (hle s3 (by simp)) Kv
 have q4b:=hq4 s4 rfl
 have Ka:C4 [s0,s1,s2,s3,s4]=⟨s0%2251799813685248+19*(s4/2251799813685248),s1%2251799813685248+s0/2251799813685248,s2%2251799813685248+s1/2251799813685248,s3%2251799813685248+s2/2251799813685248,s4%2251799813685248+s3/2251799813685248⟩:=rfl
 rw[Ka]
 clear hq4 hle Kv Ka
 have hP:PB=2251799813947392:=rfl
 constructor<;>rw[hP]<;>dsimp only[qK]<;>omega
theorem kt {a b:Fe} (ha:a.Le PB) (hb:b.Le PB):(pE a b).Le pj:=by
 obtain⟨h0,h1,h2,h3,h4⟩:=ha
 obtain⟨g0,g1,g2,g3,g4⟩:=hb
 have hP:PB=2251799813947392:=rfl
 have hC:pj=9007199254740992:=rfl
 rw[hP]at h0 h1 h2 h3 h4 g0 g1 g2 g3 g4
 constructor<;>rw[hC]<;>dsimp only[pE]<;>omega
theorem ld {a b:Fe} (ha:a.Le PB):(pe a b).Le pj:=by
 obtain⟨h0,h1,h2,h3,h4⟩:=ha
 have hP:PB=2251799813947392:=rfl
 have hC:pj=9007199254740992:=rfl
 rw[hP]at h0 h1 h2 h3 h4
 constructor<;>rw[hC]<;>dsimp only[pe]<;>omega
theorem EJ {a b:Fe} (ha:a.Le PB) (hb:b.Le PB):a8 Pg I.dG [iU a,iU b] (iU (pE a b)):=JK (ha.mono (by decide)) (hb.mono (by decide))
theorem EK {a b:Fe} (ha:a.Le PB) (hb:b.Le PB):a8 Pg I.dH [iU a,iU b] (iU (pe a b)):=JL (ha.mono (by decide)) (hb.mono (by decide))
def uf:Fe:=⟨1,0,0,0,0⟩
def nD (a:Fe):Nat->Fe
 |0=>uf
 |i+1=>if i=252∨i=250 then iE (nD a i) (nD a i)else iE (iE (nD a i) (nD a i)) a
theorem C5:uf.Le PB:=by constructor<;>decide
theorem s9 {a:Fe} (ha:a.Le pj) (i:Nat):(nD a i).Le PB:=by
 induction i with
 |zero=>exact C5
 |
  succ i ih=>
  have h1:=eP (ih.mono jF) (ih.mono jF)
  unfold nD
  split
  ·exact h1
  ·exact eP (h1.mono jF) ha
theorem Mk:PV.ar 1 5 [.int .u64 1,.int .u64 0,.int .u64 0,.int .u64 0,.int .u64 0]=iU uf:=rfl
theorem sB {a:Fe} (ha:a.Le pj):a8 Pg I.dL [iU a] (iU (nD a 255)):=by
 refine af.intro T.dL (by simp[F.dL]) ?_
 simp[F.dL,ai,aG,z5,Mk]
 refine gR.iw 255 (λ_=>True) [1,2,3,4] (λi=>[(4,.int .i64 (254-(i:Int)))]) (λi=>[(3,.box (iU (nD a i)))]) [.keep [1,2,3,4]] ?_
 simp[show nD a 0=uf from rfl]
 refine⟨λi hi K hK=> ?_,λK=> ?_⟩
 ·have hl:=s9 ha i
  have Hh:=eP (hl.mono jF) (hl.mono jF)
  have h0:(i:Int)≤254:=by omega
  have hw:IntKind.i64.wrap (254-(i:Int)-1)=254-((i:Int)+1):=by rw[wrap_i64 (by omega)];omega
  have c1:=dW (hl.mono jF) (hl.mono jF)
  have c2:=dW (Hh.mono jF) ha
  have hs:nD a (i+1)=if i=252∨i=250 then iE (nD a i) (nD a i)else iE (iE (nD a i) (nD a i)) a:=rfl
  rw[hs]at hK
  clear hs
  generalize nD a i=x at*
  generalize iE x x=y at*
  generalize iE y a=z at*
  simp[↓an,h0]
  refine al.ret c1 (by simp) (by simp) (by simp) ?_
  by_cases h1:i=252
  ·subst h1
   simp
   refine⟨[.keep [1,2,3,4]],?_⟩
   simp at hK⊢
   exact hK _ (by simp)
  ·by_cases h2:i=250
   ·subst h2
    simp
    refine⟨[.keep [1,2,3,4]],?_⟩
    simp at hK⊢
    exact hK _ (by simp)
   ·have k1:¬(254-(i:Int)=2):=by omega
    have k2:¬(254-(i:Int)=4):=by omega
    rw[if_neg (by omega)]at hK
    simp[k1,k2]
    refine al.ret c2 (by simp) (by simp) (by simp) ?_
    simp[hw]
    refine⟨[.keep [1,2,3,4]],?_⟩
    simp
    exact hK _ (by simp)
 ·simp[↓an]
  refine aC.plain [.keep [2],.dr 1,.dr 3] ?_
  simp
end Go.Ab
end Y4s
noncomputable section Y5s
namespace Go.Ab
open Go.Ab
theorem al.GI {P:Program} [gK] {s:St} {d:Option Nat} {f:FuncId} {args gI:List PV} {iK:List br} {R:PV->List br->Prop} {K:St->Prop} {t:Tg K} (ks os:List Nat) (cm:List br) (hA:af P f gI iK R)
  (hg:getAll s.bx ks=some cm) (hn:(ks++os).Nodup) (Ou:∀o∈os,get s.bx o=none) (ha:ae (bS ks) args=true) (hb:cm.all (ah (bS ks))=true)
  (ha':jE (aO (bE ks) args)=gI) (A6:cm.map (aM (bE ks))=iK)
  (h:∀r fp,R r fp->(fp.length=(ks++os).length∧ab (eI fp.length) r=true∧fp.all (ah (eI fp.length))=true)∧K ({s with bx:=bB s.bx (ks++os) (fp.map (aM (fu (ks++os))))}.put d (az (fu (ks++os)) r))):al P s d f args K t:=by
 subst ha' A6
 exact⟨ks,os,cm,R,hg,hn,Ou,ha,hb,af.YR hA,h⟩
theorem al.view {P:Program} [gK] {s:St} {d:Option Nat} {f:FuncId} {args gI args0:List PV} {iK:List br} {R:PV->List br->Prop} {K:St->Prop} {t:Tg K} (ks os:List Nat) (cm:List br) (hA:af P f args0 [] R)
  (hg:getAll s.bx ks=some cm) (hn:(ks++os).Nodup) (Ou:∀o∈os,get s.bx o=none) (ha:ae (bS ks) args=true) (hb:cm.all (ah (bS ks))=true)
  (ha':jE (aO (bE ks) args)=gI) (A6:cm.map (aM (bE ks))=iK) (hV:Vp (aG 0 iK) gI args0) (hR:∀r new,R r new->(lN r=true∧new.all EA=true)∧new.length=os.length)
  (h:∀r new,R r new->(ab (eI (iK.length+new.length)) (az (·+iK.length) r)=true∧(iK++new.map (aM (·+iK.length))).all (ah (eI (iK.length+new.length)))=true)∧
   K ({s with bx:=bB s.bx (ks++os) ((iK++new.map (aM (·+iK.length))).map (aM (fu (ks++os))))}.put d (az (fu (ks++os)) (az (·+iK.length) r)))):al P s d f args K t:=by
 refine al.GI ks os cm (af.view hA hV λr new hr=>(hR r new hr).1) hg hn Ou ha hb ha' A6 ?_
 rintro r fp ⟨r0,new,hr,rfl,rfl⟩
 have hl:iK.length=ks.length:=by rw[←A6,List.length_map];exact(fN hg).1
 obtain⟨⟨h1,h2⟩,h3⟩:=h r0 new hr
 have e:(iK++new.map (aM (·+iK.length))).length=iK.length+new.length:=by simp
 rw[e]
 exact⟨⟨by rw[List.length_append,hl,(hR r0 new hr).2],h1,h2⟩,h3⟩
theorem al.vw {P:Program} {s:St} [gK] {d:Option Nat} {f:FuncId} {k off n N:Nat} {c:iC} {L ys:List PV} {v:PV} {K:St->Prop} {t:Tg K} (hA:a8 P f [.sl 1 ys false] v)
  (hb:get s.bx k=some (.box (.ar 1 N L))) (hL:aB L) (hyp:aB ys) (hn:off+n≤N) (DR:(L.drop off).take n=ys) (hv:Pure v) (mD:lN v=true)
  (h:K ({s with bx:=put s.bx k (.box (.ar 1 N L))}.put d v)):al P s d f [.rs k [] off n 0 1 c] K t:=by
 refine al.view [k] [] [.box (.ar 1 N L)] (gI:=[.rs KB [] off n 0 1 c]) (iK:=[.box (.ar 1 N L)]) hA (by simp[getAll,hb]) (by simp) (by simp) (by simp[ae,ab,bS,idx]) (by simp[ah,ab,hL.refs]) (by simp[aO,az,bE,idx]) (by simp[aM,az,hL.az]) ?_ ?_ ?_
 ·refine⟨.inl (.inr ⟨KB,[],off,n,0,1,c,ys,rfl,?_,hyp.refs _,by omega,rfl⟩),trivial⟩
  simp[content,aG,DR,hn,aX]
 ·rintro r new ⟨rfl,rfl⟩
  exact⟨⟨mD,by simp⟩,rfl⟩
 ·rintro r new ⟨rfl,rfl⟩
  simp[hv.az,hv.refs,ah,ab,hL.refs,aM,az,hL.az,bB]
  exact h
def mC (l:List UInt8):Nat->Nat
 |0=>0
 |i+1=>mC l i+(l.getD i 0).toNat*256^i
theorem wX (l:List UInt8):∀i,mC l i<256^i
 |0=>by simp[mC]
 |
  i+1=>by
  have h:=wX l i
  have hb:=(l.getD i 0).toNat_lt
  unfold mC
  rw[Nat.pow_succ]
  have:(l.getD i 0).toNat*256^i≤255*256^i:=Nat.mul_le_mul_right _ (by omega)
  omega
theorem orS {a x i:Nat} (ha:a<256^i) (hx:x<256) (hi:i<8):bits .or .u64 (a:Int) (IntKind.u64.wrap (IntKind.u64.wrap (x:Int)*2^min (8*i) 64))=((a+x*256^i:Nat):Int):=by
 have e0:(2:Nat)^(8*i)=256^i:=by rw[Nat.pow_mul]
 have e1:min (8*i) 64=8*i:=by omega
 have hp:256^(i+1)≤256^8:=Nat.pow_le_pow_right (by decide) (by omega)
 have h1:x*256^i≤255*256^i:=Nat.mul_le_mul_right _ (by omega)
 have h8:(256:Nat)^8=18446744073709551616:=by decide
 rw[Nat.pow_succ,h8]at hp
 have h2:x*256^i<18446744073709551616:=by omega
 have ex:IntKind.u64.wrap (x:Int)=x:=rC (by omega)
 have e2:IntKind.u64.wrap ((x:Int)*2^(8*i))=((x*256^i:Nat):Int):=by
  rw[show((x:Int)*2^(8*i))=((x*256^i:Nat):Int) by rw[←e0];simp]
  exact rC h2
 have h3:x*256^i%2^(8*i)=0:=by rw[e0];exact Nat.mul_mod_left _ _
 rw[e1,ex,e2,u64_or_nat a _ (by omega) h2,Nat.or_comm,nat_join (8*i) _ a h3 (by rw[e0];exact ha),Nat.add_comm]
theorem cI {l:List UInt8} (h:l.length≤8):a8 Pg I.cI [eY l] (.int .u64 (mC l l.length)):=by
 refine af.intro T.cI (by simp[F.cI]) ?_
 have hm:min (l.length:Int) 8=l.length:=by omega
 simp[F.cI,ai,aG,eY,hm]
 refine gR.iw l.length (λ_=>True) [0,3,7,8] (λi=>[(3,.int .u64 (mC l i)),(8,.int .i64 i)]) (λi=>[]) [.keep [0,3,7,8]] ?_
 simp[show mC l 0=0 from rfl]
 refine⟨λi hi K hK=> ?_,λK=> ?_⟩
 ·have hx:l[i]? =some l[i]:=gJ hi
  have hs:mC l (i+1)=mC l i+l[i].toNat*256^i:=by rw[mC,List.getD_eq_getElem?_getD,hx];rfl
  have eu:=wX l i
  have hb:=l[i].toNat_lt
  have jf:(i:Int)<l.length:=by omega
  have w4:IntKind.i64.wrap ((i:Int)+1)=(i:Int)+1:=wrap_i64 (by omega)
  have w8:IntKind.i64.wrap (8*(i:Int))=((8*i:Nat):Int):=by rw[wrap_i64 (by omega)];omega
  rw[hs]at hK
  have hor:=orS (a:=mC l i) (x:=l[i].toNat) eu hb (by omega)
  generalize l[i]=x at*
  generalize mC l i=a at*
  simp[↓an,hx,hi,jf,w4,w8,u8,show IntKind.u64.bits=64 from rfl,-getElem?_pos,-Int.natCast_mul]
  rw[hor]
  refine⟨[.keep [0,3,7,8]],?_⟩
  simp
  exact hK _ (by simp)
 ·simp[↓an]
  refine aC.plain [] ?_
  simp
def Ml (n:Nat) (j:Nat):UInt8:=UInt8.ofNat (n/256^j%256)
def js (n:Nat) (k:Nat):List UInt8:=(List.range k).map (Ml n)
theorem kg (n k:Nat):(js n k).length=k:=by simp[js]
theorem EL (n:Nat) {k i:Nat} (h:i<k):(js n k).take (i+1)=(js n k).take i++[Ml n i]:=by
 rw[List.take_succ_eq_append_getElem (by rw[kg];exact h)]
 simp[js]
theorem To {n j:Nat} (hj:j≤8):IntKind.u8.wrap ((n:Int).fdiv (2^min (8*j) 64))=((Ml n j).toNat:Int):=by
 have e1:min (8*j) 64=8*j:=by omega
 have e2:(2:Int)^(8*j)=((256^j:Nat):Int):=by rw[Int.pow_mul];simp
 rw[e1,e2,Int.fdiv_eq_ediv_of_nonneg _ (Int.natCast_nonneg _),←Int.natCast_ediv,IntKind.wrap_u8',Ml,UInt8.toNat_ofNat']
 simp
def mB (l:List UInt8):List PV:=l.map u8
theorem dY {n k:Nat} (h1:1≤k) (h8:k≤8):a8 Pg I.dY [.int .u64 n,.int .i64 k] (eY (js n k)):=by
 refine af.intro T.dY (by simp[F.dY]) ?_
 have e1:¬((k:Int)<1):=by omega
 have e2:¬((8:Int)<k):=by omega
 have hk:(js n k).length=k:=kg n k
 have hg:=λi (h:i<k)=>EL n h
 generalize js n k=B at*
 simp[F.dY,ai,aG,e1,e2]
 refine gR.iw k (λ_=>True) [0,1,5,13,14] (λi=>[(5,.rs 5 [] 0 i i 1 .tip),(14,.int .i64 i)]) (λi=>[(5,.arr 1 (mB (B.take i)))]) [.keep [0,1,5,13,14],.vt 5 5 1] ?_
 simp[show mB ([]:List UInt8)=[] from rfl]
 refine⟨λi hi K hK=> ?_,λK=> ?_⟩
 ·have jf:(i:Int)<k:=by omega
  have w3:IntKind.i64.wrap (8*(i:Int))=((8*i:Nat):Int):=by rw[wrap_i64 (by omega)];omega
  have w4:IntKind.i64.wrap ((i:Int)+1)=(i:Int)+1:=wrap_i64 (by omega)
  have hv:=To (n:=n) (j:=i) (by omega)
  have hl:(B.take i).length=i:=by rw[lJ];omega
  rw[hg i hi]at hK
  generalize B.take i=A at*
  have hA:mB A++[.int .u8 ((Ml n i).toNat:Int)]=mB (A++[Ml n i]):=by simp[mB,u8]
  have hAl:(mB A).length=i:=by simp[mB,hl]
  simp[↓an,hi,jf,w3,w4,hl,hv,hA,hAl,show IntKind.u64.bits=64 from rfl,-Int.natCast_mul]
  refine⟨⟨by omega,by omega⟩,[.keep [0,1,5,13,14]],?_⟩
  simp
  exact hK _ (by simp)
 ·have hB:B.take k=B:=by rw[←hk,List.take_length]
  have hBl:(mB B).length=k:=by simp[mB,hk]
  have hp:aB (mB B):=aS (λ_=>by simp[u8]) B
  have pB:(mB B).take k=mB B:=by rw[←hBl,List.take_length]
  simp[↓an]
  rw[hB]
  refine aC.plain [.fz 5] ?_
  simp[hp.refs,hBl,pB]
  exact⟨by simp[mB],by simp[mB,eY]⟩
end Go.Ab
end Y5s
