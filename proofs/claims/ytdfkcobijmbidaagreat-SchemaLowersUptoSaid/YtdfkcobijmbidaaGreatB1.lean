/- The types of a daemon as the abstract reading has them. No condition. -/
import Derived.Test.YtdfkcobijmbidaaGreatSF1
import Derived.Test.YtdfkcobijmbidaaGreatSF2
import Derived.Test.YtdfkcobijmbidaaGreatSF3
import Derived.Test.YtdfkcobijmbidaaGreatSF4
import Derived.Test.YtdfkcobijmbidaaGreatSF5
import Derived.Test.YtdfkcobijmbidaaGreatA5
set_option linter.all false
noncomputable section
namespace Go.Ab
open Go.Ab
abbrev ja:Sh:= .ar 32 (.i .u8)
@[simp] theorem arK:pj ja=32:=rfl
@[simp] theorem agi:Sh.agg ja=true:=rfl
abbrev ui:Sh:= .st [.b,.i .u64,.ar 4 (.i .u64)]
@[simp] theorem arL:pj ui=6:=rfl
@[simp] theorem agj:Sh.agg ui=true:=rfl
abbrev HZ:Sh:= .st [.ar 32 (.i .u8),.ar 32 (.i .u8)]
@[simp] theorem arM:pj HZ=64:=rfl
@[simp] theorem agk:Sh.agg HZ=true:=rfl
abbrev vR:Sh:= .ar 16 (.i .u8)
@[simp] theorem arN:pj vR=16:=rfl
@[simp] theorem agl:Sh.agg vR=true:=rfl
abbrev N9:Sh:= .ar 12 (.i .u8)
@[simp] theorem arO:pj N9=12:=rfl
@[simp] theorem agm:Sh.agg N9=true:=rfl
def eN (b:(List UInt8)):PV:= .sl 1 (b.map u8) false
@[simp] theorem s5 (e:(List UInt8)):Pure (eN e):=by simp[eN]
@[simp] theorem apb (e:(List UInt8)):wk (eN e)=eN e:=by simp[eN]
@[simp↓] theorem agn (g:Bool) (e:(List UInt8)) (K:PV->Prop):il g (eN e) K=K (eN e):=_root_.id rfl
@[simp] theorem Ye (e:(List UInt8)):(eN e).width=1:=_root_.id rfl
@[simp] theorem ago (e:(List UInt8)):(eN e).isAgg=false:=_root_.id rfl
@[simp] theorem ab5 (e:(List UInt8)):(eN e).bp=true:=_root_.id rfl
@[simp] theorem apc (l:List (List UInt8)):aB (l.map eN):=bR s5 l
@[simp↓] theorem ab6 (s:St) (K:PV->Prop) (l:List UInt8):xm s K (eN l)=K (.int .i64 l.length):=by simp[eN]
@[simp↓] theorem Yf (s:St) (sz:Nat) (j:Int) (K:PV->Prop) (l:List UInt8):oQ s sz j K (eN l)=((1=sz∧0≤j∧j<l.length)∧K (.fp sz (l.map u8) [.i j.toNat sz])):=by simp[eN]
@[simp↓] theorem ab7 (s:St) (K:Nat->List PV->Prop) (l:List UInt8):xl s K (eN l)=K 1 (l.map u8):=by simp[eN]
def gI (l:(List (List UInt8))):PV:= .sl 1 (l.map eN) false
@[simp] theorem Yg (e:(List (List UInt8))):Pure (gI e):=by simp[gI]
@[simp] theorem agp (e:(List (List UInt8))):wk (gI e)=gI e:=by simp[gI]
@[simp↓] theorem ab8 (g:Bool) (e:(List (List UInt8))) (K:PV->Prop):il g (gI e) K=K (gI e):=_root_.id rfl
@[simp] theorem UT (e:(List (List UInt8))):(gI e).width=1:=_root_.id rfl
@[simp] theorem ab9 (e:(List (List UInt8))):(gI e).isAgg=false:=_root_.id rfl
@[simp] theorem Yh (e:(List (List UInt8))):(gI e).bp=true:=_root_.id rfl
@[simp↓] theorem Yi (s:St) (K:PV->Prop) (l:List (List UInt8)):xm s K (gI l)=K (.int .i64 l.length):=by simp[gI]
@[simp↓] theorem UU (s:St) (sz:Nat) (j:Int) (K:PV->Prop) (l:List (List UInt8)):oQ s sz j K (gI l)=((1=sz∧0≤j∧j<l.length)∧K (.fp sz (l.map eN) [.i j.toNat sz])):=by simp[gI]
def gz (l:(List Int)):PV:= .sl 1 (l.map (λn:Int=>PV.int .i64 n)) false
@[simp] theorem Bj (e:(List Int)):Pure (gz e):=by simp[gz]
@[simp] theorem agq (e:(List Int)):wk (gz e)=gz e:=by simp[gz]
@[simp↓] theorem aca (g:Bool) (e:(List Int)) (K:PV->Prop):il g (gz e) K=K (gz e):=_root_.id rfl
@[simp] theorem UW (e:(List Int)):(gz e).width=1:=_root_.id rfl
@[simp] theorem acb (e:(List Int)):(gz e).isAgg=false:=_root_.id rfl
@[simp] theorem Yj (e:(List Int)):(gz e).bp=true:=_root_.id rfl
@[simp↓] theorem Yk (s:St) (K:PV->Prop) (l:List Int):xm s K (gz l)=K (.int .i64 l.length):=by simp[gz]
@[simp↓] theorem UX (s:St) (sz:Nat) (j:Int) (K:PV->Prop) (l:List Int):oQ s sz j K (gz l)=((1=sz∧0≤j∧j<l.length)∧K (.fp sz (l.map (λn:Int=>PV.int .i64 n)) [.i j.toNat sz])):=by simp[gz]
def oq (l:(List Int)):PV:= .sl 1 (l.map (λn:Int=>PV.int .u32 n)) false
@[simp] theorem acd (e:(List Int)):Pure (oq e):=by simp[oq]
@[simp] theorem apd (e:(List Int)):wk (oq e)=oq e:=by simp[oq]
@[simp↓] theorem agr (g:Bool) (e:(List Int)) (K:PV->Prop):il g (oq e) K=K (oq e):=_root_.id rfl
@[simp] theorem ace (e:(List Int)):(oq e).flat=true:=_root_.id rfl
@[simp↓] theorem acf (s:St) (K:PV->Prop) (l:List Int):xm s K (oq l)=K (.int .i64 l.length):=by simp[oq]
@[simp↓] theorem Yl (s:St) (sz:Nat) (j:Int) (K:PV->Prop) (l:List Int):oQ s sz j K (oq l)=((1=sz∧0≤j∧j<l.length)∧K (.fp sz (l.map (λn:Int=>PV.int .u32 n)) [.i j.toNat sz])):=by simp[oq]
structure Key where
 l:List UInt8
 h:l.length=32
def eF (k:Key):PV:= .ar 1 32 (k.l.map u8)
@[simp] theorem KZ (e:Key):Pure (eF e):=by simp[eF]
@[simp] theorem ape (e:Key):wk (eF e)=eF e:=by simp[eF]
@[simp↓] theorem ags (g:Bool) (e:Key) (K:PV->Prop):il g (eF e) K=K (eF e):=_root_.id rfl
@[simp] theorem Ym (e:Key):(eF e).width=32:=_root_.id rfl
@[simp] theorem agt (e:Key):(eF e).isAgg=true:=_root_.id rfl
@[simp] theorem acg (e:Key):(eF e).bp=true:=_root_.id rfl
@[simp] theorem ach (e:Key):(eF e).flat=true:=_root_.id rfl
structure j9 where
 loc:Int
 rem:Int
 send:FV ja
 recv:FV ja
 next:Int
 iI:Int
 py:FV ui
 born:Int
 Oa:Bool
def fO (s:j9):PV:= .st 76 [.int .u32 s.loc,.int .u32 s.rem,s.send.p,s.recv.p,.int .u64 s.next,.int .u64 s.iI,s.py.p,.int .i64 s.born,.bl s.Oa]
@[simp] theorem aci (e:j9):Pure (fO e):=by simp[fO]
@[simp] theorem apf (e:j9):wk (fO e)=fO e:=by simp[fO]
@[simp↓] theorem agu (g:Bool) (e:j9) (K:PV->Prop):il g (fO e) K=K (fO e):=_root_.id rfl
@[simp] theorem Yn (e:j9):(fO e).width=76:=_root_.id rfl
@[simp] theorem agv (e:j9):(fO e).isAgg=true:=_root_.id rfl
@[simp] theorem acj (e:j9):(fO e).bp=true:=_root_.id rfl
@[simp] theorem ack (e:j9):(fO e).flat=true:=_root_.id rfl
@[simp↓] theorem UY (e:j9) (r:List Step):aQ (fO e) (.f 0 0::r)=aQ (.int .u32 e.loc) r:=by simp[fO]
@[simp↓] theorem UZ (e:j9) (r:List Step):aQ (fO e) (.f 1 1::r)=aQ (.int .u32 e.rem) r:=by simp[fO,az]
@[simp↓] theorem U0 (e:j9) (r:List Step):aQ (fO e) (.f 2 2::r)=aQ (e.send.p) r:=by simp[fO,az]
def Ec (e:j9) (c:PV):PV:= .st 76 [.int .u32 e.loc,.int .u32 e.rem,c,e.recv.p,.int .u64 e.next,.int .u64 e.iI,e.py.p,.int .i64 e.born,.bl e.Oa]
@[simp↓] theorem U1 (e:j9) (r:List Step) (x:PV):di (fO e) (.f 2 2::r) x=(di (e.send.p) r x).bind λc=>some (Ec e c):=by simp[fO,Ec,az]
def Ed (e:j9) (c:PV):PV:= .st 76 [.int .u32 e.loc,.int .u32 e.rem,e.send.p,c,.int .u64 e.next,.int .u64 e.iI,e.py.p,.int .i64 e.born,.bl e.Oa]
@[simp↓] theorem U2 (e:j9) (r:List Step) (x:PV):di (fO e) (.f 3 34::r) x=(di (e.recv.p) r x).bind λc=>some (Ed e c):=by simp[fO,Ed,az]
@[simp↓] theorem U3 (e:j9) (r:List Step):aQ (fO e) (.f 4 66::r)=aQ (.int .u64 e.next) r:=by simp[fO,az]
def Ee (e:j9) (c:PV):PV:= .st 76 [.int .u32 e.loc,.int .u32 e.rem,e.send.p,e.recv.p,c,.int .u64 e.iI,e.py.p,.int .i64 e.born,.bl e.Oa]
@[simp↓] theorem U4 (e:j9) (r:List Step) (x:PV):di (fO e) (.f 4 66::r) x=(di (.int .u64 e.next) r x).bind λc=>some (Ee e c):=by simp[fO,Ee,az]
@[simp↓] theorem acm (e:j9) (v:Int):Ee e (.int .u64 v)=fO {e with next:=v}:=_root_.id rfl
@[simp↓] theorem U5 (e:j9) (r:List Step):aQ (fO e) (.f 5 67::r)=aQ (.int .u64 e.iI) r:=by simp[fO,az]
@[simp↓] theorem U6 (e:j9) (r:List Step):aQ (fO e) (.f 6 68::r)=aQ (e.py.p) r:=by simp[fO,az]
def zC (e:j9) (c:PV):PV:= .st 76 [.int .u32 e.loc,.int .u32 e.rem,e.send.p,e.recv.p,.int .u64 e.next,.int .u64 e.iI,c,.int .i64 e.born,.bl e.Oa]
@[simp↓] theorem U7 (e:j9) (r:List Step) (x:PV):di (fO e) (.f 6 68::r) x=(di (e.py.p) r x).bind λc=>some (zC e c):=by simp[fO,zC,az]
@[simp↓] theorem acn (e:j9) (v:FV ui):zC e (v.p)=fO {e with py:=v}:=_root_.id rfl
@[simp↓] theorem U8 (e:j9) (r:List Step):aQ (fO e) (.f 7 74::r)=aQ (.int .i64 e.born) r:=by simp[fO,az]
@[simp↓] theorem U9 (e:j9) (r:List Step):aQ (fO e) (.f 8 75::r)=aQ (.bl e.Oa) r:=by simp[fO,az]
structure pq where
 has:Bool
 iO:j9
def gP (p:pq):PV:= .st 77 [.bl p.has,fO p.iO]
@[simp] theorem aco (e:pq):Pure (gP e):=by simp[gP]
@[simp] theorem apg (e:pq):wk (gP e)=gP e:=by simp[gP]
@[simp↓] theorem agw (g:Bool) (e:pq) (K:PV->Prop):il g (gP e) K=K (gP e):=_root_.id rfl
@[simp] theorem Yo (e:pq):(gP e).width=77:=_root_.id rfl
@[simp] theorem agx (e:pq):(gP e).isAgg=true:=_root_.id rfl
@[simp] theorem acp (e:pq):(gP e).bp=true:=_root_.id rfl
@[simp] theorem acq (e:pq):(gP e).flat=true:=_root_.id rfl
@[simp↓] theorem Va (e:pq) (r:List Step):aQ (gP e) (.f 0 0::r)=aQ (.bl e.has) r:=by simp[gP]
@[simp↓] theorem Vb (e:pq) (r:List Step):aQ (gP e) (.f 1 1::r)=aQ (fO e.iO) r:=by simp[gP,az]
def Ef (e:pq) (c:PV):PV:= .st 77 [.bl e.has,c]
@[simp↓] theorem Vc (e:pq) (r:List Step) (x:PV):di (gP e) (.f 1 1::r) x=(di (fO e.iO) r x).bind λc=>some (Ef e c):=by simp[gP,Ef,az]
@[simp↓] theorem acr (e:pq) (v:j9):Ef e (fO v)=gP {e with iO:=v}:=_root_.id rfl
structure kN where
 p:pq
 c:pq
 n:pq
def ee (r:kN):PV:= .st 231 [gP r.p,gP r.c,gP r.n]
@[simp] theorem K0 (e:kN):Pure (ee e):=by simp[ee]
@[simp] theorem aph (e:kN):wk (ee e)=ee e:=by simp[ee]
@[simp↓] theorem agy (g:Bool) (e:kN) (K:PV->Prop):il g (ee e) K=K (ee e):=_root_.id rfl
@[simp] theorem Yp (e:kN):(ee e).width=231:=_root_.id rfl
@[simp] theorem agz (e:kN):(ee e).isAgg=true:=_root_.id rfl
@[simp] theorem acs (e:kN):(ee e).bp=true:=_root_.id rfl
@[simp] theorem acu (e:kN):(ee e).flat=true:=_root_.id rfl
@[simp↓] theorem Vd (e:kN) (r:List Step):aQ (ee e) (.f 0 0::r)=aQ (gP e.p) r:=by simp[ee]
def Eg (e:kN) (c:PV):PV:= .st 231 [c,gP e.c,gP e.n]
@[simp↓] theorem Ve (e:kN) (r:List Step) (x:PV):di (ee e) (.f 0 0::r) x=(di (gP e.p) r x).bind λc=>some (Eg e c):=by simp[ee,Eg]
@[simp↓] theorem acv (e:kN) (v:pq):Eg e (gP v)=ee {e with p:=v}:=_root_.id rfl
@[simp↓] theorem Vf (e:kN) (r:List Step):aQ (ee e) (.f 1 77::r)=aQ (gP e.c) r:=by simp[ee,az]
def Eh (e:kN) (c:PV):PV:= .st 231 [gP e.p,c,gP e.n]
@[simp↓] theorem Vg (e:kN) (r:List Step) (x:PV):di (ee e) (.f 1 77::r) x=(di (gP e.c) r x).bind λc=>some (Eh e c):=by simp[ee,Eh,az]
@[simp↓] theorem acw (e:kN) (v:pq):Eh e (gP v)=ee {e with c:=v}:=_root_.id rfl
@[simp↓] theorem Vh (e:kN) (r:List Step):aQ (ee e) (.f 2 154::r)=aQ (gP e.n) r:=by simp[ee,az]
def Ei (e:kN) (c:PV):PV:= .st 231 [gP e.p,gP e.c,c]
@[simp↓] theorem Vi (e:kN) (r:List Step) (x:PV):di (ee e) (.f 2 154::r) x=(di (gP e.n) r x).bind λc=>some (Ei e c):=by simp[ee,Ei,az]
@[simp↓] theorem acx (e:kN) (v:pq):Ei e (gP v)=ee {e with n:=v}:=_root_.id rfl
structure xv where
 yT:Int
 uj:Int
 Ob:Int
 lQ:Int
 att:Int
 ret:Int
 RL:Int
 cot:Int
 load:Int
 oX:Int
def dU (r:xv):PV:= .st 10 [.int .u64 r.yT,.int .u64 r.uj,.int .i64 r.Ob,.int .i64 r.lQ,.int .i64 r.att,.int .i64 r.ret,.int .i64 r.RL,.int .i64 r.cot,.int .i64 r.load,.int .i64 r.oX]
@[simp] theorem Bk (e:xv):Pure (dU e):=by simp[dU]
@[simp] theorem agC (e:xv):wk (dU e)=dU e:=by simp[dU]
@[simp↓] theorem acy (g:Bool) (e:xv) (K:PV->Prop):il g (dU e) K=K (dU e):=_root_.id rfl
@[simp] theorem Vj (e:xv):(dU e).width=10:=_root_.id rfl
@[simp] theorem acz (e:xv):(dU e).isAgg=true:=_root_.id rfl
@[simp] theorem Yq (e:xv):(dU e).bp=true:=_root_.id rfl
@[simp↓] theorem RM (e:xv) (r:List Step):aQ (dU e) (.f 0 0::r)=aQ (.int .u64 e.yT) r:=by simp[dU]
@[simp↓] theorem RN (e:xv) (r:List Step):aQ (dU e) (.f 1 1::r)=aQ (.int .u64 e.uj) r:=by simp[dU,az]
@[simp↓] theorem RO (e:xv) (r:List Step):aQ (dU e) (.f 2 2::r)=aQ (.int .i64 e.Ob) r:=by simp[dU,az]
@[simp↓] theorem RP (e:xv) (r:List Step):aQ (dU e) (.f 3 3::r)=aQ (.int .i64 e.lQ) r:=by simp[dU,az]
@[simp↓] theorem RQ (e:xv) (r:List Step):aQ (dU e) (.f 4 4::r)=aQ (.int .i64 e.att) r:=by simp[dU,az]
@[simp↓] theorem RR (e:xv) (r:List Step):aQ (dU e) (.f 5 5::r)=aQ (.int .i64 e.ret) r:=by simp[dU,az]
@[simp↓] theorem RS (e:xv) (r:List Step):aQ (dU e) (.f 6 6::r)=aQ (.int .i64 e.RL) r:=by simp[dU,az]
@[simp↓] theorem RT (e:xv) (r:List Step):aQ (dU e) (.f 7 7::r)=aQ (.int .i64 e.cot) r:=by simp[dU,az]
@[simp↓] theorem RU (e:xv) (r:List Step):aQ (dU e) (.f 8 8::r)=aQ (.int .i64 e.load) r:=by simp[dU,az]
@[simp↓] theorem RV (e:xv) (r:List Step):aQ (dU e) (.f 9 9::r)=aQ (.int .i64 e.oX) r:=by simp[dU,az]
structure tm where
 P3:Bool
 ip:List UInt8
 h:ip.length=16
def jF (a:tm):PV:= .st 17 [.bl a.P3,.ar 1 16 (a.ip.map u8)]
@[simp] theorem acA (e:tm):Pure (jF e):=by simp[jF]
@[simp] theorem api (e:tm):wk (jF e)=jF e:=by simp[jF]
@[simp↓] theorem agD (g:Bool) (e:tm) (K:PV->Prop):il g (jF e) K=K (jF e):=_root_.id rfl
@[simp] theorem Yr (e:tm):(jF e).width=17:=_root_.id rfl
@[simp] theorem agE (e:tm):(jF e).isAgg=true:=_root_.id rfl
@[simp] theorem acB (e:tm):(jF e).bp=true:=_root_.id rfl
@[simp↓] theorem Vk (e:tm) (r:List Step):aQ (jF e) (.f 0 0::r)=aQ (.bl e.P3) r:=by simp[jF]
@[simp↓] theorem Vl (e:tm) (r:List Step):aQ (jF e) (.f 1 1::r)=aQ (.ar 1 16 (e.ip.map u8)) r:=by simp[jF,az]
def Ej (e:tm) (c:PV):PV:= .st 17 [.bl e.P3,c]
@[simp↓] theorem Vm (e:tm) (r:List Step) (x:PV):di (jF e) (.f 1 1::r) x=(di (.ar 1 16 (e.ip.map u8)) r x).bind λc=>some (Ej e c):=by simp[jF,Ej,az]
structure H0 where
 addr:tm
 port:Int
def ji (e:H0):PV:= .st 18 [jF e.addr,.int .i64 e.port]
@[simp] theorem K1 (e:H0):Pure (ji e):=by simp[ji]
@[simp] theorem apj (e:H0):wk (ji e)=ji e:=by simp[ji]
@[simp↓] theorem agF (g:Bool) (e:H0) (K:PV->Prop):il g (ji e) K=K (ji e):=_root_.id rfl
@[simp] theorem Ys (e:H0):(ji e).width=18:=_root_.id rfl
@[simp] theorem agG (e:H0):(ji e).isAgg=true:=_root_.id rfl
@[simp] theorem acC (e:H0):(ji e).bp=true:=_root_.id rfl
@[simp↓] theorem Vn (e:H0) (r:List Step):aQ (ji e) (.f 0 0::r)=aQ (jF e.addr) r:=by simp[ji]
@[simp↓] theorem Vo (e:H0) (r:List Step):aQ (ji e) (.f 1 17::r)=aQ (.int .i64 e.port) r:=by simp[ji,az]
structure K5 where
 addr:tm
 bits:Int
def kq (e:K5):PV:= .st 18 [jF e.addr,.int .i64 e.bits]
@[simp] theorem acD (e:K5):Pure (kq e):=by simp[kq]
@[simp] theorem apk (e:K5):wk (kq e)=kq e:=by simp[kq]
@[simp↓] theorem agH (g:Bool) (e:K5) (K:PV->Prop):il g (kq e) K=K (kq e):=_root_.id rfl
@[simp] theorem Yt (e:K5):(kq e).width=18:=_root_.id rfl
@[simp] theorem agI (e:K5):(kq e).isAgg=true:=_root_.id rfl
@[simp] theorem acE (e:K5):(kq e).bp=true:=_root_.id rfl
@[simp↓] theorem Vp (e:K5) (r:List Step):aQ (kq e) (.f 0 0::r)=aQ (jF e.addr) r:=by simp[kq]
@[simp↓] theorem Vq (e:K5) (r:List Step):aQ (kq e) (.f 1 17::r)=aQ (.int .i64 e.bits) r:=by simp[kq,az]
structure uk where
 K6:K5
 peer:Key
def jI (r:uk):PV:= .st 50 [kq r.K6,eF r.peer]
@[simp] theorem H2 (e:uk):Pure (jI e):=by simp[jI]
@[simp] theorem Oc (e:uk):wk (jI e)=jI e:=by simp[jI]
@[simp↓] theorem acF (g:Bool) (e:uk) (K:PV->Prop):il g (jI e) K=K (jI e):=_root_.id rfl
@[simp] theorem Vr (e:uk):(jI e).width=50:=_root_.id rfl
@[simp] theorem acG (e:uk):(jI e).isAgg=true:=_root_.id rfl
@[simp] theorem Yu (e:uk):(jI e).bp=true:=_root_.id rfl
@[simp] theorem agJ (l:List uk):aB (l.map jI):=bR H2 l
@[simp] theorem agK (l:List uk):jO (l.map jI)=l.map jI:=D1 Oc l
@[simp↓] theorem RW (e:uk) (r:List Step):aQ (jI e) (.f 0 0::r)=aQ (kq e.K6) r:=by simp[jI]
@[simp↓] theorem RX (e:uk) (r:List Step):aQ (jI e) (.f 1 18::r)=aQ (eF e.peer) r:=by simp[jI,az]
def dV (l:(List uk)):PV:= .sl 50 (l.map jI) false
@[simp] theorem yx (e:(List uk)):Pure (dV e):=by simp[dV]
@[simp] theorem acH (e:(List uk)):wk (dV e)=dV e:=by simp[dV]
@[simp↓] theorem Yv (g:Bool) (e:(List uk)) (K:PV->Prop):il g (dV e) K=K (dV e):=_root_.id rfl
@[simp] theorem RY (e:(List uk)):(dV e).width=1:=_root_.id rfl
@[simp] theorem Yw (e:(List uk)):(dV e).isAgg=false:=_root_.id rfl
@[simp] theorem Vs (e:(List uk)):(dV e).bp=true:=_root_.id rfl
@[simp↓] theorem Vt (s:St) (K:PV->Prop) (l:List uk):xm s K (dV l)=K (.int .i64 l.length):=by simp[dV]
@[simp↓] theorem RZ (s:St) (sz:Nat) (j:Int) (K:PV->Prop) (l:List uk):oQ s sz j K (dV l)=((50=sz∧0≤j∧j<l.length)∧K (.fp sz (l.map jI) [.i j.toNat sz])):=by simp[dV]
structure iK where
 index:Int
 peer:Key
 iO:Bool
def cy (s:iK):PV:= .st 34 [.int .u32 s.index,eF s.peer,.bl s.iO]
@[simp] theorem iT (e:iK):Pure (cy e):=by simp[cy]
@[simp] theorem Od (e:iK):wk (cy e)=cy e:=by simp[cy]
@[simp↓] theorem acI (g:Bool) (e:iK) (K:PV->Prop):il g (cy e) K=K (cy e):=_root_.id rfl
@[simp] theorem Vu (e:iK):(cy e).width=34:=_root_.id rfl
@[simp] theorem acJ (e:iK):(cy e).isAgg=true:=_root_.id rfl
@[simp] theorem Yx (e:iK):(cy e).bp=true:=_root_.id rfl
@[simp] theorem Yy (e:iK):(cy e).flat=true:=_root_.id rfl
@[simp] theorem agL (l:List iK):aB (l.map cy):=bR iT l
@[simp] theorem agM (l:List iK):jO (l.map cy)=l.map cy:=D1 Od l
@[simp↓] theorem R0 (e:iK) (r:List Step):aQ (cy e) (.f 0 0::r)=aQ (.int .u32 e.index) r:=by simp[cy]
@[simp↓] theorem R2 (e:iK) (r:List Step):aQ (cy e) (.f 1 1::r)=aQ (eF e.peer) r:=by simp[cy,az]
@[simp↓] theorem R3 (e:iK) (r:List Step):aQ (cy e) (.f 2 33::r)=aQ (.bl e.iO) r:=by simp[cy,az]
def cZ (l:(List iK)):PV:= .sl 34 (l.map cy) false
@[simp] theorem Gj (e:(List iK)):Pure (cZ e):=by simp[cZ]
@[simp] theorem acK (e:(List iK)):wk (cZ e)=cZ e:=by simp[cZ]
@[simp↓] theorem Yz (g:Bool) (e:(List iK)) (K:PV->Prop):il g (cZ e) K=K (cZ e):=_root_.id rfl
@[simp] theorem R4 (e:(List iK)):(cZ e).width=1:=_root_.id rfl
@[simp] theorem YA (e:(List iK)):(cZ e).isAgg=false:=_root_.id rfl
@[simp] theorem Vv (e:(List iK)):(cZ e).bp=true:=_root_.id rfl
@[simp↓] theorem Vw (s:St) (K:PV->Prop) (l:List iK):xm s K (cZ l)=K (.int .i64 l.length):=by simp[cZ]
@[simp↓] theorem R5 (s:St) (sz:Nat) (j:Int) (K:PV->Prop) (l:List iK):oQ s sz j K (cZ l)=((34=sz∧0≤j∧j<l.length)∧K (.fp sz (l.map cy) [.i j.toNat sz])):=by simp[cZ]
structure fX where
 at_:Int
 peer:Key
 kind:Int
def bU (t:fX):PV:= .st 34 [.int .i64 t.at_,eF t.peer,.int .i64 t.kind]
@[simp] theorem kl (e:fX):Pure (bU e):=by simp[bU]
@[simp] theorem apl (e:fX):wk (bU e)=bU e:=by simp[bU]
@[simp↓] theorem agN (g:Bool) (e:fX) (K:PV->Prop):il g (bU e) K=K (bU e):=_root_.id rfl
@[simp] theorem YB (e:fX):(bU e).width=34:=_root_.id rfl
@[simp] theorem agO (e:fX):(bU e).isAgg=true:=_root_.id rfl
@[simp] theorem acL (e:fX):(bU e).bp=true:=_root_.id rfl
@[simp] theorem apm (l:List fX):aB (l.map bU):=bR kl l
@[simp↓] theorem Vx (e:fX) (r:List Step):aQ (bU e) (.f 0 0::r)=aQ (.int .i64 e.at_) r:=by simp[bU]
@[simp↓] theorem Vy (e:fX) (r:List Step):aQ (bU e) (.f 1 1::r)=aQ (eF e.peer) r:=by simp[bU,az]
@[simp↓] theorem Vz (e:fX) (r:List Step):aQ (bU e) (.f 2 33::r)=aQ (.int .i64 e.kind) r:=by simp[bU,az]
def db (l:(List fX)):PV:= .sl 34 (l.map bU) false
@[simp] theorem um (e:(List fX)):Pure (db e):=by simp[db]
@[simp] theorem agP (e:(List fX)):wk (db e)=db e:=by simp[db]
@[simp↓] theorem acM (g:Bool) (e:(List fX)) (K:PV->Prop):il g (db e) K=K (db e):=_root_.id rfl
@[simp] theorem VA (e:(List fX)):(db e).width=1:=_root_.id rfl
@[simp] theorem acN (e:(List fX)):(db e).isAgg=false:=_root_.id rfl
@[simp] theorem YC (e:(List fX)):(db e).bp=true:=_root_.id rfl
@[simp↓] theorem YD (s:St) (K:PV->Prop) (l:List fX):xm s K (db l)=K (.int .i64 l.length):=by simp[db]
@[simp↓] theorem VB (s:St) (sz:Nat) (j:Int) (K:PV->Prop) (l:List fX):oQ s sz j K (db l)=((34=sz∧0≤j∧j<l.length)∧K (.fp sz (l.map bU) [.i j.toNat sz])):=by simp[db]
structure BV where
 addr:tm
 tokens:Int
 at_:Int
def mB (b:BV):PV:= .st 19 [jF b.addr,.int .i64 b.tokens,.int .i64 b.at_]
@[simp] theorem YE (e:BV):Pure (mB e):=by simp[mB]
@[simp] theorem agQ (e:BV):wk (mB e)=mB e:=by simp[mB]
@[simp↓] theorem acO (g:Bool) (e:BV) (K:PV->Prop):il g (mB e) K=K (mB e):=_root_.id rfl
@[simp] theorem VC (e:BV):(mB e).width=19:=_root_.id rfl
@[simp] theorem acP (e:BV):(mB e).isAgg=true:=_root_.id rfl
def eO (l:(List BV)):PV:= .sl 19 (l.map mB) false
@[simp] theorem yy (e:(List BV)):Pure (eO e):=by simp[eO]
@[simp] theorem acQ (e:(List BV)):wk (eO e)=eO e:=by simp[eO]
@[simp↓] theorem YF (g:Bool) (e:(List BV)) (K:PV->Prop):il g (eO e) K=K (eO e):=_root_.id rfl
@[simp] theorem R6 (e:(List BV)):(eO e).width=1:=_root_.id rfl
@[simp] theorem YG (e:(List BV)):(eO e).isAgg=false:=_root_.id rfl
@[simp] theorem VE (e:(List BV)):(eO e).bp=true:=_root_.id rfl
@[simp↓] theorem VF (s:St) (K:PV->Prop) (l:List BV):xm s K (eO l)=K (.int .i64 l.length):=by simp[eO]
@[simp↓] theorem R7 (s:St) (sz:Nat) (j:Int) (K:PV->Prop) (l:List BV):oQ s sz j K (eO l)=((19=sz∧0≤j∧j<l.length)∧K (.fp sz (l.map mB) [.i j.toNat sz])):=by simp[eO]
structure Gk where
 has:Bool
 loc:Int
 eph:FV ja
 VG:FV HZ
 started:Int
 Oe:Int
def jV (h:Gk):PV:= .st 100 [.bl h.has,.int .u32 h.loc,h.eph.p,h.VG.p,.int .i64 h.started,.int .i64 h.Oe]
@[simp] theorem K7 (e:Gk):Pure (jV e):=by simp[jV]
@[simp] theorem apn (e:Gk):wk (jV e)=jV e:=by simp[jV]
@[simp↓] theorem agR (g:Bool) (e:Gk) (K:PV->Prop):il g (jV e) K=K (jV e):=_root_.id rfl
@[simp] theorem YH (e:Gk):(jV e).width=100:=_root_.id rfl
@[simp] theorem agS (e:Gk):(jV e).isAgg=true:=_root_.id rfl
@[simp] theorem acR (e:Gk):(jV e).bp=true:=_root_.id rfl
@[simp↓] theorem VH (e:Gk) (r:List Step):aQ (jV e) (.f 0 0::r)=aQ (.bl e.has) r:=by simp[jV]
@[simp↓] theorem VI (e:Gk) (r:List Step):aQ (jV e) (.f 1 1::r)=aQ (.int .u32 e.loc) r:=by simp[jV,az]
@[simp↓] theorem VJ (e:Gk) (r:List Step):aQ (jV e) (.f 4 98::r)=aQ (.int .i64 e.started) r:=by simp[jV,az]
@[simp↓] theorem VK (e:Gk) (r:List Step):aQ (jV e) (.f 5 99::r)=aQ (.int .i64 e.Oe) r:=by simp[jV,az]
structure dC where
 gC:Key
 shared:FV ja
 lF:Bool
 ep:H0
 nI:Int
 pJ:FV N9
 pK:Bool
 tn:Int
 hand:Gk
 mP:Bool
 ot:FV vR
 qB:Int
 CX:FV vR
 ring:kN
 aW:List (List UInt8)
def aC (p:dC):PV:= .st 464 [eF p.gC,p.shared.p,.bl p.lF,ji p.ep,.int .i64 p.nI,p.pJ.p,.bl p.pK,.int .i64 p.tn,jV p.hand,.bl p.mP,p.ot.p,.int .i64 p.qB,p.CX.p,ee p.ring,gI p.aW]
@[simp] theorem eG (e:dC):Pure (aC e):=by simp[aC]
@[simp] theorem agT (e:dC):wk (aC e)=aC e:=by simp[aC]
@[simp↓] theorem acS (g:Bool) (e:dC) (K:PV->Prop):il g (aC e) K=K (aC e):=_root_.id rfl
@[simp] theorem VL (e:dC):(aC e).width=464:=_root_.id rfl
@[simp] theorem acT (e:dC):(aC e).isAgg=true:=_root_.id rfl
@[simp] theorem YI (e:dC):(aC e).bp=true:=_root_.id rfl
@[simp] theorem agU (l:List dC):aB (l.map aC):=bR eG l
@[simp↓] theorem R8 (e:dC) (r:List Step):aQ (aC e) (.f 0 0::r)=aQ (eF e.gC) r:=by simp[aC]
@[simp↓] theorem R9 (e:dC) (r:List Step):aQ (aC e) (.f 1 32::r)=aQ (e.shared.p) r:=by simp[aC,az]
@[simp↓] theorem Sa (e:dC) (r:List Step):aQ (aC e) (.f 2 64::r)=aQ (.bl e.lF) r:=by simp[aC,az]
@[simp↓] theorem Sb (e:dC) (r:List Step):aQ (aC e) (.f 3 65::r)=aQ (ji e.ep) r:=by simp[aC,az]
@[simp↓] theorem Sc (e:dC) (r:List Step):aQ (aC e) (.f 4 83::r)=aQ (.int .i64 e.nI) r:=by simp[aC,az]
@[simp↓] theorem Sd (e:dC) (r:List Step):aQ (aC e) (.f 5 84::r)=aQ (e.pJ.p) r:=by simp[aC,az]
@[simp↓] theorem Se (e:dC) (r:List Step):aQ (aC e) (.f 6 96::r)=aQ (.bl e.pK) r:=by simp[aC,az]
@[simp↓] theorem Sf (e:dC) (r:List Step):aQ (aC e) (.f 7 97::r)=aQ (.int .i64 e.tn) r:=by simp[aC,az]
@[simp↓] theorem Sg (e:dC) (r:List Step):aQ (aC e) (.f 8 98::r)=aQ (jV e.hand) r:=by simp[aC,az]
def su (e:dC) (c:PV):PV:= .st 464 [eF e.gC,e.shared.p,.bl e.lF,ji e.ep,.int .i64 e.nI,e.pJ.p,.bl e.pK,.int .i64 e.tn,c,.bl e.mP,e.ot.p,.int .i64 e.qB,e.CX.p,ee e.ring,gI e.aW]
@[simp↓] theorem Si (e:dC) (r:List Step) (x:PV):di (aC e) (.f 8 98::r) x=(di (jV e.hand) r x).bind λc=>some (su e c):=by simp[aC,su,az]
@[simp↓] theorem YJ (e:dC) (v:Gk):su e (jV v)=aC {e with hand:=v}:=_root_.id rfl
@[simp↓] theorem Sj (e:dC) (r:List Step):aQ (aC e) (.f 9 198::r)=aQ (.bl e.mP) r:=by simp[aC,az]
def Bl (e:dC) (c:PV):PV:= .st 464 [eF e.gC,e.shared.p,.bl e.lF,ji e.ep,.int .i64 e.nI,e.pJ.p,.bl e.pK,.int .i64 e.tn,jV e.hand,c,e.ot.p,.int .i64 e.qB,e.CX.p,ee e.ring,gI e.aW]
@[simp↓] theorem Sk (e:dC) (r:List Step) (x:PV):di (aC e) (.f 9 198::r) x=(di (.bl e.mP) r x).bind λc=>some (Bl e c):=by simp[aC,Bl,az]
@[simp↓] theorem YK (e:dC) (v:Bool):Bl e (.bl v)=aC {e with mP:=v}:=_root_.id rfl
@[simp↓] theorem P4 (e:dC) (r:List Step):aQ (aC e) (.f 10 199::r)=aQ (e.ot.p) r:=by simp[aC,az]
def qC (e:dC) (c:PV):PV:= .st 464 [eF e.gC,e.shared.p,.bl e.lF,ji e.ep,.int .i64 e.nI,e.pJ.p,.bl e.pK,.int .i64 e.tn,jV e.hand,.bl e.mP,c,.int .i64 e.qB,e.CX.p,ee e.ring,gI e.aW]
@[simp↓] theorem P5 (e:dC) (r:List Step) (x:PV):di (aC e) (.f 10 199::r) x=(di (e.ot.p) r x).bind λc=>some (qC e c):=by simp[aC,qC,az]
@[simp↓] theorem VN (e:dC) (v:FV vR):qC e (v.p)=aC {e with ot:=v}:=_root_.id rfl
@[simp↓] theorem P6 (e:dC) (r:List Step):aQ (aC e) (.f 11 215::r)=aQ (.int .i64 e.qB) r:=by simp[aC,az]
def xw (e:dC) (c:PV):PV:= .st 464 [eF e.gC,e.shared.p,.bl e.lF,ji e.ep,.int .i64 e.nI,e.pJ.p,.bl e.pK,.int .i64 e.tn,jV e.hand,.bl e.mP,e.ot.p,c,e.CX.p,ee e.ring,gI e.aW]
@[simp↓] theorem P7 (e:dC) (r:List Step) (x:PV):di (aC e) (.f 11 215::r) x=(di (.int .i64 e.qB) r x).bind λc=>some (xw e c):=by simp[aC,xw,az]
@[simp↓] theorem VO (e:dC) (v:Int):xw e (.int .i64 v)=aC {e with qB:=v}:=_root_.id rfl
@[simp↓] theorem P8 (e:dC) (r:List Step):aQ (aC e) (.f 12 216::r)=aQ (e.CX.p) r:=by simp[aC,az]
def qD (e:dC) (c:PV):PV:= .st 464 [eF e.gC,e.shared.p,.bl e.lF,ji e.ep,.int .i64 e.nI,e.pJ.p,.bl e.pK,.int .i64 e.tn,jV e.hand,.bl e.mP,e.ot.p,.int .i64 e.qB,c,ee e.ring,gI e.aW]
@[simp↓] theorem P9 (e:dC) (r:List Step) (x:PV):di (aC e) (.f 12 216::r) x=(di (e.CX.p) r x).bind λc=>some (qD e c):=by simp[aC,qD,az]
@[simp↓] theorem VQ (e:dC) (v:FV vR):qD e (v.p)=aC {e with CX:=v}:=_root_.id rfl
@[simp↓] theorem Qa (e:dC) (r:List Step):aQ (aC e) (.f 13 232::r)=aQ (ee e.ring) r:=by simp[aC,az]
def xx (e:dC) (c:PV):PV:= .st 464 [eF e.gC,e.shared.p,.bl e.lF,ji e.ep,.int .i64 e.nI,e.pJ.p,.bl e.pK,.int .i64 e.tn,jV e.hand,.bl e.mP,e.ot.p,.int .i64 e.qB,e.CX.p,c,gI e.aW]
@[simp↓] theorem Qb (e:dC) (r:List Step) (x:PV):di (aC e) (.f 13 232::r) x=(di (ee e.ring) r x).bind λc=>some (xx e c):=by simp[aC,xx,az]
@[simp↓] theorem VR (e:dC) (v:kN):xx e (ee v)=aC {e with ring:=v}:=_root_.id rfl
@[simp↓] theorem Qc (e:dC) (r:List Step):aQ (aC e) (.f 14 463::r)=aQ (gI e.aW) r:=by simp[aC,az]
def jo (e:dC) (c:PV):PV:= .st 464 [eF e.gC,e.shared.p,.bl e.lF,ji e.ep,.int .i64 e.nI,e.pJ.p,.bl e.pK,.int .i64 e.tn,jV e.hand,.bl e.mP,e.ot.p,.int .i64 e.qB,e.CX.p,ee e.ring,c]
@[simp↓] theorem Qd (e:dC) (r:List Step) (x:PV):di (aC e) (.f 14 463::r) x=(di (gI e.aW) r x).bind λc=>some (jo e c):=by simp[aC,jo,az]
@[simp↓] theorem VS (e:dC) (v:List (List UInt8)):jo e (gI v)=aC {e with aW:=v}:=_root_.id rfl
def iw (l:(List dC)):PV:= .sl 464 (l.map aC) false
@[simp] theorem VT (e:(List dC)):Pure (iw e):=by simp[iw]
@[simp] theorem acU (e:(List dC)):wk (iw e)=iw e:=by simp[iw]
@[simp↓] theorem YL (g:Bool) (e:(List dC)) (K:PV->Prop):il g (iw e) K=K (iw e):=_root_.id rfl
@[simp] theorem Sl (e:(List dC)):(iw e).width=1:=_root_.id rfl
@[simp] theorem YM (e:(List dC)):(iw e).isAgg=false:=_root_.id rfl
@[simp] theorem VU (e:(List dC)):(iw e).bp=true:=_root_.id rfl
@[simp↓] theorem VV (s:St) (K:PV->Prop) (l:List dC):xm s K (iw l)=K (.int .i64 l.length):=by simp[iw]
@[simp↓] theorem Sm (s:St) (sz:Nat) (j:Int) (K:PV->Prop) (l:List dC):oQ s sz j K (iw l)=((464=sz∧0≤j∧j<l.length)∧K (.fp sz (l.map aC) [.i j.toNat sz])):=by simp[iw]
structure bK where
 rules:xv
 mZ:FV ja
 nP:FV ja
 port:Int
 random:FV ja
 now:Int
 aj:List dC
 bn:List uk
 aD:List iK
 timers:List fX
 ix:FV ja
 ka:Int
 bD:List Int
 buckets:List BV
 bad:Int
def br (d:bK) (p:PV):PV:= .st 148 [dU d.rules,d.mZ.p,d.nP.p,.int .i64 d.port,d.random.p,.int .i64 d.now,p,dV d.bn,cZ d.aD,db d.timers,d.ix.p,.int .i64 d.ka,gz d.bD,eO d.buckets,.int .i64 d.bad]
@[simp] theorem VW (e:bK) (p:PV):(br e p).width=148:=_root_.id rfl
@[simp] theorem acV (e:bK) (p:PV):(br e p).isAgg=true:=rfl
@[simp] theorem YN (e:bK) (p:PV):(br e p).bp=true:=rfl
@[simp] theorem YO (e:bK) (p:PV):(br e p).flat=true:=rfl
@[simp↓] theorem acW (g:Bool) (e:bK) (p:PV) (K:PV->Prop):il g (br e p) K=K (br e p):=_root_.id rfl
@[simp↓] theorem Sn (e:bK) (p:PV) (r:List Step):aQ (br e p) (.f 0 0::r)=aQ (dU e.rules) r:=by simp[br]
@[simp↓] theorem So (e:bK) (p:PV) (r:List Step):aQ (br e p) (.f 1 10::r)=aQ (e.mZ.p) r:=by simp[br,az]
@[simp↓] theorem Sp (e:bK) (p:PV) (r:List Step):aQ (br e p) (.f 2 42::r)=aQ (e.nP.p) r:=by simp[br,az]
@[simp↓] theorem Sq (e:bK) (p:PV) (r:List Step):aQ (br e p) (.f 3 74::r)=aQ (.int .i64 e.port) r:=by simp[br,az]
@[simp↓] theorem Sr (e:bK) (p:PV) (r:List Step):aQ (br e p) (.f 4 75::r)=aQ (e.random.p) r:=by simp[br,az]
def Bm (e:bK) (p:PV) (c:PV):PV:= .st 148 [dU e.rules,e.mZ.p,e.nP.p,.int .i64 e.port,c,.int .i64 e.now,p,dV e.bn,cZ e.aD,db e.timers,e.ix.p,.int .i64 e.ka,gz e.bD,eO e.buckets,.int .i64 e.bad]
@[simp↓] theorem Ss (e:bK) (p:PV) (r:List Step) (x:PV):di (br e p) (.f 4 75::r) x=(di (e.random.p) r x).bind λc=>some (Bm e p c):=by simp[br,Bm,az]
@[simp↓] theorem YP (e:bK) (p:PV) (v:FV ja):Bm e p (v.p)=br {e with random:=v} p:=_root_.id rfl
@[simp↓] theorem Su (e:bK) (p:PV) (r:List Step):aQ (br e p) (.f 5 107::r)=aQ (.int .i64 e.now) r:=by simp[br,az]
@[simp↓] theorem Sv (e:bK) (p:PV) (r:List Step):aQ (br e p) (.f 6 108::r)=aQ (p) r:=by simp[br,az]
def Bn (e:bK) (p:PV) (c:PV):PV:= .st 148 [dU e.rules,e.mZ.p,e.nP.p,.int .i64 e.port,e.random.p,.int .i64 e.now,c,dV e.bn,cZ e.aD,db e.timers,e.ix.p,.int .i64 e.ka,gz e.bD,eO e.buckets,.int .i64 e.bad]
@[simp↓] theorem Sw (e:bK) (p:PV) (r:List Step) (x:PV):di (br e p) (.f 6 108::r) x=(di (p) r x).bind λc=>some (Bn e p c):=by simp[br,Bn,az]
@[simp↓] theorem YQ (e:bK) (p:PV) (v:PV):Bn e p v=br e v:=_root_.id rfl
@[simp↓] theorem Sx (e:bK) (p:PV) (hp:p.width=1) (r:List Step):aQ (br e p) (.f 7 109::r)=aQ (dV e.bn) r:=by simp[br,az,hp]
def Bo (e:bK) (p:PV) (c:PV):PV:= .st 148 [dU e.rules,e.mZ.p,e.nP.p,.int .i64 e.port,e.random.p,.int .i64 e.now,p,c,cZ e.aD,db e.timers,e.ix.p,.int .i64 e.ka,gz e.bD,eO e.buckets,.int .i64 e.bad]
@[simp↓] theorem Sy (e:bK) (p:PV) (hp:p.width=1) (r:List Step) (x:PV):di (br e p) (.f 7 109::r) x=(di (dV e.bn) r x).bind λc=>some (Bo e p c):=by simp[br,Bo,az,hp]
@[simp↓] theorem YR (e:bK) (p:PV) (v:List uk):Bo e p (dV v)=br {e with bn:=v} p:=_root_.id rfl
@[simp↓] theorem Sz (e:bK) (p:PV) (hp:p.width=1) (r:List Step):aQ (br e p) (.f 8 110::r)=aQ (cZ e.aD) r:=by simp[br,az,hp]
def vS (e:bK) (p:PV) (c:PV):PV:= .st 148 [dU e.rules,e.mZ.p,e.nP.p,.int .i64 e.port,e.random.p,.int .i64 e.now,p,dV e.bn,c,db e.timers,e.ix.p,.int .i64 e.ka,gz e.bD,eO e.buckets,.int .i64 e.bad]
@[simp↓] theorem SA (e:bK) (p:PV) (hp:p.width=1) (r:List Step) (x:PV):di (br e p) (.f 8 110::r) x=(di (cZ e.aD) r x).bind λc=>some (vS e p c):=by simp[br,vS,az,hp]
@[simp↓] theorem YS (e:bK) (p:PV) (v:List iK):vS e p (cZ v)=br {e with aD:=v} p:=_root_.id rfl
@[simp↓] theorem SB (e:bK) (p:PV) (hp:p.width=1) (r:List Step):aQ (br e p) (.f 9 111::r)=aQ (db e.timers) r:=by simp[br,az,hp]
def Bp (e:bK) (p:PV) (c:PV):PV:= .st 148 [dU e.rules,e.mZ.p,e.nP.p,.int .i64 e.port,e.random.p,.int .i64 e.now,p,dV e.bn,cZ e.aD,c,e.ix.p,.int .i64 e.ka,gz e.bD,eO e.buckets,.int .i64 e.bad]
@[simp↓] theorem SC (e:bK) (p:PV) (hp:p.width=1) (r:List Step) (x:PV):di (br e p) (.f 9 111::r) x=(di (db e.timers) r x).bind λc=>some (Bp e p c):=by simp[br,Bp,az,hp]
@[simp↓] theorem YT (e:bK) (p:PV) (v:List fX):Bp e p (db v)=br {e with timers:=v} p:=_root_.id rfl
@[simp↓] theorem Qe (e:bK) (p:PV) (hp:p.width=1) (r:List Step):aQ (br e p) (.f 10 112::r)=aQ (e.ix.p) r:=by simp[br,az,hp]
@[simp↓] theorem Qg (e:bK) (p:PV) (hp:p.width=1) (r:List Step):aQ (br e p) (.f 11 144::r)=aQ (.int .i64 e.ka) r:=by simp[br,az,hp]
@[simp↓] theorem Qh (e:bK) (p:PV) (hp:p.width=1) (r:List Step):aQ (br e p) (.f 12 145::r)=aQ (gz e.bD) r:=by simp[br,az,hp]
def s6 (e:bK) (p:PV) (c:PV):PV:= .st 148 [dU e.rules,e.mZ.p,e.nP.p,.int .i64 e.port,e.random.p,.int .i64 e.now,p,dV e.bn,cZ e.aD,db e.timers,e.ix.p,.int .i64 e.ka,c,eO e.buckets,.int .i64 e.bad]
@[simp↓] theorem Qi (e:bK) (p:PV) (hp:p.width=1) (r:List Step) (x:PV):di (br e p) (.f 12 145::r) x=(di (gz e.bD) r x).bind λc=>some (s6 e p c):=by simp[br,s6,az,hp]
@[simp↓] theorem VX (e:bK) (p:PV) (v:List Int):s6 e p (gz v)=br {e with bD:=v} p:=_root_.id rfl
@[simp↓] theorem Qj (e:bK) (p:PV) (hp:p.width=1) (r:List Step):aQ (br e p) (.f 13 146::r)=aQ (eO e.buckets) r:=by simp[br,az,hp]
def xy (e:bK) (p:PV) (c:PV):PV:= .st 148 [dU e.rules,e.mZ.p,e.nP.p,.int .i64 e.port,e.random.p,.int .i64 e.now,p,dV e.bn,cZ e.aD,db e.timers,e.ix.p,.int .i64 e.ka,gz e.bD,c,.int .i64 e.bad]
@[simp↓] theorem Qk (e:bK) (p:PV) (hp:p.width=1) (r:List Step) (x:PV):di (br e p) (.f 13 146::r) x=(di (eO e.buckets) r x).bind λc=>some (xy e p c):=by simp[br,xy,az,hp]
@[simp↓] theorem VY (e:bK) (p:PV) (v:List BV):xy e p (eO v)=br {e with buckets:=v} p:=_root_.id rfl
@[simp↓] theorem Ql (e:bK) (p:PV) (hp:p.width=1) (r:List Step):aQ (br e p) (.f 14 147::r)=aQ (.int .i64 e.bad) r:=by simp[br,az,hp]
def xz (e:bK) (p:PV) (c:PV):PV:= .st 148 [dU e.rules,e.mZ.p,e.nP.p,.int .i64 e.port,e.random.p,.int .i64 e.now,p,dV e.bn,cZ e.aD,db e.timers,e.ix.p,.int .i64 e.ka,gz e.bD,eO e.buckets,c]
@[simp↓] theorem Qm (e:bK) (p:PV) (hp:p.width=1) (r:List Step) (x:PV):di (br e p) (.f 14 147::r) x=(di (.int .i64 e.bad) r x).bind λc=>some (xz e p c):=by simp[br,xz,az,hp]
@[simp↓] theorem VZ (e:bK) (p:PV) (v:Int):xz e p (.int .i64 v)=br {e with bad:=v} p:=_root_.id rfl
@[simp] theorem Ek (f:Nat->Bool) (e:bK) (p:PV):ab f (br e p)=ab f p:=by
 have h1:ab f (dU e.rules)=true:=(Bk _).refs f
 have h2:ab f (dV e.bn)=true:=(yx _).refs f
 have h3:ab f (cZ e.aD)=true:=(Gj _).refs f
 have h4:ab f (db e.timers)=true:=(um _).refs f
 have h5:ab f (gz e.bD)=true:=(Bj _).refs f
 have h6:ab f (eO e.buckets)=true:=(yy _).refs f
 have g1:ab f e.mZ.p=true:=(FV.pure e.mZ).refs f
 have g2:ab f e.nP.p=true:=(FV.pure e.nP).refs f
 have g3:ab f e.random.p=true:=(FV.pure e.random).refs f
 have g4:ab f e.ix.p=true:=(FV.pure e.ix).refs f
 simp[br,ab,ae]
@[simp] theorem acX (ρ:Nat->Nat) (e:bK) (p:PV):aI ρ (br e p)=br e (aI ρ p):=by
 simp[br,aI,aO]
@[simp] theorem agV (e:bK) (p:PV):wk (br e p)=br e (wk p):=by simp[br]
@[simp] theorem acY (k sz:Nat) (l:List PV) (e:bK) (p:PV):gq k sz l (br e p)=br e (gq k sz l p):=by
 simp[br,gq,im]
@[simp] theorem YU (e:bK) {p:PV} (h:Pure p):Pure (br e p):=Pure.of (by rw[Ek];exact h.refs _)
def dY (d:bK):PV:=br d (iw d.aj)
@[simp] theorem K8 (e:bK):Pure (dY e):=by simp[dY]
@[simp] theorem apo (e:bK):wk (dY e)=dY e:=by simp[dY]
@[simp↓] theorem agW (g:Bool) (e:bK) (K:PV->Prop):il g (dY e) K=K (dY e):=_root_.id rfl
@[simp] theorem YV (e:bK):(dY e).width=148:=_root_.id rfl
@[simp] theorem agX (e:bK):(dY e).isAgg=true:=_root_.id rfl
@[simp] theorem acZ (e:bK):(dY e).bp=true:=_root_.id rfl
@[simp] theorem ac0 (e:bK):(dY e).flat=true:=_root_.id rfl
@[simp↓] theorem ac1 (e:bK) (i o:Nat) (r:List Step):aQ (dY e) (.f i o::r)=aQ (br e (iw e.aj)) (.f i o::r):=_root_.id rfl
@[simp↓] theorem ac2 (e:bK) (i o:Nat) (r:List Step) (x:PV):di (dY e) (.f i o::r) x=di (br e (iw e.aj)) (.f i o::r) x:=_root_.id rfl
theorem Bq:∀l:List UInt8,lj (.i .u8) (l.map u8)=true
 |[]=>rfl
 |x::l=>by simp[lj,u8,fits,Bq l]
@[simp] theorem oD (k:Key):fits ja (eF k)=true:=by
 simp[eF,fits,Bq,k.h,pj]
def Key.fv (k:Key):FV ja:=⟨eF k,oD k⟩
@[simp] theorem Key.aAz (k:Key):k.fv.p=eF k:=rfl
@[simp] theorem agY (e:Key):PV.beq (eF e) (eF e)=true:=(fF _ _ (oD e)).beq
abbrev arP:Sh:= .st [.i .u64,.i .u64,.i .i64,.i .i64,.i .i64,.i .i64,.i .i64,.i .i64,.i .i64,.i .i64]
@[simp] theorem H3 (e:xv):fits arP (dU e)=true:=by
 simp_all [dU,fits,jd,pj,pW]
@[simp] theorem ac3 (e:xv):PV.beq (dU e) (dU e)=true:=(fF _ _ (H3 e)).beq
abbrev shA:Sh:= .st [.b,.ar 16 (.i .u8)]
@[simp] theorem K9 (e:tm):fits shA (jF e)=true:=by
 have:=e.h;simp_all [jF,fits,jd,pj,pW,Bq]
abbrev shE:Sh:= .st [.st [.b,.ar 16 (.i .u8)],.i .i64]
@[simp] theorem CY (e:H0):fits shE (ji e)=true:=by
 have:=e.addr.h;simp_all [ji,fits,jd,pj,pW]
@[simp] theorem Of (e:H0):PV.beq (ji e) (ji e)=true:=(fF _ _ (CY e)).beq
abbrev shX:Sh:= .st [.st [.b,.ar 16 (.i .u8)],.i .i64]
@[simp] theorem La (e:K5):fits shX (kq e)=true:=by
 have:=e.addr.h;simp_all [kq,fits,jd,pj,pW]
abbrev arQ:Sh:= .st [.st [.st [.b,.ar 16 (.i .u8)],.i .i64],.ar 32 (.i .u8)]
@[simp] theorem H4 (e:uk):fits arQ (jI e)=true:=by
 have:=La e.K6;have:=oD e.peer;simp_all [jI,fits,jd,pj,pW]
@[simp] theorem ac4 (e:uk):PV.beq (jI e) (jI e)=true:=(fF _ _ (H4 e)).beq
abbrev arR:Sh:= .st [.i .u32,.ar 32 (.i .u8),.b]
@[simp] theorem H5 (e:iK):fits arR (cy e)=true:=by
 have:=oD e.peer;simp_all [cy,fits,jd,pj,pW]
@[simp] theorem ac5 (e:iK):PV.beq (cy e) (cy e)=true:=(fF _ _ (H5 e)).beq
abbrev shT:Sh:= .st [.i .i64,.ar 32 (.i .u8),.i .i64]
@[simp] theorem Lb (e:fX):fits shT (bU e)=true:=by
 have:=oD e.peer;simp_all [bU,fits,jd,pj,pW]
@[simp] theorem agZ (e:fX):PV.beq (bU e) (bU e)=true:=(fF _ _ (Lb e)).beq
abbrev arS:Sh:= .st [.st [.b,.ar 16 (.i .u8)],.i .i64,.i .i64]
@[simp] theorem H6 (e:BV):fits arS (mB e)=true:=by
 have:=K9 e.addr;simp_all [mB,fits,jd,pj,pW]
@[simp] theorem ac6 (e:BV):PV.beq (mB e) (mB e)=true:=(fF _ _ (H6 e)).beq
abbrev shH:Sh:= .st [.b,.i .u32,.ar 32 (.i .u8),.st [.ar 32 (.i .u8),.ar 32 (.i .u8)],.i .i64,.i .i64]
@[simp] theorem CZ (e:Gk):fits shH (jV e)=true:=by
 have:=e.eph.ok;have:=e.VG.ok;simp_all [jV,fits,jd,pj,pW]
@[simp] theorem Og (e:Gk):PV.beq (jV e) (jV e)=true:=(fF _ _ (CZ e)).beq
abbrev arT:Sh:= .st [.i .u32,.i .u32,.ar 32 (.i .u8),.ar 32 (.i .u8),.i .u64,.i .u64,.st [.b,.i .u64,.ar 4 (.i .u64)],.i .i64,.b]
@[simp] theorem Lc (e:j9):fits arT (fO e)=true:=by
 have:=e.send.ok;have:=e.recv.ok;have:=e.py.ok;simp_all [fO,fits,jd,pj,pW]
abbrev arU:Sh:= .st [.b,.st [.i .u32,.i .u32,.ar 32 (.i .u8),.ar 32 (.i .u8),.i .u64,.i .u64,.st [.b,.i .u64,.ar 4 (.i .u64)],.i .i64,.b]]
@[simp] theorem qE (e:pq):fits arU (gP e)=true:=by
 have:=Lc e.iO;simp_all [gP,fits,jd,pj,pW]
@[simp] theorem Gl (e:pq):PV.beq (gP e) (gP e)=true:=(fF _ _ (qE e)).beq
abbrev arV:Sh:= .st [.st [.b,.st [.i .u32,.i .u32,.ar 32 (.i .u8),.ar 32 (.i .u8),.i .u64,.i .u64,.st [.b,.i .u64,.ar 4 (.i .u64)],.i .i64,.b]],.st [.b,.st [.i .u32,.i .u32,.ar 32 (.i .u8),.ar 32 (.i .u8),.i .u64,.i .u64,.st [.b,.i .u64,.ar 4 (.i .u64)],.i .i64,.b]],.st [.b,.st [.i .u32,.i .u32,.ar 32 (.i .u8),.ar 32 (.i .u8),.i .u64,.i .u64,.st [.b,.i .u64,.ar 4 (.i .u64)],.i .i64,.b]]]
@[simp] theorem Ld (e:kN):fits arV (ee e)=true:=by
 have:=qE e.p;have:=qE e.c;have:=qE e.n;simp_all [ee,fits,jd,pj,pW]
@[simp] theorem ag0 (e:kN):PV.beq (ee e) (ee e)=true:=(fF _ _ (Ld e)).beq
end Go.Ab
