/- The types of a daemon as the abstract reading has them. No condition. -/
import Derived.Test.YtjkfnhhekobfgaaGreatDoorSF1
import Derived.Test.YtjkfnhhekobfgaaGreatDoorSF2
import Derived.Test.YtjkfnhhekobfgaaGreatDoorSF3
import Derived.Test.YtjkfnhhekobfgaaGreatDoorSF4
import Derived.Test.YtjkfnhhekobfgaaGreatDoorSF5
import Derived.Test.YtjkfnhhekobfgaaGreatDoorA5
set_option linter.all false
noncomputable section
namespace Go.Ab
open Go.Ab
abbrev nR:Sh:= .ar 32 (.i .u8)
@[simp] theorem ahw:rO nR=32:=rfl
@[simp] theorem aaX:Sh.agg nR=true:=rfl
abbrev H3:Sh:= .st [.b,.i .u64,.ar 4 (.i .u64)]
@[simp] theorem ahx:rO H3=6:=rfl
@[simp] theorem aaY:Sh.agg H3=true:=rfl
abbrev Ki:Sh:= .st [.ar 32 (.i .u8),.ar 32 (.i .u8)]
@[simp] theorem ahy:rO Ki=64:=rfl
@[simp] theorem aaZ:Sh.agg Ki=true:=rfl
abbrev EY:Sh:= .ar 16 (.i .u8)
@[simp] theorem ahz:rO EY=16:=rfl
@[simp] theorem aa0:Sh.agg EY=true:=rfl
abbrev Kj:Sh:= .ar 12 (.i .u8)
@[simp] theorem ahA:rO Kj=12:=rfl
@[simp] theorem aa1:Sh.agg Kj=true:=rfl
def fV (b:(List UInt8)):PV:= .sl 1 (b.map u8) false
@[simp] theorem H4 (e:(List UInt8)):Pure (fV e):=by simp[fV]
@[simp] theorem afn (e:(List UInt8)):wk (fV e)=fV e:=by simp[fV]
@[simp↓] theorem aa2 (g:Bool) (e:(List UInt8)) (K:PV->Prop):gG g (fV e) K=K (fV e):=_root_.id rfl
@[simp] theorem Ty (e:(List UInt8)):(fV e).width=1:=_root_.id rfl
@[simp] theorem aa3 (e:(List UInt8)):(fV e).isAgg=false:=_root_.id rfl
@[simp] theorem afo (l:List (List UInt8)):cD (l.map fV):=dQ H4 l
@[simp↓] theorem Xx (s:St) (K:PV->Prop) (l:List UInt8):uZ s K (fV l)=K (.int .i64 l.length):=by simp[fV]
@[simp↓] theorem Tz (s:St) (sz:Nat) (j:Int) (K:PV->Prop) (l:List UInt8):nH s sz j K (fV l)=((1=sz∧0≤j∧j<l.length)∧K (.fp sz (l.map u8) [.i j.toNat sz])):=by simp[fV]
def jv (l:(List (List UInt8))):PV:= .sl 1 (l.map fV) false
@[simp] theorem TA (e:(List (List UInt8))):Pure (jv e):=by simp[jv]
@[simp] theorem aa4 (e:(List (List UInt8))):wk (jv e)=jv e:=by simp[jv]
@[simp↓] theorem Xy (g:Bool) (e:(List (List UInt8))) (K:PV->Prop):gG g (jv e) K=K (jv e):=_root_.id rfl
@[simp] theorem QM (e:(List (List UInt8))):(jv e).width=1:=_root_.id rfl
@[simp] theorem Xz (e:(List (List UInt8))):(jv e).isAgg=false:=_root_.id rfl
@[simp↓] theorem TB (s:St) (K:PV->Prop) (l:List (List UInt8)):uZ s K (jv l)=K (.int .i64 l.length):=by simp[jv]
@[simp↓] theorem QN (s:St) (sz:Nat) (j:Int) (K:PV->Prop) (l:List (List UInt8)):nH s sz j K (jv l)=((1=sz∧0≤j∧j<l.length)∧K (.fp sz (l.map fV) [.i j.toNat sz])):=by simp[jv]
def fH (l:(List Int)):PV:= .sl 1 (l.map (λn:Int=>PV.int .i64 n)) false
@[simp] theorem sv (e:(List Int)):Pure (fH e):=by simp[fH]
@[simp] theorem aa5 (e:(List Int)):wk (fH e)=fH e:=by simp[fH]
@[simp↓] theorem XA (g:Bool) (e:(List Int)) (K:PV->Prop):gG g (fH e) K=K (fH e):=_root_.id rfl
@[simp] theorem QO (e:(List Int)):(fH e).width=1:=_root_.id rfl
@[simp] theorem XB (e:(List Int)):(fH e).isAgg=false:=_root_.id rfl
@[simp] theorem TC (e:(List Int)):(fH e).bG=true:=_root_.id rfl
@[simp↓] theorem TD (s:St) (K:PV->Prop) (l:List Int):uZ s K (fH l)=K (.int .i64 l.length):=by simp[fH]
@[simp↓] theorem QP (s:St) (sz:Nat) (j:Int) (K:PV->Prop) (l:List Int):nH s sz j K (fH l)=((1=sz∧0≤j∧j<l.length)∧K (.fp sz (l.map (λn:Int=>PV.int .i64 n)) [.i j.toNat sz])):=by simp[fH]
def jE (l:(List Int)):PV:= .sl 1 (l.map (λn:Int=>PV.int .u32 n)) false
@[simp] theorem rk (e:(List Int)):Pure (jE e):=by simp[jE]
@[simp] theorem afp (e:(List Int)):wk (jE e)=jE e:=by simp[jE]
@[simp↓] theorem aa6 (g:Bool) (e:(List Int)) (K:PV->Prop):gG g (jE e) K=K (jE e):=_root_.id rfl
@[simp] theorem XC (e:(List Int)):(jE e).flat=true:=_root_.id rfl
@[simp↓] theorem XD (s:St) (K:PV->Prop) (l:List Int):uZ s K (jE l)=K (.int .i64 l.length):=by simp[jE]
@[simp↓] theorem TE (s:St) (sz:Nat) (j:Int) (K:PV->Prop) (l:List Int):nH s sz j K (jE l)=((1=sz∧0≤j∧j<l.length)∧K (.fp sz (l.map (λn:Int=>PV.int .u32 n)) [.i j.toNat sz])):=by simp[jE]
structure Key where
 l:List UInt8
 h:l.length=32
def dU (k:Key):PV:= .ar 1 32 (k.l.map u8)
@[simp] theorem ve (e:Key):Pure (dU e):=by simp[dU]
@[simp] theorem afq (e:Key):wk (dU e)=dU e:=by simp[dU]
@[simp↓] theorem aa7 (g:Bool) (e:Key) (K:PV->Prop):gG g (dU e) K=K (dU e):=_root_.id rfl
@[simp] theorem TG (e:Key):(dU e).width=32:=_root_.id rfl
@[simp] theorem aa8 (e:Key):(dU e).isAgg=true:=_root_.id rfl
@[simp] theorem XE (e:Key):(dU e).bG=true:=_root_.id rfl
@[simp] theorem XF (e:Key):(dU e).flat=true:=_root_.id rfl
structure lq where
 loc:Int
 rem:Int
 send:FV nR
 recv:FV nR
 next:Int
 gB:Int
 wO:FV H3
 born:Int
 QQ:Bool
def gH (s:lq):PV:= .st 76 [.int .u32 s.loc,.int .u32 s.rem,s.send.p,s.recv.p,.int .u64 s.next,.int .u64 s.gB,s.wO.p,.int .i64 s.born,.bl s.QQ]
@[simp] theorem XG (e:lq):Pure (gH e):=by simp[gH]
@[simp] theorem afr (e:lq):wk (gH e)=gH e:=by simp[gH]
@[simp↓] theorem aa9 (g:Bool) (e:lq) (K:PV->Prop):gG g (gH e) K=K (gH e):=_root_.id rfl
@[simp] theorem TH (e:lq):(gH e).width=76:=_root_.id rfl
@[simp] theorem aba (e:lq):(gH e).isAgg=true:=_root_.id rfl
@[simp] theorem XH (e:lq):(gH e).bG=true:=_root_.id rfl
@[simp] theorem XI (e:lq):(gH e).flat=true:=_root_.id rfl
@[simp↓] theorem QR (e:lq) (r:List Step):bf (gH e) (.f 0 0::r)=bf (.int .u32 e.loc) r:=by simp[gH,av]
def Bx (e:lq) (c:PV):PV:= .st 76 [.int .u32 e.loc,.int .u32 e.rem,c,e.recv.p,.int .u64 e.next,.int .u64 e.gB,e.wO.p,.int .i64 e.born,.bl e.QQ]
@[simp↓] theorem QS (e:lq) (r:List Step) (x:PV):eL (gH e) (.f 2 2::r) x=(eL (e.send.p) r x).bind λc=>some (Bx e c):=by simp[gH,Bx,av]
def By (e:lq) (c:PV):PV:= .st 76 [.int .u32 e.loc,.int .u32 e.rem,e.send.p,c,.int .u64 e.next,.int .u64 e.gB,e.wO.p,.int .i64 e.born,.bl e.QQ]
@[simp↓] theorem QT (e:lq) (r:List Step) (x:PV):eL (gH e) (.f 3 34::r) x=(eL (e.recv.p) r x).bind λc=>some (By e c):=by simp[gH,By,av]
@[simp↓] theorem QU (e:lq) (r:List Step):bf (gH e) (.f 4 66::r)=bf (.int .u64 e.next) r:=by simp[gH,av]
def Bz (e:lq) (c:PV):PV:= .st 76 [.int .u32 e.loc,.int .u32 e.rem,e.send.p,e.recv.p,c,.int .u64 e.gB,e.wO.p,.int .i64 e.born,.bl e.QQ]
@[simp↓] theorem QV (e:lq) (r:List Step) (x:PV):eL (gH e) (.f 4 66::r) x=(eL (.int .u64 e.next) r x).bind λc=>some (Bz e c):=by simp[gH,Bz,av]
@[simp↓] theorem XJ (e:lq) (v:Int):Bz e (.int .u64 v)=gH {e with next:=v}:=_root_.id rfl
@[simp↓] theorem QW (e:lq) (r:List Step):bf (gH e) (.f 5 67::r)=bf (.int .u64 e.gB) r:=by simp[gH,av]
@[simp↓] theorem QX (e:lq) (r:List Step):bf (gH e) (.f 6 68::r)=bf (e.wO.p) r:=by simp[gH,av]
def BA (e:lq) (c:PV):PV:= .st 76 [.int .u32 e.loc,.int .u32 e.rem,e.send.p,e.recv.p,.int .u64 e.next,.int .u64 e.gB,c,.int .i64 e.born,.bl e.QQ]
@[simp↓] theorem QY (e:lq) (r:List Step) (x:PV):eL (gH e) (.f 6 68::r) x=(eL (e.wO.p) r x).bind λc=>some (BA e c):=by simp[gH,BA,av]
@[simp↓] theorem QZ (e:lq) (r:List Step):bf (gH e) (.f 7 74::r)=bf (.int .i64 e.born) r:=by simp[gH,av]
structure rl where
 has:Bool
 pk:lq
def iD (p:rl):PV:= .st 77 [.bl p.has,gH p.pk]
@[simp] theorem XK (e:rl):Pure (iD e):=by simp[iD]
@[simp] theorem afs (e:rl):wk (iD e)=iD e:=by simp[iD]
@[simp↓] theorem abb (g:Bool) (e:rl) (K:PV->Prop):gG g (iD e) K=K (iD e):=_root_.id rfl
@[simp] theorem TI (e:rl):(iD e).width=77:=_root_.id rfl
@[simp] theorem abc (e:rl):(iD e).isAgg=true:=_root_.id rfl
@[simp] theorem XL (e:rl):(iD e).bG=true:=_root_.id rfl
@[simp] theorem XM (e:rl):(iD e).flat=true:=_root_.id rfl
@[simp↓] theorem Q0 (e:rl) (r:List Step):bf (iD e) (.f 0 0::r)=bf (.bl e.has) r:=by simp[iD,av]
@[simp↓] theorem Q1 (e:rl) (r:List Step):bf (iD e) (.f 1 1::r)=bf (gH e.pk) r:=by simp[iD,av]
structure nO where
 p:rl
 c:rl
 n:rl
def gi (r:nO):PV:= .st 231 [iD r.p,iD r.c,iD r.n]
@[simp] theorem XN (e:nO):Pure (gi e):=by simp[gi]
@[simp] theorem aft (e:nO):wk (gi e)=gi e:=by simp[gi]
@[simp↓] theorem abd (g:Bool) (e:nO) (K:PV->Prop):gG g (gi e) K=K (gi e):=_root_.id rfl
@[simp] theorem TJ (e:nO):(gi e).width=231:=_root_.id rfl
@[simp] theorem abe (e:nO):(gi e).isAgg=true:=_root_.id rfl
@[simp] theorem XO (e:nO):(gi e).bG=true:=_root_.id rfl
@[simp↓] theorem Q2 (e:nO) (r:List Step):bf (gi e) (.f 0 0::r)=bf (iD e.p) r:=by simp[gi,av]
@[simp↓] theorem Q3 (e:nO) (r:List Step):bf (gi e) (.f 1 77::r)=bf (iD e.c) r:=by simp[gi,av]
@[simp↓] theorem Q4 (e:nO) (r:List Step):bf (gi e) (.f 2 154::r)=bf (iD e.n) r:=by simp[gi,av]
def BB (e:nO) (c:PV):PV:= .st 231 [iD e.p,iD e.c,c]
@[simp↓] theorem Q5 (e:nO) (r:List Step) (x:PV):eL (gi e) (.f 2 154::r) x=(eL (iD e.n) r x).bind λc=>some (BB e c):=by simp[gi,BB,av]
@[simp↓] theorem XP (e:nO) (v:rl):BB e (iD v)=gi {e with n:=v}:=_root_.id rfl
structure vS where
 wF:Int
 mj:Int
 vf:Int
 lr:Int
 Q6:Int
 ret:Int
 Ap:Int
 TK:Int
 load:Int
 gC:Int
def fa (r:vS):PV:= .st 10 [.int .u64 r.wF,.int .u64 r.mj,.int .i64 r.vf,.int .i64 r.lr,.int .i64 r.Q6,.int .i64 r.ret,.int .i64 r.Ap,.int .i64 r.TK,.int .i64 r.load,.int .i64 r.gC]
@[simp] theorem sA (e:vS):Pure (fa e):=by simp[fa]
@[simp] theorem abf (e:vS):wk (fa e)=fa e:=by simp[fa]
@[simp↓] theorem XQ (g:Bool) (e:vS) (K:PV->Prop):gG g (fa e) K=K (fa e):=_root_.id rfl
@[simp] theorem Q7 (e:vS):(fa e).width=10:=_root_.id rfl
@[simp] theorem XR (e:vS):(fa e).isAgg=true:=_root_.id rfl
@[simp] theorem TL (e:vS):(fa e).bG=true:=_root_.id rfl
@[simp↓] theorem NZ (e:vS) (r:List Step):bf (fa e) (.f 0 0::r)=bf (.int .u64 e.wF) r:=by simp[fa,av]
@[simp↓] theorem N0 (e:vS) (r:List Step):bf (fa e) (.f 1 1::r)=bf (.int .u64 e.mj) r:=by simp[fa,av]
@[simp↓] theorem N1 (e:vS) (r:List Step):bf (fa e) (.f 2 2::r)=bf (.int .i64 e.vf) r:=by simp[fa,av]
@[simp↓] theorem N2 (e:vS) (r:List Step):bf (fa e) (.f 3 3::r)=bf (.int .i64 e.lr) r:=by simp[fa,av]
@[simp↓] theorem N3 (e:vS) (r:List Step):bf (fa e) (.f 4 4::r)=bf (.int .i64 e.Q6) r:=by simp[fa,av]
@[simp↓] theorem N4 (e:vS) (r:List Step):bf (fa e) (.f 5 5::r)=bf (.int .i64 e.ret) r:=by simp[fa,av]
@[simp↓] theorem N5 (e:vS) (r:List Step):bf (fa e) (.f 6 6::r)=bf (.int .i64 e.Ap) r:=by simp[fa,av]
@[simp↓] theorem N6 (e:vS) (r:List Step):bf (fa e) (.f 7 7::r)=bf (.int .i64 e.TK) r:=by simp[fa,av]
@[simp↓] theorem N7 (e:vS) (r:List Step):bf (fa e) (.f 8 8::r)=bf (.int .i64 e.load) r:=by simp[fa,av]
@[simp↓] theorem N8 (e:vS) (r:List Step):bf (fa e) (.f 9 9::r)=bf (.int .i64 e.gC) r:=by simp[fa,av]
structure im where
 jJ:Bool
 ip:List UInt8
 h:ip.length=16
def dN (a:im):PV:= .st 17 [.bl a.jJ,.ar 1 16 (a.ip.map u8)]
@[simp] theorem kS (e:im):Pure (dN e):=by simp[dN]
@[simp] theorem afu (e:im):wk (dN e)=dN e:=by simp[dN]
@[simp↓] theorem abg (g:Bool) (e:im) (K:PV->Prop):gG g (dN e) K=K (dN e):=_root_.id rfl
@[simp] theorem TM (e:im):(dN e).width=17:=_root_.id rfl
@[simp] theorem abh (e:im):(dN e).isAgg=true:=_root_.id rfl
@[simp] theorem XS (e:im):(dN e).bG=true:=_root_.id rfl
@[simp↓] theorem Q8 (e:im) (r:List Step):bf (dN e) (.f 0 0::r)=bf (.bl e.jJ) r:=by simp[dN,av]
@[simp↓] theorem Q9 (e:im) (r:List Step):bf (dN e) (.f 1 1::r)=bf (.ar 1 16 (e.ip.map u8)) r:=by simp[dN,av]
def tQ (e:im) (c:PV):PV:= .st 17 [.bl e.jJ,c]
@[simp↓] theorem Ra (e:im) (r:List Step) (x:PV):eL (dN e) (.f 1 1::r) x=(eL (.ar 1 16 (e.ip.map u8)) r x).bind λc=>some (tQ e c):=by simp[dN,tQ,av]
structure Cl where
 addr:im
 port:Int
def gZ (e:Cl):PV:= .st 18 [dN e.addr,.int .i64 e.port]
@[simp] theorem XT (e:Cl):Pure (gZ e):=by simp[gZ]
@[simp] theorem afv (e:Cl):wk (gZ e)=gZ e:=by simp[gZ]
@[simp↓] theorem abi (g:Bool) (e:Cl) (K:PV->Prop):gG g (gZ e) K=K (gZ e):=_root_.id rfl
@[simp] theorem TN (e:Cl):(gZ e).width=18:=_root_.id rfl
@[simp] theorem abj (e:Cl):(gZ e).isAgg=true:=_root_.id rfl
@[simp] theorem XU (e:Cl):(gZ e).bG=true:=_root_.id rfl
@[simp↓] theorem Rb (e:Cl) (r:List Step):bf (gZ e) (.f 0 0::r)=bf (dN e.addr) r:=by simp[gZ,av]
@[simp↓] theorem Rc (e:Cl) (r:List Step):bf (gZ e) (.f 1 17::r)=bf (.int .i64 e.port) r:=by simp[gZ,av]
structure Aq where
 addr:im
 bits:Int
def iE (e:Aq):PV:= .st 18 [dN e.addr,.int .i64 e.bits]
@[simp] theorem XV (e:Aq):Pure (iE e):=by simp[iE]
@[simp] theorem afw (e:Aq):wk (iE e)=iE e:=by simp[iE]
@[simp↓] theorem abk (g:Bool) (e:Aq) (K:PV->Prop):gG g (iE e) K=K (iE e):=_root_.id rfl
@[simp] theorem TO (e:Aq):(iE e).width=18:=_root_.id rfl
@[simp] theorem abl (e:Aq):(iE e).isAgg=true:=_root_.id rfl
@[simp] theorem XW (e:Aq):(iE e).bG=true:=_root_.id rfl
@[simp↓] theorem Rd (e:Aq) (r:List Step):bf (iE e) (.f 0 0::r)=bf (dN e.addr) r:=by simp[iE,av]
@[simp↓] theorem Re (e:Aq) (r:List Step):bf (iE e) (.f 1 17::r)=bf (.int .i64 e.bits) r:=by simp[iE,av]
structure pn where
 mA:Aq
 peer:Key
def iQ (r:pn):PV:= .st 50 [iE r.mA,dU r.peer]
@[simp] theorem sB (e:pn):Pure (iQ e):=by simp[iQ]
@[simp] theorem Kk (e:pn):wk (iQ e)=iQ e:=by simp[iQ]
@[simp↓] theorem XX (g:Bool) (e:pn) (K:PV->Prop):gG g (iQ e) K=K (iQ e):=_root_.id rfl
@[simp] theorem Rf (e:pn):(iQ e).width=50:=_root_.id rfl
@[simp] theorem XY (e:pn):(iQ e).isAgg=true:=_root_.id rfl
@[simp] theorem TP (e:pn):(iQ e).bG=true:=_root_.id rfl
@[simp] theorem abm (l:List pn):cD (l.map iQ):=dQ sB l
@[simp] theorem abn (l:List pn):jo (l.map iQ)=l.map iQ:=pM Kk l
@[simp↓] theorem N9 (e:pn) (r:List Step):bf (iQ e) (.f 0 0::r)=bf (iE e.mA) r:=by simp[iQ,av]
@[simp↓] theorem Oa (e:pn) (r:List Step):bf (iQ e) (.f 1 18::r)=bf (dU e.peer) r:=by simp[iQ,av]
def ee (l:(List pn)):PV:= .sl 50 (l.map iQ) false
@[simp] theorem qG (e:(List pn)):Pure (ee e):=by simp[ee]
@[simp] theorem XZ (e:(List pn)):wk (ee e)=ee e:=by simp[ee]
@[simp↓] theorem TQ (g:Bool) (e:(List pn)) (K:PV->Prop):gG g (ee e) K=K (ee e):=_root_.id rfl
@[simp] theorem Ob (e:(List pn)):(ee e).width=1:=_root_.id rfl
@[simp] theorem TR (e:(List pn)):(ee e).isAgg=false:=_root_.id rfl
@[simp] theorem Rg (e:(List pn)):(ee e).bG=true:=_root_.id rfl
@[simp↓] theorem Rh (s:St) (K:PV->Prop) (l:List pn):uZ s K (ee l)=K (.int .i64 l.length):=by simp[ee]
@[simp↓] theorem Oc (s:St) (sz:Nat) (j:Int) (K:PV->Prop) (l:List pn):nH s sz j K (ee l)=((50=sz∧0≤j∧j<l.length)∧K (.fp sz (l.map iQ) [.i j.toNat sz])):=by simp[ee]
structure cS where
 index:Int
 peer:Key
 pk:Bool
def aM (s:cS):PV:= .st 34 [.int .u32 s.index,dU s.peer,.bl s.pk]
@[simp] theorem yn (e:cS):Pure (aM e):=by simp[aM]
@[simp] theorem Kl (e:cS):wk (aM e)=aM e:=by simp[aM]
@[simp↓] theorem X0 (g:Bool) (e:cS) (K:PV->Prop):gG g (aM e) K=K (aM e):=_root_.id rfl
@[simp] theorem Ri (e:cS):(aM e).width=34:=_root_.id rfl
@[simp] theorem X3 (e:cS):(aM e).isAgg=true:=_root_.id rfl
@[simp] theorem TS (e:cS):(aM e).bG=true:=_root_.id rfl
@[simp] theorem TT (e:cS):(aM e).flat=true:=_root_.id rfl
@[simp] theorem abo (l:List cS):cD (l.map aM):=dQ yn l
@[simp] theorem abp (l:List cS):jo (l.map aM)=l.map aM:=pM Kl l
@[simp↓] theorem Od (e:cS) (r:List Step):bf (aM e) (.f 0 0::r)=bf (.int .u32 e.index) r:=by simp[aM,av]
@[simp↓] theorem Oe (e:cS) (r:List Step):bf (aM e) (.f 1 1::r)=bf (dU e.peer) r:=by simp[aM,av]
@[simp↓] theorem Of (e:cS) (r:List Step):bf (aM e) (.f 2 33::r)=bf (.bl e.pk) r:=by simp[aM,av]
def b6 (l:(List cS)):PV:= .sl 34 (l.map aM) false
@[simp] theorem qH (e:(List cS)):Pure (b6 e):=by simp[b6]
@[simp] theorem X4 (e:(List cS)):wk (b6 e)=b6 e:=by simp[b6]
@[simp↓] theorem TU (g:Bool) (e:(List cS)) (K:PV->Prop):gG g (b6 e) K=K (b6 e):=_root_.id rfl
@[simp] theorem Og (e:(List cS)):(b6 e).width=1:=_root_.id rfl
@[simp] theorem TV (e:(List cS)):(b6 e).isAgg=false:=_root_.id rfl
@[simp] theorem Rj (e:(List cS)):(b6 e).bG=true:=_root_.id rfl
@[simp↓] theorem Rk (s:St) (K:PV->Prop) (l:List cS):uZ s K (b6 l)=K (.int .i64 l.length):=by simp[b6]
@[simp↓] theorem Oh (s:St) (sz:Nat) (j:Int) (K:PV->Prop) (l:List cS):nH s sz j K (b6 l)=((34=sz∧0≤j∧j<l.length)∧K (.fp sz (l.map aM) [.i j.toNat sz])):=by simp[b6]
structure iR where
 at_:Int
 peer:Key
 kind:Int
def iv (t:iR):PV:= .st 34 [.int .i64 t.at_,dU t.peer,.int .i64 t.kind]
@[simp] theorem oR (e:iR):Pure (iv e):=by simp[iv]
@[simp] theorem afx (e:iR):wk (iv e)=iv e:=by simp[iv]
@[simp↓] theorem abq (g:Bool) (e:iR) (K:PV->Prop):gG g (iv e) K=K (iv e):=_root_.id rfl
@[simp] theorem TW (e:iR):(iv e).width=34:=_root_.id rfl
@[simp] theorem abr (e:iR):(iv e).isAgg=true:=_root_.id rfl
@[simp] theorem X5 (e:iR):(iv e).bG=true:=_root_.id rfl
@[simp] theorem afy (l:List iR):cD (l.map iv):=dQ oR l
@[simp↓] theorem Rl (e:iR) (r:List Step):bf (iv e) (.f 0 0::r)=bf (.int .i64 e.at_) r:=by simp[iv,av]
@[simp↓] theorem Rm (e:iR) (r:List Step):bf (iv e) (.f 1 1::r)=bf (dU e.peer) r:=by simp[iv,av]
@[simp↓] theorem Rn (e:iR) (r:List Step):bf (iv e) (.f 2 33::r)=bf (.int .i64 e.kind) r:=by simp[iv,av]
def cN (l:(List iR)):PV:= .sl 34 (l.map iv) false
@[simp] theorem sC (e:(List iR)):Pure (cN e):=by simp[cN]
@[simp] theorem abt (e:(List iR)):wk (cN e)=cN e:=by simp[cN]
@[simp↓] theorem X6 (g:Bool) (e:(List iR)) (K:PV->Prop):gG g (cN e) K=K (cN e):=_root_.id rfl
@[simp] theorem Ro (e:(List iR)):(cN e).width=1:=_root_.id rfl
@[simp] theorem X7 (e:(List iR)):(cN e).isAgg=false:=_root_.id rfl
@[simp] theorem TX (e:(List iR)):(cN e).bG=true:=_root_.id rfl
@[simp↓] theorem TY (s:St) (K:PV->Prop) (l:List iR):uZ s K (cN l)=K (.int .i64 l.length):=by simp[cN]
@[simp↓] theorem Rp (s:St) (sz:Nat) (j:Int) (K:PV->Prop) (l:List iR):nH s sz j K (cN l)=((34=sz∧0≤j∧j<l.length)∧K (.fp sz (l.map iv) [.i j.toNat sz])):=by simp[cN]
structure tR where
 addr:im
 tokens:Int
 at_:Int
def jK (b:tR):PV:= .st 19 [dN b.addr,.int .i64 b.tokens,.int .i64 b.at_]
@[simp] theorem T0 (e:tR):Pure (jK e):=by simp[jK]
@[simp] theorem abu (e:tR):wk (jK e)=jK e:=by simp[jK]
@[simp↓] theorem X8 (g:Bool) (e:tR) (K:PV->Prop):gG g (jK e) K=K (jK e):=_root_.id rfl
@[simp] theorem Rq (e:tR):(jK e).width=19:=_root_.id rfl
@[simp] theorem X9 (e:tR):(jK e).isAgg=true:=_root_.id rfl
@[simp] theorem T1 (e:tR):(jK e).bG=true:=_root_.id rfl
@[simp↓] theorem Oi (e:tR) (r:List Step):bf (jK e) (.f 0 0::r)=bf (dN e.addr) r:=by simp[jK,av]
@[simp↓] theorem Oj (e:tR) (r:List Step):bf (jK e) (.f 1 17::r)=bf (.int .i64 e.tokens) r:=by simp[jK,av]
@[simp↓] theorem Ok (e:tR) (r:List Step):bf (jK e) (.f 2 18::r)=bf (.int .i64 e.at_) r:=by simp[jK,av]
def eU (l:(List tR)):PV:= .sl 19 (l.map jK) false
@[simp] theorem qI (e:(List tR)):Pure (eU e):=by simp[eU]
@[simp] theorem Ya (e:(List tR)):wk (eU e)=eU e:=by simp[eU]
@[simp↓] theorem T2 (g:Bool) (e:(List tR)) (K:PV->Prop):gG g (eU e) K=K (eU e):=_root_.id rfl
@[simp] theorem Ol (e:(List tR)):(eU e).width=1:=_root_.id rfl
@[simp] theorem T3 (e:(List tR)):(eU e).isAgg=false:=_root_.id rfl
@[simp] theorem Rr (e:(List tR)):(eU e).bG=true:=_root_.id rfl
@[simp↓] theorem Rs (s:St) (K:PV->Prop) (l:List tR):uZ s K (eU l)=K (.int .i64 l.length):=by simp[eU]
@[simp↓] theorem Om (s:St) (sz:Nat) (j:Int) (K:PV->Prop) (l:List tR):nH s sz j K (eU l)=((19=sz∧0≤j∧j<l.length)∧K (.fp sz (l.map jK) [.i j.toNat sz])):=by simp[eU]
structure Cm where
 has:Bool
 loc:Int
 eph:FV nR
 Rt:FV Ki
 started:Int
 mL:Int
def iU (h:Cm):PV:= .st 100 [.bl h.has,.int .u32 h.loc,h.eph.p,h.Rt.p,.int .i64 h.started,.int .i64 h.mL]
@[simp] theorem Yb (e:Cm):Pure (iU e):=by simp[iU]
@[simp] theorem afz (e:Cm):wk (iU e)=iU e:=by simp[iU]
@[simp↓] theorem abv (g:Bool) (e:Cm) (K:PV->Prop):gG g (iU e) K=K (iU e):=_root_.id rfl
@[simp] theorem T4 (e:Cm):(iU e).width=100:=_root_.id rfl
@[simp] theorem abw (e:Cm):(iU e).isAgg=true:=_root_.id rfl
@[simp] theorem Yc (e:Cm):(iU e).bG=true:=_root_.id rfl
@[simp↓] theorem Ru (e:Cm) (r:List Step):bf (iU e) (.f 0 0::r)=bf (.bl e.has) r:=by simp[iU,av]
@[simp↓] theorem Rv (e:Cm) (r:List Step):bf (iU e) (.f 1 1::r)=bf (.int .u32 e.loc) r:=by simp[iU,av]
@[simp↓] theorem Rw (e:Cm) (r:List Step):bf (iU e) (.f 4 98::r)=bf (.int .i64 e.started) r:=by simp[iU,av]
@[simp↓] theorem Rx (e:Cm) (r:List Step):bf (iU e) (.f 5 99::r)=bf (.int .i64 e.mL) r:=by simp[iU,av]
structure fg where
 fF:Key
 shared:FV nR
 jL:Bool
 ep:Cl
 oS:Int
 Ar:FV Kj
 oT:Bool
 oU:Int
 hand:Cm
 n9:Bool
 pN:FV EY
 nS:Int
 Yd:FV EY
 ring:nO
 bD:List (List UInt8)
def br (p:fg):PV:= .st 464 [dU p.fF,p.shared.p,.bl p.jL,gZ p.ep,.int .i64 p.oS,p.Ar.p,.bl p.oT,.int .i64 p.oU,iU p.hand,.bl p.n9,p.pN.p,.int .i64 p.nS,p.Yd.p,gi p.ring,jv p.bD]
@[simp] theorem kL (e:fg):Pure (br e):=by simp[br]
@[simp] theorem abx (e:fg):wk (br e)=br e:=by simp[br]
@[simp↓] theorem Ye (g:Bool) (e:fg) (K:PV->Prop):gG g (br e) K=K (br e):=_root_.id rfl
@[simp] theorem Ry (e:fg):(br e).width=464:=_root_.id rfl
@[simp] theorem Yf (e:fg):(br e).isAgg=true:=_root_.id rfl
@[simp] theorem T5 (e:fg):(br e).bG=true:=_root_.id rfl
@[simp↓] theorem On (e:fg) (r:List Step):bf (br e) (.f 0 0::r)=bf (dU e.fF) r:=by simp[br,av]
def yo (e:fg) (c:PV):PV:= .st 464 [c,e.shared.p,.bl e.jL,gZ e.ep,.int .i64 e.oS,e.Ar.p,.bl e.oT,.int .i64 e.oU,iU e.hand,.bl e.n9,e.pN.p,.int .i64 e.nS,e.Yd.p,gi e.ring,jv e.bD]
@[simp↓] theorem Oo (e:fg) (r:List Step) (x:PV):eL (br e) (.f 0 0::r) x=(eL (dU e.fF) r x).bind λc=>some (yo e c):=by simp[br,yo,av]
@[simp↓] theorem T6 (e:fg) (v:Key):yo e (dU v)=br {e with fF:=v}:=_root_.id rfl
@[simp↓] theorem Oq (e:fg) (r:List Step):bf (br e) (.f 2 64::r)=bf (.bl e.jL) r:=by simp[br,av]
@[simp↓] theorem Ot (e:fg) (r:List Step):bf (br e) (.f 3 65::r)=bf (gZ e.ep) r:=by simp[br,av]
@[simp↓] theorem Ou (e:fg) (r:List Step):bf (br e) (.f 4 83::r)=bf (.int .i64 e.oS) r:=by simp[br,av]
def yp (e:fg) (c:PV):PV:= .st 464 [dU e.fF,e.shared.p,.bl e.jL,gZ e.ep,c,e.Ar.p,.bl e.oT,.int .i64 e.oU,iU e.hand,.bl e.n9,e.pN.p,.int .i64 e.nS,e.Yd.p,gi e.ring,jv e.bD]
@[simp↓] theorem Ov (e:fg) (r:List Step) (x:PV):eL (br e) (.f 4 83::r) x=(eL (.int .i64 e.oS) r x).bind λc=>some (yp e c):=by simp[br,yp,av]
@[simp↓] theorem T7 (e:fg) (v:Int):yp e (.int .i64 v)=br {e with oS:=v}:=_root_.id rfl
@[simp↓] theorem Ow (e:fg) (r:List Step):bf (br e) (.f 6 96::r)=bf (.bl e.oT) r:=by simp[br,av]
@[simp↓] theorem Ox (e:fg) (r:List Step):bf (br e) (.f 7 97::r)=bf (.int .i64 e.oU) r:=by simp[br,av]
@[simp↓] theorem Oy (e:fg) (r:List Step):bf (br e) (.f 8 98::r)=bf (iU e.hand) r:=by simp[br,av]
def yq (e:fg) (c:PV):PV:= .st 464 [dU e.fF,e.shared.p,.bl e.jL,gZ e.ep,.int .i64 e.oS,e.Ar.p,.bl e.oT,.int .i64 e.oU,c,.bl e.n9,e.pN.p,.int .i64 e.nS,e.Yd.p,gi e.ring,jv e.bD]
@[simp↓] theorem Oz (e:fg) (r:List Step) (x:PV):eL (br e) (.f 8 98::r) x=(eL (iU e.hand) r x).bind λc=>some (yq e c):=by simp[br,yq,av]
@[simp↓] theorem T8 (e:fg) (v:Cm):yq e (iU v)=br {e with hand:=v}:=_root_.id rfl
@[simp↓] theorem OA (e:fg) (r:List Step):bf (br e) (.f 9 198::r)=bf (.bl e.n9) r:=by simp[br,av]
@[simp↓] theorem MB (e:fg) (r:List Step):bf (br e) (.f 10 199::r)=bf (e.pN.p) r:=by simp[br,av]
@[simp↓] theorem MC (e:fg) (r:List Step):bf (br e) (.f 11 215::r)=bf (.int .i64 e.nS) r:=by simp[br,av]
@[simp↓] theorem MD (e:fg) (r:List Step):bf (br e) (.f 13 232::r)=bf (gi e.ring) r:=by simp[br,av]
def vh (e:fg) (c:PV):PV:= .st 464 [dU e.fF,e.shared.p,.bl e.jL,gZ e.ep,.int .i64 e.oS,e.Ar.p,.bl e.oT,.int .i64 e.oU,iU e.hand,.bl e.n9,e.pN.p,.int .i64 e.nS,e.Yd.p,c,jv e.bD]
@[simp↓] theorem ME (e:fg) (r:List Step) (x:PV):eL (br e) (.f 13 232::r) x=(eL (gi e.ring) r x).bind λc=>some (vh e c):=by simp[br,vh,av]
@[simp↓] theorem Rz (e:fg) (v:nO):vh e (gi v)=br {e with ring:=v}:=_root_.id rfl
@[simp↓] theorem MF (e:fg) (r:List Step):bf (br e) (.f 14 463::r)=bf (jv e.bD) r:=by simp[br,av]
def oV (e:fg) (c:PV):PV:= .st 464 [dU e.fF,e.shared.p,.bl e.jL,gZ e.ep,.int .i64 e.oS,e.Ar.p,.bl e.oT,.int .i64 e.oU,iU e.hand,.bl e.n9,e.pN.p,.int .i64 e.nS,e.Yd.p,gi e.ring,c]
@[simp↓] theorem MG (e:fg) (r:List Step) (x:PV):eL (br e) (.f 14 463::r) x=(eL (jv e.bD) r x).bind λc=>some (oV e c):=by simp[br,oV,av]
def fk (l:(List fg)):PV:= .sl 464 (l.map br) false
@[simp] theorem RA (e:(List fg)):Pure (fk e):=by simp[fk]
@[simp] theorem Yg (e:(List fg)):wk (fk e)=fk e:=by simp[fk]
@[simp↓] theorem T9 (g:Bool) (e:(List fg)) (K:PV->Prop):gG g (fk e) K=K (fk e):=_root_.id rfl
@[simp] theorem OB (e:(List fg)):(fk e).width=1:=_root_.id rfl
@[simp] theorem Ua (e:(List fg)):(fk e).isAgg=false:=_root_.id rfl
@[simp] theorem RB (e:(List fg)):(fk e).bG=true:=_root_.id rfl
@[simp↓] theorem RC (s:St) (K:PV->Prop) (l:List fg):uZ s K (fk l)=K (.int .i64 l.length):=by simp[fk]
@[simp↓] theorem OC (s:St) (sz:Nat) (j:Int) (K:PV->Prop) (l:List fg):nH s sz j K (fk l)=((464=sz∧0≤j∧j<l.length)∧K (.fp sz (l.map br) [.i j.toNat sz])):=by simp[fk]
structure cK where
 rules:vS
 tS:FV nR
 tT:FV nR
 port:Int
 random:FV nR
 now:Int
 aa:List fg
 aV:List pn
 bq:List cS
 timers:List iR
 lu:FV nR
 kT:Int
 aR:List Int
 buckets:List tR
 bad:Int
def cO (d:cK) (p:PV):PV:= .st 148 [fa d.rules,d.tS.p,d.tT.p,.int .i64 d.port,d.random.p,.int .i64 d.now,p,ee d.aV,b6 d.bq,cN d.timers,d.lu.p,.int .i64 d.kT,fH d.aR,eU d.buckets,.int .i64 d.bad]
@[simp] theorem RD (e:cK) (p:PV):(cO e p).width=148:=_root_.id rfl
@[simp] theorem Yh (e:cK) (p:PV):(cO e p).isAgg=true:=rfl
@[simp] theorem Ub (e:cK) (p:PV):(cO e p).bG=true:=rfl
@[simp] theorem Uc (e:cK) (p:PV):(cO e p).flat=true:=rfl
@[simp↓] theorem Yi (g:Bool) (e:cK) (p:PV) (K:PV->Prop):gG g (cO e p) K=K (cO e p):=_root_.id rfl
@[simp↓] theorem OD (e:cK) (p:PV) (r:List Step):bf (cO e p) (.f 0 0::r)=bf (fa e.rules) r:=by simp[cO,av]
@[simp↓] theorem OE (e:cK) (p:PV) (r:List Step):bf (cO e p) (.f 3 74::r)=bf (.int .i64 e.port) r:=by simp[cO,av]
@[simp↓] theorem OF (e:cK) (p:PV) (r:List Step):bf (cO e p) (.f 5 107::r)=bf (.int .i64 e.now) r:=by simp[cO,av]
@[simp↓] theorem OG (e:cK) (p:PV) (r:List Step):bf (cO e p) (.f 6 108::r)=bf (p) r:=by simp[cO,av]
def yr (e:cK) (p:PV) (c:PV):PV:= .st 148 [fa e.rules,e.tS.p,e.tT.p,.int .i64 e.port,e.random.p,.int .i64 e.now,c,ee e.aV,b6 e.bq,cN e.timers,e.lu.p,.int .i64 e.kT,fH e.aR,eU e.buckets,.int .i64 e.bad]
@[simp↓] theorem OH (e:cK) (p:PV) (r:List Step) (x:PV):eL (cO e p) (.f 6 108::r) x=(eL (p) r x).bind λc=>some (yr e p c):=by simp[cO,yr,av]
@[simp↓] theorem Ud (e:cK) (p:PV) (v:PV):yr e p v=cO e v:=_root_.id rfl
@[simp↓] theorem OI (e:cK) (p:PV) (hp:p.width=1) (r:List Step):bf (cO e p) (.f 7 109::r)=bf (ee e.aV) r:=by simp[cO,av,hp]
def yu (e:cK) (p:PV) (c:PV):PV:= .st 148 [fa e.rules,e.tS.p,e.tT.p,.int .i64 e.port,e.random.p,.int .i64 e.now,p,c,b6 e.bq,cN e.timers,e.lu.p,.int .i64 e.kT,fH e.aR,eU e.buckets,.int .i64 e.bad]
@[simp↓] theorem OJ (e:cK) (p:PV) (hp:p.width=1) (r:List Step) (x:PV):eL (cO e p) (.f 7 109::r) x=(eL (ee e.aV) r x).bind λc=>some (yu e p c):=by simp[cO,yu,av,hp]
@[simp↓] theorem Ue (e:cK) (p:PV) (v:List pn):yu e p (ee v)=cO {e with aV:=v} p:=_root_.id rfl
@[simp↓] theorem OK (e:cK) (p:PV) (hp:p.width=1) (r:List Step):bf (cO e p) (.f 8 110::r)=bf (b6 e.bq) r:=by simp[cO,av,hp]
def yv (e:cK) (p:PV) (c:PV):PV:= .st 148 [fa e.rules,e.tS.p,e.tT.p,.int .i64 e.port,e.random.p,.int .i64 e.now,p,ee e.aV,c,cN e.timers,e.lu.p,.int .i64 e.kT,fH e.aR,eU e.buckets,.int .i64 e.bad]
@[simp↓] theorem OL (e:cK) (p:PV) (hp:p.width=1) (r:List Step) (x:PV):eL (cO e p) (.f 8 110::r) x=(eL (b6 e.bq) r x).bind λc=>some (yv e p c):=by simp[cO,yv,av,hp]
@[simp↓] theorem Uf (e:cK) (p:PV) (v:List cS):yv e p (b6 v)=cO {e with bq:=v} p:=_root_.id rfl
@[simp↓] theorem OM (e:cK) (p:PV) (hp:p.width=1) (r:List Step):bf (cO e p) (.f 9 111::r)=bf (cN e.timers) r:=by simp[cO,av,hp]
def yw (e:cK) (p:PV) (c:PV):PV:= .st 148 [fa e.rules,e.tS.p,e.tT.p,.int .i64 e.port,e.random.p,.int .i64 e.now,p,ee e.aV,b6 e.bq,c,e.lu.p,.int .i64 e.kT,fH e.aR,eU e.buckets,.int .i64 e.bad]
@[simp↓] theorem ON (e:cK) (p:PV) (hp:p.width=1) (r:List Step) (x:PV):eL (cO e p) (.f 9 111::r) x=(eL (cN e.timers) r x).bind λc=>some (yw e p c):=by simp[cO,yw,av,hp]
@[simp↓] theorem Ug (e:cK) (p:PV) (v:List iR):yw e p (cN v)=cO {e with timers:=v} p:=_root_.id rfl
@[simp↓] theorem MH (e:cK) (p:PV) (hp:p.width=1) (r:List Step):bf (cO e p) (.f 11 144::r)=bf (.int .i64 e.kT) r:=by simp[cO,av,hp]
@[simp↓] theorem MI (e:cK) (p:PV) (hp:p.width=1) (r:List Step):bf (cO e p) (.f 12 145::r)=bf (fH e.aR) r:=by simp[cO,av,hp]
def vi (e:cK) (p:PV) (c:PV):PV:= .st 148 [fa e.rules,e.tS.p,e.tT.p,.int .i64 e.port,e.random.p,.int .i64 e.now,p,ee e.aV,b6 e.bq,cN e.timers,e.lu.p,.int .i64 e.kT,c,eU e.buckets,.int .i64 e.bad]
@[simp↓] theorem MJ (e:cK) (p:PV) (hp:p.width=1) (r:List Step) (x:PV):eL (cO e p) (.f 12 145::r) x=(eL (fH e.aR) r x).bind λc=>some (vi e p c):=by simp[cO,vi,av,hp]
@[simp↓] theorem RE (e:cK) (p:PV) (v:List Int):vi e p (fH v)=cO {e with aR:=v} p:=_root_.id rfl
@[simp↓] theorem MK (e:cK) (p:PV) (hp:p.width=1) (r:List Step):bf (cO e p) (.f 13 146::r)=bf (eU e.buckets) r:=by simp[cO,av,hp]
def vj (e:cK) (p:PV) (c:PV):PV:= .st 148 [fa e.rules,e.tS.p,e.tT.p,.int .i64 e.port,e.random.p,.int .i64 e.now,p,ee e.aV,b6 e.bq,cN e.timers,e.lu.p,.int .i64 e.kT,fH e.aR,c,.int .i64 e.bad]
@[simp↓] theorem ML (e:cK) (p:PV) (hp:p.width=1) (r:List Step) (x:PV):eL (cO e p) (.f 13 146::r) x=(eL (eU e.buckets) r x).bind λc=>some (vj e p c):=by simp[cO,vj,av,hp]
@[simp↓] theorem RG (e:cK) (p:PV) (v:List tR):vj e p (eU v)=cO {e with buckets:=v} p:=_root_.id rfl
@[simp↓] theorem MM (e:cK) (p:PV) (hp:p.width=1) (r:List Step):bf (cO e p) (.f 14 147::r)=bf (.int .i64 e.bad) r:=by simp[cO,av,hp]
@[simp] theorem BC (f:Nat->Bool) (e:cK) (p:PV):ae f (cO e p)=ae f p:=by
 have h1:ae f (fa e.rules)=true:=(sA _).refs f
 have h2:ae f (ee e.aV)=true:=(qG _).refs f
 have h3:ae f (b6 e.bq)=true:=(qH _).refs f
 have h4:ae f (cN e.timers)=true:=(sC _).refs f
 have h5:ae f (fH e.aR)=true:=(sv _).refs f
 have h6:ae f (eU e.buckets)=true:=(qI _).refs f
 have g1:ae f e.tS.p=true:=(FV.pure e.tS).refs f
 have g2:ae f e.tT.p=true:=(FV.pure e.tT).refs f
 have g3:ae f e.random.p=true:=(FV.pure e.random).refs f
 have g4:ae f e.lu.p=true:=(FV.pure e.lu).refs f
 simp[cO,ae,ab,h1,h2,h3,h4,h5,h6,g1,g2,g3,g4]
@[simp] theorem Yj (ρ:Nat->Nat) (e:cK) (p:PV):aB ρ (cO e p)=cO e (aB ρ p):=by
 simp[cO,aB,aD,(sA _).aB,(qG _).aB,(qH _).aB,(sC _).aB,(sv _).aB,(qI _).aB,(FV.pure e.tS).aB,(FV.pure e.tT).aB,(FV.pure e.random).aB,(FV.pure e.lu).aB]
@[simp] theorem aby (e:cK) (p:PV):wk (cO e p)=cO e (wk p):=by simp[cO]
@[simp] theorem Yk (k sz:Nat) (l:List PV) (e:cK) (p:PV):iB k sz l (cO e p)=cO e (iB k sz l p):=by
 simp[cO,iB,jj,(sA _).iB,(qG _).iB,(qH _).iB,(sC _).iB,(sv _).iB,(qI _).iB,(FV.pure e.tS).iB,(FV.pure e.tT).iB,(FV.pure e.random).iB,(FV.pure e.lu).iB]
@[simp] theorem yx (e:cK) {p:PV} (h:Pure p):Pure (cO e p):=Pure.of (by rw[BC];exact h.refs _)
def bE (d:cK):PV:=cO d (fk d.aa)
@[simp] theorem aK (e:cK):Pure (bE e):=by simp[bE]
@[simp] theorem afA (e:cK):wk (bE e)=bE e:=by simp[bE]
@[simp↓] theorem abz (g:Bool) (e:cK) (K:PV->Prop):gG g (bE e) K=K (bE e):=_root_.id rfl
@[simp] theorem Uh (e:cK):(bE e).width=148:=_root_.id rfl
@[simp] theorem abA (e:cK):(bE e).isAgg=true:=_root_.id rfl
@[simp] theorem Yl (e:cK):(bE e).bG=true:=_root_.id rfl
@[simp] theorem Ym (e:cK):(bE e).flat=true:=_root_.id rfl
@[simp↓] theorem Yn (e:cK) (i o:Nat) (r:List Step):bf (bE e) (.f i o::r)=bf (cO e (fk e.aa)) (.f i o::r):=_root_.id rfl
@[simp↓] theorem Yo (e:cK) (i o:Nat) (r:List Step) (x:PV):eL (bE e) (.f i o::r) x=eL (cO e (fk e.aa)) (.f i o::r) x:=_root_.id rfl
theorem lv:∀l:List UInt8,qv (.i .u8) (l.map u8)=true
 |[]=>rfl
 |x::l=>by simp[qv,u8,fits,lv l]
@[simp] theorem vk (k:Key):fits nR (dU k)=true:=by
 simp[dU,fits,lv,k.h,rO]
def Key.fv (k:Key):FV nR:=⟨dU k,vk k⟩
@[simp] theorem Key.abB (k:Key):k.fv.p=dU k:=rfl
@[simp] theorem abC (e:Key):PV.beq (dU e) (dU e)=true:=(gf _ _ (vk e)).beq
abbrev shA:Sh:= .st [.b,.ar 16 (.i .u8)]
@[simp] theorem H5 (e:im):fits shA (dN e)=true:=by
 have:=e.h;simp_all [dN,fits,j7,rO,tc,lv]
abbrev shE:Sh:= .st [.st [.b,.ar 16 (.i .u8)],.i .i64]
@[simp] theorem rm (e:Cl):fits shE (gZ e)=true:=by
 have:=e.addr.h;simp_all [gZ,fits,j7,rO,tc,lv]
@[simp] theorem Km (e:Cl):PV.beq (gZ e) (gZ e)=true:=(gf _ _ (rm e)).beq
abbrev shX:Sh:= .st [.st [.b,.ar 16 (.i .u8)],.i .i64]
@[simp] theorem Yp (e:Aq):fits shX (iE e)=true:=by
 have:=e.addr.h;simp_all [iE,fits,j7,rO,tc,lv]
abbrev ahB:Sh:= .st [.i .u32,.ar 32 (.i .u8),.b]
@[simp] theorem pO (e:cS):fits ahB (aM e)=true:=by
 have:=vk e.peer;simp_all [aM,fits,j7,rO,tc,lv]
@[simp] theorem H6 (e:cS):PV.beq (aM e) (aM e)=true:=(gf _ _ (pO e)).beq
abbrev shH:Sh:= .st [.b,.i .u32,.ar 32 (.i .u8),.st [.ar 32 (.i .u8),.ar 32 (.i .u8)],.i .i64,.i .i64]
@[simp] theorem rq (e:Cm):fits shH (iU e)=true:=by
 have:=e.eph.ok;have:=e.Rt.ok;simp_all [iU,fits,j7,rO,tc,lv]
@[simp] theorem Kn (e:Cm):PV.beq (iU e) (iU e)=true:=(gf _ _ (rq e)).beq
abbrev ahC:Sh:= .st [.i .u32,.i .u32,.ar 32 (.i .u8),.ar 32 (.i .u8),.i .u64,.i .u64,.st [.b,.i .u64,.ar 4 (.i .u64)],.i .i64,.b]
@[simp] theorem H7 (e:lq):fits ahC (gH e)=true:=by
 have:=e.send.ok;have:=e.recv.ok;have:=e.wO.ok;simp_all [gH,fits,j7,rO,tc,lv]
abbrev abD:Sh:= .st [.b,.st [.i .u32,.i .u32,.ar 32 (.i .u8),.ar 32 (.i .u8),.i .u64,.i .u64,.st [.b,.i .u64,.ar 4 (.i .u64)],.i .i64,.b]]
@[simp] theorem vl (e:rl):fits abD (iD e)=true:=by
 have:=H7 e.pk;simp_all [iD,fits,j7,rO,tc,lv]
@[simp] theorem De (e:rl):PV.beq (iD e) (iD e)=true:=(gf _ _ (vl e)).beq
end Go.Ab
