/- The types of a daemon as the abstract reading has them. No condition. -/
import Derived.Test.YtdfkcobijmbidaaGreatSF1
import Derived.Test.YtdfkcobijmbidaaGreatSF2
import Derived.Test.YtdfkcobijmbidaaGreatSF3
import Derived.Test.YtdfkcobijmbidaaGreatSF4
import Derived.Test.YtdfkcobijmbidaaGreatSF5
import Derived.Test.YtdfkcobijmbidaaGreatA5
set_option linter.all false
noncomputable section
namespace Go.Ab
open Go.Ab
abbrev jJ:Sh:= .ar 32 (.i .u8)
@[simp] theorem ap8:qf jJ=32:=rfl
@[simp] theorem aeL:Sh.agg jJ=true:=rfl
abbrev uV:Sh:= .st [.b,.i .u64,.ar 4 (.i .u64)]
@[simp] theorem ap9:qf uV=6:=rfl
@[simp] theorem aeM:Sh.agg uV=true:=rfl
abbrev Ka:Sh:= .st [.ar 32 (.i .u8),.ar 32 (.i .u8)]
@[simp] theorem aqa:qf Ka=64:=rfl
@[simp] theorem aeN:Sh.agg Ka=true:=rfl
abbrev xO:Sh:= .ar 16 (.i .u8)
@[simp] theorem aqb:qf xO=16:=rfl
@[simp] theorem aeO:Sh.agg xO=true:=rfl
abbrev QW:Sh:= .ar 12 (.i .u8)
@[simp] theorem aqc:qf QW=12:=rfl
@[simp] theorem aeP:Sh.agg QW=true:=rfl
def eI (b:(List UInt8)):PV:= .sl 1 (b.map u8) false
@[simp] theorem sm (e:(List UInt8)):Pure (eI e):=by simp[eI]
@[simp] theorem anv (e:(List UInt8)):wk (eI e)=eI e:=by simp[eI]
@[simp↓] theorem aeQ (g:Bool) (e:(List UInt8)) (K:PV->Prop):gN g (eI e) K=K (eI e):=_root_.id rfl
@[simp] theorem Xf (e:(List UInt8)):(eI e).width=1:=_root_.id rfl
@[simp] theorem aeR (e:(List UInt8)):(eI e).isAgg=false:=_root_.id rfl
@[simp] theorem aaP (e:(List UInt8)):(eI e).bj=true:=_root_.id rfl
@[simp] theorem anw (l:List (List UInt8)):aB (l.map eI):=bZ sm l
@[simp↓] theorem aaQ (s:St) (K:PV->Prop) (l:List UInt8):v7 s K (eI l)=K (.int .i64 l.length):=by simp[eI]
@[simp↓] theorem Xh (s:St) (sz:Nat) (j:Int) (K:PV->Prop) (l:List UInt8):pL s sz j K (eI l)=((1=sz∧0≤j∧j<l.length)∧K (.fp sz (l.map u8) [.i j.toNat sz])):=by simp[eI]
def gi (l:(List (List UInt8))):PV:= .sl 1 (l.map eI) false
@[simp] theorem Xi (e:(List (List UInt8))):Pure (gi e):=by simp[gi]
@[simp] theorem aeS (e:(List (List UInt8))):wk (gi e)=gi e:=by simp[gi]
@[simp↓] theorem aaR (g:Bool) (e:(List (List UInt8))) (K:PV->Prop):gN g (gi e) K=K (gi e):=_root_.id rfl
@[simp] theorem T8 (e:(List (List UInt8))):(gi e).width=1:=_root_.id rfl
@[simp] theorem aaS (e:(List (List UInt8))):(gi e).isAgg=false:=_root_.id rfl
@[simp] theorem Xj (e:(List (List UInt8))):(gi e).bj=true:=_root_.id rfl
@[simp↓] theorem Xk (s:St) (K:PV->Prop) (l:List (List UInt8)):v7 s K (gi l)=K (.int .i64 l.length):=by simp[gi]
@[simp↓] theorem T9 (s:St) (sz:Nat) (j:Int) (K:PV->Prop) (l:List (List UInt8)):pL s sz j K (gi l)=((1=sz∧0≤j∧j<l.length)∧K (.fp sz (l.map eI) [.i j.toNat sz])):=by simp[gi]
def gU (l:(List Int)):PV:= .sl 1 (l.map (λn:Int=>PV.int .i64 n)) false
@[simp] theorem Ao (e:(List Int)):Pure (gU e):=by simp[gU]
@[simp] theorem aeT (e:(List Int)):wk (gU e)=gU e:=by simp[gU]
@[simp↓] theorem aaT (g:Bool) (e:(List Int)) (K:PV->Prop):gN g (gU e) K=K (gU e):=_root_.id rfl
@[simp] theorem Ua (e:(List Int)):(gU e).width=1:=_root_.id rfl
@[simp] theorem aaU (e:(List Int)):(gU e).isAgg=false:=_root_.id rfl
@[simp] theorem Xm (e:(List Int)):(gU e).bj=true:=_root_.id rfl
@[simp↓] theorem Xn (s:St) (K:PV->Prop) (l:List Int):v7 s K (gU l)=K (.int .i64 l.length):=by simp[gU]
def nI (l:(List Int)):PV:= .sl 1 (l.map (λn:Int=>PV.int .u32 n)) false
@[simp] theorem aaV (e:(List Int)):Pure (nI e):=by simp[nI]
@[simp] theorem anx (e:(List Int)):wk (nI e)=nI e:=by simp[nI]
@[simp↓] theorem aeU (g:Bool) (e:(List Int)) (K:PV->Prop):gN g (nI e) K=K (nI e):=_root_.id rfl
@[simp] theorem aaW (e:(List Int)):(nI e).flat=true:=_root_.id rfl
@[simp↓] theorem aaX (s:St) (K:PV->Prop) (l:List Int):v7 s K (nI l)=K (.int .i64 l.length):=by simp[nI]
@[simp↓] theorem Xo (s:St) (sz:Nat) (j:Int) (K:PV->Prop) (l:List Int):pL s sz j K (nI l)=((1=sz∧0≤j∧j<l.length)∧K (.fp sz (l.map (λn:Int=>PV.int .u32 n)) [.i j.toNat sz])):=by simp[nI]
structure Key where
 l:List UInt8
 h:l.length=32
def ey (k:Key):PV:= .ar 1 32 (k.l.map u8)
@[simp] theorem Kb (e:Key):Pure (ey e):=by simp[ey]
@[simp] theorem anz (e:Key):wk (ey e)=ey e:=by simp[ey]
@[simp↓] theorem aeV (g:Bool) (e:Key) (K:PV->Prop):gN g (ey e) K=K (ey e):=_root_.id rfl
@[simp] theorem Xq (e:Key):(ey e).width=32:=_root_.id rfl
@[simp] theorem aeW (e:Key):(ey e).isAgg=true:=_root_.id rfl
@[simp] theorem aaY (e:Key):(ey e).bj=true:=_root_.id rfl
@[simp] theorem aaZ (e:Key):(ey e).flat=true:=_root_.id rfl
structure jt where
 loc:Int
 rem:Int
 send:FV jJ
 recv:FV jJ
 next:Int
 ij:Int
 nY:FV uV
 born:Int
 M8:Bool
def eX (s:jt):PV:= .st 76 [.int .u32 s.loc,.int .u32 s.rem,s.send.p,s.recv.p,.int .u64 s.next,.int .u64 s.ij,s.nY.p,.int .i64 s.born,.bl s.M8]
@[simp] theorem sn (e:jt):Pure (eX e):=by simp[eX]
@[simp] theorem anA (e:jt):wk (eX e)=eX e:=by simp[eX]
@[simp↓] theorem aeX (g:Bool) (e:jt) (K:PV->Prop):gN g (eX e) K=K (eX e):=_root_.id rfl
@[simp] theorem Xr (e:jt):(eX e).width=76:=_root_.id rfl
@[simp] theorem aeY (e:jt):(eX e).isAgg=true:=_root_.id rfl
@[simp] theorem aa0 (e:jt):(eX e).bj=true:=_root_.id rfl
@[simp] theorem aa1 (e:jt):(eX e).flat=true:=_root_.id rfl
@[simp↓] theorem Ub (e:jt) (r:List Step):aQ (eX e) (.f 0 0::r)=aQ (.int .u32 e.loc) r:=by simp[eX]
@[simp↓] theorem Uc (e:jt) (r:List Step):aQ (eX e) (.f 1 1::r)=aQ (.int .u32 e.rem) r:=by simp[eX,av]
@[simp↓] theorem Ud (e:jt) (r:List Step):aQ (eX e) (.f 2 2::r)=aQ (e.send.p) r:=by simp[eX,av]
def Dp (e:jt) (c:PV):PV:= .st 76 [.int .u32 e.loc,.int .u32 e.rem,c,e.recv.p,.int .u64 e.next,.int .u64 e.ij,e.nY.p,.int .i64 e.born,.bl e.M8]
@[simp↓] theorem Ue (e:jt) (r:List Step) (x:PV):dD (eX e) (.f 2 2::r) x=(dD (e.send.p) r x).bind λc=>some (Dp e c):=by simp[eX,Dp,av]
@[simp↓] theorem Uf (e:jt) (r:List Step):aQ (eX e) (.f 3 34::r)=aQ (e.recv.p) r:=by simp[eX,av]
def Dq (e:jt) (c:PV):PV:= .st 76 [.int .u32 e.loc,.int .u32 e.rem,e.send.p,c,.int .u64 e.next,.int .u64 e.ij,e.nY.p,.int .i64 e.born,.bl e.M8]
@[simp↓] theorem Ug (e:jt) (r:List Step) (x:PV):dD (eX e) (.f 3 34::r) x=(dD (e.recv.p) r x).bind λc=>some (Dq e c):=by simp[eX,Dq,av]
@[simp↓] theorem Uh (e:jt) (r:List Step):aQ (eX e) (.f 4 66::r)=aQ (.int .u64 e.next) r:=by simp[eX,av]
def Dr (e:jt) (c:PV):PV:= .st 76 [.int .u32 e.loc,.int .u32 e.rem,e.send.p,e.recv.p,c,.int .u64 e.ij,e.nY.p,.int .i64 e.born,.bl e.M8]
@[simp↓] theorem Ui (e:jt) (r:List Step) (x:PV):dD (eX e) (.f 4 66::r) x=(dD (.int .u64 e.next) r x).bind λc=>some (Dr e c):=by simp[eX,Dr,av]
@[simp↓] theorem aa2 (e:jt) (v:Int):Dr e (.int .u64 v)=eX {e with next:=v}:=_root_.id rfl
@[simp↓] theorem Uj (e:jt) (r:List Step):aQ (eX e) (.f 5 67::r)=aQ (.int .u64 e.ij) r:=by simp[eX,av]
@[simp↓] theorem Uk (e:jt) (r:List Step):aQ (eX e) (.f 6 68::r)=aQ (e.nY.p) r:=by simp[eX,av]
def yB (e:jt) (c:PV):PV:= .st 76 [.int .u32 e.loc,.int .u32 e.rem,e.send.p,e.recv.p,.int .u64 e.next,.int .u64 e.ij,c,.int .i64 e.born,.bl e.M8]
@[simp↓] theorem Ul (e:jt) (r:List Step) (x:PV):dD (eX e) (.f 6 68::r) x=(dD (e.nY.p) r x).bind λc=>some (yB e c):=by simp[eX,yB,av]
@[simp↓] theorem aa3 (e:jt) (v:FV uV):yB e (v.p)=eX {e with nY:=v}:=_root_.id rfl
@[simp↓] theorem Um (e:jt) (r:List Step):aQ (eX e) (.f 7 74::r)=aQ (.int .i64 e.born) r:=by simp[eX,av]
@[simp↓] theorem Un (e:jt) (r:List Step):aQ (eX e) (.f 8 75::r)=aQ (.bl e.M8) r:=by simp[eX,av]
structure oC where
 has:Bool
 ju:jt
def iy (p:oC):PV:= .st 77 [.bl p.has,eX p.ju]
@[simp] theorem aa4 (e:oC):Pure (iy e):=by simp[iy]
@[simp] theorem anB (e:oC):wk (iy e)=iy e:=by simp[iy]
@[simp↓] theorem aeZ (g:Bool) (e:oC) (K:PV->Prop):gN g (iy e) K=K (iy e):=_root_.id rfl
@[simp] theorem Xt (e:oC):(iy e).width=77:=_root_.id rfl
@[simp] theorem ae0 (e:oC):(iy e).isAgg=true:=_root_.id rfl
@[simp] theorem aa5 (e:oC):(iy e).bj=true:=_root_.id rfl
@[simp] theorem aa6 (e:oC):(iy e).flat=true:=_root_.id rfl
@[simp↓] theorem Uo (e:oC) (r:List Step):aQ (iy e) (.f 0 0::r)=aQ (.bl e.has) r:=by simp[iy]
@[simp↓] theorem Up (e:oC) (r:List Step):aQ (iy e) (.f 1 1::r)=aQ (eX e.ju) r:=by simp[iy,av]
def Du (e:oC) (c:PV):PV:= .st 77 [.bl e.has,c]
@[simp↓] theorem Uq (e:oC) (r:List Step) (x:PV):dD (iy e) (.f 1 1::r) x=(dD (eX e.ju) r x).bind λc=>some (Du e c):=by simp[iy,Du,av]
@[simp↓] theorem aa7 (e:oC) (v:jt):Du e (eX v)=iy {e with ju:=v}:=_root_.id rfl
structure lB where
 p:oC
 c:oC
 n:oC
def fh (r:lB):PV:= .st 231 [iy r.p,iy r.c,iy r.n]
@[simp] theorem Kc (e:lB):Pure (fh e):=by simp[fh]
@[simp] theorem anC (e:lB):wk (fh e)=fh e:=by simp[fh]
@[simp↓] theorem ae1 (g:Bool) (e:lB) (K:PV->Prop):gN g (fh e) K=K (fh e):=_root_.id rfl
@[simp] theorem Xu (e:lB):(fh e).width=231:=_root_.id rfl
@[simp] theorem ae2 (e:lB):(fh e).isAgg=true:=_root_.id rfl
@[simp] theorem aa8 (e:lB):(fh e).bj=true:=_root_.id rfl
@[simp↓] theorem Ur (e:lB) (r:List Step):aQ (fh e) (.f 0 0::r)=aQ (iy e.p) r:=by simp[fh]
@[simp↓] theorem Us (e:lB) (r:List Step):aQ (fh e) (.f 1 77::r)=aQ (iy e.c) r:=by simp[fh,av]
def Dv (e:lB) (c:PV):PV:= .st 231 [iy e.p,c,iy e.n]
@[simp↓] theorem Ut (e:lB) (r:List Step) (x:PV):dD (fh e) (.f 1 77::r) x=(dD (iy e.c) r x).bind λc=>some (Dv e c):=by simp[fh,Dv,av]
@[simp↓] theorem aa9 (e:lB) (v:oC):Dv e (iy v)=fh {e with c:=v}:=_root_.id rfl
@[simp↓] theorem Uu (e:lB) (r:List Step):aQ (fh e) (.f 2 154::r)=aQ (iy e.n) r:=by simp[fh,av]
structure yC where
 xP:Int
 tz:Int
 M9:Int
 mM:Int
 att:Int
 ret:Int
 QX:Int
 cot:Int
 load:Int
 oo:Int
def eP (r:yC):PV:= .st 10 [.int .u64 r.xP,.int .u64 r.tz,.int .i64 r.M9,.int .i64 r.mM,.int .i64 r.att,.int .i64 r.ret,.int .i64 r.QX,.int .i64 r.cot,.int .i64 r.load,.int .i64 r.oo]
@[simp] theorem Ap (e:yC):Pure (eP e):=by simp[eP]
@[simp] theorem ae5 (e:yC):wk (eP e)=eP e:=by simp[eP]
@[simp↓] theorem aba (g:Bool) (e:yC) (K:PV->Prop):gN g (eP e) K=K (eP e):=_root_.id rfl
@[simp] theorem Uv (e:yC):(eP e).width=10:=_root_.id rfl
@[simp] theorem abb (e:yC):(eP e).isAgg=true:=_root_.id rfl
@[simp] theorem Xv (e:yC):(eP e).bj=true:=_root_.id rfl
@[simp↓] theorem QY (e:yC) (r:List Step):aQ (eP e) (.f 0 0::r)=aQ (.int .u64 e.xP) r:=by simp[eP]
@[simp↓] theorem QZ (e:yC) (r:List Step):aQ (eP e) (.f 1 1::r)=aQ (.int .u64 e.tz) r:=by simp[eP,av]
@[simp↓] theorem Q0 (e:yC) (r:List Step):aQ (eP e) (.f 2 2::r)=aQ (.int .i64 e.M9) r:=by simp[eP,av]
@[simp↓] theorem Q1 (e:yC) (r:List Step):aQ (eP e) (.f 3 3::r)=aQ (.int .i64 e.mM) r:=by simp[eP,av]
@[simp↓] theorem Q2 (e:yC) (r:List Step):aQ (eP e) (.f 4 4::r)=aQ (.int .i64 e.att) r:=by simp[eP,av]
@[simp↓] theorem Q3 (e:yC) (r:List Step):aQ (eP e) (.f 5 5::r)=aQ (.int .i64 e.ret) r:=by simp[eP,av]
@[simp↓] theorem Q4 (e:yC) (r:List Step):aQ (eP e) (.f 6 6::r)=aQ (.int .i64 e.QX) r:=by simp[eP,av]
@[simp↓] theorem Q5 (e:yC) (r:List Step):aQ (eP e) (.f 7 7::r)=aQ (.int .i64 e.cot) r:=by simp[eP,av]
@[simp↓] theorem Q6 (e:yC) (r:List Step):aQ (eP e) (.f 8 8::r)=aQ (.int .i64 e.load) r:=by simp[eP,av]
@[simp↓] theorem Q7 (e:yC) (r:List Step):aQ (eP e) (.f 9 9::r)=aQ (.int .i64 e.oo) r:=by simp[eP,av]
structure sQ where
 O7:Bool
 ip:List UInt8
 h:ip.length=16
def jf (a:sQ):PV:= .st 17 [.bl a.O7,.ar 1 16 (a.ip.map u8)]
@[simp] theorem abc (e:sQ):Pure (jf e):=by simp[jf]
@[simp] theorem anD (e:sQ):wk (jf e)=jf e:=by simp[jf]
@[simp↓] theorem ae6 (g:Bool) (e:sQ) (K:PV->Prop):gN g (jf e) K=K (jf e):=_root_.id rfl
@[simp] theorem Xw (e:sQ):(jf e).width=17:=_root_.id rfl
@[simp] theorem ae7 (e:sQ):(jf e).isAgg=true:=_root_.id rfl
@[simp] theorem abd (e:sQ):(jf e).bj=true:=_root_.id rfl
@[simp↓] theorem Uw (e:sQ) (r:List Step):aQ (jf e) (.f 0 0::r)=aQ (.bl e.O7) r:=by simp[jf]
@[simp↓] theorem Ux (e:sQ) (r:List Step):aQ (jf e) (.f 1 1::r)=aQ (.ar 1 16 (e.ip.map u8)) r:=by simp[jf,av]
def Dw (e:sQ) (c:PV):PV:= .st 17 [.bl e.O7,c]
@[simp↓] theorem Uy (e:sQ) (r:List Step) (x:PV):dD (jf e) (.f 1 1::r) x=(dD (.ar 1 16 (e.ip.map u8)) r x).bind λc=>some (Dw e c):=by simp[jf,Dw,av]
structure IF where
 addr:sQ
 port:Int
def iU (e:IF):PV:= .st 18 [jf e.addr,.int .i64 e.port]
@[simp] theorem Kd (e:IF):Pure (iU e):=by simp[iU]
@[simp] theorem anE (e:IF):wk (iU e)=iU e:=by simp[iU]
@[simp↓] theorem ae8 (g:Bool) (e:IF) (K:PV->Prop):gN g (iU e) K=K (iU e):=_root_.id rfl
@[simp] theorem Xx (e:IF):(iU e).width=18:=_root_.id rfl
@[simp] theorem ae9 (e:IF):(iU e).isAgg=true:=_root_.id rfl
@[simp] theorem abe (e:IF):(iU e).bj=true:=_root_.id rfl
@[simp↓] theorem Uz (e:IF) (r:List Step):aQ (iU e) (.f 0 0::r)=aQ (jf e.addr) r:=by simp[iU]
@[simp↓] theorem UA (e:IF) (r:List Step):aQ (iU e) (.f 1 17::r)=aQ (.int .i64 e.port) r:=by simp[iU,av]
structure K5 where
 addr:sQ
 bits:Int
def jZ (e:K5):PV:= .st 18 [jf e.addr,.int .i64 e.bits]
@[simp] theorem abf (e:K5):Pure (jZ e):=by simp[jZ]
@[simp] theorem anF (e:K5):wk (jZ e)=jZ e:=by simp[jZ]
@[simp↓] theorem afa (g:Bool) (e:K5) (K:PV->Prop):gN g (jZ e) K=K (jZ e):=_root_.id rfl
@[simp] theorem Xy (e:K5):(jZ e).width=18:=_root_.id rfl
@[simp] theorem afb (e:K5):(jZ e).isAgg=true:=_root_.id rfl
@[simp] theorem abg (e:K5):(jZ e).bj=true:=_root_.id rfl
@[simp↓] theorem UB (e:K5) (r:List Step):aQ (jZ e) (.f 0 0::r)=aQ (jf e.addr) r:=by simp[jZ]
@[simp↓] theorem UC (e:K5) (r:List Step):aQ (jZ e) (.f 1 17::r)=aQ (.int .i64 e.bits) r:=by simp[jZ,av]
structure vD where
 K6:K5
 peer:Key
def lC (r:vD):PV:= .st 50 [jZ r.K6,ey r.peer]
@[simp] theorem Hg (e:vD):Pure (lC e):=by simp[lC]
@[simp] theorem Na (e:vD):wk (lC e)=lC e:=by simp[lC]
@[simp↓] theorem abh (g:Bool) (e:vD) (K:PV->Prop):gN g (lC e) K=K (lC e):=_root_.id rfl
@[simp] theorem UD (e:vD):(lC e).width=50:=_root_.id rfl
@[simp] theorem abi (e:vD):(lC e).isAgg=true:=_root_.id rfl
@[simp] theorem Xz (e:vD):(lC e).bj=true:=_root_.id rfl
@[simp] theorem afc (l:List vD):aB (l.map lC):=bZ Hg l
@[simp] theorem afd (l:List vD):jj (l.map lC)=l.map lC:=Dc Na l
@[simp↓] theorem Q8 (e:vD) (r:List Step):aQ (lC e) (.f 0 0::r)=aQ (jZ e.K6) r:=by simp[lC]
@[simp↓] theorem Q9 (e:vD) (r:List Step):aQ (lC e) (.f 1 18::r)=aQ (ey e.peer) r:=by simp[lC,av]
def eE (l:(List vD)):PV:= .sl 50 (l.map lC) false
@[simp] theorem xp (e:(List vD)):Pure (eE e):=by simp[eE]
@[simp] theorem abj (e:(List vD)):wk (eE e)=eE e:=by simp[eE]
@[simp↓] theorem XA (g:Bool) (e:(List vD)) (K:PV->Prop):gN g (eE e) K=K (eE e):=_root_.id rfl
@[simp] theorem Ra (e:(List vD)):(eE e).width=1:=_root_.id rfl
@[simp] theorem XB (e:(List vD)):(eE e).isAgg=false:=_root_.id rfl
@[simp] theorem UE (e:(List vD)):(eE e).bj=true:=_root_.id rfl
@[simp↓] theorem UF (s:St) (K:PV->Prop) (l:List vD):v7 s K (eE l)=K (.int .i64 l.length):=by simp[eE]
@[simp↓] theorem Rb (s:St) (sz:Nat) (j:Int) (K:PV->Prop) (l:List vD):pL s sz j K (eE l)=((50=sz∧0≤j∧j<l.length)∧K (.fp sz (l.map lC) [.i j.toNat sz])):=by simp[eE]
structure ja where
 index:Int
 peer:Key
 ju:Bool
def cI (s:ja):PV:= .st 34 [.int .u32 s.index,ey s.peer,.bl s.ju]
@[simp] theorem iz (e:ja):Pure (cI e):=by simp[cI]
@[simp] theorem Nb (e:ja):wk (cI e)=cI e:=by simp[cI]
@[simp↓] theorem abk (g:Bool) (e:ja) (K:PV->Prop):gN g (cI e) K=K (cI e):=_root_.id rfl
@[simp] theorem UG (e:ja):(cI e).width=34:=_root_.id rfl
@[simp] theorem abl (e:ja):(cI e).isAgg=true:=_root_.id rfl
@[simp] theorem XC (e:ja):(cI e).bj=true:=_root_.id rfl
@[simp] theorem XD (e:ja):(cI e).flat=true:=_root_.id rfl
@[simp] theorem afe (l:List ja):aB (l.map cI):=bZ iz l
@[simp] theorem aff (l:List ja):jj (l.map cI)=l.map cI:=Dc Nb l
@[simp↓] theorem Rc (e:ja) (r:List Step):aQ (cI e) (.f 0 0::r)=aQ (.int .u32 e.index) r:=by simp[cI]
@[simp↓] theorem Rd (e:ja) (r:List Step):aQ (cI e) (.f 1 1::r)=aQ (ey e.peer) r:=by simp[cI,av]
@[simp↓] theorem Re (e:ja) (r:List Step):aQ (cI e) (.f 2 33::r)=aQ (.bl e.ju) r:=by simp[cI,av]
def dX (l:(List ja)):PV:= .sl 34 (l.map cI) false
@[simp] theorem Ft (e:(List ja)):Pure (dX e):=by simp[dX]
@[simp] theorem abm (e:(List ja)):wk (dX e)=dX e:=by simp[dX]
@[simp↓] theorem XE (g:Bool) (e:(List ja)) (K:PV->Prop):gN g (dX e) K=K (dX e):=_root_.id rfl
@[simp] theorem Rf (e:(List ja)):(dX e).width=1:=_root_.id rfl
@[simp] theorem XF (e:(List ja)):(dX e).isAgg=false:=_root_.id rfl
@[simp] theorem UH (e:(List ja)):(dX e).bj=true:=_root_.id rfl
@[simp↓] theorem UI (s:St) (K:PV->Prop) (l:List ja):v7 s K (dX l)=K (.int .i64 l.length):=by simp[dX]
@[simp↓] theorem Rg (s:St) (sz:Nat) (j:Int) (K:PV->Prop) (l:List ja):pL s sz j K (dX l)=((34=sz∧0≤j∧j<l.length)∧K (.fp sz (l.map cI) [.i j.toNat sz])):=by simp[dX]
structure fS where
 at_:Int
 peer:Key
 kind:Int
def bY (t:fS):PV:= .st 34 [.int .i64 t.at_,ey t.peer,.int .i64 t.kind]
@[simp] theorem jR (e:fS):Pure (bY e):=by simp[bY]
@[simp] theorem anG (e:fS):wk (bY e)=bY e:=by simp[bY]
@[simp↓] theorem afg (g:Bool) (e:fS) (K:PV->Prop):gN g (bY e) K=K (bY e):=_root_.id rfl
@[simp] theorem XG (e:fS):(bY e).width=34:=_root_.id rfl
@[simp] theorem afh (e:fS):(bY e).isAgg=true:=_root_.id rfl
@[simp] theorem abn (e:fS):(bY e).bj=true:=_root_.id rfl
@[simp] theorem anH (l:List fS):aB (l.map bY):=bZ jR l
@[simp↓] theorem UJ (e:fS) (r:List Step):aQ (bY e) (.f 0 0::r)=aQ (.int .i64 e.at_) r:=by simp[bY]
@[simp↓] theorem UK (e:fS) (r:List Step):aQ (bY e) (.f 1 1::r)=aQ (ey e.peer) r:=by simp[bY,av]
@[simp↓] theorem UL (e:fS) (r:List Step):aQ (bY e) (.f 2 33::r)=aQ (.int .i64 e.kind) r:=by simp[bY,av]
def dA (l:(List fS)):PV:= .sl 34 (l.map bY) false
@[simp] theorem tA (e:(List fS)):Pure (dA e):=by simp[dA]
@[simp] theorem afi (e:(List fS)):wk (dA e)=dA e:=by simp[dA]
@[simp↓] theorem abo (g:Bool) (e:(List fS)) (K:PV->Prop):gN g (dA e) K=K (dA e):=_root_.id rfl
@[simp] theorem UM (e:(List fS)):(dA e).width=1:=_root_.id rfl
@[simp] theorem abp (e:(List fS)):(dA e).isAgg=false:=_root_.id rfl
@[simp] theorem XH (e:(List fS)):(dA e).bj=true:=_root_.id rfl
@[simp↓] theorem XI (s:St) (K:PV->Prop) (l:List fS):v7 s K (dA l)=K (.int .i64 l.length):=by simp[dA]
@[simp↓] theorem UN (s:St) (sz:Nat) (j:Int) (K:PV->Prop) (l:List fS):pL s sz j K (dA l)=((34=sz∧0≤j∧j<l.length)∧K (.fp sz (l.map bY) [.i j.toNat sz])):=by simp[dA]
structure IG where
 addr:sQ
 tokens:Int
 at_:Int
def Cc (b:IG):PV:= .st 19 [jf b.addr,.int .i64 b.tokens,.int .i64 b.at_]
@[simp] theorem XJ (e:IG):Pure (Cc e):=by simp[Cc]
@[simp] theorem afj (e:IG):wk (Cc e)=Cc e:=by simp[Cc]
def fy (l:(List IG)):PV:= .sl 19 (l.map Cc) false
@[simp] theorem xq (e:(List IG)):Pure (fy e):=by simp[fy]
@[simp] theorem abq (e:(List IG)):wk (fy e)=fy e:=by simp[fy]
@[simp↓] theorem XK (g:Bool) (e:(List IG)) (K:PV->Prop):gN g (fy e) K=K (fy e):=_root_.id rfl
@[simp] theorem Rh (e:(List IG)):(fy e).width=1:=_root_.id rfl
@[simp] theorem XL (e:(List IG)):(fy e).isAgg=false:=_root_.id rfl
@[simp] theorem UO (e:(List IG)):(fy e).bj=true:=_root_.id rfl
@[simp↓] theorem UP (s:St) (K:PV->Prop) (l:List IG):v7 s K (fy l)=K (.int .i64 l.length):=by simp[fy]
structure Hh where
 has:Bool
 loc:Int
 eph:FV jJ
 UQ:FV Ka
 started:Int
 Nc:Int
def jD (h:Hh):PV:= .st 100 [.bl h.has,.int .u32 h.loc,h.eph.p,h.UQ.p,.int .i64 h.started,.int .i64 h.Nc]
@[simp] theorem Ke (e:Hh):Pure (jD e):=by simp[jD]
@[simp] theorem anI (e:Hh):wk (jD e)=jD e:=by simp[jD]
@[simp↓] theorem afk (g:Bool) (e:Hh) (K:PV->Prop):gN g (jD e) K=K (jD e):=_root_.id rfl
@[simp] theorem XM (e:Hh):(jD e).width=100:=_root_.id rfl
@[simp] theorem abr (e:Hh):(jD e).bj=true:=_root_.id rfl
@[simp↓] theorem UR (e:Hh) (r:List Step):aQ (jD e) (.f 0 0::r)=aQ (.bl e.has) r:=by simp[jD]
@[simp↓] theorem US (e:Hh) (r:List Step):aQ (jD e) (.f 1 1::r)=aQ (.int .u32 e.loc) r:=by simp[jD,av]
@[simp↓] theorem UT (e:Hh) (r:List Step):aQ (jD e) (.f 4 98::r)=aQ (.int .i64 e.started) r:=by simp[jD,av]
@[simp↓] theorem UU (e:Hh) (r:List Step):aQ (jD e) (.f 5 99::r)=aQ (.int .i64 e.Nc) r:=by simp[jD,av]
structure dC where
 gF:Key
 shared:FV jJ
 lS:Bool
 ep:IF
 pq:Int
 rF:FV QW
 qS:Bool
 uW:Int
 hand:Hh
 nk:Bool
 pd:FV xO
 qW:Int
 Ge:FV xO
 ring:lB
 bk:List (List UInt8)
def aP (p:dC):PV:= .st 464 [ey p.gF,p.shared.p,.bl p.lS,iU p.ep,.int .i64 p.pq,p.rF.p,.bl p.qS,.int .i64 p.uW,jD p.hand,.bl p.nk,p.pd.p,.int .i64 p.qW,p.Ge.p,fh p.ring,gi p.bk]
@[simp] theorem jF (e:dC):Pure (aP e):=by simp[aP]
@[simp] theorem afl (e:dC):wk (aP e)=aP e:=by simp[aP]
@[simp↓] theorem abt (g:Bool) (e:dC) (K:PV->Prop):gN g (aP e) K=K (aP e):=_root_.id rfl
@[simp] theorem UW (e:dC):(aP e).width=464:=_root_.id rfl
@[simp] theorem abu (e:dC):(aP e).isAgg=true:=_root_.id rfl
@[simp] theorem XN (e:dC):(aP e).bj=true:=_root_.id rfl
@[simp] theorem afm (l:List dC):aB (l.map aP):=bZ jF l
@[simp↓] theorem Ri (e:dC) (r:List Step):aQ (aP e) (.f 0 0::r)=aQ (ey e.gF) r:=by simp[aP]
@[simp↓] theorem Rj (e:dC) (r:List Step):aQ (aP e) (.f 2 64::r)=aQ (.bl e.lS) r:=by simp[aP,av]
@[simp↓] theorem Rk (e:dC) (r:List Step):aQ (aP e) (.f 3 65::r)=aQ (iU e.ep) r:=by simp[aP,av]
@[simp↓] theorem Rl (e:dC) (r:List Step):aQ (aP e) (.f 4 83::r)=aQ (.int .i64 e.pq) r:=by simp[aP,av]
@[simp↓] theorem Rm (e:dC) (r:List Step):aQ (aP e) (.f 6 96::r)=aQ (.bl e.qS) r:=by simp[aP,av]
@[simp↓] theorem Rn (e:dC) (r:List Step):aQ (aP e) (.f 7 97::r)=aQ (.int .i64 e.uW) r:=by simp[aP,av]
@[simp↓] theorem Ro (e:dC) (r:List Step):aQ (aP e) (.f 8 98::r)=aQ (jD e.hand) r:=by simp[aP,av]
def uX (e:dC) (c:PV):PV:= .st 464 [ey e.gF,e.shared.p,.bl e.lS,iU e.ep,.int .i64 e.pq,e.rF.p,.bl e.qS,.int .i64 e.uW,c,.bl e.nk,e.pd.p,.int .i64 e.qW,e.Ge.p,fh e.ring,gi e.bk]
@[simp↓] theorem Rp (e:dC) (r:List Step) (x:PV):dD (aP e) (.f 8 98::r) x=(dD (jD e.hand) r x).bind λc=>some (uX e c):=by simp[aP,uX,av]
@[simp↓] theorem XO (e:dC) (v:Hh):uX e (jD v)=aP {e with hand:=v}:=_root_.id rfl
@[simp↓] theorem Rq (e:dC) (r:List Step):aQ (aP e) (.f 9 198::r)=aQ (.bl e.nk) r:=by simp[aP,av]
def Aq (e:dC) (c:PV):PV:= .st 464 [ey e.gF,e.shared.p,.bl e.lS,iU e.ep,.int .i64 e.pq,e.rF.p,.bl e.qS,.int .i64 e.uW,jD e.hand,c,e.pd.p,.int .i64 e.qW,e.Ge.p,fh e.ring,gi e.bk]
@[simp↓] theorem Rr (e:dC) (r:List Step) (x:PV):dD (aP e) (.f 9 198::r) x=(dD (.bl e.nk) r x).bind λc=>some (Aq e c):=by simp[aP,Aq,av]
@[simp↓] theorem XP (e:dC) (v:Bool):Aq e (.bl v)=aP {e with nk:=v}:=_root_.id rfl
@[simp↓] theorem O8 (e:dC) (r:List Step):aQ (aP e) (.f 10 199::r)=aQ (e.pd.p) r:=by simp[aP,av]
def sq (e:dC) (c:PV):PV:= .st 464 [ey e.gF,e.shared.p,.bl e.lS,iU e.ep,.int .i64 e.pq,e.rF.p,.bl e.qS,.int .i64 e.uW,jD e.hand,.bl e.nk,c,.int .i64 e.qW,e.Ge.p,fh e.ring,gi e.bk]
@[simp↓] theorem O9 (e:dC) (r:List Step) (x:PV):dD (aP e) (.f 10 199::r) x=(dD (e.pd.p) r x).bind λc=>some (sq e c):=by simp[aP,sq,av]
@[simp↓] theorem UX (e:dC) (v:FV xO):sq e (v.p)=aP {e with pd:=v}:=_root_.id rfl
@[simp↓] theorem Pa (e:dC) (r:List Step):aQ (aP e) (.f 11 215::r)=aQ (.int .i64 e.qW) r:=by simp[aP,av]
def wx (e:dC) (c:PV):PV:= .st 464 [ey e.gF,e.shared.p,.bl e.lS,iU e.ep,.int .i64 e.pq,e.rF.p,.bl e.qS,.int .i64 e.uW,jD e.hand,.bl e.nk,e.pd.p,c,e.Ge.p,fh e.ring,gi e.bk]
@[simp↓] theorem Pb (e:dC) (r:List Step) (x:PV):dD (aP e) (.f 11 215::r) x=(dD (.int .i64 e.qW) r x).bind λc=>some (wx e c):=by simp[aP,wx,av]
@[simp↓] theorem UY (e:dC) (v:Int):wx e (.int .i64 v)=aP {e with qW:=v}:=_root_.id rfl
def sr (e:dC) (c:PV):PV:= .st 464 [ey e.gF,e.shared.p,.bl e.lS,iU e.ep,.int .i64 e.pq,e.rF.p,.bl e.qS,.int .i64 e.uW,jD e.hand,.bl e.nk,e.pd.p,.int .i64 e.qW,c,fh e.ring,gi e.bk]
@[simp↓] theorem Pc (e:dC) (r:List Step) (x:PV):dD (aP e) (.f 12 216::r) x=(dD (e.Ge.p) r x).bind λc=>some (sr e c):=by simp[aP,sr,av]
@[simp↓] theorem UZ (e:dC) (v:FV xO):sr e (v.p)=aP {e with Ge:=v}:=_root_.id rfl
@[simp↓] theorem Pd (e:dC) (r:List Step):aQ (aP e) (.f 13 232::r)=aQ (fh e.ring) r:=by simp[aP,av]
def wz (e:dC) (c:PV):PV:= .st 464 [ey e.gF,e.shared.p,.bl e.lS,iU e.ep,.int .i64 e.pq,e.rF.p,.bl e.qS,.int .i64 e.uW,jD e.hand,.bl e.nk,e.pd.p,.int .i64 e.qW,e.Ge.p,c,gi e.bk]
@[simp↓] theorem Pe (e:dC) (r:List Step) (x:PV):dD (aP e) (.f 13 232::r) x=(dD (fh e.ring) r x).bind λc=>some (wz e c):=by simp[aP,wz,av]
@[simp↓] theorem U0 (e:dC) (v:lB):wz e (fh v)=aP {e with ring:=v}:=_root_.id rfl
@[simp↓] theorem Pf (e:dC) (r:List Step):aQ (aP e) (.f 14 463::r)=aQ (gi e.bk) r:=by simp[aP,av]
def jS (e:dC) (c:PV):PV:= .st 464 [ey e.gF,e.shared.p,.bl e.lS,iU e.ep,.int .i64 e.pq,e.rF.p,.bl e.qS,.int .i64 e.uW,jD e.hand,.bl e.nk,e.pd.p,.int .i64 e.qW,e.Ge.p,fh e.ring,c]
@[simp↓] theorem Ph (e:dC) (r:List Step) (x:PV):dD (aP e) (.f 14 463::r) x=(dD (gi e.bk) r x).bind λc=>some (jS e c):=by simp[aP,jS,av]
@[simp↓] theorem U1 (e:dC) (v:List (List UInt8)):jS e (gi v)=aP {e with bk:=v}:=_root_.id rfl
def jT (l:(List dC)):PV:= .sl 464 (l.map aP) false
@[simp] theorem U2 (e:(List dC)):Pure (jT e):=by simp[jT]
@[simp] theorem abv (e:(List dC)):wk (jT e)=jT e:=by simp[jT]
@[simp↓] theorem XQ (g:Bool) (e:(List dC)) (K:PV->Prop):gN g (jT e) K=K (jT e):=_root_.id rfl
@[simp] theorem Rs (e:(List dC)):(jT e).width=1:=_root_.id rfl
@[simp] theorem XR (e:(List dC)):(jT e).isAgg=false:=_root_.id rfl
@[simp↓] theorem U3 (s:St) (K:PV->Prop) (l:List dC):v7 s K (jT l)=K (.int .i64 l.length):=by simp[jT]
@[simp↓] theorem Rt (s:St) (sz:Nat) (j:Int) (K:PV->Prop) (l:List dC):pL s sz j K (jT l)=((464=sz∧0≤j∧j<l.length)∧K (.fp sz (l.map aP) [.i j.toNat sz])):=by simp[jT]
structure bU where
 rules:yC
 oq:FV jJ
 pS:FV jJ
 port:Int
 random:FV jJ
 now:Int
 aj:List dC
 bD:List vD
 aM:List ja
 timers:List fS
 jr:FV jJ
 kU:Int
 cN:List Int
 buckets:List IG
 bad:Int
def bO (d:bU) (p:PV):PV:= .st 148 [eP d.rules,d.oq.p,d.pS.p,.int .i64 d.port,d.random.p,.int .i64 d.now,p,eE d.bD,dX d.aM,dA d.timers,d.jr.p,.int .i64 d.kU,gU d.cN,fy d.buckets,.int .i64 d.bad]
@[simp] theorem U4 (e:bU) (p:PV):(bO e p).width=148:=_root_.id rfl
@[simp] theorem abw (e:bU) (p:PV):(bO e p).isAgg=true:=rfl
@[simp] theorem XS (e:bU) (p:PV):(bO e p).bj=true:=rfl
@[simp] theorem XT (e:bU) (p:PV):(bO e p).flat=true:=rfl
@[simp↓] theorem abx (g:Bool) (e:bU) (p:PV) (K:PV->Prop):gN g (bO e p) K=K (bO e p):=_root_.id rfl
@[simp↓] theorem Ru (e:bU) (p:PV) (r:List Step):aQ (bO e p) (.f 0 0::r)=aQ (eP e.rules) r:=by simp[bO]
@[simp↓] theorem Rv (e:bU) (p:PV) (r:List Step):aQ (bO e p) (.f 1 10::r)=aQ (e.oq.p) r:=by simp[bO,av]
@[simp↓] theorem Rw (e:bU) (p:PV) (r:List Step):aQ (bO e p) (.f 3 74::r)=aQ (.int .i64 e.port) r:=by simp[bO,av]
@[simp↓] theorem Rx (e:bU) (p:PV) (r:List Step):aQ (bO e p) (.f 4 75::r)=aQ (e.random.p) r:=by simp[bO,av]
def Ar (e:bU) (p:PV) (c:PV):PV:= .st 148 [eP e.rules,e.oq.p,e.pS.p,.int .i64 e.port,c,.int .i64 e.now,p,eE e.bD,dX e.aM,dA e.timers,e.jr.p,.int .i64 e.kU,gU e.cN,fy e.buckets,.int .i64 e.bad]
@[simp↓] theorem Ry (e:bU) (p:PV) (r:List Step) (x:PV):dD (bO e p) (.f 4 75::r) x=(dD (e.random.p) r x).bind λc=>some (Ar e p c):=by simp[bO,Ar,av]
@[simp↓] theorem XU (e:bU) (p:PV) (v:FV jJ):Ar e p (v.p)=bO {e with random:=v} p:=_root_.id rfl
@[simp↓] theorem Rz (e:bU) (p:PV) (r:List Step):aQ (bO e p) (.f 5 107::r)=aQ (.int .i64 e.now) r:=by simp[bO,av]
@[simp↓] theorem RA (e:bU) (p:PV) (r:List Step):aQ (bO e p) (.f 6 108::r)=aQ (p) r:=by simp[bO,av]
def As (e:bU) (p:PV) (c:PV):PV:= .st 148 [eP e.rules,e.oq.p,e.pS.p,.int .i64 e.port,e.random.p,.int .i64 e.now,c,eE e.bD,dX e.aM,dA e.timers,e.jr.p,.int .i64 e.kU,gU e.cN,fy e.buckets,.int .i64 e.bad]
@[simp↓] theorem RB (e:bU) (p:PV) (r:List Step) (x:PV):dD (bO e p) (.f 6 108::r) x=(dD (p) r x).bind λc=>some (As e p c):=by simp[bO,As,av]
@[simp↓] theorem XV (e:bU) (p:PV) (v:PV):As e p v=bO e v:=_root_.id rfl
@[simp↓] theorem RC (e:bU) (p:PV) (hp:p.width=1) (r:List Step):aQ (bO e p) (.f 7 109::r)=aQ (eE e.bD) r:=by simp[bO,av,hp]
def At (e:bU) (p:PV) (c:PV):PV:= .st 148 [eP e.rules,e.oq.p,e.pS.p,.int .i64 e.port,e.random.p,.int .i64 e.now,p,c,dX e.aM,dA e.timers,e.jr.p,.int .i64 e.kU,gU e.cN,fy e.buckets,.int .i64 e.bad]
@[simp↓] theorem RD (e:bU) (p:PV) (hp:p.width=1) (r:List Step) (x:PV):dD (bO e p) (.f 7 109::r) x=(dD (eE e.bD) r x).bind λc=>some (At e p c):=by simp[bO,At,av,hp]
@[simp↓] theorem XW (e:bU) (p:PV) (v:List vD):At e p (eE v)=bO {e with bD:=v} p:=_root_.id rfl
@[simp↓] theorem RE (e:bU) (p:PV) (hp:p.width=1) (r:List Step):aQ (bO e p) (.f 8 110::r)=aQ (dX e.aM) r:=by simp[bO,av,hp]
def uY (e:bU) (p:PV) (c:PV):PV:= .st 148 [eP e.rules,e.oq.p,e.pS.p,.int .i64 e.port,e.random.p,.int .i64 e.now,p,eE e.bD,c,dA e.timers,e.jr.p,.int .i64 e.kU,gU e.cN,fy e.buckets,.int .i64 e.bad]
@[simp↓] theorem RG (e:bU) (p:PV) (hp:p.width=1) (r:List Step) (x:PV):dD (bO e p) (.f 8 110::r) x=(dD (dX e.aM) r x).bind λc=>some (uY e p c):=by simp[bO,uY,av,hp]
@[simp↓] theorem XX (e:bU) (p:PV) (v:List ja):uY e p (dX v)=bO {e with aM:=v} p:=_root_.id rfl
@[simp↓] theorem RH (e:bU) (p:PV) (hp:p.width=1) (r:List Step):aQ (bO e p) (.f 9 111::r)=aQ (dA e.timers) r:=by simp[bO,av,hp]
def Au (e:bU) (p:PV) (c:PV):PV:= .st 148 [eP e.rules,e.oq.p,e.pS.p,.int .i64 e.port,e.random.p,.int .i64 e.now,p,eE e.bD,dX e.aM,c,e.jr.p,.int .i64 e.kU,gU e.cN,fy e.buckets,.int .i64 e.bad]
@[simp↓] theorem RI (e:bU) (p:PV) (hp:p.width=1) (r:List Step) (x:PV):dD (bO e p) (.f 9 111::r) x=(dD (dA e.timers) r x).bind λc=>some (Au e p c):=by simp[bO,Au,av,hp]
@[simp↓] theorem XY (e:bU) (p:PV) (v:List fS):Au e p (dA v)=bO {e with timers:=v} p:=_root_.id rfl
@[simp↓] theorem Pj (e:bU) (p:PV) (hp:p.width=1) (r:List Step):aQ (bO e p) (.f 11 144::r)=aQ (.int .i64 e.kU) r:=by simp[bO,av,hp]
@[simp↓] theorem Pk (e:bU) (p:PV) (hp:p.width=1) (r:List Step):aQ (bO e p) (.f 12 145::r)=aQ (gU e.cN) r:=by simp[bO,av,hp]
def wA (e:bU) (p:PV) (c:PV):PV:= .st 148 [eP e.rules,e.oq.p,e.pS.p,.int .i64 e.port,e.random.p,.int .i64 e.now,p,eE e.bD,dX e.aM,dA e.timers,e.jr.p,.int .i64 e.kU,c,fy e.buckets,.int .i64 e.bad]
@[simp↓] theorem Pl (e:bU) (p:PV) (hp:p.width=1) (r:List Step) (x:PV):dD (bO e p) (.f 12 145::r) x=(dD (gU e.cN) r x).bind λc=>some (wA e p c):=by simp[bO,wA,av,hp]
@[simp↓] theorem Pm (e:bU) (p:PV) (hp:p.width=1) (r:List Step):aQ (bO e p) (.f 13 146::r)=aQ (fy e.buckets) r:=by simp[bO,av,hp]
@[simp↓] theorem Pn (e:bU) (p:PV) (hp:p.width=1) (r:List Step):aQ (bO e p) (.f 14 147::r)=aQ (.int .i64 e.bad) r:=by simp[bO,av,hp]
def wB (e:bU) (p:PV) (c:PV):PV:= .st 148 [eP e.rules,e.oq.p,e.pS.p,.int .i64 e.port,e.random.p,.int .i64 e.now,p,eE e.bD,dX e.aM,dA e.timers,e.jr.p,.int .i64 e.kU,gU e.cN,fy e.buckets,c]
@[simp↓] theorem Po (e:bU) (p:PV) (hp:p.width=1) (r:List Step) (x:PV):dD (bO e p) (.f 14 147::r) x=(dD (.int .i64 e.bad) r x).bind λc=>some (wB e p c):=by simp[bO,wB,av,hp]
@[simp↓] theorem U5 (e:bU) (p:PV) (v:Int):wB e p (.int .i64 v)=bO {e with bad:=v} p:=_root_.id rfl
@[simp] theorem Dx (f:Nat->Bool) (e:bU) (p:PV):ab f (bO e p)=ab f p:=by
 have h1:ab f (eP e.rules)=true:=(Ap _).refs f
 have h2:ab f (eE e.bD)=true:=(xp _).refs f
 have h3:ab f (dX e.aM)=true:=(Ft _).refs f
 have h4:ab f (dA e.timers)=true:=(tA _).refs f
 have h5:ab f (gU e.cN)=true:=(Ao _).refs f
 have h6:ab f (fy e.buckets)=true:=(xq _).refs f
 have g1:ab f e.oq.p=true:=(FV.pure e.oq).refs f
 have g2:ab f e.pS.p=true:=(FV.pure e.pS).refs f
 have g3:ab f e.random.p=true:=(FV.pure e.random).refs f
 have g4:ab f e.jr.p=true:=(FV.pure e.jr).refs f
 simp[bO,ab,ae]
@[simp] theorem aby (ρ:Nat->Nat) (e:bU) (p:PV):aF ρ (bO e p)=bO e (aF ρ p):=by
 simp[bO,aF,aK]
@[simp] theorem afn (e:bU) (p:PV):wk (bO e p)=bO e (wk p):=by simp[bO]
@[simp] theorem abz (k sz:Nat) (l:List PV) (e:bU) (p:PV):gh k sz l (bO e p)=bO e (gh k sz l p):=by
 simp[bO,gh,gW]
@[simp] theorem XZ (e:bU) {p:PV} (h:Pure p):Pure (bO e p):=Pure.of (by rw[Dx];exact h.refs _)
def gO (d:bU):PV:=bO d (jT d.aj)
@[simp] theorem Kf (e:bU):Pure (gO e):=by simp[gO]
@[simp] theorem anJ (e:bU):wk (gO e)=gO e:=by simp[gO]
@[simp↓] theorem afo (g:Bool) (e:bU) (K:PV->Prop):gN g (gO e) K=K (gO e):=_root_.id rfl
@[simp] theorem X1 (e:bU):(gO e).width=148:=_root_.id rfl
@[simp] theorem afp (e:bU):(gO e).isAgg=true:=_root_.id rfl
@[simp] theorem abA (e:bU):(gO e).bj=true:=_root_.id rfl
@[simp] theorem abB (e:bU):(gO e).flat=true:=_root_.id rfl
@[simp↓] theorem abC (e:bU) (i o:Nat) (r:List Step):aQ (gO e) (.f i o::r)=aQ (bO e (jT e.aj)) (.f i o::r):=_root_.id rfl
theorem Av:∀l:List UInt8,kR (.i .u8) (l.map u8)=true
 |[]=>rfl
 |x::l=>by simp[kR,u8,fits,Av l]
@[simp] theorem wC (k:Key):fits jJ (ey k)=true:=by
 simp[ey,fits,Av,k.h,qf]
def Key.fv (k:Key):FV jJ:=⟨ey k,wC k⟩
@[simp] theorem Key.ay1 (k:Key):k.fv.p=ey k:=rfl
@[simp] theorem afq (e:Key):PV.beq (ey e) (ey e)=true:=(gT _ _ (wC e)).beq
abbrev shA:Sh:= .st [.b,.ar 16 (.i .u8)]
@[simp] theorem abD (e:sQ):fits shA (jf e)=true:=by
 have:=e.h;simp_all [jf,fits,kE,qf,tY,Av]
abbrev shE:Sh:= .st [.st [.b,.ar 16 (.i .u8)],.i .i64]
@[simp] theorem Cd (e:IF):fits shE (iU e)=true:=by
 have:=e.addr.h;simp_all [iU,fits,kE,qf,tY]
@[simp] theorem Nd (e:IF):PV.beq (iU e) (iU e)=true:=(gT _ _ (Cd e)).beq
abbrev shX:Sh:= .st [.st [.b,.ar 16 (.i .u8)],.i .i64]
@[simp] theorem abE (e:K5):fits shX (jZ e)=true:=by
 have:=e.addr.h;simp_all [jZ,fits,kE,qf,tY]
abbrev shH:Sh:= .st [.b,.i .u32,.ar 32 (.i .u8),.st [.ar 32 (.i .u8),.ar 32 (.i .u8)],.i .i64,.i .i64]
@[simp] theorem Ce (e:Hh):fits shH (jD e)=true:=by
 have:=e.eph.ok;have:=e.UQ.ok;simp_all [jD,fits,kE,qf,tY]
@[simp] theorem Nf (e:Hh):PV.beq (jD e) (jD e)=true:=(gT _ _ (Ce e)).beq
abbrev aqd:Sh:= .st [.i .u32,.i .u32,.ar 32 (.i .u8),.ar 32 (.i .u8),.i .u64,.i .u64,.st [.b,.i .u64,.ar 4 (.i .u64)],.i .i64,.b]
@[simp] theorem Kg (e:jt):fits aqd (eX e)=true:=by
 have:=e.send.ok;have:=e.recv.ok;have:=e.nY.ok;simp_all [eX,fits,kE,qf,tY]
abbrev aqe:Sh:= .st [.b,.st [.i .u32,.i .u32,.ar 32 (.i .u8),.ar 32 (.i .u8),.i .u64,.i .u64,.st [.b,.i .u64,.ar 4 (.i .u64)],.i .i64,.b]]
@[simp] theorem Cf (e:oC):fits aqe (iy e)=true:=by
 have:=Kg e.ju;simp_all [iy,fits,kE,qf,tY]
@[simp] theorem Fu (e:oC):PV.beq (iy e) (iy e)=true:=(gT _ _ (Cf e)).beq
end Go.Ab
