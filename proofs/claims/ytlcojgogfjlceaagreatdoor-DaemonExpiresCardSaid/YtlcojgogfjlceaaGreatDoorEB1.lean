/- Functions of the program and of the document, as the abstract reading walks them, part 1. No condition. -/
import Derived.Test.YtlcojgogfjlceaaGreatDoorESF1
import Derived.Test.YtlcojgogfjlceaaGreatDoorESF2
import Derived.Test.YtlcojgogfjlceaaGreatDoorESF3
import Derived.Test.YtlcojgogfjlceaaGreatDoorESF4
import Derived.Test.YtlcojgogfjlceaaGreatDoorESF5
import Derived.Test.YtlcojgogfjlceaaGreatDoorESF6
import Derived.Test.YtlcojgogfjlceaaGreatDoorEA5
set_option linter.all false
noncomputable section
namespace Go.Ab
open Go.Ab
abbrev wZ:Sh:= .ar 32 (.i .u8)
@[simp] theorem atf:tL wZ=32:=rfl
@[simp] theorem aka:Sh.agg wZ=true:=rfl
abbrev Ng:Sh:= .st [.b,.i .u64,.ar 4 (.i .u64)]
@[simp] theorem atg:tL Ng=6:=rfl
@[simp] theorem akb:Sh.agg Ng=true:=rfl
abbrev PW:Sh:= .st [.ar 32 (.i .u8),.ar 32 (.i .u8)]
@[simp] theorem ath:tL PW=64:=rfl
@[simp] theorem akc:Sh.agg PW=true:=rfl
abbrev JY:Sh:= .ar 16 (.i .u8)
@[simp] theorem ati:tL JY=16:=rfl
@[simp] theorem akd:Sh.agg JY=true:=rfl
abbrev Uo:Sh:= .ar 12 (.i .u8)
@[simp] theorem atj:tL Uo=12:=rfl
@[simp] theorem ake:Sh.agg Uo=true:=rfl
def aQ (b:(List UInt8)):PV:= .sl 1 (b.map u8) false
@[simp] theorem nT (e:(List UInt8)):Pure (aQ e):=by simp[aQ]
@[simp] theorem aqj (e:(List UInt8)):wk (aQ e)=aQ e:=by simp[aQ]
@[simp↓] theorem akf (g:Bool) (e:(List UInt8)) (K:PV->Prop):ei g (aQ e) K=K (aQ e):=_root_.id rfl
@[simp] theorem abk (e:(List UInt8)):(aQ e).width=1:=_root_.id rfl
@[simp] theorem akg (e:(List UInt8)):(aQ e).isAgg=false:=_root_.id rfl
@[simp] theorem afI (e:(List UInt8)):(aQ e).aT=true:=_root_.id rfl
@[simp] theorem afJ (e:(List UInt8)):(aQ e).flat=true:=_root_.id rfl
@[simp] theorem aqk (l:List (List UInt8)):au (l.map aQ):=aF nT l
@[simp↓] theorem afK (s:St) (K:PV->Prop) (l:List UInt8):yl s K (aQ l)=K (.int .i64 l.length):=by simp[aQ]
@[simp↓] theorem abl (s:St) (sz:Nat) (j:Int) (K:PV->Prop) (l:List UInt8):tP s sz j K (aQ l)=((1=sz∧0≤j∧j<l.length)∧K (.fp sz (l.map u8) [.i j.toNat sz])):=by simp[aQ]
def gq (l:(List (List UInt8))):PV:= .sl 1 (l.map aQ) false
@[simp] theorem abm (e:(List (List UInt8))):Pure (gq e):=by simp[gq]
@[simp] theorem akh (e:(List (List UInt8))):wk (gq e)=gq e:=by simp[gq]
@[simp↓] theorem afL (g:Bool) (e:(List (List UInt8))) (K:PV->Prop):ei g (gq e) K=K (gq e):=_root_.id rfl
@[simp] theorem XZ (e:(List (List UInt8))):(gq e).width=1:=_root_.id rfl
@[simp] theorem afM (e:(List (List UInt8))):(gq e).isAgg=false:=_root_.id rfl
@[simp] theorem abn (e:(List (List UInt8))):(gq e).aT=true:=_root_.id rfl
@[simp↓] theorem abo (s:St) (K:PV->Prop) (l:List (List UInt8)):yl s K (gq l)=K (.int .i64 l.length):=by simp[gq]
def iC (l:(List Int)):PV:= .sl 1 (l.map (λn:Int=>PV.int .i64 n)) false
@[simp] theorem JZ (e:(List Int)):Pure (iC e):=by simp[iC]
@[simp] theorem aki (e:(List Int)):wk (iC e)=iC e:=by simp[iC]
@[simp↓] theorem afN (g:Bool) (e:(List Int)) (K:PV->Prop):ei g (iC e) K=K (iC e):=_root_.id rfl
@[simp] theorem X0 (e:(List Int)):(iC e).width=1:=_root_.id rfl
@[simp] theorem afO (e:(List Int)):(iC e).isAgg=false:=_root_.id rfl
@[simp] theorem abp (e:(List Int)):(iC e).aT=true:=_root_.id rfl
@[simp↓] theorem abq (s:St) (K:PV->Prop) (l:List Int):yl s K (iC l)=K (.int .i64 l.length):=by simp[iC]
def ow (l:(List Int)):PV:= .sl 1 (l.map (λn:Int=>PV.int .u32 n)) false
@[simp] theorem afP (e:(List Int)):Pure (ow e):=by simp[ow]
@[simp] theorem aql (e:(List Int)):wk (ow e)=ow e:=by simp[ow]
@[simp↓] theorem akj (g:Bool) (e:(List Int)) (K:PV->Prop):ei g (ow e) K=K (ow e):=_root_.id rfl
@[simp] theorem afQ (e:(List Int)):(ow e).flat=true:=_root_.id rfl
@[simp↓] theorem afR (s:St) (K:PV->Prop) (l:List Int):yl s K (ow l)=K (.int .i64 l.length):=by simp[ow]
@[simp↓] theorem abr (s:St) (sz:Nat) (j:Int) (K:PV->Prop) (l:List Int):tP s sz j K (ow l)=((1=sz∧0≤j∧j<l.length)∧K (.fp sz (l.map (λn:Int=>PV.int .u32 n)) [.i j.toNat sz])):=by simp[ow]
structure Key where
 l:List UInt8
 h:l.length=32
def aG (k:Key):PV:= .ar 1 32 (k.l.map u8)
@[simp] theorem jD (e:Key):Pure (aG e):=by simp[aG]
@[simp] theorem aqm (e:Key):wk (aG e)=aG e:=by simp[aG]
@[simp↓] theorem akk (g:Bool) (e:Key) (K:PV->Prop):ei g (aG e) K=K (aG e):=_root_.id rfl
@[simp] theorem abt (e:Key):(aG e).width=32:=_root_.id rfl
@[simp] theorem akl (e:Key):(aG e).isAgg=true:=_root_.id rfl
@[simp] theorem afS (e:Key):(aG e).aT=true:=_root_.id rfl
@[simp] theorem afT (e:Key):(aG e).flat=true:=_root_.id rfl
structure kS where
 loc:Int
 rem:Int
 send:FV wZ
 recv:FV wZ
 next:Int
 fC:Int
 GZ:FV Ng
 born:Int
 X4:Bool
def eT (s:kS):PV:= .st 76 [.int .u32 s.loc,.int .u32 s.rem,s.send.p,s.recv.p,.int .u64 s.next,.int .u64 s.fC,s.GZ.p,.int .i64 s.born,.bl s.X4]
@[simp] theorem afU (e:kS):Pure (eT e):=by simp[eT]
@[simp] theorem aqn (e:kS):wk (eT e)=eT e:=by simp[eT]
@[simp↓] theorem akm (g:Bool) (e:kS) (K:PV->Prop):ei g (eT e) K=K (eT e):=_root_.id rfl
@[simp] theorem abu (e:kS):(eT e).width=76:=_root_.id rfl
@[simp] theorem akn (e:kS):(eT e).isAgg=true:=_root_.id rfl
@[simp] theorem afV (e:kS):(eT e).aT=true:=_root_.id rfl
@[simp] theorem afW (e:kS):(eT e).flat=true:=_root_.id rfl
@[simp↓] theorem X5 (e:kS) (r:List Step):aO (eT e) (.f 0 0::r)=aO (.int .u32 e.loc) r:=by simp[eT]
@[simp↓] theorem X6 (e:kS) (r:List Step):aO (eT e) (.f 1 1::r)=aO (.int .u32 e.rem) r:=by simp[eT,aB]
@[simp↓] theorem X7 (e:kS) (r:List Step):aO (eT e) (.f 2 2::r)=aO (e.send.p) r:=by simp[eT,aB]
def F6 (e:kS) (c:PV):PV:= .st 76 [.int .u32 e.loc,.int .u32 e.rem,c,e.recv.p,.int .u64 e.next,.int .u64 e.fC,e.GZ.p,.int .i64 e.born,.bl e.X4]
@[simp↓] theorem X8 (e:kS) (r:List Step) (x:PV):bO (eT e) (.f 2 2::r) x=(bO (e.send.p) r x).bind λc=>some (F6 e c):=by simp[eT,F6,aB]
def F7 (e:kS) (c:PV):PV:= .st 76 [.int .u32 e.loc,.int .u32 e.rem,e.send.p,c,.int .u64 e.next,.int .u64 e.fC,e.GZ.p,.int .i64 e.born,.bl e.X4]
@[simp↓] theorem X9 (e:kS) (r:List Step) (x:PV):bO (eT e) (.f 3 34::r) x=(bO (e.recv.p) r x).bind λc=>some (F7 e c):=by simp[eT,F7,aB]
@[simp↓] theorem Ya (e:kS) (r:List Step):aO (eT e) (.f 4 66::r)=aO (.int .u64 e.next) r:=by simp[eT,aB]
def F8 (e:kS) (c:PV):PV:= .st 76 [.int .u32 e.loc,.int .u32 e.rem,e.send.p,e.recv.p,c,.int .u64 e.fC,e.GZ.p,.int .i64 e.born,.bl e.X4]
@[simp↓] theorem Yb (e:kS) (r:List Step) (x:PV):bO (eT e) (.f 4 66::r) x=(bO (.int .u64 e.next) r x).bind λc=>some (F8 e c):=by simp[eT,F8,aB]
@[simp↓] theorem afX (e:kS) (v:Int):F8 e (.int .u64 v)=eT {e with next:=v}:=_root_.id rfl
@[simp↓] theorem Yc (e:kS) (r:List Step):aO (eT e) (.f 5 67::r)=aO (.int .u64 e.fC) r:=by simp[eT,aB]
@[simp↓] theorem Yd (e:kS) (r:List Step):aO (eT e) (.f 6 68::r)=aO (e.GZ.p) r:=by simp[eT,aB]
def F9 (e:kS) (c:PV):PV:= .st 76 [.int .u32 e.loc,.int .u32 e.rem,e.send.p,e.recv.p,.int .u64 e.next,.int .u64 e.fC,c,.int .i64 e.born,.bl e.X4]
@[simp↓] theorem Ye (e:kS) (r:List Step) (x:PV):bO (eT e) (.f 6 68::r) x=(bO (e.GZ.p) r x).bind λc=>some (F9 e c):=by simp[eT,F9,aB]
@[simp↓] theorem Yf (e:kS) (r:List Step):aO (eT e) (.f 7 74::r)=aO (.int .i64 e.born) r:=by simp[eT,aB]
structure ue where
 has:Bool
 mZ:kS
def gY (p:ue):PV:= .st 77 [.bl p.has,eT p.mZ]
@[simp] theorem afY (e:ue):Pure (gY e):=by simp[gY]
@[simp] theorem aqo (e:ue):wk (gY e)=gY e:=by simp[gY]
@[simp↓] theorem ako (g:Bool) (e:ue) (K:PV->Prop):ei g (gY e) K=K (gY e):=_root_.id rfl
@[simp] theorem abv (e:ue):(gY e).width=77:=_root_.id rfl
@[simp] theorem akp (e:ue):(gY e).isAgg=true:=_root_.id rfl
@[simp] theorem afZ (e:ue):(gY e).aT=true:=_root_.id rfl
@[simp] theorem af0 (e:ue):(gY e).flat=true:=_root_.id rfl
@[simp↓] theorem Yg (e:ue) (r:List Step):aO (gY e) (.f 0 0::r)=aO (.bl e.has) r:=by simp[gY]
@[simp↓] theorem Yh (e:ue) (r:List Step):aO (gY e) (.f 1 1::r)=aO (eT e.mZ) r:=by simp[gY,aB]
def Ga (e:ue) (c:PV):PV:= .st 77 [.bl e.has,c]
@[simp↓] theorem Yi (e:ue) (r:List Step) (x:PV):bO (gY e) (.f 1 1::r) x=(bO (eT e.mZ) r x).bind λc=>some (Ga e c):=by simp[gY,Ga,aB]
@[simp↓] theorem af1 (e:ue) (v:kS):Ga e (eT v)=gY {e with mZ:=v}:=_root_.id rfl
structure rF where
 p:ue
 c:ue
 n:ue
def gO (r:rF):PV:= .st 231 [gY r.p,gY r.c,gY r.n]
@[simp] theorem af2 (e:rF):Pure (gO e):=by simp[gO]
@[simp] theorem aqp (e:rF):wk (gO e)=gO e:=by simp[gO]
@[simp↓] theorem akq (g:Bool) (e:rF) (K:PV->Prop):ei g (gO e) K=K (gO e):=_root_.id rfl
@[simp] theorem abw (e:rF):(gO e).width=231:=_root_.id rfl
@[simp] theorem akr (e:rF):(gO e).isAgg=true:=_root_.id rfl
@[simp] theorem af3 (e:rF):(gO e).aT=true:=_root_.id rfl
@[simp↓] theorem Yj (e:rF) (r:List Step):aO (gO e) (.f 0 0::r)=aO (gY e.p) r:=by simp[gO]
@[simp↓] theorem Yk (e:rF) (r:List Step):aO (gO e) (.f 1 77::r)=aO (gY e.c) r:=by simp[gO,aB]
def Gb (e:rF) (c:PV):PV:= .st 231 [gY e.p,c,gY e.n]
@[simp↓] theorem Yl (e:rF) (r:List Step) (x:PV):bO (gO e) (.f 1 77::r) x=(bO (gY e.c) r x).bind λc=>some (Gb e c):=by simp[gO,Gb,aB]
@[simp↓] theorem af4 (e:rF) (v:ue):Gb e (gY v)=gO {e with c:=v}:=_root_.id rfl
@[simp↓] theorem Ym (e:rF) (r:List Step):aO (gO e) (.f 2 154::r)=aO (gY e.n) r:=by simp[gO,aB]
structure zt where
 H3:Int
 sy:Int
 J0:Int
 nc:Int
 Yn:Int
 ret:Int
 Ss:Int
 cot:Int
 load:Int
 tV:Int
def c9 (r:zt):PV:= .st 10 [.int .u64 r.H3,.int .u64 r.sy,.int .i64 r.J0,.int .i64 r.nc,.int .i64 r.Yn,.int .i64 r.ret,.int .i64 r.Ss,.int .i64 r.cot,.int .i64 r.load,.int .i64 r.tV]
@[simp] theorem J1 (e:zt):Pure (c9 e):=by simp[c9]
@[simp] theorem akt (e:zt):wk (c9 e)=c9 e:=by simp[c9]
@[simp↓] theorem af5 (g:Bool) (e:zt) (K:PV->Prop):ei g (c9 e) K=K (c9 e):=_root_.id rfl
@[simp] theorem Yo (e:zt):(c9 e).width=10:=_root_.id rfl
@[simp] theorem af6 (e:zt):(c9 e).isAgg=true:=_root_.id rfl
@[simp] theorem abx (e:zt):(c9 e).aT=true:=_root_.id rfl
@[simp↓] theorem Up (e:zt) (r:List Step):aO (c9 e) (.f 0 0::r)=aO (.int .u64 e.H3) r:=by simp[c9]
@[simp↓] theorem Uq (e:zt) (r:List Step):aO (c9 e) (.f 1 1::r)=aO (.int .u64 e.sy) r:=by simp[c9,aB]
@[simp↓] theorem Ur (e:zt) (r:List Step):aO (c9 e) (.f 2 2::r)=aO (.int .i64 e.J0) r:=by simp[c9,aB]
@[simp↓] theorem Us (e:zt) (r:List Step):aO (c9 e) (.f 3 3::r)=aO (.int .i64 e.nc) r:=by simp[c9,aB]
@[simp↓] theorem Ut (e:zt) (r:List Step):aO (c9 e) (.f 4 4::r)=aO (.int .i64 e.Yn) r:=by simp[c9,aB]
@[simp↓] theorem Uu (e:zt) (r:List Step):aO (c9 e) (.f 5 5::r)=aO (.int .i64 e.ret) r:=by simp[c9,aB]
@[simp↓] theorem Uv (e:zt) (r:List Step):aO (c9 e) (.f 6 6::r)=aO (.int .i64 e.Ss) r:=by simp[c9,aB]
@[simp↓] theorem Uw (e:zt) (r:List Step):aO (c9 e) (.f 7 7::r)=aO (.int .i64 e.cot) r:=by simp[c9,aB]
@[simp↓] theorem Ux (e:zt) (r:List Step):aO (c9 e) (.f 8 8::r)=aO (.int .i64 e.load) r:=by simp[c9,aB]
@[simp↓] theorem Uy (e:zt) (r:List Step):aO (c9 e) (.f 9 9::r)=aO (.int .i64 e.tV) r:=by simp[c9,aB]
structure iG where
 sA:Bool
 ip:List UInt8
 h:ip.length=16
def cN (a:iG):PV:= .st 17 [.bl a.sA,.ar 1 16 (a.ip.map u8)]
@[simp] theorem af7 (e:iG):Pure (cN e):=by simp[cN]
@[simp] theorem aqq (e:iG):wk (cN e)=cN e:=by simp[cN]
@[simp↓] theorem aku (g:Bool) (e:iG) (K:PV->Prop):ei g (cN e) K=K (cN e):=_root_.id rfl
@[simp] theorem aby (e:iG):(cN e).width=17:=_root_.id rfl
@[simp] theorem akv (e:iG):(cN e).isAgg=true:=_root_.id rfl
@[simp] theorem af8 (e:iG):(cN e).aT=true:=_root_.id rfl
@[simp↓] theorem Yp (e:iG) (r:List Step):aO (cN e) (.f 0 0::r)=aO (.bl e.sA) r:=by simp[cN]
@[simp↓] theorem Yq (e:iG) (r:List Step):aO (cN e) (.f 1 1::r)=aO (.ar 1 16 (e.ip.map u8)) r:=by simp[cN,aB]
def yn (e:iG) (c:PV):PV:= .st 17 [.bl e.sA,c]
@[simp↓] theorem Yr (e:iG) (r:List Step) (x:PV):bO (cN e) (.f 1 1::r) x=(bO (.ar 1 16 (e.ip.map u8)) r x).bind λc=>some (yn e c):=by simp[cN,yn,aB]
structure H4 where
 addr:iG
 port:Int
def gZ (e:H4):PV:= .st 18 [cN e.addr,.int .i64 e.port]
@[simp] theorem af9 (e:H4):Pure (gZ e):=by simp[gZ]
@[simp] theorem aqr (e:H4):wk (gZ e)=gZ e:=by simp[gZ]
@[simp↓] theorem akw (g:Bool) (e:H4) (K:PV->Prop):ei g (gZ e) K=K (gZ e):=_root_.id rfl
@[simp] theorem abz (e:H4):(gZ e).width=18:=_root_.id rfl
@[simp] theorem akx (e:H4):(gZ e).isAgg=true:=_root_.id rfl
@[simp] theorem aga (e:H4):(gZ e).aT=true:=_root_.id rfl
@[simp↓] theorem Ys (e:H4) (r:List Step):aO (gZ e) (.f 0 0::r)=aO (cN e.addr) r:=by simp[gZ]
@[simp↓] theorem Yt (e:H4) (r:List Step):aO (gZ e) (.f 1 17::r)=aO (.int .i64 e.port) r:=by simp[gZ,aB]
structure xt where
 addr:iG
 bits:Int
def gr (e:xt):PV:= .st 18 [cN e.addr,.int .i64 e.bits]
@[simp] theorem Nh (e:xt):Pure (gr e):=by simp[gr]
@[simp] theorem aqs (e:xt):wk (gr e)=gr e:=by simp[gr]
@[simp↓] theorem aky (g:Bool) (e:xt) (K:PV->Prop):ei g (gr e) K=K (gr e):=_root_.id rfl
@[simp] theorem abA (e:xt):(gr e).width=18:=_root_.id rfl
@[simp] theorem akz (e:xt):(gr e).isAgg=true:=_root_.id rfl
@[simp] theorem agb (e:xt):(gr e).aT=true:=_root_.id rfl
@[simp↓] theorem Yu (e:xt) (r:List Step):aO (gr e) (.f 0 0::r)=aO (cN e.addr) r:=by simp[gr]
@[simp↓] theorem Yv (e:xt) (r:List Step):aO (gr e) (.f 1 17::r)=aO (.int .i64 e.bits) r:=by simp[gr,aB]
structure vY where
 D8:xt
 peer:Key
def ia (r:vY):PV:= .st 50 [gr r.D8,aG r.peer]
@[simp] theorem CZ (e:vY):Pure (ia e):=by simp[ia]
@[simp] theorem PX (e:vY):wk (ia e)=ia e:=by simp[ia]
@[simp↓] theorem agc (g:Bool) (e:vY) (K:PV->Prop):ei g (ia e) K=K (ia e):=_root_.id rfl
@[simp] theorem Yw (e:vY):(ia e).width=50:=_root_.id rfl
@[simp] theorem agd (e:vY):(ia e).isAgg=true:=_root_.id rfl
@[simp] theorem abB (e:vY):(ia e).aT=true:=_root_.id rfl
@[simp] theorem akA (l:List vY):au (l.map ia):=aF CZ l
@[simp] theorem akB (l:List vY):fP (l.map ia)=l.map ia:=mY PX l
@[simp↓] theorem Uz (e:vY) (r:List Step):aO (ia e) (.f 0 0::r)=aO (gr e.D8) r:=by simp[ia]
@[simp↓] theorem UA (e:vY) (r:List Step):aO (ia e) (.f 1 18::r)=aO (aG e.peer) r:=by simp[ia,aB]
def cU (l:(List vY)):PV:= .sl 50 (l.map ia) false
@[simp] theorem H5 (e:(List vY)):Pure (cU e):=by simp[cU]
@[simp] theorem age (e:(List vY)):wk (cU e)=cU e:=by simp[cU]
@[simp↓] theorem abC (g:Bool) (e:(List vY)) (K:PV->Prop):ei g (cU e) K=K (cU e):=_root_.id rfl
@[simp] theorem UB (e:(List vY)):(cU e).width=1:=_root_.id rfl
@[simp] theorem abD (e:(List vY)):(cU e).isAgg=false:=_root_.id rfl
@[simp] theorem Yx (e:(List vY)):(cU e).aT=true:=_root_.id rfl
@[simp↓] theorem Yy (s:St) (K:PV->Prop) (l:List vY):yl s K (cU l)=K (.int .i64 l.length):=by simp[cU]
@[simp↓] theorem UC (s:St) (sz:Nat) (j:Int) (K:PV->Prop) (l:List vY):tP s sz j K (cU l)=((50=sz∧0≤j∧j<l.length)∧K (.fp sz (l.map ia) [.i j.toNat sz])):=by simp[cU]
structure gh where
 index:Int
 peer:Key
 mZ:Bool
def aV (s:gh):PV:= .st 34 [.int .u32 s.index,aG s.peer,.bl s.mZ]
@[simp] theorem gu (e:gh):Pure (aV e):=by simp[aV]
@[simp] theorem PY (e:gh):wk (aV e)=aV e:=by simp[aV]
@[simp↓] theorem agf (g:Bool) (e:gh) (K:PV->Prop):ei g (aV e) K=K (aV e):=_root_.id rfl
@[simp] theorem Yz (e:gh):(aV e).width=34:=_root_.id rfl
@[simp] theorem agh (e:gh):(aV e).isAgg=true:=_root_.id rfl
@[simp] theorem abE (e:gh):(aV e).aT=true:=_root_.id rfl
@[simp] theorem abF (e:gh):(aV e).flat=true:=_root_.id rfl
@[simp] theorem akC (l:List gh):au (l.map aV):=aF gu l
@[simp] theorem akD (l:List gh):fP (l.map aV)=l.map aV:=mY PY l
@[simp↓] theorem UD (e:gh) (r:List Step):aO (aV e) (.f 0 0::r)=aO (.int .u32 e.index) r:=by simp[aV]
@[simp↓] theorem UE (e:gh) (r:List Step):aO (aV e) (.f 1 1::r)=aO (aG e.peer) r:=by simp[aV,aB]
@[simp↓] theorem UF (e:gh) (r:List Step):aO (aV e) (.f 2 33::r)=aO (.bl e.mZ) r:=by simp[aV,aB]
def bK (l:(List gh)):PV:= .sl 34 (l.map aV) false
@[simp] theorem H6 (e:(List gh)):Pure (bK e):=by simp[bK]
@[simp] theorem agi (e:(List gh)):wk (bK e)=bK e:=by simp[bK]
@[simp↓] theorem abG (g:Bool) (e:(List gh)) (K:PV->Prop):ei g (bK e) K=K (bK e):=_root_.id rfl
@[simp] theorem UG (e:(List gh)):(bK e).width=1:=_root_.id rfl
@[simp] theorem abH (e:(List gh)):(bK e).isAgg=false:=_root_.id rfl
@[simp] theorem YA (e:(List gh)):(bK e).aT=true:=_root_.id rfl
@[simp↓] theorem YB (s:St) (K:PV->Prop) (l:List gh):yl s K (bK l)=K (.int .i64 l.length):=by simp[bK]
@[simp↓] theorem UH (s:St) (sz:Nat) (j:Int) (K:PV->Prop) (l:List gh):tP s sz j K (bK l)=((34=sz∧0≤j∧j<l.length)∧K (.fp sz (l.map aV) [.i j.toNat sz])):=by simp[bK]
structure cT where
 at_:Int
 peer:Key
 kind:Int
def bm (t:cT):PV:= .st 34 [.int .i64 t.at_,aG t.peer,.int .i64 t.kind]
@[simp] theorem iT (e:cT):Pure (bm e):=by simp[bm]
@[simp] theorem aqt (e:cT):wk (bm e)=bm e:=by simp[bm]
@[simp↓] theorem akE (g:Bool) (e:cT) (K:PV->Prop):ei g (bm e) K=K (bm e):=_root_.id rfl
@[simp] theorem abI (e:cT):(bm e).width=34:=_root_.id rfl
@[simp] theorem akF (e:cT):(bm e).isAgg=true:=_root_.id rfl
@[simp] theorem agj (e:cT):(bm e).aT=true:=_root_.id rfl
@[simp] theorem agk (e:cT):(bm e).flat=true:=_root_.id rfl
@[simp] theorem aqu (l:List cT):au (l.map bm):=aF iT l
@[simp↓] theorem YC (e:cT) (r:List Step):aO (bm e) (.f 0 0::r)=aO (.int .i64 e.at_) r:=by simp[bm]
@[simp↓] theorem YD (e:cT) (r:List Step):aO (bm e) (.f 1 1::r)=aO (aG e.peer) r:=by simp[bm,aB]
@[simp↓] theorem YE (e:cT) (r:List Step):aO (bm e) (.f 2 33::r)=aO (.int .i64 e.kind) r:=by simp[bm,aB]
def cE (l:(List cT)):PV:= .sl 34 (l.map bm) false
@[simp] theorem J2 (e:(List cT)):Pure (cE e):=by simp[cE]
@[simp] theorem akG (e:(List cT)):wk (cE e)=cE e:=by simp[cE]
@[simp↓] theorem agl (g:Bool) (e:(List cT)) (K:PV->Prop):ei g (cE e) K=K (cE e):=_root_.id rfl
@[simp] theorem YF (e:(List cT)):(cE e).width=1:=_root_.id rfl
@[simp] theorem agm (e:(List cT)):(cE e).isAgg=false:=_root_.id rfl
@[simp] theorem abJ (e:(List cT)):(cE e).aT=true:=_root_.id rfl
@[simp↓] theorem abK (s:St) (K:PV->Prop) (l:List cT):yl s K (cE l)=K (.int .i64 l.length):=by simp[cE]
@[simp↓] theorem YG (s:St) (sz:Nat) (j:Int) (K:PV->Prop) (l:List cT):tP s sz j K (cE l)=((34=sz∧0≤j∧j<l.length)∧K (.fp sz (l.map bm) [.i j.toNat sz])):=by simp[cE]
structure Lq where
 addr:iG
 tokens:Int
 at_:Int
def EO (b:Lq):PV:= .st 19 [cN b.addr,.int .i64 b.tokens,.int .i64 b.at_]
@[simp] theorem abL (e:Lq):Pure (EO e):=by simp[EO]
@[simp] theorem akH (e:Lq):wk (EO e)=EO e:=by simp[EO]
def eU (l:(List Lq)):PV:= .sl 19 (l.map EO) false
@[simp] theorem H7 (e:(List Lq)):Pure (eU e):=by simp[eU]
@[simp] theorem agn (e:(List Lq)):wk (eU e)=eU e:=by simp[eU]
@[simp↓] theorem abM (g:Bool) (e:(List Lq)) (K:PV->Prop):ei g (eU e) K=K (eU e):=_root_.id rfl
@[simp] theorem UI (e:(List Lq)):(eU e).width=1:=_root_.id rfl
@[simp] theorem abN (e:(List Lq)):(eU e).isAgg=false:=_root_.id rfl
@[simp] theorem YH (e:(List Lq)):(eU e).aT=true:=_root_.id rfl
@[simp↓] theorem YI (s:St) (K:PV->Prop) (l:List Lq):yl s K (eU l)=K (.int .i64 l.length):=by simp[eU]
structure Oc where
 has:Bool
 loc:Int
 eph:FV wZ
 YJ:FV PW
 started:Int
 C0:Int
def lU (h:Oc):PV:= .st 100 [.bl h.has,.int .u32 h.loc,h.eph.p,h.YJ.p,.int .i64 h.started,.int .i64 h.C0]
@[simp] theorem ago (e:Oc):Pure (lU e):=by simp[lU]
@[simp] theorem aqv (e:Oc):wk (lU e)=lU e:=by simp[lU]
@[simp] theorem abO (e:Oc):(lU e).width=100:=_root_.id rfl
@[simp↓] theorem YK (e:Oc) (r:List Step):aO (lU e) (.f 0 0::r)=aO (.bl e.has) r:=by simp[lU]
@[simp↓] theorem YL (e:Oc) (r:List Step):aO (lU e) (.f 1 1::r)=aO (.int .u32 e.loc) r:=by simp[lU,aB]
@[simp↓] theorem YM (e:Oc) (r:List Step):aO (lU e) (.f 4 98::r)=aO (.int .i64 e.started) r:=by simp[lU,aB]
@[simp↓] theorem YN (e:Oc) (r:List Step):aO (lU e) (.f 5 99::r)=aO (.int .i64 e.C0) r:=by simp[lU,aB]
structure bM where
 b8:Key
 shared:FV wZ
 fD:Bool
 ep:H4
 iH:Int
 C1:FV Uo
 wF:Bool
 zu:Int
 hand:Oc
 pj:Bool
 rG:FV JY
 zx:Int
 G1:FV JY
 ring:rF
 ej:List (List UInt8)
def aP (p:bM):PV:= .st 464 [aG p.b8,p.shared.p,.bl p.fD,gZ p.ep,.int .i64 p.iH,p.C1.p,.bl p.wF,.int .i64 p.zu,lU p.hand,.bl p.pj,p.rG.p,.int .i64 p.zx,p.G1.p,gO p.ring,gq p.ej]
@[simp] theorem iu (e:bM):Pure (aP e):=by simp[aP]
@[simp] theorem akI (e:bM):wk (aP e)=aP e:=by simp[aP]
@[simp↓] theorem agp (g:Bool) (e:bM) (K:PV->Prop):ei g (aP e) K=K (aP e):=_root_.id rfl
@[simp] theorem YO (e:bM):(aP e).width=464:=_root_.id rfl
@[simp] theorem agq (e:bM):(aP e).isAgg=true:=_root_.id rfl
@[simp] theorem abP (e:bM):(aP e).aT=true:=_root_.id rfl
@[simp] theorem akJ (l:List bM):au (l.map aP):=aF iu l
@[simp↓] theorem UJ (e:bM) (r:List Step):aO (aP e) (.f 0 0::r)=aO (aG e.b8) r:=by simp[aP]
@[simp↓] theorem UK (e:bM) (r:List Step):aO (aP e) (.f 2 64::r)=aO (.bl e.fD) r:=by simp[aP,aB]
def C2 (e:bM) (c:PV):PV:= .st 464 [aG e.b8,e.shared.p,c,gZ e.ep,.int .i64 e.iH,e.C1.p,.bl e.wF,.int .i64 e.zu,lU e.hand,.bl e.pj,e.rG.p,.int .i64 e.zx,e.G1.p,gO e.ring,gq e.ej]
@[simp↓] theorem UL (e:bM) (r:List Step) (x:PV):bO (aP e) (.f 2 64::r) x=(bO (.bl e.fD) r x).bind λc=>some (C2 e c):=by simp[aP,C2,aB]
@[simp↓] theorem abQ (e:bM) (v:Bool):C2 e (.bl v)=aP {e with fD:=v}:=_root_.id rfl
@[simp↓] theorem UM (e:bM) (r:List Step):aO (aP e) (.f 3 65::r)=aO (gZ e.ep) r:=by simp[aP,aB]
def yo (e:bM) (c:PV):PV:= .st 464 [aG e.b8,e.shared.p,.bl e.fD,c,.int .i64 e.iH,e.C1.p,.bl e.wF,.int .i64 e.zu,lU e.hand,.bl e.pj,e.rG.p,.int .i64 e.zx,e.G1.p,gO e.ring,gq e.ej]
@[simp↓] theorem UN (e:bM) (r:List Step) (x:PV):bO (aP e) (.f 3 65::r) x=(bO (gZ e.ep) r x).bind λc=>some (yo e c):=by simp[aP,yo,aB]
@[simp↓] theorem UO (e:bM) (r:List Step):aO (aP e) (.f 4 83::r)=aO (.int .i64 e.iH) r:=by simp[aP,aB]
@[simp↓] theorem UP (e:bM) (r:List Step):aO (aP e) (.f 6 96::r)=aO (.bl e.wF) r:=by simp[aP,aB]
@[simp↓] theorem UQ (e:bM) (r:List Step):aO (aP e) (.f 7 97::r)=aO (.int .i64 e.zu) r:=by simp[aP,aB]
@[simp↓] theorem UR (e:bM) (r:List Step):aO (aP e) (.f 8 98::r)=aO (lU e.hand) r:=by simp[aP,aB]
def yq (e:bM) (c:PV):PV:= .st 464 [aG e.b8,e.shared.p,.bl e.fD,gZ e.ep,.int .i64 e.iH,e.C1.p,.bl e.wF,.int .i64 e.zu,c,.bl e.pj,e.rG.p,.int .i64 e.zx,e.G1.p,gO e.ring,gq e.ej]
@[simp↓] theorem US (e:bM) (r:List Step) (x:PV):bO (aP e) (.f 8 98::r) x=(bO (lU e.hand) r x).bind λc=>some (yq e c):=by simp[aP,yq,aB]
@[simp↓] theorem UT (e:bM) (r:List Step):aO (aP e) (.f 9 198::r)=aO (.bl e.pj) r:=by simp[aP,aB]
@[simp↓] theorem Su (e:bM) (r:List Step):aO (aP e) (.f 10 199::r)=aO (e.rG.p) r:=by simp[aP,aB]
@[simp↓] theorem Sv (e:bM) (r:List Step):aO (aP e) (.f 11 215::r)=aO (.int .i64 e.zx) r:=by simp[aP,aB]
def zy (e:bM) (c:PV):PV:= .st 464 [aG e.b8,e.shared.p,.bl e.fD,gZ e.ep,.int .i64 e.iH,e.C1.p,.bl e.wF,.int .i64 e.zu,lU e.hand,.bl e.pj,e.rG.p,.int .i64 e.zx,c,gO e.ring,gq e.ej]
@[simp↓] theorem Sw (e:bM) (r:List Step) (x:PV):bO (aP e) (.f 12 216::r) x=(bO (e.G1.p) r x).bind λc=>some (zy e c):=by simp[aP,zy,aB]
@[simp↓] theorem YP (e:bM) (v:FV JY):zy e (v.p)=aP {e with G1:=v}:=_root_.id rfl
@[simp↓] theorem Sx (e:bM) (r:List Step):aO (aP e) (.f 13 232::r)=aO (gO e.ring) r:=by simp[aP,aB]
def sB (e:bM) (c:PV):PV:= .st 464 [aG e.b8,e.shared.p,.bl e.fD,gZ e.ep,.int .i64 e.iH,e.C1.p,.bl e.wF,.int .i64 e.zu,lU e.hand,.bl e.pj,e.rG.p,.int .i64 e.zx,e.G1.p,c,gq e.ej]
@[simp↓] theorem Sy (e:bM) (r:List Step) (x:PV):bO (aP e) (.f 13 232::r) x=(bO (gO e.ring) r x).bind λc=>some (sB e c):=by simp[aP,sB,aB]
@[simp↓] theorem YQ (e:bM) (v:rF):sB e (gO v)=aP {e with ring:=v}:=_root_.id rfl
@[simp↓] theorem Sz (e:bM) (r:List Step):aO (aP e) (.f 14 463::r)=aO (gq e.ej) r:=by simp[aP,aB]
def nV (e:bM) (c:PV):PV:= .st 464 [aG e.b8,e.shared.p,.bl e.fD,gZ e.ep,.int .i64 e.iH,e.C1.p,.bl e.wF,.int .i64 e.zu,lU e.hand,.bl e.pj,e.rG.p,.int .i64 e.zx,e.G1.p,gO e.ring,c]
@[simp↓] theorem SA (e:bM) (r:List Step) (x:PV):bO (aP e) (.f 14 463::r) x=(bO (gq e.ej) r x).bind λc=>some (nV e c):=by simp[aP,nV,aB]
@[simp↓] theorem YR (e:bM) (v:List (List UInt8)):nV e (gq v)=aP {e with ej:=v}:=_root_.id rfl
def kh (l:(List bM)):PV:= .sl 464 (l.map aP) false
@[simp] theorem YS (e:(List bM)):Pure (kh e):=by simp[kh]
@[simp] theorem agr (e:(List bM)):wk (kh e)=kh e:=by simp[kh]
@[simp↓] theorem abR (g:Bool) (e:(List bM)) (K:PV->Prop):ei g (kh e) K=K (kh e):=_root_.id rfl
@[simp] theorem UU (e:(List bM)):(kh e).width=1:=_root_.id rfl
@[simp] theorem abS (e:(List bM)):(kh e).isAgg=false:=_root_.id rfl
@[simp↓] theorem YT (s:St) (K:PV->Prop) (l:List bM):yl s K (kh l)=K (.int .i64 l.length):=by simp[kh]
@[simp↓] theorem UW (s:St) (sz:Nat) (j:Int) (K:PV->Prop) (l:List bM):tP s sz j K (kh l)=((464=sz∧0≤j∧j<l.length)∧K (.fp sz (l.map aP) [.i j.toNat sz])):=by simp[kh]
structure bh where
 rules:zt
 ju:FV wZ
 Bf:FV wZ
 port:Int
 random:FV wZ
 now:Int
 an:List bM
 bQ:List vY
 aR:List gh
 timers:List cT
 oM:FV wZ
 qn:Int
 fg:List Int
 buckets:List Lq
 bad:Int
def aY (d:bh) (p:PV):PV:= .st 148 [c9 d.rules,d.ju.p,d.Bf.p,.int .i64 d.port,d.random.p,.int .i64 d.now,p,cU d.bQ,bK d.aR,cE d.timers,d.oM.p,.int .i64 d.qn,iC d.fg,eU d.buckets,.int .i64 d.bad]
@[simp] theorem YU (e:bh) (p:PV):(aY e p).width=148:=_root_.id rfl
@[simp] theorem ags (e:bh) (p:PV):(aY e p).isAgg=true:=rfl
@[simp] theorem abT (e:bh) (p:PV):(aY e p).aT=true:=rfl
@[simp] theorem abU (e:bh) (p:PV):(aY e p).flat=true:=rfl
@[simp↓] theorem agt (g:Bool) (e:bh) (p:PV) (K:PV->Prop):ei g (aY e p) K=K (aY e p):=_root_.id rfl
@[simp↓] theorem UX (e:bh) (p:PV) (r:List Step):aO (aY e p) (.f 0 0::r)=aO (c9 e.rules) r:=by simp[aY]
@[simp↓] theorem UY (e:bh) (p:PV) (r:List Step):aO (aY e p) (.f 1 10::r)=aO (e.ju.p) r:=by simp[aY,aB]
@[simp↓] theorem UZ (e:bh) (p:PV) (r:List Step):aO (aY e p) (.f 3 74::r)=aO (.int .i64 e.port) r:=by simp[aY,aB]
@[simp↓] theorem U0 (e:bh) (p:PV) (r:List Step):aO (aY e p) (.f 4 75::r)=aO (e.random.p) r:=by simp[aY,aB]
def yr (e:bh) (p:PV) (c:PV):PV:= .st 148 [c9 e.rules,e.ju.p,e.Bf.p,.int .i64 e.port,c,.int .i64 e.now,p,cU e.bQ,bK e.aR,cE e.timers,e.oM.p,.int .i64 e.qn,iC e.fg,eU e.buckets,.int .i64 e.bad]
@[simp↓] theorem U1 (e:bh) (p:PV) (r:List Step) (x:PV):bO (aY e p) (.f 4 75::r) x=(bO (e.random.p) r x).bind λc=>some (yr e p c):=by simp[aY,yr,aB]
@[simp↓] theorem U2 (e:bh) (p:PV) (r:List Step):aO (aY e p) (.f 5 107::r)=aO (.int .i64 e.now) r:=by simp[aY,aB]
def C3 (e:bh) (p:PV) (c:PV):PV:= .st 148 [c9 e.rules,e.ju.p,e.Bf.p,.int .i64 e.port,e.random.p,c,p,cU e.bQ,bK e.aR,cE e.timers,e.oM.p,.int .i64 e.qn,iC e.fg,eU e.buckets,.int .i64 e.bad]
@[simp↓] theorem U3 (e:bh) (p:PV) (r:List Step) (x:PV):bO (aY e p) (.f 5 107::r) x=(bO (.int .i64 e.now) r x).bind λc=>some (C3 e p c):=by simp[aY,C3,aB]
@[simp↓] theorem abV (e:bh) (p:PV) (v:Int):C3 e p (.int .i64 v)=aY {e with now:=v} p:=_root_.id rfl
@[simp↓] theorem U4 (e:bh) (p:PV) (r:List Step):aO (aY e p) (.f 6 108::r)=aO (p) r:=by simp[aY,aB]
def C4 (e:bh) (p:PV) (c:PV):PV:= .st 148 [c9 e.rules,e.ju.p,e.Bf.p,.int .i64 e.port,e.random.p,.int .i64 e.now,c,cU e.bQ,bK e.aR,cE e.timers,e.oM.p,.int .i64 e.qn,iC e.fg,eU e.buckets,.int .i64 e.bad]
@[simp↓] theorem U5 (e:bh) (p:PV) (r:List Step) (x:PV):bO (aY e p) (.f 6 108::r) x=(bO (p) r x).bind λc=>some (C4 e p c):=by simp[aY,C4,aB]
@[simp↓] theorem abW (e:bh) (p:PV) (v:PV):C4 e p v=aY e v:=_root_.id rfl
@[simp↓] theorem U6 (e:bh) (p:PV) (hp:p.width=1) (r:List Step):aO (aY e p) (.f 7 109::r)=aO (cU e.bQ) r:=by simp[aY,aB,hp]
def C5 (e:bh) (p:PV) (c:PV):PV:= .st 148 [c9 e.rules,e.ju.p,e.Bf.p,.int .i64 e.port,e.random.p,.int .i64 e.now,p,c,bK e.aR,cE e.timers,e.oM.p,.int .i64 e.qn,iC e.fg,eU e.buckets,.int .i64 e.bad]
@[simp↓] theorem U7 (e:bh) (p:PV) (hp:p.width=1) (r:List Step) (x:PV):bO (aY e p) (.f 7 109::r) x=(bO (cU e.bQ) r x).bind λc=>some (C5 e p c):=by simp[aY,C5,aB,hp]
@[simp↓] theorem abX (e:bh) (p:PV) (v:List vY):C5 e p (cU v)=aY {e with bQ:=v} p:=_root_.id rfl
@[simp↓] theorem U8 (e:bh) (p:PV) (hp:p.width=1) (r:List Step):aO (aY e p) (.f 8 110::r)=aO (bK e.aR) r:=by simp[aY,aB,hp]
def C6 (e:bh) (p:PV) (c:PV):PV:= .st 148 [c9 e.rules,e.ju.p,e.Bf.p,.int .i64 e.port,e.random.p,.int .i64 e.now,p,cU e.bQ,c,cE e.timers,e.oM.p,.int .i64 e.qn,iC e.fg,eU e.buckets,.int .i64 e.bad]
@[simp↓] theorem U9 (e:bh) (p:PV) (hp:p.width=1) (r:List Step) (x:PV):bO (aY e p) (.f 8 110::r) x=(bO (bK e.aR) r x).bind λc=>some (C6 e p c):=by simp[aY,C6,aB,hp]
@[simp↓] theorem abY (e:bh) (p:PV) (v:List gh):C6 e p (bK v)=aY {e with aR:=v} p:=_root_.id rfl
@[simp↓] theorem Va (e:bh) (p:PV) (hp:p.width=1) (r:List Step):aO (aY e p) (.f 9 111::r)=aO (cE e.timers) r:=by simp[aY,aB,hp]
def C7 (e:bh) (p:PV) (c:PV):PV:= .st 148 [c9 e.rules,e.ju.p,e.Bf.p,.int .i64 e.port,e.random.p,.int .i64 e.now,p,cU e.bQ,bK e.aR,c,e.oM.p,.int .i64 e.qn,iC e.fg,eU e.buckets,.int .i64 e.bad]
@[simp↓] theorem Vb (e:bh) (p:PV) (hp:p.width=1) (r:List Step) (x:PV):bO (aY e p) (.f 9 111::r) x=(bO (cE e.timers) r x).bind λc=>some (C7 e p c):=by simp[aY,C7,aB,hp]
@[simp↓] theorem abZ (e:bh) (p:PV) (v:List cT):C7 e p (cE v)=aY {e with timers:=v} p:=_root_.id rfl
def zC (e:bh) (p:PV) (c:PV):PV:= .st 148 [c9 e.rules,e.ju.p,e.Bf.p,.int .i64 e.port,e.random.p,.int .i64 e.now,p,cU e.bQ,bK e.aR,cE e.timers,c,.int .i64 e.qn,iC e.fg,eU e.buckets,.int .i64 e.bad]
@[simp↓] theorem SB (e:bh) (p:PV) (hp:p.width=1) (r:List Step) (x:PV):bO (aY e p) (.f 10 112::r) x=(bO (e.oM.p) r x).bind λc=>some (zC e p c):=by simp[aY,zC,aB,hp]
@[simp↓] theorem SC (e:bh) (p:PV) (hp:p.width=1) (r:List Step):aO (aY e p) (.f 11 144::r)=aO (.int .i64 e.qn) r:=by simp[aY,aB,hp]
@[simp↓] theorem SE (e:bh) (p:PV) (hp:p.width=1) (r:List Step):aO (aY e p) (.f 12 145::r)=aO (iC e.fg) r:=by simp[aY,aB,hp]
def zF (e:bh) (p:PV) (c:PV):PV:= .st 148 [c9 e.rules,e.ju.p,e.Bf.p,.int .i64 e.port,e.random.p,.int .i64 e.now,p,cU e.bQ,bK e.aR,cE e.timers,e.oM.p,.int .i64 e.qn,c,eU e.buckets,.int .i64 e.bad]
@[simp↓] theorem SF (e:bh) (p:PV) (hp:p.width=1) (r:List Step) (x:PV):bO (aY e p) (.f 12 145::r) x=(bO (iC e.fg) r x).bind λc=>some (zF e p c):=by simp[aY,zF,aB,hp]
@[simp↓] theorem YV (e:bh) (p:PV) (v:List Int):zF e p (iC v)=aY {e with fg:=v} p:=_root_.id rfl
@[simp↓] theorem SG (e:bh) (p:PV) (hp:p.width=1) (r:List Step):aO (aY e p) (.f 13 146::r)=aO (eU e.buckets) r:=by simp[aY,aB,hp]
def zG (e:bh) (p:PV) (c:PV):PV:= .st 148 [c9 e.rules,e.ju.p,e.Bf.p,.int .i64 e.port,e.random.p,.int .i64 e.now,p,cU e.bQ,bK e.aR,cE e.timers,e.oM.p,.int .i64 e.qn,iC e.fg,c,.int .i64 e.bad]
@[simp↓] theorem SH (e:bh) (p:PV) (hp:p.width=1) (r:List Step) (x:PV):bO (aY e p) (.f 13 146::r) x=(bO (eU e.buckets) r x).bind λc=>some (zG e p c):=by simp[aY,zG,aB,hp]
@[simp↓] theorem YW (e:bh) (p:PV) (v:List Lq):zG e p (eU v)=aY {e with buckets:=v} p:=_root_.id rfl
@[simp↓] theorem SI (e:bh) (p:PV) (hp:p.width=1) (r:List Step):aO (aY e p) (.f 14 147::r)=aO (.int .i64 e.bad) r:=by simp[aY,aB,hp]
@[simp] theorem Gc (f:Nat->Bool) (e:bh) (p:PV):af f (aY e p)=af f p:=by
 have h1:af f (c9 e.rules)=true:=(J1 _).refs f;have h2:af f (cU e.bQ)=true:=(H5 _).refs f;have h3:af f (bK e.aR)=true:=(H6 _).refs f;have h4:af f (cE e.timers)=true:=(J2 _).refs f;have h5:af f (iC e.fg)=true:=(JZ _).refs f;have h6:af f (eU e.buckets)=true:=(H7 _).refs f;have g1:af f e.ju.p=true:=(FV.pure e.ju).refs f;have g2:af f e.Bf.p=true:=(FV.pure e.Bf).refs f;have g3:af f e.random.p=true:=(FV.pure e.random).refs f;have g4:af f e.oM.p=true:=(FV.pure e.oM).refs f;simp[aY,af,ah]
@[simp] theorem agu (ρ:Nat->Nat) (e:bh) (p:PV):aE ρ (aY e p)=aY e (aE ρ p):=by
 simp[aY,aE,aS]
@[simp] theorem akK (e:bh) (p:PV):wk (aY e p)=aY e (wk p):=by simp[aY]
@[simp] theorem agv (k sz:Nat) (l:List PV) (e:bh) (p:PV):iQ k sz l (aY e p)=aY e (iQ k sz l p):=by
 simp[aY,iQ,jf]
@[simp] theorem ab0 (e:bh) {p:PV} (h:Pure p):Pure (aY e p):=Pure.of (by rw[Gc];exact h.refs _)
def gP (d:bh):PV:=aY d (kh d.an)
@[simp] theorem EP (e:bh):Pure (gP e):=by simp[gP]
@[simp] theorem aqw (e:bh):wk (gP e)=gP e:=by simp[gP]
@[simp↓] theorem akL (g:Bool) (e:bh) (K:PV->Prop):ei g (gP e) K=K (gP e):=_root_.id rfl
@[simp] theorem ab1 (e:bh):(gP e).width=148:=_root_.id rfl
@[simp] theorem akM (e:bh):(gP e).isAgg=true:=_root_.id rfl
@[simp] theorem agw (e:bh):(gP e).aT=true:=_root_.id rfl
@[simp↓] theorem agx (e:bh) (i o:Nat) (r:List Step):aO (gP e) (.f i o::r)=aO (aY e (kh e.an)) (.f i o::r):=_root_.id rfl
theorem C8:∀l:List UInt8,jr (.i .u8) (l.map u8)=true
 |[]=>rfl
 |x::l=>by simp[jr,u8,fits,C8 l]
@[simp] theorem vK (k:Key):fits wZ (aG k)=true:=by
 simp[aG,fits,C8,k.h,tL]
def Key.fv (k:Key):FV wZ:=⟨aG k,vK k⟩
@[simp] theorem Key.aya (k:Key):k.fv.p=aG k:=rfl
@[simp] theorem akN (e:Key):PV.beq (aG e) (aG e)=true:=(eM _ _ (vK e)).beq
abbrev shA:Sh:= .st [.b,.ar 16 (.i .u8)]
@[simp] theorem ER (e:iG):fits shA (cN e)=true:=by
 have:=e.h;simp_all [cN,fits,dR,tL,vT,C8]
@[simp] theorem akO (e:iG):PV.beq (cN e) (cN e)=true:=(eM _ _ (ER e)).beq
abbrev shE:Sh:= .st [.st [.b,.ar 16 (.i .u8)],.i .i64]
@[simp] theorem ES (e:H4):fits shE (gZ e)=true:=by
 have:=e.addr.h;simp_all [gZ,fits,dR,tL,vT]
@[simp] theorem PZ (e:H4):PV.beq (gZ e) (gZ e)=true:=(eM _ _ (ES e)).beq
abbrev shX:Sh:= .st [.st [.b,.ar 16 (.i .u8)],.i .i64]
@[simp] theorem agy (e:xt):fits shX (gr e)=true:=by
 have:=e.addr.h;simp_all [gr,fits,dR,tL,vT]
abbrev shH:Sh:= .st [.b,.i .u32,.ar 32 (.i .u8),.st [.ar 32 (.i .u8),.ar 32 (.i .u8)],.i .i64,.i .i64]
@[simp] theorem EU (e:Oc):fits shH (lU e)=true:=by
 have:=e.eph.ok;have:=e.YJ.ok;simp_all [lU,fits,dR,tL,vT]
@[simp] theorem P4 (e:Oc):PV.beq (lU e) (lU e)=true:=(eM _ _ (EU e)).beq
abbrev atk:Sh:= .st [.i .u32,.i .u32,.ar 32 (.i .u8),.ar 32 (.i .u8),.i .u64,.i .u64,.st [.b,.i .u64,.ar 4 (.i .u64)],.i .i64,.b]
@[simp] theorem Ni (e:kS):fits atk (eT e)=true:=by
 have:=e.send.ok;have:=e.recv.ok;have:=e.GZ.ok;simp_all [eT,fits,dR,tL,vT]
abbrev atl:Sh:= .st [.b,.st [.i .u32,.i .u32,.ar 32 (.i .u8),.ar 32 (.i .u8),.i .u64,.i .u64,.st [.b,.i .u64,.ar 4 (.i .u64)],.i .i64,.b]]
@[simp] theorem sC (e:ue):fits atl (gY e)=true:=by
 have:=Ni e.mZ;simp_all [gY,fits,dR,tL,vT]
@[simp] theorem H8 (e:ue):PV.beq (gY e) (gY e)=true:=(eM _ _ (sC e)).beq
abbrev atm:Sh:= .st [.st [.b,.st [.i .u32,.i .u32,.ar 32 (.i .u8),.ar 32 (.i .u8),.i .u64,.i .u64,.st [.b,.i .u64,.ar 4 (.i .u64)],.i .i64,.b]],.st [.b,.st [.i .u32,.i .u32,.ar 32 (.i .u8),.ar 32 (.i .u8),.i .u64,.i .u64,.st [.b,.i .u64,.ar 4 (.i .u64)],.i .i64,.b]],.st [.b,.st [.i .u32,.i .u32,.ar 32 (.i .u8),.ar 32 (.i .u8),.i .u64,.i .u64,.st [.b,.i .u64,.ar 4 (.i .u64)],.i .i64,.b]]]
@[simp] theorem Nj (e:rF):fits atm (gO e)=true:=by
 have:=sC e.p;have:=sC e.c;have:=sC e.n;simp_all [gO,fits,dR,tL,vT]
@[simp] theorem akP (e:rF):PV.beq (gO e) (gO e)=true:=(eM _ _ (Nj e)).beq
end Go.Ab
