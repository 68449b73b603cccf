/- Functions of the program and of the document, as the abstract reading walks them, part 1. No condition. -/
import Derived.Test.YtlcojgogfjlceaaGreatDoorSF1
import Derived.Test.YtlcojgogfjlceaaGreatDoorSF2
import Derived.Test.YtlcojgogfjlceaaGreatDoorSF3
import Derived.Test.YtlcojgogfjlceaaGreatDoorSF4
import Derived.Test.YtlcojgogfjlceaaGreatDoorSF5
import Derived.Test.YtlcojgogfjlceaaGreatDoorSF6
import Derived.Test.YtlcojgogfjlceaaGreatDoorA5
set_option linter.all false
noncomputable section
namespace Go.Ab
@[simp] theorem zfo:(Classical.choice ON).f=zr:=rfl
open Go.Ab
abbrev xl:Sh:= .ar 32 (.i .u8)
@[simp] theorem atP:rI xl=32:=rfl
@[simp] theorem akD:Sh.agg xl=true:=rfl
abbrev Nn:Sh:= .st [.b,.i .u64,.ar 4 (.i .u64)]
@[simp] theorem atQ:rI Nn=6:=rfl
@[simp] theorem akE:Sh.agg Nn=true:=rfl
abbrev Qj:Sh:= .st [.ar 32 (.i .u8),.ar 32 (.i .u8)]
@[simp] theorem atS:rI Qj=64:=rfl
@[simp] theorem akF:Sh.agg Qj=true:=rfl
abbrev JX:Sh:= .ar 16 (.i .u8)
@[simp] theorem atT:rI JX=16:=rfl
@[simp] theorem akG:Sh.agg JX=true:=rfl
abbrev UF:Sh:= .ar 12 (.i .u8)
@[simp] theorem atU:rI UF=12:=rfl
@[simp] theorem akH:Sh.agg UF=true:=rfl
def aP (b:(List UInt8)):PV:= .sl 1 (b.map u8) false
@[simp] theorem nY (e:(List UInt8)):Pure (aP e):=by simp[aP]
@[simp] theorem aqN (e:(List UInt8)):wk (aP e)=aP e:=by simp[aP]
@[simp↓] theorem akI (g:Bool) (e:(List UInt8)) (K:PV->Prop):ed g (aP e) K=K (aP e):=_root_.id rfl
@[simp] theorem abN (e:(List UInt8)):(aP e).width=1:=_root_.id rfl
@[simp] theorem akJ (e:(List UInt8)):(aP e).isAgg=false:=_root_.id rfl
@[simp] theorem af5 (e:(List UInt8)):(aP e).aT=true:=_root_.id rfl
@[simp] theorem af6 (e:(List UInt8)):(aP e).flat=true:=_root_.id rfl
@[simp] theorem aqO (l:List (List UInt8)):an (l.map aP):=aF nY l
@[simp↓] theorem af7 (s:St) (K:PV->Prop) (l:List UInt8):yA s K (aP l)=K (.int .i64 l.length):=by simp[aP]
@[simp↓] theorem abO (s:St) (sz:Nat) (j:Int) (K:PV->Prop) (l:List UInt8):qy s sz j K (aP l)=((1=sz∧0≤j∧j<l.length)∧K (.fp sz (l.map u8) [.i j.toNat sz])):=by simp[aP]
@[simp↓] theorem af8 (s:St) (K:Nat->List PV->Prop) (l:List UInt8):zL s K (aP l)=K 1 (l.map u8):=by simp[aP]
def gz (l:(List (List UInt8))):PV:= .sl 1 (l.map aP) false
@[simp] theorem abP (e:(List (List UInt8))):Pure (gz e):=by simp[gz]
@[simp] theorem akK (e:(List (List UInt8))):wk (gz e)=gz e:=by simp[gz]
@[simp↓] theorem af9 (g:Bool) (e:(List (List UInt8))) (K:PV->Prop):ed g (gz e) K=K (gz e):=_root_.id rfl
@[simp] theorem Yp (e:(List (List UInt8))):(gz e).width=1:=_root_.id rfl
@[simp] theorem aga (e:(List (List UInt8))):(gz e).isAgg=false:=_root_.id rfl
@[simp] theorem abQ (e:(List (List UInt8))):(gz e).aT=true:=_root_.id rfl
@[simp↓] theorem abR (s:St) (K:PV->Prop) (l:List (List UInt8)):yA s K (gz l)=K (.int .i64 l.length):=by simp[gz]
@[simp↓] theorem Yq (s:St) (sz:Nat) (j:Int) (K:PV->Prop) (l:List (List UInt8)):qy s sz j K (gz l)=((1=sz∧0≤j∧j<l.length)∧K (.fp sz (l.map aP) [.i j.toNat sz])):=by simp[gz]
def gQ (l:(List Int)):PV:= .sl 1 (l.map (λn:Int=>PV.int .i64 n)) false
@[simp] theorem JY (e:(List Int)):Pure (gQ e):=by simp[gQ]
@[simp] theorem akL (e:(List Int)):wk (gQ e)=gQ e:=by simp[gQ]
@[simp↓] theorem agb (g:Bool) (e:(List Int)) (K:PV->Prop):ed g (gQ e) K=K (gQ e):=_root_.id rfl
@[simp] theorem Yr (e:(List Int)):(gQ e).width=1:=_root_.id rfl
@[simp] theorem agc (e:(List Int)):(gQ e).isAgg=false:=_root_.id rfl
@[simp] theorem abS (e:(List Int)):(gQ e).aT=true:=_root_.id rfl
@[simp↓] theorem abT (s:St) (K:PV->Prop) (l:List Int):yA s K (gQ l)=K (.int .i64 l.length):=by simp[gQ]
@[simp↓] theorem Ys (s:St) (sz:Nat) (j:Int) (K:PV->Prop) (l:List Int):qy s sz j K (gQ l)=((1=sz∧0≤j∧j<l.length)∧K (.fp sz (l.map (λn:Int=>PV.int .i64 n)) [.i j.toNat sz])):=by simp[gQ]
def oC (l:(List Int)):PV:= .sl 1 (l.map (λn:Int=>PV.int .u32 n)) false
@[simp] theorem agd (e:(List Int)):Pure (oC e):=by simp[oC]
@[simp] theorem aqP (e:(List Int)):wk (oC e)=oC e:=by simp[oC]
@[simp↓] theorem akM (g:Bool) (e:(List Int)) (K:PV->Prop):ed g (oC e) K=K (oC e):=_root_.id rfl
@[simp] theorem age (e:(List Int)):(oC e).flat=true:=_root_.id rfl
@[simp↓] theorem agf (s:St) (K:PV->Prop) (l:List Int):yA s K (oC l)=K (.int .i64 l.length):=by simp[oC]
@[simp↓] theorem abU (s:St) (sz:Nat) (j:Int) (K:PV->Prop) (l:List Int):qy s sz j K (oC l)=((1=sz∧0≤j∧j<l.length)∧K (.fp sz (l.map (λn:Int=>PV.int .u32 n)) [.i j.toNat sz])):=by simp[oC]
structure Key where
 l:List UInt8
 h:l.length=32
def aG (k:Key):PV:= .ar 1 32 (k.l.map u8)
@[simp] theorem jI (e:Key):Pure (aG e):=by simp[aG]
@[simp] theorem aqQ (e:Key):wk (aG e)=aG e:=by simp[aG]
@[simp↓] theorem akN (g:Bool) (e:Key) (K:PV->Prop):ed g (aG e) K=K (aG e):=_root_.id rfl
@[simp] theorem abV (e:Key):(aG e).width=32:=_root_.id rfl
@[simp] theorem akO (e:Key):(aG e).isAgg=true:=_root_.id rfl
@[simp] theorem agh (e:Key):(aG e).aT=true:=_root_.id rfl
@[simp] theorem agi (e:Key):(aG e).flat=true:=_root_.id rfl
structure ld where
 loc:Int
 rem:Int
 send:FV xl
 recv:FV xl
 next:Int
 fM:Int
 G4:FV Nn
 born:Int
 Yt:Bool
def fa (s:ld):PV:= .st 76 [.int .u32 s.loc,.int .u32 s.rem,s.send.p,s.recv.p,.int .u64 s.next,.int .u64 s.fM,s.G4.p,.int .i64 s.born,.bl s.Yt]
@[simp] theorem agj (e:ld):Pure (fa e):=by simp[fa]
@[simp] theorem aqR (e:ld):wk (fa e)=fa e:=by simp[fa]
@[simp↓] theorem akP (g:Bool) (e:ld) (K:PV->Prop):ed g (fa e) K=K (fa e):=_root_.id rfl
@[simp] theorem abW (e:ld):(fa e).width=76:=_root_.id rfl
@[simp] theorem akQ (e:ld):(fa e).isAgg=true:=_root_.id rfl
@[simp] theorem agk (e:ld):(fa e).aT=true:=_root_.id rfl
@[simp] theorem agl (e:ld):(fa e).flat=true:=_root_.id rfl
@[simp↓] theorem Yu (e:ld) (r:List Step):aM (fa e) (.f 0 0::r)=aM (.int .u32 e.loc) r:=by simp[fa]
@[simp↓] theorem Yv (e:ld) (r:List Step):aM (fa e) (.f 1 1::r)=aM (.int .u32 e.rem) r:=by simp[fa,aB]
@[simp↓] theorem Yw (e:ld) (r:List Step):aM (fa e) (.f 2 2::r)=aM (e.send.p) r:=by simp[fa,aB]
def Gc (e:ld) (c:PV):PV:= .st 76 [.int .u32 e.loc,.int .u32 e.rem,c,e.recv.p,.int .u64 e.next,.int .u64 e.fM,e.G4.p,.int .i64 e.born,.bl e.Yt]
@[simp↓] theorem Yx (e:ld) (r:List Step) (x:PV):bT (fa e) (.f 2 2::r) x=(bT (e.send.p) r x).bind λc=>some (Gc e c):=by simp[fa,Gc,aB]
def Gd (e:ld) (c:PV):PV:= .st 76 [.int .u32 e.loc,.int .u32 e.rem,e.send.p,c,.int .u64 e.next,.int .u64 e.fM,e.G4.p,.int .i64 e.born,.bl e.Yt]
@[simp↓] theorem Yy (e:ld) (r:List Step) (x:PV):bT (fa e) (.f 3 34::r) x=(bT (e.recv.p) r x).bind λc=>some (Gd e c):=by simp[fa,Gd,aB]
@[simp↓] theorem Yz (e:ld) (r:List Step):aM (fa e) (.f 4 66::r)=aM (.int .u64 e.next) r:=by simp[fa,aB]
def Ge (e:ld) (c:PV):PV:= .st 76 [.int .u32 e.loc,.int .u32 e.rem,e.send.p,e.recv.p,c,.int .u64 e.fM,e.G4.p,.int .i64 e.born,.bl e.Yt]
@[simp↓] theorem YA (e:ld) (r:List Step) (x:PV):bT (fa e) (.f 4 66::r) x=(bT (.int .u64 e.next) r x).bind λc=>some (Ge e c):=by simp[fa,Ge,aB]
@[simp↓] theorem agm (e:ld) (v:Int):Ge e (.int .u64 v)=fa {e with next:=v}:=_root_.id rfl
@[simp↓] theorem YB (e:ld) (r:List Step):aM (fa e) (.f 5 67::r)=aM (.int .u64 e.fM) r:=by simp[fa,aB]
@[simp↓] theorem YC (e:ld) (r:List Step):aM (fa e) (.f 6 68::r)=aM (e.G4.p) r:=by simp[fa,aB]
def Gf (e:ld) (c:PV):PV:= .st 76 [.int .u32 e.loc,.int .u32 e.rem,e.send.p,e.recv.p,.int .u64 e.next,.int .u64 e.fM,c,.int .i64 e.born,.bl e.Yt]
@[simp↓] theorem YD (e:ld) (r:List Step) (x:PV):bT (fa e) (.f 6 68::r) x=(bT (e.G4.p) r x).bind λc=>some (Gf e c):=by simp[fa,Gf,aB]
@[simp↓] theorem YE (e:ld) (r:List Step):aM (fa e) (.f 7 74::r)=aM (.int .i64 e.born) r:=by simp[fa,aB]
structure uL where
 has:Bool
 nn:ld
def ib (p:uL):PV:= .st 77 [.bl p.has,fa p.nn]
@[simp] theorem agn (e:uL):Pure (ib e):=by simp[ib]
@[simp] theorem aqS (e:uL):wk (ib e)=ib e:=by simp[ib]
@[simp↓] theorem akR (g:Bool) (e:uL) (K:PV->Prop):ed g (ib e) K=K (ib e):=_root_.id rfl
@[simp] theorem abX (e:uL):(ib e).width=77:=_root_.id rfl
@[simp] theorem akS (e:uL):(ib e).isAgg=true:=_root_.id rfl
@[simp] theorem ago (e:uL):(ib e).aT=true:=_root_.id rfl
@[simp] theorem agp (e:uL):(ib e).flat=true:=_root_.id rfl
@[simp↓] theorem YF (e:uL) (r:List Step):aM (ib e) (.f 0 0::r)=aM (.bl e.has) r:=by simp[ib]
@[simp↓] theorem YG (e:uL) (r:List Step):aM (ib e) (.f 1 1::r)=aM (fa e.nn) r:=by simp[ib,aB]
def Gg (e:uL) (c:PV):PV:= .st 77 [.bl e.has,c]
@[simp↓] theorem YH (e:uL) (r:List Step) (x:PV):bT (ib e) (.f 1 1::r) x=(bT (fa e.nn) r x).bind λc=>some (Gg e c):=by simp[ib,Gg,aB]
@[simp↓] theorem agq (e:uL) (v:ld):Gg e (fa v)=ib {e with nn:=v}:=_root_.id rfl
structure ss where
 p:uL
 c:uL
 n:uL
def iH (r:ss):PV:= .st 231 [ib r.p,ib r.c,ib r.n]
@[simp] theorem agr (e:ss):Pure (iH e):=by simp[iH]
@[simp] theorem aqT (e:ss):wk (iH e)=iH e:=by simp[iH]
@[simp↓] theorem akT (g:Bool) (e:ss) (K:PV->Prop):ed g (iH e) K=K (iH e):=_root_.id rfl
@[simp] theorem abY (e:ss):(iH e).width=231:=_root_.id rfl
@[simp] theorem akU (e:ss):(iH e).isAgg=true:=_root_.id rfl
@[simp] theorem ags (e:ss):(iH e).aT=true:=_root_.id rfl
@[simp↓] theorem YI (e:ss) (r:List Step):aM (iH e) (.f 0 0::r)=aM (ib e.p) r:=by simp[iH]
@[simp↓] theorem YJ (e:ss) (r:List Step):aM (iH e) (.f 1 77::r)=aM (ib e.c) r:=by simp[iH,aB]
def Gh (e:ss) (c:PV):PV:= .st 231 [ib e.p,c,ib e.n]
@[simp↓] theorem YK (e:ss) (r:List Step) (x:PV):bT (iH e) (.f 1 77::r) x=(bT (ib e.c) r x).bind λc=>some (Gh e c):=by simp[iH,Gh,aB]
@[simp↓] theorem agt (e:ss) (v:uL):Gh e (ib v)=iH {e with c:=v}:=_root_.id rfl
@[simp↓] theorem YL (e:ss) (r:List Step):aM (iH e) (.f 2 154::r)=aM (ib e.n) r:=by simp[iH,aB]
structure y7 where
 No:Int
 uy:Int
 Qk:Int
 sN:Int
 att:Int
 ret:Int
 YM:Int
 cot:Int
 load:Int
 vh:Int
def cO (r:y7):PV:= .st 10 [.int .u64 r.No,.int .u64 r.uy,.int .i64 r.Qk,.int .i64 r.sN,.int .i64 r.att,.int .i64 r.ret,.int .i64 r.YM,.int .i64 r.cot,.int .i64 r.load,.int .i64 r.vh]
@[simp] theorem JZ (e:y7):Pure (cO e):=by simp[cO]
@[simp] theorem akV (e:y7):wk (cO e)=cO e:=by simp[cO]
@[simp↓] theorem agu (g:Bool) (e:y7) (K:PV->Prop):ed g (cO e) K=K (cO e):=_root_.id rfl
@[simp] theorem YN (e:y7):(cO e).width=10:=_root_.id rfl
@[simp] theorem agv (e:y7):(cO e).isAgg=true:=_root_.id rfl
@[simp] theorem ab0 (e:y7):(cO e).aT=true:=_root_.id rfl
@[simp↓] theorem UG (e:y7) (r:List Step):aM (cO e) (.f 0 0::r)=aM (.int .u64 e.No) r:=by simp[cO]
@[simp↓] theorem UH (e:y7) (r:List Step):aM (cO e) (.f 1 1::r)=aM (.int .u64 e.uy) r:=by simp[cO,aB]
@[simp↓] theorem UI (e:y7) (r:List Step):aM (cO e) (.f 2 2::r)=aM (.int .i64 e.Qk) r:=by simp[cO,aB]
@[simp↓] theorem UJ (e:y7) (r:List Step):aM (cO e) (.f 3 3::r)=aM (.int .i64 e.sN) r:=by simp[cO,aB]
@[simp↓] theorem UK (e:y7) (r:List Step):aM (cO e) (.f 4 4::r)=aM (.int .i64 e.att) r:=by simp[cO,aB]
@[simp↓] theorem UL (e:y7) (r:List Step):aM (cO e) (.f 5 5::r)=aM (.int .i64 e.ret) r:=by simp[cO,aB]
@[simp↓] theorem UM (e:y7) (r:List Step):aM (cO e) (.f 6 6::r)=aM (.int .i64 e.YM) r:=by simp[cO,aB]
@[simp↓] theorem UN (e:y7) (r:List Step):aM (cO e) (.f 7 7::r)=aM (.int .i64 e.cot) r:=by simp[cO,aB]
@[simp↓] theorem UO (e:y7) (r:List Step):aM (cO e) (.f 8 8::r)=aM (.int .i64 e.load) r:=by simp[cO,aB]
@[simp↓] theorem UP (e:y7) (r:List Step):aM (cO e) (.f 9 9::r)=aM (.int .i64 e.vh) r:=by simp[cO,aB]
structure iI where
 sO:Bool
 ip:List UInt8
 h:ip.length=16
def cP (a:iI):PV:= .st 17 [.bl a.sO,.ar 1 16 (a.ip.map u8)]
@[simp] theorem agw (e:iI):Pure (cP e):=by simp[cP]
@[simp] theorem aqV (e:iI):wk (cP e)=cP e:=by simp[cP]
@[simp↓] theorem akW (g:Bool) (e:iI) (K:PV->Prop):ed g (cP e) K=K (cP e):=_root_.id rfl
@[simp] theorem ab1 (e:iI):(cP e).width=17:=_root_.id rfl
@[simp] theorem akX (e:iI):(cP e).isAgg=true:=_root_.id rfl
@[simp] theorem agx (e:iI):(cP e).aT=true:=_root_.id rfl
@[simp↓] theorem YO (e:iI) (r:List Step):aM (cP e) (.f 0 0::r)=aM (.bl e.sO) r:=by simp[cP]
@[simp↓] theorem YP (e:iI) (r:List Step):aM (cP e) (.f 1 1::r)=aM (.ar 1 16 (e.ip.map u8)) r:=by simp[cP,aB]
def yC (e:iI) (c:PV):PV:= .st 17 [.bl e.sO,c]
@[simp↓] theorem YQ (e:iI) (r:List Step) (x:PV):bT (cP e) (.f 1 1::r) x=(bT (.ar 1 16 (e.ip.map u8)) r x).bind λc=>some (yC e c):=by simp[cP,yC,aB]
structure G6 where
 addr:iI
 port:Int
def ic (e:G6):PV:= .st 18 [cP e.addr,.int .i64 e.port]
@[simp] theorem agy (e:G6):Pure (ic e):=by simp[ic]
@[simp] theorem aqW (e:G6):wk (ic e)=ic e:=by simp[ic]
@[simp↓] theorem akY (g:Bool) (e:G6) (K:PV->Prop):ed g (ic e) K=K (ic e):=_root_.id rfl
@[simp] theorem ab2 (e:G6):(ic e).width=18:=_root_.id rfl
@[simp] theorem akZ (e:G6):(ic e).isAgg=true:=_root_.id rfl
@[simp] theorem agz (e:G6):(ic e).aT=true:=_root_.id rfl
@[simp↓] theorem YR (e:G6) (r:List Step):aM (ic e) (.f 0 0::r)=aM (cP e.addr) r:=by simp[ic]
@[simp↓] theorem YS (e:G6) (r:List Step):aM (ic e) (.f 1 17::r)=aM (.int .i64 e.port) r:=by simp[ic,aB]
structure xG where
 addr:iI
 bits:Int
def gC (e:xG):PV:= .st 18 [cP e.addr,.int .i64 e.bits]
@[simp] theorem Np (e:xG):Pure (gC e):=by simp[gC]
@[simp] theorem aqX (e:xG):wk (gC e)=gC e:=by simp[gC]
@[simp↓] theorem ak0 (g:Bool) (e:xG) (K:PV->Prop):ed g (gC e) K=K (gC e):=_root_.id rfl
@[simp] theorem ab3 (e:xG):(gC e).width=18:=_root_.id rfl
@[simp] theorem ak1 (e:xG):(gC e).isAgg=true:=_root_.id rfl
@[simp] theorem agA (e:xG):(gC e).aT=true:=_root_.id rfl
@[simp↓] theorem YT (e:xG) (r:List Step):aM (gC e) (.f 0 0::r)=aM (cP e.addr) r:=by simp[gC]
@[simp↓] theorem YU (e:xG) (r:List Step):aM (gC e) (.f 1 17::r)=aM (.int .i64 e.bits) r:=by simp[gC,aB]
structure vi where
 D1:xG
 peer:Key
def fY (r:vi):PV:= .st 50 [gC r.D1,aG r.peer]
@[simp] theorem C8 (e:vi):Pure (fY e):=by simp[fY]
@[simp] theorem Ql (e:vi):wk (fY e)=fY e:=by simp[fY]
@[simp↓] theorem agB (g:Bool) (e:vi) (K:PV->Prop):ed g (fY e) K=K (fY e):=_root_.id rfl
@[simp] theorem YV (e:vi):(fY e).width=50:=_root_.id rfl
@[simp] theorem agC (e:vi):(fY e).isAgg=true:=_root_.id rfl
@[simp] theorem ab4 (e:vi):(fY e).aT=true:=_root_.id rfl
@[simp] theorem ak2 (l:List vi):an (l.map fY):=aF C8 l
@[simp] theorem ak3 (l:List vi):fI (l.map fY)=l.map fY:=nm Ql l
@[simp↓] theorem UQ (e:vi) (r:List Step):aM (fY e) (.f 0 0::r)=aM (gC e.D1) r:=by simp[fY]
@[simp↓] theorem UR (e:vi) (r:List Step):aM (fY e) (.f 1 18::r)=aM (aG e.peer) r:=by simp[fY,aB]
def cY (l:(List vi)):PV:= .sl 50 (l.map fY) false
@[simp] theorem H8 (e:(List vi)):Pure (cY e):=by simp[cY]
@[simp] theorem agD (e:(List vi)):wk (cY e)=cY e:=by simp[cY]
@[simp↓] theorem ab5 (g:Bool) (e:(List vi)) (K:PV->Prop):ed g (cY e) K=K (cY e):=_root_.id rfl
@[simp] theorem US (e:(List vi)):(cY e).width=1:=_root_.id rfl
@[simp] theorem ab6 (e:(List vi)):(cY e).isAgg=false:=_root_.id rfl
@[simp] theorem YW (e:(List vi)):(cY e).aT=true:=_root_.id rfl
@[simp↓] theorem YX (s:St) (K:PV->Prop) (l:List vi):yA s K (cY l)=K (.int .i64 l.length):=by simp[cY]
@[simp↓] theorem UT (s:St) (sz:Nat) (j:Int) (K:PV->Prop) (l:List vi):qy s sz j K (cY l)=((50=sz∧0≤j∧j<l.length)∧K (.fp sz (l.map fY) [.i j.toNat sz])):=by simp[cY]
structure gr where
 index:Int
 peer:Key
 nn:Bool
def aU (s:gr):PV:= .st 34 [.int .u32 s.index,aG s.peer,.bl s.nn]
@[simp] theorem gD (e:gr):Pure (aU e):=by simp[aU]
@[simp] theorem Qm (e:gr):wk (aU e)=aU e:=by simp[aU]
@[simp↓] theorem agE (g:Bool) (e:gr) (K:PV->Prop):ed g (aU e) K=K (aU e):=_root_.id rfl
@[simp] theorem YY (e:gr):(aU e).width=34:=_root_.id rfl
@[simp] theorem agF (e:gr):(aU e).isAgg=true:=_root_.id rfl
@[simp] theorem ab7 (e:gr):(aU e).aT=true:=_root_.id rfl
@[simp] theorem ab8 (e:gr):(aU e).flat=true:=_root_.id rfl
@[simp] theorem ak4 (l:List gr):an (l.map aU):=aF gD l
@[simp] theorem ak5 (l:List gr):fI (l.map aU)=l.map aU:=nm Qm l
@[simp↓] theorem UU (e:gr) (r:List Step):aM (aU e) (.f 0 0::r)=aM (.int .u32 e.index) r:=by simp[aU]
@[simp↓] theorem UW (e:gr) (r:List Step):aM (aU e) (.f 1 1::r)=aM (aG e.peer) r:=by simp[aU,aB]
@[simp↓] theorem UX (e:gr) (r:List Step):aM (aU e) (.f 2 33::r)=aM (.bl e.nn) r:=by simp[aU,aB]
def bL (l:(List gr)):PV:= .sl 34 (l.map aU) false
@[simp] theorem H9 (e:(List gr)):Pure (bL e):=by simp[bL]
@[simp] theorem agG (e:(List gr)):wk (bL e)=bL e:=by simp[bL]
@[simp↓] theorem ab9 (g:Bool) (e:(List gr)) (K:PV->Prop):ed g (bL e) K=K (bL e):=_root_.id rfl
@[simp] theorem UY (e:(List gr)):(bL e).width=1:=_root_.id rfl
@[simp] theorem aca (e:(List gr)):(bL e).isAgg=false:=_root_.id rfl
@[simp] theorem YZ (e:(List gr)):(bL e).aT=true:=_root_.id rfl
@[simp↓] theorem Y0 (s:St) (K:PV->Prop) (l:List gr):yA s K (bL l)=K (.int .i64 l.length):=by simp[bL]
@[simp↓] theorem UZ (s:St) (sz:Nat) (j:Int) (K:PV->Prop) (l:List gr):qy s sz j K (bL l)=((34=sz∧0≤j∧j<l.length)∧K (.fp sz (l.map aU) [.i j.toNat sz])):=by simp[bL]
structure cV where
 at_:Int
 peer:Key
 kind:Int
def bj (t:cV):PV:= .st 34 [.int .i64 t.at_,aG t.peer,.int .i64 t.kind]
@[simp] theorem iT (e:cV):Pure (bj e):=by simp[bj]
@[simp] theorem aqY (e:cV):wk (bj e)=bj e:=by simp[bj]
@[simp↓] theorem ak6 (g:Bool) (e:cV) (K:PV->Prop):ed g (bj e) K=K (bj e):=_root_.id rfl
@[simp] theorem acb (e:cV):(bj e).width=34:=_root_.id rfl
@[simp] theorem ak7 (e:cV):(bj e).isAgg=true:=_root_.id rfl
@[simp] theorem agH (e:cV):(bj e).aT=true:=_root_.id rfl
@[simp] theorem agI (e:cV):(bj e).flat=true:=_root_.id rfl
@[simp] theorem aqZ (l:List cV):an (l.map bj):=aF iT l
@[simp↓] theorem Y1 (e:cV) (r:List Step):aM (bj e) (.f 0 0::r)=aM (.int .i64 e.at_) r:=by simp[bj]
@[simp↓] theorem Y2 (e:cV) (r:List Step):aM (bj e) (.f 1 1::r)=aM (aG e.peer) r:=by simp[bj,aB]
@[simp↓] theorem Y3 (e:cV) (r:List Step):aM (bj e) (.f 2 33::r)=aM (.int .i64 e.kind) r:=by simp[bj,aB]
def cC (l:(List cV)):PV:= .sl 34 (l.map bj) false
@[simp] theorem J0 (e:(List cV)):Pure (cC e):=by simp[cC]
@[simp] theorem ak8 (e:(List cV)):wk (cC e)=cC e:=by simp[cC]
@[simp↓] theorem agJ (g:Bool) (e:(List cV)) (K:PV->Prop):ed g (cC e) K=K (cC e):=_root_.id rfl
@[simp] theorem Y4 (e:(List cV)):(cC e).width=1:=_root_.id rfl
@[simp] theorem agK (e:(List cV)):(cC e).isAgg=false:=_root_.id rfl
@[simp] theorem acd (e:(List cV)):(cC e).aT=true:=_root_.id rfl
@[simp↓] theorem ace (s:St) (K:PV->Prop) (l:List cV):yA s K (cC l)=K (.int .i64 l.length):=by simp[cC]
@[simp↓] theorem Y5 (s:St) (sz:Nat) (j:Int) (K:PV->Prop) (l:List cV):qy s sz j K (cC l)=((34=sz∧0≤j∧j<l.length)∧K (.fp sz (l.map bj) [.i j.toNat sz])):=by simp[cC]
structure EZ where
 addr:iI
 tokens:Int
 at_:Int
def qB (b:EZ):PV:= .st 19 [cP b.addr,.int .i64 b.tokens,.int .i64 b.at_]
@[simp] theorem acf (e:EZ):Pure (qB e):=by simp[qB]
@[simp] theorem ak9 (e:EZ):wk (qB e)=qB e:=by simp[qB]
@[simp↓] theorem agL (g:Bool) (e:EZ) (K:PV->Prop):ed g (qB e) K=K (qB e):=_root_.id rfl
@[simp] theorem Y6 (e:EZ):(qB e).width=19:=_root_.id rfl
@[simp] theorem agM (e:EZ):(qB e).isAgg=true:=_root_.id rfl
def eG (l:(List EZ)):PV:= .sl 19 (l.map qB) false
@[simp] theorem Ia (e:(List EZ)):Pure (eG e):=by simp[eG]
@[simp] theorem agN (e:(List EZ)):wk (eG e)=eG e:=by simp[eG]
@[simp↓] theorem acg (g:Bool) (e:(List EZ)) (K:PV->Prop):ed g (eG e) K=K (eG e):=_root_.id rfl
@[simp] theorem U0 (e:(List EZ)):(eG e).width=1:=_root_.id rfl
@[simp] theorem ach (e:(List EZ)):(eG e).isAgg=false:=_root_.id rfl
@[simp] theorem Y7 (e:(List EZ)):(eG e).aT=true:=_root_.id rfl
@[simp↓] theorem Y8 (s:St) (K:PV->Prop) (l:List EZ):yA s K (eG l)=K (.int .i64 l.length):=by simp[eG]
@[simp↓] theorem U1 (s:St) (sz:Nat) (j:Int) (K:PV->Prop) (l:List EZ):qy s sz j K (eG l)=((19=sz∧0≤j∧j<l.length)∧K (.fp sz (l.map qB) [.i j.toNat sz])):=by simp[eG]
structure Nq where
 has:Bool
 loc:Int
 eph:FV xl
 Y9:FV Qj
 started:Int
 C9:Int
def mL (h:Nq):PV:= .st 100 [.bl h.has,.int .u32 h.loc,h.eph.p,h.Y9.p,.int .i64 h.started,.int .i64 h.C9]
@[simp] theorem agO (e:Nq):Pure (mL e):=by simp[mL]
@[simp] theorem aq0 (e:Nq):wk (mL e)=mL e:=by simp[mL]
@[simp] theorem aci (e:Nq):(mL e).width=100:=_root_.id rfl
@[simp] theorem ala (e:Nq):(mL e).isAgg=true:=_root_.id rfl
@[simp↓] theorem Za (e:Nq) (r:List Step):aM (mL e) (.f 0 0::r)=aM (.bl e.has) r:=by simp[mL]
@[simp↓] theorem Zb (e:Nq) (r:List Step):aM (mL e) (.f 1 1::r)=aM (.int .u32 e.loc) r:=by simp[mL,aB]
@[simp↓] theorem Zc (e:Nq) (r:List Step):aM (mL e) (.f 4 98::r)=aM (.int .i64 e.started) r:=by simp[mL,aB]
@[simp↓] theorem Zd (e:Nq) (r:List Step):aM (mL e) (.f 5 99::r)=aM (.int .i64 e.C9) r:=by simp[mL,aB]
structure bO where
 cH:Key
 shared:FV xl
 iU:Bool
 ep:G6
 jg:Int
 E0:FV UF
 AS:Bool
 Da:Int
 hand:Nq
 rq:Bool
 tE:FV JX
 Db:Int
 Ib:FV JX
 ring:ss
 dI:List (List UInt8)
def aQ (p:bO):PV:= .st 464 [aG p.cH,p.shared.p,.bl p.iU,ic p.ep,.int .i64 p.jg,p.E0.p,.bl p.AS,.int .i64 p.Da,mL p.hand,.bl p.rq,p.tE.p,.int .i64 p.Db,p.Ib.p,iH p.ring,gz p.dI]
@[simp] theorem iw (e:bO):Pure (aQ e):=by simp[aQ]
@[simp] theorem alb (e:bO):wk (aQ e)=aQ e:=by simp[aQ]
@[simp↓] theorem agP (g:Bool) (e:bO) (K:PV->Prop):ed g (aQ e) K=K (aQ e):=_root_.id rfl
@[simp] theorem Ze (e:bO):(aQ e).width=464:=_root_.id rfl
@[simp] theorem agQ (e:bO):(aQ e).isAgg=true:=_root_.id rfl
@[simp] theorem acj (e:bO):(aQ e).aT=true:=_root_.id rfl
@[simp] theorem alc (l:List bO):an (l.map aQ):=aF iw l
@[simp↓] theorem U2 (e:bO) (r:List Step):aM (aQ e) (.f 0 0::r)=aM (aG e.cH) r:=by simp[aQ]
@[simp↓] theorem U3 (e:bO) (r:List Step):aM (aQ e) (.f 1 32::r)=aM (e.shared.p) r:=by simp[aQ,aB]
@[simp↓] theorem U4 (e:bO) (r:List Step):aM (aQ e) (.f 2 64::r)=aM (.bl e.iU) r:=by simp[aQ,aB]
@[simp↓] theorem U5 (e:bO) (r:List Step):aM (aQ e) (.f 3 65::r)=aM (ic e.ep) r:=by simp[aQ,aB]
@[simp↓] theorem U6 (e:bO) (r:List Step):aM (aQ e) (.f 4 83::r)=aM (.int .i64 e.jg) r:=by simp[aQ,aB]
@[simp↓] theorem U7 (e:bO) (r:List Step):aM (aQ e) (.f 5 84::r)=aM (e.E0.p) r:=by simp[aQ,aB]
@[simp↓] theorem U8 (e:bO) (r:List Step):aM (aQ e) (.f 6 96::r)=aM (.bl e.AS) r:=by simp[aQ,aB]
@[simp↓] theorem U9 (e:bO) (r:List Step):aM (aQ e) (.f 7 97::r)=aM (.int .i64 e.Da) r:=by simp[aQ,aB]
@[simp↓] theorem Va (e:bO) (r:List Step):aM (aQ e) (.f 8 98::r)=aM (mL e.hand) r:=by simp[aQ,aB]
def yD (e:bO) (c:PV):PV:= .st 464 [aG e.cH,e.shared.p,.bl e.iU,ic e.ep,.int .i64 e.jg,e.E0.p,.bl e.AS,.int .i64 e.Da,c,.bl e.rq,e.tE.p,.int .i64 e.Db,e.Ib.p,iH e.ring,gz e.dI]
@[simp↓] theorem Vb (e:bO) (r:List Step) (x:PV):bT (aQ e) (.f 8 98::r) x=(bT (mL e.hand) r x).bind λc=>some (yD e c):=by simp[aQ,yD,aB]
@[simp↓] theorem Vc (e:bO) (r:List Step):aM (aQ e) (.f 9 198::r)=aM (.bl e.rq) r:=by simp[aQ,aB]
@[simp↓] theorem SN (e:bO) (r:List Step):aM (aQ e) (.f 10 199::r)=aM (e.tE.p) r:=by simp[aQ,aB]
@[simp↓] theorem SO (e:bO) (r:List Step):aM (aQ e) (.f 11 215::r)=aM (.int .i64 e.Db) r:=by simp[aQ,aB]
@[simp↓] theorem SP (e:bO) (r:List Step):aM (aQ e) (.f 12 216::r)=aM (e.Ib.p) r:=by simp[aQ,aB]
def zX (e:bO) (c:PV):PV:= .st 464 [aG e.cH,e.shared.p,.bl e.iU,ic e.ep,.int .i64 e.jg,e.E0.p,.bl e.AS,.int .i64 e.Da,mL e.hand,.bl e.rq,e.tE.p,.int .i64 e.Db,c,iH e.ring,gz e.dI]
@[simp↓] theorem SQ (e:bO) (r:List Step) (x:PV):bT (aQ e) (.f 12 216::r) x=(bT (e.Ib.p) r x).bind λc=>some (zX e c):=by simp[aQ,zX,aB]
@[simp↓] theorem Zf (e:bO) (v:FV JX):zX e (v.p)=aQ {e with Ib:=v}:=_root_.id rfl
@[simp↓] theorem SR (e:bO) (r:List Step):aM (aQ e) (.f 13 232::r)=aM (iH e.ring) r:=by simp[aQ,aB]
def sP (e:bO) (c:PV):PV:= .st 464 [aG e.cH,e.shared.p,.bl e.iU,ic e.ep,.int .i64 e.jg,e.E0.p,.bl e.AS,.int .i64 e.Da,mL e.hand,.bl e.rq,e.tE.p,.int .i64 e.Db,e.Ib.p,c,gz e.dI]
@[simp↓] theorem SS (e:bO) (r:List Step) (x:PV):bT (aQ e) (.f 13 232::r) x=(bT (iH e.ring) r x).bind λc=>some (sP e c):=by simp[aQ,sP,aB]
@[simp↓] theorem Zg (e:bO) (v:ss):sP e (iH v)=aQ {e with ring:=v}:=_root_.id rfl
@[simp↓] theorem SU (e:bO) (r:List Step):aM (aQ e) (.f 14 463::r)=aM (gz e.dI) r:=by simp[aQ,aB]
def nZ (e:bO) (c:PV):PV:= .st 464 [aG e.cH,e.shared.p,.bl e.iU,ic e.ep,.int .i64 e.jg,e.E0.p,.bl e.AS,.int .i64 e.Da,mL e.hand,.bl e.rq,e.tE.p,.int .i64 e.Db,e.Ib.p,iH e.ring,c]
@[simp↓] theorem SV (e:bO) (r:List Step) (x:PV):bT (aQ e) (.f 14 463::r) x=(bT (gz e.dI) r x).bind λc=>some (nZ e c):=by simp[aQ,nZ,aB]
@[simp↓] theorem Zh (e:bO) (v:List (List UInt8)):nZ e (gz v)=aQ {e with dI:=v}:=_root_.id rfl
def kt (l:(List bO)):PV:= .sl 464 (l.map aQ) false
@[simp] theorem Zi (e:(List bO)):Pure (kt e):=by simp[kt]
@[simp] theorem agR (e:(List bO)):wk (kt e)=kt e:=by simp[kt]
@[simp↓] theorem ack (g:Bool) (e:(List bO)) (K:PV->Prop):ed g (kt e) K=K (kt e):=_root_.id rfl
@[simp] theorem Vd (e:(List bO)):(kt e).width=1:=_root_.id rfl
@[simp] theorem acm (e:(List bO)):(kt e).isAgg=false:=_root_.id rfl
@[simp↓] theorem Zj (s:St) (K:PV->Prop) (l:List bO):yA s K (kt l)=K (.int .i64 l.length):=by simp[kt]
@[simp↓] theorem Ve (s:St) (sz:Nat) (j:Int) (K:PV->Prop) (l:List bO):qy s sz j K (kt l)=((464=sz∧0≤j∧j<l.length)∧K (.fp sz (l.map aQ) [.i j.toNat sz])):=by simp[kt]
structure bc where
 rules:y7
 jz:FV xl
 zY:FV xl
 port:Int
 random:FV xl
 now:Int
 au:List bO
 bH:List vi
 aS:List gr
 timers:List cV
 n5:FV xl
 qC:Int
 dT:List Int
 buckets:List EZ
 bad:Int
def aZ (d:bc) (p:PV):PV:= .st 148 [cO d.rules,d.jz.p,d.zY.p,.int .i64 d.port,d.random.p,.int .i64 d.now,p,cY d.bH,bL d.aS,cC d.timers,d.n5.p,.int .i64 d.qC,gQ d.dT,eG d.buckets,.int .i64 d.bad]
@[simp] theorem Zk (e:bc) (p:PV):(aZ e p).width=148:=_root_.id rfl
@[simp] theorem agS (e:bc) (p:PV):(aZ e p).isAgg=true:=rfl
@[simp] theorem acn (e:bc) (p:PV):(aZ e p).aT=true:=rfl
@[simp] theorem aco (e:bc) (p:PV):(aZ e p).flat=true:=rfl
@[simp↓] theorem agT (g:Bool) (e:bc) (p:PV) (K:PV->Prop):ed g (aZ e p) K=K (aZ e p):=_root_.id rfl
@[simp↓] theorem Vf (e:bc) (p:PV) (r:List Step):aM (aZ e p) (.f 0 0::r)=aM (cO e.rules) r:=by simp[aZ]
@[simp↓] theorem Vg (e:bc) (p:PV) (r:List Step):aM (aZ e p) (.f 1 10::r)=aM (e.jz.p) r:=by simp[aZ,aB]
@[simp↓] theorem Vh (e:bc) (p:PV) (r:List Step):aM (aZ e p) (.f 2 42::r)=aM (e.zY.p) r:=by simp[aZ,aB]
@[simp↓] theorem Vi (e:bc) (p:PV) (r:List Step):aM (aZ e p) (.f 3 74::r)=aM (.int .i64 e.port) r:=by simp[aZ,aB]
@[simp↓] theorem Vj (e:bc) (p:PV) (r:List Step):aM (aZ e p) (.f 4 75::r)=aM (e.random.p) r:=by simp[aZ,aB]
def yE (e:bc) (p:PV) (c:PV):PV:= .st 148 [cO e.rules,e.jz.p,e.zY.p,.int .i64 e.port,c,.int .i64 e.now,p,cY e.bH,bL e.aS,cC e.timers,e.n5.p,.int .i64 e.qC,gQ e.dT,eG e.buckets,.int .i64 e.bad]
@[simp↓] theorem Vk (e:bc) (p:PV) (r:List Step) (x:PV):bT (aZ e p) (.f 4 75::r) x=(bT (e.random.p) r x).bind λc=>some (yE e p c):=by simp[aZ,yE,aB]
@[simp↓] theorem Vm (e:bc) (p:PV) (r:List Step):aM (aZ e p) (.f 5 107::r)=aM (.int .i64 e.now) r:=by simp[aZ,aB]
def Dc (e:bc) (p:PV) (c:PV):PV:= .st 148 [cO e.rules,e.jz.p,e.zY.p,.int .i64 e.port,e.random.p,c,p,cY e.bH,bL e.aS,cC e.timers,e.n5.p,.int .i64 e.qC,gQ e.dT,eG e.buckets,.int .i64 e.bad]
@[simp↓] theorem Vn (e:bc) (p:PV) (r:List Step) (x:PV):bT (aZ e p) (.f 5 107::r) x=(bT (.int .i64 e.now) r x).bind λc=>some (Dc e p c):=by simp[aZ,Dc,aB]
@[simp↓] theorem acp (e:bc) (p:PV) (v:Int):Dc e p (.int .i64 v)=aZ {e with now:=v} p:=_root_.id rfl
@[simp↓] theorem Vo (e:bc) (p:PV) (r:List Step):aM (aZ e p) (.f 6 108::r)=aM (p) r:=by simp[aZ,aB]
def Dd (e:bc) (p:PV) (c:PV):PV:= .st 148 [cO e.rules,e.jz.p,e.zY.p,.int .i64 e.port,e.random.p,.int .i64 e.now,c,cY e.bH,bL e.aS,cC e.timers,e.n5.p,.int .i64 e.qC,gQ e.dT,eG e.buckets,.int .i64 e.bad]
@[simp↓] theorem Vp (e:bc) (p:PV) (r:List Step) (x:PV):bT (aZ e p) (.f 6 108::r) x=(bT (p) r x).bind λc=>some (Dd e p c):=by simp[aZ,Dd,aB]
@[simp↓] theorem acq (e:bc) (p:PV) (v:PV):Dd e p v=aZ e v:=_root_.id rfl
@[simp↓] theorem Vq (e:bc) (p:PV) (hp:p.width=1) (r:List Step):aM (aZ e p) (.f 7 109::r)=aM (cY e.bH) r:=by simp[aZ,aB,hp]
def De (e:bc) (p:PV) (c:PV):PV:= .st 148 [cO e.rules,e.jz.p,e.zY.p,.int .i64 e.port,e.random.p,.int .i64 e.now,p,c,bL e.aS,cC e.timers,e.n5.p,.int .i64 e.qC,gQ e.dT,eG e.buckets,.int .i64 e.bad]
@[simp↓] theorem Vr (e:bc) (p:PV) (hp:p.width=1) (r:List Step) (x:PV):bT (aZ e p) (.f 7 109::r) x=(bT (cY e.bH) r x).bind λc=>some (De e p c):=by simp[aZ,De,aB,hp]
@[simp↓] theorem acr (e:bc) (p:PV) (v:List vi):De e p (cY v)=aZ {e with bH:=v} p:=_root_.id rfl
@[simp↓] theorem Vs (e:bc) (p:PV) (hp:p.width=1) (r:List Step):aM (aZ e p) (.f 8 110::r)=aM (bL e.aS) r:=by simp[aZ,aB,hp]
def Df (e:bc) (p:PV) (c:PV):PV:= .st 148 [cO e.rules,e.jz.p,e.zY.p,.int .i64 e.port,e.random.p,.int .i64 e.now,p,cY e.bH,c,cC e.timers,e.n5.p,.int .i64 e.qC,gQ e.dT,eG e.buckets,.int .i64 e.bad]
@[simp↓] theorem Vt (e:bc) (p:PV) (hp:p.width=1) (r:List Step) (x:PV):bT (aZ e p) (.f 8 110::r) x=(bT (bL e.aS) r x).bind λc=>some (Df e p c):=by simp[aZ,Df,aB,hp]
@[simp↓] theorem acs (e:bc) (p:PV) (v:List gr):Df e p (bL v)=aZ {e with aS:=v} p:=_root_.id rfl
@[simp↓] theorem Vu (e:bc) (p:PV) (hp:p.width=1) (r:List Step):aM (aZ e p) (.f 9 111::r)=aM (cC e.timers) r:=by simp[aZ,aB,hp]
def Dg (e:bc) (p:PV) (c:PV):PV:= .st 148 [cO e.rules,e.jz.p,e.zY.p,.int .i64 e.port,e.random.p,.int .i64 e.now,p,cY e.bH,bL e.aS,c,e.n5.p,.int .i64 e.qC,gQ e.dT,eG e.buckets,.int .i64 e.bad]
@[simp↓] theorem Vv (e:bc) (p:PV) (hp:p.width=1) (r:List Step) (x:PV):bT (aZ e p) (.f 9 111::r) x=(bT (cC e.timers) r x).bind λc=>some (Dg e p c):=by simp[aZ,Dg,aB,hp]
@[simp↓] theorem acu (e:bc) (p:PV) (v:List cV):Dg e p (cC v)=aZ {e with timers:=v} p:=_root_.id rfl
@[simp↓] theorem SW (e:bc) (p:PV) (hp:p.width=1) (r:List Step):aM (aZ e p) (.f 10 112::r)=aM (e.n5.p) r:=by simp[aZ,aB,hp]
def zZ (e:bc) (p:PV) (c:PV):PV:= .st 148 [cO e.rules,e.jz.p,e.zY.p,.int .i64 e.port,e.random.p,.int .i64 e.now,p,cY e.bH,bL e.aS,cC e.timers,c,.int .i64 e.qC,gQ e.dT,eG e.buckets,.int .i64 e.bad]
@[simp↓] theorem SX (e:bc) (p:PV) (hp:p.width=1) (r:List Step) (x:PV):bT (aZ e p) (.f 10 112::r) x=(bT (e.n5.p) r x).bind λc=>some (zZ e p c):=by simp[aZ,zZ,aB,hp]
@[simp↓] theorem SY (e:bc) (p:PV) (hp:p.width=1) (r:List Step):aM (aZ e p) (.f 11 144::r)=aM (.int .i64 e.qC) r:=by simp[aZ,aB,hp]
@[simp↓] theorem SZ (e:bc) (p:PV) (hp:p.width=1) (r:List Step):aM (aZ e p) (.f 12 145::r)=aM (gQ e.dT) r:=by simp[aZ,aB,hp]
def z6 (e:bc) (p:PV) (c:PV):PV:= .st 148 [cO e.rules,e.jz.p,e.zY.p,.int .i64 e.port,e.random.p,.int .i64 e.now,p,cY e.bH,bL e.aS,cC e.timers,e.n5.p,.int .i64 e.qC,c,eG e.buckets,.int .i64 e.bad]
@[simp↓] theorem S0 (e:bc) (p:PV) (hp:p.width=1) (r:List Step) (x:PV):bT (aZ e p) (.f 12 145::r) x=(bT (gQ e.dT) r x).bind λc=>some (z6 e p c):=by simp[aZ,z6,aB,hp]
@[simp↓] theorem Zl (e:bc) (p:PV) (v:List Int):z6 e p (gQ v)=aZ {e with dT:=v} p:=_root_.id rfl
@[simp↓] theorem S3 (e:bc) (p:PV) (hp:p.width=1) (r:List Step):aM (aZ e p) (.f 13 146::r)=aM (eG e.buckets) r:=by simp[aZ,aB,hp]
def z7 (e:bc) (p:PV) (c:PV):PV:= .st 148 [cO e.rules,e.jz.p,e.zY.p,.int .i64 e.port,e.random.p,.int .i64 e.now,p,cY e.bH,bL e.aS,cC e.timers,e.n5.p,.int .i64 e.qC,gQ e.dT,c,.int .i64 e.bad]
@[simp↓] theorem S4 (e:bc) (p:PV) (hp:p.width=1) (r:List Step) (x:PV):bT (aZ e p) (.f 13 146::r) x=(bT (eG e.buckets) r x).bind λc=>some (z7 e p c):=by simp[aZ,z7,aB,hp]
@[simp↓] theorem Zm (e:bc) (p:PV) (v:List EZ):z7 e p (eG v)=aZ {e with buckets:=v} p:=_root_.id rfl
@[simp↓] theorem S5 (e:bc) (p:PV) (hp:p.width=1) (r:List Step):aM (aZ e p) (.f 14 147::r)=aM (.int .i64 e.bad) r:=by simp[aZ,aB,hp]
@[simp] theorem Gi (f:Nat->Bool) (e:bc) (p:PV):af f (aZ e p)=af f p:=by
 have h1:af f (cO e.rules)=true:=(JZ _).refs f;have h2:af f (cY e.bH)=true:=(H8 _).refs f;have h3:af f (bL e.aS)=true:=(H9 _).refs f;have h4:af f (cC e.timers)=true:=(J0 _).refs f;have h5:af f (gQ e.dT)=true:=(JY _).refs f;have h6:af f (eG e.buckets)=true:=(Ia _).refs f;have g1:af f e.jz.p=true:=(FV.pure e.jz).refs f;have g2:af f e.zY.p=true:=(FV.pure e.zY).refs f;have g3:af f e.random.p=true:=(FV.pure e.random).refs f;have g4:af f e.n5.p=true:=(FV.pure e.n5).refs f;simp[aZ,af,ah]
@[simp] theorem agU (ρ:Nat->Nat) (e:bc) (p:PV):aE ρ (aZ e p)=aZ e (aE ρ p):=by
 simp[aZ,aE,aR]
@[simp] theorem ald (e:bc) (p:PV):wk (aZ e p)=aZ e (wk p):=by simp[aZ]
@[simp] theorem agV (k sz:Nat) (l:List PV) (e:bc) (p:PV):iQ k sz l (aZ e p)=aZ e (iQ k sz l p):=by
 simp[aZ,iQ,jh]
@[simp] theorem Dh (e:bc) {p:PV} (h:Pure p):Pure (aZ e p):=Pure.of (by rw[Gi];exact h.refs _)
def eX (d:bc):PV:=aZ d (kt d.au)
@[simp] theorem E2 (e:bc):Pure (eX e):=by simp[eX]
@[simp] theorem aq1 (e:bc):wk (eX e)=eX e:=by simp[eX]
@[simp↓] theorem ale (g:Bool) (e:bc) (K:PV->Prop):ed g (eX e) K=K (eX e):=_root_.id rfl
@[simp] theorem acv (e:bc):(eX e).width=148:=_root_.id rfl
@[simp] theorem alf (e:bc):(eX e).isAgg=true:=_root_.id rfl
@[simp] theorem agW (e:bc):(eX e).aT=true:=_root_.id rfl
@[simp] theorem agX (e:bc):(eX e).flat=true:=_root_.id rfl
@[simp↓] theorem agY (e:bc) (i o:Nat) (r:List Step):aM (eX e) (.f i o::r)=aM (aZ e (kt e.au)) (.f i o::r):=_root_.id rfl
theorem Di:∀l:List UInt8,ju (.i .u8) (l.map u8)=true
 |[]=>rfl
 |x::l=>by simp[ju,u8,fits,Di l]
@[simp] theorem n6 (k:Key):fits xl (aG k)=true:=by
 simp[aG,fits,Di,k.h,rI]
def Key.fv (k:Key):FV xl:=⟨aG k,n6 k⟩
@[simp] theorem Key.ayK (k:Key):k.fv.p=aG k:=rfl
@[simp] theorem alg (e:Key):PV.beq (aG e) (aG e)=true:=(df _ _ (n6 e)).beq
abbrev atV:Sh:= .st [.i .u64,.i .u64,.i .i64,.i .i64,.i .i64,.i .i64,.i .i64,.i .i64,.i .i64,.i .i64]
@[simp] theorem J1 (e:y7):fits atV (cO e)=true:=by
 simp_all [cO,fits,dz,rI,rK]
@[simp] theorem agZ (e:y7):PV.beq (cO e) (cO e)=true:=(df _ _ (J1 e)).beq
abbrev shA:Sh:= .st [.b,.ar 16 (.i .u8)]
@[simp] theorem Aa (e:iI):fits shA (cP e)=true:=by
 have:=e.h;simp_all [cP,fits,dz,rI,rK,Di]
@[simp] theorem alh (e:iI):PV.beq (cP e) (cP e)=true:=(df _ _ (Aa e)).beq
abbrev shE:Sh:= .st [.st [.b,.ar 16 (.i .u8)],.i .i64]
@[simp] theorem E3 (e:G6):fits shE (ic e)=true:=by
 have:=e.addr.h;simp_all [ic,fits,dz,rI,rK]
@[simp] theorem Qn (e:G6):PV.beq (ic e) (ic e)=true:=(df _ _ (E3 e)).beq
abbrev shX:Sh:= .st [.st [.b,.ar 16 (.i .u8)],.i .i64]
@[simp] theorem Nr (e:xG):fits shX (gC e)=true:=by
 have:=e.addr.h;simp_all [gC,fits,dz,rI,rK]
abbrev atW:Sh:= .st [.st [.st [.b,.ar 16 (.i .u8)],.i .i64],.ar 32 (.i .u8)]
@[simp] theorem J2 (e:vi):fits atW (fY e)=true:=by
 have:=Nr e.D1;have:=n6 e.peer;simp_all [fY,fits,dz,rI,rK]
@[simp] theorem ag0 (e:vi):PV.beq (fY e) (fY e)=true:=(df _ _ (J2 e)).beq
abbrev atX:Sh:= .st [.i .u32,.ar 32 (.i .u8),.b]
@[simp] theorem J3 (e:gr):fits atX (aU e)=true:=by
 have:=n6 e.peer;simp_all [aU,fits,dz,rI,rK]
@[simp] theorem ag1 (e:gr):PV.beq (aU e) (aU e)=true:=(df _ _ (J3 e)).beq
abbrev shT:Sh:= .st [.i .i64,.ar 32 (.i .u8),.i .i64]
@[simp] theorem Ns (e:cV):fits shT (bj e)=true:=by
 have:=n6 e.peer;simp_all [bj,fits,dz,rI,rK]
@[simp] theorem ali (e:cV):PV.beq (bj e) (bj e)=true:=(df _ _ (Ns e)).beq
abbrev atY:Sh:= .st [.st [.b,.ar 16 (.i .u8)],.i .i64,.i .i64]
@[simp] theorem J4 (e:EZ):fits atY (qB e)=true:=by
 have:=Aa e.addr;simp_all [qB,fits,dz,rI,rK]
@[simp] theorem ag2 (e:EZ):PV.beq (qB e) (qB e)=true:=(df _ _ (J4 e)).beq
abbrev shH:Sh:= .st [.b,.i .u32,.ar 32 (.i .u8),.st [.ar 32 (.i .u8),.ar 32 (.i .u8)],.i .i64,.i .i64]
@[simp] theorem E4 (e:Nq):fits shH (mL e)=true:=by
 have:=e.eph.ok;have:=e.Y9.ok;simp_all [mL,fits,dz,rI,rK]
@[simp] theorem Qo (e:Nq):PV.beq (mL e) (mL e)=true:=(df _ _ (E4 e)).beq
abbrev atZ:Sh:= .st [.i .u32,.i .u32,.ar 32 (.i .u8),.ar 32 (.i .u8),.i .u64,.i .u64,.st [.b,.i .u64,.ar 4 (.i .u64)],.i .i64,.b]
@[simp] theorem Nt (e:ld):fits atZ (fa e)=true:=by
 have:=e.send.ok;have:=e.recv.ok;have:=e.G4.ok;simp_all [fa,fits,dz,rI,rK]
abbrev at0:Sh:= .st [.b,.st [.i .u32,.i .u32,.ar 32 (.i .u8),.ar 32 (.i .u8),.i .u64,.i .u64,.st [.b,.i .u64,.ar 4 (.i .u64)],.i .i64,.b]]
@[simp] theorem sQ (e:uL):fits at0 (ib e)=true:=by
 have:=Nt e.nn;simp_all [ib,fits,dz,rI,rK]
@[simp] theorem Ic (e:uL):PV.beq (ib e) (ib e)=true:=(df _ _ (sQ e)).beq
abbrev at1:Sh:= .st [.st [.b,.st [.i .u32,.i .u32,.ar 32 (.i .u8),.ar 32 (.i .u8),.i .u64,.i .u64,.st [.b,.i .u64,.ar 4 (.i .u64)],.i .i64,.b]],.st [.b,.st [.i .u32,.i .u32,.ar 32 (.i .u8),.ar 32 (.i .u8),.i .u64,.i .u64,.st [.b,.i .u64,.ar 4 (.i .u64)],.i .i64,.b]],.st [.b,.st [.i .u32,.i .u32,.ar 32 (.i .u8),.ar 32 (.i .u8),.i .u64,.i .u64,.st [.b,.i .u64,.ar 4 (.i .u64)],.i .i64,.b]]]
@[simp] theorem Nu (e:ss):fits at1 (iH e)=true:=by
 have:=sQ e.p;have:=sQ e.c;have:=sQ e.n;simp_all [iH,fits,dz,rI,rK]
@[simp] theorem alj (e:ss):PV.beq (iH e) (iH e)=true:=(df _ _ (Nu e)).beq
end Go.Ab
