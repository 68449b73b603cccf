/- Walks of functions, part 1. No condition. -/
import Derived.Test.YtddacpkeacbjfaaGreatDoorSF1
import Derived.Test.YtddacpkeacbjfaaGreatDoorSF2
import Derived.Test.YtddacpkeacbjfaaGreatDoorSF3
import Derived.Test.YtddacpkeacbjfaaGreatDoorSF4
import Derived.Test.YtddacpkeacbjfaaGreatDoorSF5
import Derived.Test.YtddacpkeacbjfaaGreatDoorSF6
import Derived.Test.YtddacpkeacbjfaaGreatDoorA5
set_option linter.all false
noncomputable section
namespace Go.Ab
open Go.Ab
@[simp] theorem zfo:(Classical.choice PI).f=zr:=rfl
abbrev gV:Sh:= .ar 32 (.i .u8)
@[simp] theorem axl:qi gV=32:=rfl
@[simp] theorem alA:Sh.agg gV=true:=rfl
abbrev uo:Sh:= .st [.b,.i .u64,.ar 4 (.i .u64)]
@[simp] theorem axm:qi uo=6:=rfl
@[simp] theorem alB:Sh.agg uo=true:=rfl
abbrev KC:Sh:= .st [.ar 32 (.i .u8),.ar 32 (.i .u8)]
@[simp] theorem axn:qi KC=64:=rfl
@[simp] theorem alC:Sh.agg KC=true:=rfl
abbrev uq:Sh:= .ar 16 (.i .u8)
@[simp] theorem axq:qi uq=16:=rfl
@[simp] theorem alD:Sh.agg uq=true:=rfl
abbrev Wp:Sh:= .ar 12 (.i .u8)
@[simp] theorem axr:qi Wp=12:=rfl
@[simp] theorem alE:Sh.agg Wp=true:=rfl
def cy (b:(Zz)):PV:= .sl 1 (b.map u8) false
@[simp] def vo (e:(Zz)):Pure (cy e):=by simp[cy]
@[simp] theorem auE (e:(Zz)):wk (cy e)=cy e:=by simp[cy]
@[simp↓] theorem alF (g:Bool) (e:(Zz)) (K:W7):eT g (cy e) K=K (cy e):=_root_.id rfl
@[simp] theorem ady (e:(Zz)):(cy e).width=1:=_root_.id rfl
@[simp] theorem alG (e:(Zz)):(cy e).isAgg=false:=_root_.id rfl
@[simp] theorem ahA (e:(Zz)):(cy e).aV=true:=_root_.id rfl
@[simp] theorem auF (l:List (Zz)):aB (l.map cy):=aL vo l
@[simp↓] theorem ahB (s:St) (K:W7) (l:Zz):yZ s K (cy l)=K (.int .i64 l.length):=by simp[cy]
@[simp↓] theorem adz (s:St) (sz:Nat) (j:Int) (K:W7) (l:Zz):pN s sz j K (cy l)=((1=sz∧0≤j∧j<l.length)∧K (.fp sz (l.map u8) [.i j.toNat sz])):=by simp[cy]
@[simp↓] theorem ahC (s:St) (K:Nat->WG->Prop) (l:Zz):AY s K (cy l)=K 1 (l.map u8):=by simp[cy]
def ey (l:(List (Zz))):PV:= .sl 1 (l.map cy) false
@[simp] def adA (e:(List (Zz))):Pure (ey e):=by simp[ey]
@[simp] theorem alH (e:(List (Zz))):wk (ey e)=ey e:=by simp[ey]
@[simp↓] theorem ahD (g:Bool) (e:(List (Zz))) (K:W7):eT g (ey e) K=K (ey e):=_root_.id rfl
@[simp] theorem aac (e:(List (Zz))):(ey e).width=1:=_root_.id rfl
@[simp] theorem ahE (e:(List (Zz))):(ey e).isAgg=false:=_root_.id rfl
@[simp] theorem adB (e:(List (Zz))):(ey e).aV=true:=_root_.id rfl
@[simp↓] theorem adC (s:St) (K:W7) (l:List (Zz)):yZ s K (ey l)=K (.int .i64 l.length):=by simp[ey]
@[simp↓] theorem aad (s:St) (sz:Nat) (j:Int) (K:W7) (l:List (Zz)):pN s sz j K (ey l)=((1=sz∧0≤j∧j<l.length)∧K (.fp sz (l.map cy) [.i j.toNat sz])):=by simp[ey]
def ee (l:(WQ)):PV:= .sl 1 (l.map (λn:Int=>PV.int .i64 n)) false
@[simp] def C0 (e:(WQ)):Pure (ee e):=by simp[ee]
@[simp] theorem alI (e:(WQ)):wk (ee e)=ee e:=by simp[ee]
@[simp↓] theorem ahF (g:Bool) (e:(WQ)) (K:W7):eT g (ee e) K=K (ee e):=_root_.id rfl
@[simp] theorem aae (e:(WQ)):(ee e).width=1:=_root_.id rfl
@[simp] theorem ahG (e:(WQ)):(ee e).isAgg=false:=_root_.id rfl
@[simp] theorem adD (e:(WQ)):(ee e).aV=true:=_root_.id rfl
@[simp↓] theorem adE (s:St) (K:W7) (l:WQ):yZ s K (ee l)=K (.int .i64 l.length):=by simp[ee]
@[simp↓] theorem aaf (s:St) (sz:Nat) (j:Int) (K:W7) (l:WQ):pN s sz j K (ee l)=((1=sz∧0≤j∧j<l.length)∧K (.fp sz (l.map (λn:Int=>PV.int .i64 n)) [.i j.toNat sz])):=by simp[ee]
def lr (l:(WQ)):PV:= .sl 1 (l.map (λn:Int=>PV.int .u32 n)) false
@[simp] def ahH (e:(WQ)):Pure (lr e):=by simp[lr]
@[simp] theorem auG (e:(WQ)):wk (lr e)=lr e:=by simp[lr]
@[simp↓] theorem alJ (g:Bool) (e:(WQ)) (K:W7):eT g (lr e) K=K (lr e):=_root_.id rfl
@[simp] theorem ahI (e:(WQ)):(lr e).flat=true:=_root_.id rfl
@[simp↓] theorem ahJ (s:St) (K:W7) (l:WQ):yZ s K (lr l)=K (.int .i64 l.length):=by simp[lr]
@[simp↓] theorem adF (s:St) (sz:Nat) (j:Int) (K:W7) (l:WQ):pN s sz j K (lr l)=((1=sz∧0≤j∧j<l.length)∧K (.fp sz (l.map (λn:Int=>PV.int .u32 n)) [.i j.toNat sz])):=by simp[lr]
structure Key where
 l:Zz
 h:l.length=32
def bW (k:Key):PV:= .ar 1 32 (k.l.map u8)
@[simp] def Ow (e:Key):Pure (bW e):=by simp[bW]
@[simp] theorem auH (e:Key):wk (bW e)=bW e:=by simp[bW]
@[simp↓] theorem alK (g:Bool) (e:Key) (K:W7):eT g (bW e) K=K (bW e):=_root_.id rfl
@[simp] theorem adG (e:Key):(bW e).width=32:=_root_.id rfl
@[simp] theorem alL (e:Key):(bW e).isAgg=true:=_root_.id rfl
@[simp] theorem ahK (e:Key):(bW e).aV=true:=_root_.id rfl
@[simp] theorem ahL (e:Key):(bW e).flat=true:=_root_.id rfl
structure jx where
 loc:Int
 rem:Int
 send:FV gV
 recv:FV gV
 next:Int
 eY:Int
 tC:FV uo
 born:Int
 Mt:Bool
def dQ (s:jx):PV:= .st 76 [.int .u32 s.loc,.int .u32 s.rem,s.send.p,s.recv.p,.int .u64 s.next,.int .u64 s.eY,s.tC.p,.int .i64 s.born,.bl s.Mt]
@[simp] def ahM (e:jx):Pure (dQ e):=by simp[dQ]
@[simp] theorem auI (e:jx):wk (dQ e)=dQ e:=by simp[dQ]
@[simp↓] theorem alM (g:Bool) (e:jx) (K:W7):eT g (dQ e) K=K (dQ e):=_root_.id rfl
@[simp] theorem adH (e:jx):(dQ e).width=76:=_root_.id rfl
@[simp] theorem alN (e:jx):(dQ e).isAgg=true:=_root_.id rfl
@[simp] theorem ahN (e:jx):(dQ e).aV=true:=_root_.id rfl
@[simp] theorem ahO (e:jx):(dQ e).flat=true:=_root_.id rfl
@[simp↓] theorem aag (e:jx) (r:Zy):aO (dQ e) (.f 0 0::r)=aO (.int .u32 e.loc) r:=by simp[dQ]
@[simp↓] theorem aah (e:jx) (r:Zy):aO (dQ e) (.f 1 1::r)=aO (.int .u32 e.rem) r:=by simp[dQ,au]
@[simp↓] theorem aai (e:jx) (r:Zy):aO (dQ e) (.f 2 2::r)=aO (e.send.p) r:=by simp[dQ,au]
def Gc (e:jx) (c:PV):PV:= .st 76 [.int .u32 e.loc,.int .u32 e.rem,c,e.recv.p,.int .u64 e.next,.int .u64 e.eY,e.tC.p,.int .i64 e.born,.bl e.Mt]
@[simp↓] def aaj (e:jx) (r:Zy) (x:PV):cu (dQ e) (.f 2 2::r) x=(cu (e.send.p) r x).bind λc=>some (Gc e c):=by simp[dQ,Gc,au]
def Ge (e:jx) (c:PV):PV:= .st 76 [.int .u32 e.loc,.int .u32 e.rem,e.send.p,c,.int .u64 e.next,.int .u64 e.eY,e.tC.p,.int .i64 e.born,.bl e.Mt]
@[simp↓] def aak (e:jx) (r:Zy) (x:PV):cu (dQ e) (.f 3 34::r) x=(cu (e.recv.p) r x).bind λc=>some (Ge e c):=by simp[dQ,Ge,au]
@[simp↓] theorem aal (e:jx) (r:Zy):aO (dQ e) (.f 4 66::r)=aO (.int .u64 e.next) r:=by simp[dQ,au]
def Gf (e:jx) (c:PV):PV:= .st 76 [.int .u32 e.loc,.int .u32 e.rem,e.send.p,e.recv.p,c,.int .u64 e.eY,e.tC.p,.int .i64 e.born,.bl e.Mt]
@[simp↓] def aam (e:jx) (r:Zy) (x:PV):cu (dQ e) (.f 4 66::r) x=(cu (.int .u64 e.next) r x).bind λc=>some (Gf e c):=by simp[dQ,Gf,au]
@[simp↓] theorem ahP (e:jx) (v:Int):Gf e (.int .u64 v)=dQ {e with next:=v}:=_root_.id rfl
@[simp↓] theorem aan (e:jx) (r:Zy):aO (dQ e) (.f 5 67::r)=aO (.int .u64 e.eY) r:=by simp[dQ,au]
@[simp↓] theorem aao (e:jx) (r:Zy):aO (dQ e) (.f 6 68::r)=aO (e.tC.p) r:=by simp[dQ,au]
def Bz (e:jx) (c:PV):PV:= .st 76 [.int .u32 e.loc,.int .u32 e.rem,e.send.p,e.recv.p,.int .u64 e.next,.int .u64 e.eY,c,.int .i64 e.born,.bl e.Mt]
@[simp↓] def aap (e:jx) (r:Zy) (x:PV):cu (dQ e) (.f 6 68::r) x=(cu (e.tC.p) r x).bind λc=>some (Bz e c):=by simp[dQ,Bz,au]
@[simp↓] theorem ahQ (e:jx) (v:FV uo):Bz e (v.p)=dQ {e with tC:=v}:=_root_.id rfl
@[simp↓] theorem aaq (e:jx) (r:Zy):aO (dQ e) (.f 7 74::r)=aO (.int .i64 e.born) r:=by simp[dQ,au]
@[simp↓] theorem aar (e:jx) (r:Zy):aO (dQ e) (.f 8 75::r)=aO (.bl e.Mt) r:=by simp[dQ,au]
structure nU where
 has:Bool
 eM:jx
def gq (p:nU):PV:= .st 77 [.bl p.has,dQ p.eM]
@[simp] def ahR (e:nU):Pure (gq e):=by simp[gq]
@[simp] theorem auJ (e:nU):wk (gq e)=gq e:=by simp[gq]
@[simp↓] theorem alO (g:Bool) (e:nU) (K:W7):eT g (gq e) K=K (gq e):=_root_.id rfl
@[simp] theorem adI (e:nU):(gq e).width=77:=_root_.id rfl
@[simp] theorem alP (e:nU):(gq e).isAgg=true:=_root_.id rfl
@[simp] theorem ahS (e:nU):(gq e).aV=true:=_root_.id rfl
@[simp] theorem ahT (e:nU):(gq e).flat=true:=_root_.id rfl
@[simp↓] theorem aas (e:nU) (r:Zy):aO (gq e) (.f 0 0::r)=aO (.bl e.has) r:=by simp[gq]
@[simp↓] theorem aat (e:nU) (r:Zy):aO (gq e) (.f 1 1::r)=aO (dQ e.eM) r:=by simp[gq,au]
def Gg (e:nU) (c:PV):PV:= .st 77 [.bl e.has,c]
@[simp↓] def aau (e:nU) (r:Zy) (x:PV):cu (gq e) (.f 1 1::r) x=(cu (dQ e.eM) r x).bind λc=>some (Gg e c):=by simp[gq,Gg,au]
@[simp↓] theorem ahU (e:nU) (v:jx):Gg e (dQ v)=gq {e with eM:=v}:=_root_.id rfl
structure lU where
 p:nU
 c:nU
 n:nU
def dt (r:lU):PV:= .st 231 [gq r.p,gq r.c,gq r.n]
@[simp] def Ox (e:lU):Pure (dt e):=by simp[dt]
@[simp] theorem auK (e:lU):wk (dt e)=dt e:=by simp[dt]
@[simp↓] theorem alQ (g:Bool) (e:lU) (K:W7):eT g (dt e) K=K (dt e):=_root_.id rfl
@[simp] theorem adJ (e:lU):(dt e).width=231:=_root_.id rfl
@[simp] theorem alR (e:lU):(dt e).isAgg=true:=_root_.id rfl
@[simp] theorem ahV (e:lU):(dt e).aV=true:=_root_.id rfl
@[simp↓] theorem aav (e:lU) (r:Zy):aO (dt e) (.f 0 0::r)=aO (gq e.p) r:=by simp[dt]
@[simp↓] theorem aaw (e:lU) (r:Zy):aO (dt e) (.f 1 77::r)=aO (gq e.c) r:=by simp[dt,au]
def Gh (e:lU) (c:PV):PV:= .st 231 [gq e.p,c,gq e.n]
@[simp↓] def aax (e:lU) (r:Zy) (x:PV):cu (dt e) (.f 1 77::r) x=(cu (gq e.c) r x).bind λc=>some (Gh e c):=by simp[dt,Gh,au]
@[simp↓] theorem ahW (e:lU) (v:nU):Gh e (gq v)=dt {e with c:=v}:=_root_.id rfl
@[simp↓] theorem aay (e:lU) (r:Zy):aO (dt e) (.f 2 154::r)=aO (gq e.n) r:=by simp[dt,au]
structure yx where
 zd:Int
 pV:Int
 C1:Int
 iP:Int
 att:Int
 ret:Int
 Gi:Int
 cot:Int
 load:Int
 fU:Int
def cQ (r:yx):PV:= .st 10 [.int .u64 r.zd,.int .u64 r.pV,.int .i64 r.C1,.int .i64 r.iP,.int .i64 r.att,.int .i64 r.ret,.int .i64 r.Gi,.int .i64 r.cot,.int .i64 r.load,.int .i64 r.fU]
@[simp] def C2 (e:yx):Pure (cQ e):=by simp[cQ]
@[simp] theorem alT (e:yx):wk (cQ e)=cQ e:=by simp[cQ]
@[simp↓] theorem ahX (g:Bool) (e:yx) (K:W7):eT g (cQ e) K=K (cQ e):=_root_.id rfl
@[simp] theorem aaz (e:yx):(cQ e).width=10:=_root_.id rfl
@[simp] theorem ahY (e:yx):(cQ e).isAgg=true:=_root_.id rfl
@[simp] theorem adM (e:yx):(cQ e).aV=true:=_root_.id rfl
@[simp↓] theorem Wq (e:yx) (r:Zy):aO (cQ e) (.f 0 0::r)=aO (.int .u64 e.zd) r:=by simp[cQ]
@[simp↓] theorem Wr (e:yx) (r:Zy):aO (cQ e) (.f 1 1::r)=aO (.int .u64 e.pV) r:=by simp[cQ,au]
@[simp↓] theorem Ws (e:yx) (r:Zy):aO (cQ e) (.f 2 2::r)=aO (.int .i64 e.C1) r:=by simp[cQ,au]
@[simp↓] theorem Wt (e:yx) (r:Zy):aO (cQ e) (.f 3 3::r)=aO (.int .i64 e.iP) r:=by simp[cQ,au]
@[simp↓] theorem LdL (e:yx) (r:Zy):aO (cQ e) (.f 4 4::r)=aO (.int .i64 e.att) r:=by simp[cQ,au]
@[simp↓] theorem Wv (e:yx) (r:Zy):aO (cQ e) (.f 5 5::r)=aO (.int .i64 e.ret) r:=by simp[cQ,au]
@[simp↓] theorem LeX (e:yx) (r:Zy):aO (cQ e) (.f 6 6::r)=aO (.int .i64 e.Gi) r:=by simp[cQ,au]
@[simp↓] theorem Wx (e:yx) (r:Zy):aO (cQ e) (.f 7 7::r)=aO (.int .i64 e.cot) r:=by simp[cQ,au]
@[simp↓] theorem Wy (e:yx) (r:Zy):aO (cQ e) (.f 8 8::r)=aO (.int .i64 e.load) r:=by simp[cQ,au]
@[simp↓] theorem Wz (e:yx) (r:Zy):aO (cQ e) (.f 9 9::r)=aO (.int .i64 e.fU) r:=by simp[cQ,au]
structure iC where
 lV:Bool
 ip:Zz
 h:ip.length=16
def cV (a:iC):PV:= .st 17 [.bl a.lV,.ar 1 16 (a.ip.map u8)]
@[simp] def ahZ (e:iC):Pure (cV e):=by simp[cV]
@[simp] theorem auL (e:iC):wk (cV e)=cV e:=by simp[cV]
@[simp↓] theorem alU (g:Bool) (e:iC) (K:W7):eT g (cV e) K=K (cV e):=_root_.id rfl
@[simp] theorem adN (e:iC):(cV e).width=17:=_root_.id rfl
@[simp] theorem alV (e:iC):(cV e).isAgg=true:=_root_.id rfl
@[simp] theorem ah0 (e:iC):(cV e).aV=true:=_root_.id rfl
@[simp↓] theorem aaA (e:iC) (r:Zy):aO (cV e) (.f 0 0::r)=aO (.bl e.lV) r:=by simp[cV]
@[simp↓] theorem aaB (e:iC) (r:Zy):aO (cV e) (.f 1 1::r)=aO (.ar 1 16 (e.ip.map u8)) r:=by simp[cV,au]
def xS (e:iC) (c:PV):PV:= .st 17 [.bl e.lV,c]
@[simp↓] def aaC (e:iC) (r:Zy) (x:PV):cu (cV e) (.f 1 1::r) x=(cu (.ar 1 16 (e.ip.map u8)) r x).bind λc=>some (xS e c):=by simp[cV,xS,au]
structure Jt where
 addr:iC
 port:Int
def fc (e:Jt):PV:= .st 18 [cV e.addr,.int .i64 e.port]
@[simp] def Oy (e:Jt):Pure (fc e):=by simp[fc]
@[simp] theorem auM (e:Jt):wk (fc e)=fc e:=by simp[fc]
@[simp↓] theorem alW (g:Bool) (e:Jt) (K:W7):eT g (fc e) K=K (fc e):=_root_.id rfl
@[simp] theorem adO (e:Jt):(fc e).width=18:=_root_.id rfl
@[simp] theorem alX (e:Jt):(fc e).isAgg=true:=_root_.id rfl
@[simp] theorem ah1 (e:Jt):(fc e).aV=true:=_root_.id rfl
@[simp↓] theorem aaD (e:Jt) (r:Zy):aO (fc e) (.f 0 0::r)=aO (cV e.addr) r:=by simp[fc]
@[simp↓] theorem aaE (e:Jt) (r:Zy):aO (fc e) (.f 1 17::r)=aO (.int .i64 e.port) r:=by simp[fc,au]
structure Ip where
 addr:iC
 bits:Int
def gW (e:Ip):PV:= .st 18 [cV e.addr,.int .i64 e.bits]
@[simp] def ah2 (e:Ip):Pure (gW e):=by simp[gW]
@[simp] theorem auN (e:Ip):wk (gW e)=gW e:=by simp[gW]
@[simp↓] theorem alY (g:Bool) (e:Ip) (K:W7):eT g (gW e) K=K (gW e):=_root_.id rfl
@[simp] theorem adQ (e:Ip):(gW e).width=18:=_root_.id rfl
@[simp] theorem alZ (e:Ip):(gW e).isAgg=true:=_root_.id rfl
@[simp] theorem ah3 (e:Ip):(gW e).aV=true:=_root_.id rfl
@[simp↓] theorem aaF (e:Ip) (r:Zy):aO (gW e) (.f 0 0::r)=aO (cV e.addr) r:=by simp[gW]
@[simp↓] theorem aaG (e:Ip) (r:Zy):aO (gW e) (.f 1 17::r)=aO (.int .i64 e.bits) r:=by simp[gW,au]
structure sc where
 rq:Ip
 peer:Key
def ji (r:sc):PV:= .st 50 [gW r.rq,bW r.peer]
@[simp] def KD (e:sc):Pure (ji e):=by simp[ji]
@[simp] theorem RE (e:sc):wk (ji e)=ji e:=by simp[ji]
@[simp↓] theorem ah4 (g:Bool) (e:sc) (K:W7):eT g (ji e) K=K (ji e):=_root_.id rfl
@[simp] theorem aaH (e:sc):(ji e).width=50:=_root_.id rfl
@[simp] theorem ah5 (e:sc):(ji e).isAgg=true:=_root_.id rfl
@[simp] theorem adR (e:sc):(ji e).aV=true:=_root_.id rfl
@[simp] theorem al0 (l:List sc):aB (l.map ji):=aL KD l
@[simp] theorem al1 (l:List sc):gI (l.map ji)=l.map ji:=sO RE l
@[simp↓] theorem WA (e:sc) (r:Zy):aO (ji e) (.f 0 0::r)=aO (gW e.rq) r:=by simp[ji]
@[simp↓] theorem WB (e:sc) (r:Zy):aO (ji e) (.f 1 18::r)=aO (bW e.peer) r:=by simp[ji,au]
def cR (l:(List sc)):PV:= .sl 50 (l.map ji) false
@[simp] def AA (e:(List sc)):Pure (cR e):=by simp[cR]
@[simp] theorem ah6 (e:(List sc)):wk (cR e)=cR e:=by simp[cR]
@[simp↓] theorem adS (g:Bool) (e:(List sc)) (K:W7):eT g (cR e) K=K (cR e):=_root_.id rfl
@[simp] theorem WC (e:(List sc)):(cR e).width=1:=_root_.id rfl
@[simp] theorem adT (e:(List sc)):(cR e).isAgg=false:=_root_.id rfl
@[simp] theorem aaI (e:(List sc)):(cR e).aV=true:=_root_.id rfl
@[simp↓] theorem aaJ (s:St) (K:W7) (l:List sc):yZ s K (cR l)=K (.int .i64 l.length):=by simp[cR]
@[simp↓] theorem LbX (s:St) (sz:Nat) (j:Int) (K:W7) (l:List sc):pN s sz j K (cR l)=((50=sz∧0≤j∧j<l.length)∧K (.fp sz (l.map ji) [.i j.toNat sz])):=by simp[cR]
structure cG where
 index:Int
 peer:Key
 eM:Bool
def aZ (s:cG):PV:= .st 34 [.int .u32 s.index,bW s.peer,.bl s.eM]
@[simp] def fB (e:cG):Pure (aZ e):=by simp[aZ]
@[simp] theorem RG (e:cG):wk (aZ e)=aZ e:=by simp[aZ]
@[simp↓] theorem ah7 (g:Bool) (e:cG) (K:W7):eT g (aZ e) K=K (aZ e):=_root_.id rfl
@[simp] theorem aaK (e:cG):(aZ e).width=34:=_root_.id rfl
@[simp] theorem ah8 (e:cG):(aZ e).isAgg=true:=_root_.id rfl
@[simp] theorem adU (e:cG):(aZ e).aV=true:=_root_.id rfl
@[simp] theorem adV (e:cG):(aZ e).flat=true:=_root_.id rfl
@[simp] theorem al2 (l:List cG):aB (l.map aZ):=aL fB l
@[simp] theorem al3 (l:List cG):gI (l.map aZ)=l.map aZ:=sO RG l
@[simp↓] theorem WE (e:cG) (r:Zy):aO (aZ e) (.f 0 0::r)=aO (.int .u32 e.index) r:=by simp[aZ]
@[simp↓] theorem LaL (e:cG) (r:Zy):aO (aZ e) (.f 1 1::r)=aO (bW e.peer) r:=by simp[aZ,au]
@[simp↓] theorem WH (e:cG) (r:Zy):aO (aZ e) (.f 2 33::r)=aO (.bl e.eM) r:=by simp[aZ,au]
def bQ (l:(List cG)):PV:= .sl 34 (l.map aZ) false
@[simp] def Iq (e:(List cG)):Pure (bQ e):=by simp[bQ]
@[simp] theorem ah9 (e:(List cG)):wk (bQ e)=bQ e:=by simp[bQ]
@[simp↓] theorem adW (g:Bool) (e:(List cG)) (K:W7):eT g (bQ e) K=K (bQ e):=_root_.id rfl
@[simp] theorem WJ (e:(List cG)):(bQ e).width=1:=_root_.id rfl
@[simp] theorem adX (e:(List cG)):(bQ e).isAgg=false:=_root_.id rfl
@[simp] theorem aaL (e:(List cG)):(bQ e).aV=true:=_root_.id rfl
@[simp↓] theorem aaM (s:St) (K:W7) (l:List cG):yZ s K (bQ l)=K (.int .i64 l.length):=by simp[bQ]
@[simp↓] theorem WK (s:St) (sz:Nat) (j:Int) (K:W7) (l:List cG):pN s sz j K (bQ l)=((34=sz∧0≤j∧j<l.length)∧K (.fp sz (l.map aZ) [.i j.toNat sz])):=by simp[bQ]
structure cZ where
 at_:Int
 peer:Key
 kind:Int
def bn (t:cZ):PV:= .st 34 [.int .i64 t.at_,bW t.peer,.int .i64 t.kind]
@[simp] def jN (e:cZ):Pure (bn e):=by simp[bn]
@[simp] theorem auO (e:cZ):wk (bn e)=bn e:=by simp[bn]
@[simp↓] theorem al4 (g:Bool) (e:cZ) (K:W7):eT g (bn e) K=K (bn e):=_root_.id rfl
@[simp] theorem adY (e:cZ):(bn e).width=34:=_root_.id rfl
@[simp] theorem al5 (e:cZ):(bn e).isAgg=true:=_root_.id rfl
@[simp] theorem aia (e:cZ):(bn e).aV=true:=_root_.id rfl
@[simp] theorem auP (l:List cZ):aB (l.map bn):=aL jN l
@[simp↓] theorem aaN (e:cZ) (r:Zy):aO (bn e) (.f 0 0::r)=aO (.int .i64 e.at_) r:=by simp[bn]
@[simp↓] theorem aaO (e:cZ) (r:Zy):aO (bn e) (.f 1 1::r)=aO (bW e.peer) r:=by simp[bn,au]
@[simp↓] theorem aaP (e:cZ) (r:Zy):aO (bn e) (.f 2 33::r)=aO (.int .i64 e.kind) r:=by simp[bn,au]
def bM (l:(List cZ)):PV:= .sl 34 (l.map bn) false
@[simp] def wN (e:(List cZ)):Pure (bM e):=by simp[bM]
@[simp] theorem al6 (e:(List cZ)):wk (bM e)=bM e:=by simp[bM]
@[simp↓] theorem aib (g:Bool) (e:(List cZ)) (K:W7):eT g (bM e) K=K (bM e):=_root_.id rfl
@[simp] theorem aaQ (e:(List cZ)):(bM e).width=1:=_root_.id rfl
@[simp] theorem aic (e:(List cZ)):(bM e).isAgg=false:=_root_.id rfl
@[simp] theorem adZ (e:(List cZ)):(bM e).aV=true:=_root_.id rfl
@[simp↓] theorem ad0 (s:St) (K:W7) (l:List cZ):yZ s K (bM l)=K (.int .i64 l.length):=by simp[bM]
@[simp↓] theorem aaR (s:St) (sz:Nat) (j:Int) (K:W7) (l:List cZ):pN s sz j K (bM l)=((34=sz∧0≤j∧j<l.length)∧K (.fp sz (l.map bn) [.i j.toNat sz])):=by simp[bM]
structure vW where
 addr:iC
 tokens:Int
 at_:Int
def kE (b:vW):PV:= .st 19 [cV b.addr,.int .i64 b.tokens,.int .i64 b.at_]
@[simp] def ad1 (e:vW):Pure (kE e):=by simp[kE]
@[simp] theorem al7 (e:vW):wk (kE e)=kE e:=by simp[kE]
@[simp↓] theorem aid (g:Bool) (e:vW) (K:W7):eT g (kE e) K=K (kE e):=_root_.id rfl
@[simp] theorem aaS (e:vW):(kE e).width=19:=_root_.id rfl
@[simp] theorem aie (e:vW):(kE e).isAgg=true:=_root_.id rfl
@[simp] theorem ad3 (e:vW):(kE e).aV=true:=_root_.id rfl
@[simp↓] theorem WL (e:vW) (r:Zy):aO (kE e) (.f 0 0::r)=aO (cV e.addr) r:=by simp[kE]
@[simp↓] theorem WM (e:vW) (r:Zy):aO (kE e) (.f 1 17::r)=aO (.int .i64 e.tokens) r:=by simp[kE,au]
@[simp↓] theorem WN (e:vW) (r:Zy):aO (kE e) (.f 2 18::r)=aO (.int .i64 e.at_) r:=by simp[kE,au]
def dA (l:(List vW)):PV:= .sl 19 (l.map kE) false
@[simp] def AD (e:(List vW)):Pure (dA e):=by simp[dA]
@[simp] theorem aif (e:(List vW)):wk (dA e)=dA e:=by simp[dA]
@[simp↓] theorem ad4 (g:Bool) (e:(List vW)) (K:W7):eT g (dA e) K=K (dA e):=_root_.id rfl
@[simp] theorem LcL (e:(List vW)):(dA e).width=1:=_root_.id rfl
@[simp] theorem ad5 (e:(List vW)):(dA e).isAgg=false:=_root_.id rfl
@[simp] theorem aaT (e:(List vW)):(dA e).aV=true:=_root_.id rfl
@[simp↓] theorem aaU (s:St) (K:W7) (l:List vW):yZ s K (dA l)=K (.int .i64 l.length):=by simp[dA]
@[simp↓] theorem LcY (s:St) (sz:Nat) (j:Int) (K:W7) (l:List vW):pN s sz j K (dA l)=((19=sz∧0≤j∧j<l.length)∧K (.fp sz (l.map kE) [.i j.toNat sz])):=by simp[dA]
structure G7 where
 has:Bool
 loc:Int
 eph:FV gV
 aaV:FV KC
 started:Int
 xT:Int
def ij (h:G7):PV:= .st 100 [.bl h.has,.int .u32 h.loc,h.eph.p,h.aaV.p,.int .i64 h.started,.int .i64 h.xT]
@[simp] def Oz (e:G7):Pure (ij e):=by simp[ij]
@[simp] theorem auQ (e:G7):wk (ij e)=ij e:=by simp[ij]
@[simp↓] theorem al8 (g:Bool) (e:G7) (K:W7):eT g (ij e) K=K (ij e):=_root_.id rfl
@[simp] theorem ad6 (e:G7):(ij e).width=100:=_root_.id rfl
@[simp] theorem al9 (e:G7):(ij e).isAgg=true:=_root_.id rfl
@[simp] theorem aih (e:G7):(ij e).aV=true:=_root_.id rfl
@[simp↓] theorem aaW (e:G7) (r:Zy):aO (ij e) (.f 0 0::r)=aO (.bl e.has) r:=by simp[ij]
@[simp↓] theorem aaX (e:G7) (r:Zy):aO (ij e) (.f 1 1::r)=aO (.int .u32 e.loc) r:=by simp[ij,au]
@[simp↓] theorem aaY (e:G7) (r:Zy):aO (ij e) (.f 4 98::r)=aO (.int .i64 e.started) r:=by simp[ij,au]
@[simp↓] theorem aaZ (e:G7) (r:Zy):aO (ij e) (.f 5 99::r)=aO (.int .i64 e.xT) r:=by simp[ij,au]
structure bE where
 cK:Key
 shared:FV gV
 ff:Bool
 ep:Jt
 ik:Int
 tF:FV Wp
 oz:Bool
 pW:Int
 hand:G7
 jj:Bool
 kU:FV uq
 kV:Int
 yy:FV uq
 ring:lU
 aM:List (Zz)
def aH (p:bE):PV:= .st 464 [bW p.cK,p.shared.p,.bl p.ff,fc p.ep,.int .i64 p.ik,p.tF.p,.bl p.oz,.int .i64 p.pW,ij p.hand,.bl p.jj,p.kU.p,.int .i64 p.kV,p.yy.p,dt p.ring,ey p.aM]
@[simp] def bh (e:bE):Pure (aH e):=by simp[aH]
@[simp] theorem ama (e:bE):wk (aH e)=aH e:=by simp[aH]
@[simp↓] theorem aii (g:Bool) (e:bE) (K:W7):eT g (aH e) K=K (aH e):=_root_.id rfl
@[simp] theorem aa0 (e:bE):(aH e).width=464:=_root_.id rfl
@[simp] theorem aij (e:bE):(aH e).isAgg=true:=_root_.id rfl
@[simp] theorem ad7 (e:bE):(aH e).aV=true:=_root_.id rfl
@[simp] theorem amb (l:List bE):aB (l.map aH):=aL bh l
@[simp↓] theorem WR (e:bE) (r:Zy):aO (aH e) (.f 0 0::r)=aO (bW e.cK) r:=by simp[aH]
@[simp↓] theorem WS (e:bE) (r:Zy):aO (aH e) (.f 1 32::r)=aO (e.shared.p) r:=by simp[aH,au]
@[simp↓] theorem WT (e:bE) (r:Zy):aO (aH e) (.f 2 64::r)=aO (.bl e.ff) r:=by simp[aH,au]
@[simp↓] theorem WV (e:bE) (r:Zy):aO (aH e) (.f 3 65::r)=aO (fc e.ep) r:=by simp[aH,au]
@[simp↓] theorem WW (e:bE) (r:Zy):aO (aH e) (.f 4 83::r)=aO (.int .i64 e.ik) r:=by simp[aH,au]
@[simp↓] theorem WX (e:bE) (r:Zy):aO (aH e) (.f 5 84::r)=aO (e.tF.p) r:=by simp[aH,au]
@[simp↓] theorem WY (e:bE) (r:Zy):aO (aH e) (.f 6 96::r)=aO (.bl e.oz) r:=by simp[aH,au]
@[simp↓] theorem WZ (e:bE) (r:Zy):aO (aH e) (.f 7 97::r)=aO (.int .i64 e.pW) r:=by simp[aH,au]
@[simp↓] theorem W0 (e:bE) (r:Zy):aO (aH e) (.f 8 98::r)=aO (ij e.hand) r:=by simp[aH,au]
def xU (e:bE) (c:PV):PV:= .st 464 [bW e.cK,e.shared.p,.bl e.ff,fc e.ep,.int .i64 e.ik,e.tF.p,.bl e.oz,.int .i64 e.pW,c,.bl e.jj,e.kU.p,.int .i64 e.kV,e.yy.p,dt e.ring,ey e.aM]
@[simp↓] def W2 (e:bE) (r:Zy) (x:PV):cu (aH e) (.f 8 98::r) x=(cu (ij e.hand) r x).bind λc=>some (xU e c):=by simp[aH,xU,au]
@[simp↓] theorem ad8 (e:bE) (v:G7):xU e (ij v)=aH {e with hand:=v}:=_root_.id rfl
@[simp↓] theorem W3 (e:bE) (r:Zy):aO (aH e) (.f 9 198::r)=aO (.bl e.jj) r:=by simp[aH,au]
def C3 (e:bE) (c:PV):PV:= .st 464 [bW e.cK,e.shared.p,.bl e.ff,fc e.ep,.int .i64 e.ik,e.tF.p,.bl e.oz,.int .i64 e.pW,ij e.hand,c,e.kU.p,.int .i64 e.kV,e.yy.p,dt e.ring,ey e.aM]
@[simp↓] def W4 (e:bE) (r:Zy) (x:PV):cu (aH e) (.f 9 198::r) x=(cu (.bl e.jj) r x).bind λc=>some (C3 e c):=by simp[aH,C3,au]
@[simp↓] theorem ad9 (e:bE) (v:Bool):C3 e (.bl v)=aH {e with jj:=v}:=_root_.id rfl
@[simp↓] theorem Uy (e:bE) (r:Zy):aO (aH e) (.f 10 199::r)=aO (e.kU.p) r:=by simp[aH,au]
def vp (e:bE) (c:PV):PV:= .st 464 [bW e.cK,e.shared.p,.bl e.ff,fc e.ep,.int .i64 e.ik,e.tF.p,.bl e.oz,.int .i64 e.pW,ij e.hand,.bl e.jj,c,.int .i64 e.kV,e.yy.p,dt e.ring,ey e.aM]
@[simp↓] def Uz (e:bE) (r:Zy) (x:PV):cu (aH e) (.f 10 199::r) x=(cu (e.kU.p) r x).bind λc=>some (vp e c):=by simp[aH,vp,au]
@[simp↓] theorem aa1 (e:bE) (v:FV uq):vp e (v.p)=aH {e with kU:=v}:=_root_.id rfl
@[simp↓] theorem UA (e:bE) (r:Zy):aO (aH e) (.f 11 215::r)=aO (.int .i64 e.kV) r:=by simp[aH,au]
def ze (e:bE) (c:PV):PV:= .st 464 [bW e.cK,e.shared.p,.bl e.ff,fc e.ep,.int .i64 e.ik,e.tF.p,.bl e.oz,.int .i64 e.pW,ij e.hand,.bl e.jj,e.kU.p,c,e.yy.p,dt e.ring,ey e.aM]
@[simp↓] def UB (e:bE) (r:Zy) (x:PV):cu (aH e) (.f 11 215::r) x=(cu (.int .i64 e.kV) r x).bind λc=>some (ze e c):=by simp[aH,ze,au]
@[simp↓] theorem aa2 (e:bE) (v:Int):ze e (.int .i64 v)=aH {e with kV:=v}:=_root_.id rfl
@[simp↓] theorem UC (e:bE) (r:Zy):aO (aH e) (.f 12 216::r)=aO (e.yy.p) r:=by simp[aH,au]
def vq (e:bE) (c:PV):PV:= .st 464 [bW e.cK,e.shared.p,.bl e.ff,fc e.ep,.int .i64 e.ik,e.tF.p,.bl e.oz,.int .i64 e.pW,ij e.hand,.bl e.jj,e.kU.p,.int .i64 e.kV,c,dt e.ring,ey e.aM]
@[simp↓] def LeL (e:bE) (r:Zy) (x:PV):cu (aH e) (.f 12 216::r) x=(cu (e.yy.p) r x).bind λc=>some (vq e c):=by simp[aH,vq,au]
@[simp↓] theorem aa3 (e:bE) (v:FV uq):vq e (v.p)=aH {e with yy:=v}:=_root_.id rfl
@[simp↓] theorem LbY (e:bE) (r:Zy):aO (aH e) (.f 13 232::r)=aO (dt e.ring) r:=by simp[aH,au]
def zf (e:bE) (c:PV):PV:= .st 464 [bW e.cK,e.shared.p,.bl e.ff,fc e.ep,.int .i64 e.ik,e.tF.p,.bl e.oz,.int .i64 e.pW,ij e.hand,.bl e.jj,e.kU.p,.int .i64 e.kV,e.yy.p,c,ey e.aM]
@[simp↓] def UF (e:bE) (r:Zy) (x:PV):cu (aH e) (.f 13 232::r) x=(cu (dt e.ring) r x).bind λc=>some (zf e c):=by simp[aH,zf,au]
@[simp↓] theorem aa4 (e:bE) (v:lU):zf e (dt v)=aH {e with ring:=v}:=_root_.id rfl
@[simp↓] theorem UG (e:bE) (r:Zy):aO (aH e) (.f 14 463::r)=aO (ey e.aM) r:=by simp[aH,au]
def jO (e:bE) (c:PV):PV:= .st 464 [bW e.cK,e.shared.p,.bl e.ff,fc e.ep,.int .i64 e.ik,e.tF.p,.bl e.oz,.int .i64 e.pW,ij e.hand,.bl e.jj,e.kU.p,.int .i64 e.kV,e.yy.p,dt e.ring,c]
@[simp↓] def UH (e:bE) (r:Zy) (x:PV):cu (aH e) (.f 14 463::r) x=(cu (ey e.aM) r x).bind λc=>some (jO e c):=by simp[aH,jO,au]
@[simp↓] theorem aa5 (e:bE) (v:List (Zz)):jO e (ey v)=aH {e with aM:=v}:=_root_.id rfl
def gY (l:(List bE)):PV:= .sl 464 (l.map aH) false
@[simp] def aa6 (e:(List bE)):Pure (gY e):=by simp[gY]
@[simp] theorem aik (e:(List bE)):wk (gY e)=gY e:=by simp[gY]
@[simp↓] theorem aea (g:Bool) (e:(List bE)) (K:W7):eT g (gY e) K=K (gY e):=_root_.id rfl
@[simp] theorem W5 (e:(List bE)):(gY e).width=1:=_root_.id rfl
@[simp] theorem aeb (e:(List bE)):(gY e).isAgg=false:=_root_.id rfl
@[simp↓] theorem aa7 (s:St) (K:W7) (l:List bE):yZ s K (gY l)=K (.int .i64 l.length):=by simp[gY]
@[simp↓] theorem W6 (s:St) (sz:Nat) (j:Int) (K:W7) (l:List bE):pN s sz j K (gY l)=((464=sz∧0≤j∧j<l.length)∧K (.fp sz (l.map aH) [.i j.toNat sz])):=by simp[gY]
structure aR where
 rules:yx
 qk:FV gV
 qT:FV gV
 port:Int
 random:FV gV
 now:Int
 aa:List bE
 aX:List sc
 aE:List cG
 timers:List cZ
 iG:FV gV
 iM:Int
 aY:WQ
 buckets:List vW
 bad:Int
def bq (d:aR) (p:PV):PV:= .st 148 [cQ d.rules,d.qk.p,d.qT.p,.int .i64 d.port,d.random.p,.int .i64 d.now,p,cR d.aX,bQ d.aE,bM d.timers,d.iG.p,.int .i64 d.iM,ee d.aY,dA d.buckets,.int .i64 d.bad]
@[simp] def aa8 (e:aR) (p:PV):(bq e p).width=148:=_root_.id rfl
@[simp] theorem ail (e:aR) (p:PV):(bq e p).isAgg=true:=rfl
@[simp] theorem aec (e:aR) (p:PV):(bq e p).aV=true:=rfl
@[simp] theorem aed (e:aR) (p:PV):(bq e p).flat=true:=rfl
@[simp↓] theorem aim (g:Bool) (e:aR) (p:PV) (K:W7):eT g (bq e p) K=K (bq e p):=_root_.id rfl
@[simp↓] theorem LeY (e:aR) (p:PV) (r:Zy):aO (bq e p) (.f 0 0::r)=aO (cQ e.rules) r:=by simp[bq]
@[simp↓] theorem W8 (e:aR) (p:PV) (r:Zy):aO (bq e p) (.f 1 10::r)=aO (e.qk.p) r:=by simp[bq,au]
@[simp↓] theorem W9 (e:aR) (p:PV) (r:Zy):aO (bq e p) (.f 2 42::r)=aO (e.qT.p) r:=by simp[bq,au]
@[simp↓] theorem Xa (e:aR) (p:PV) (r:Zy):aO (bq e p) (.f 3 74::r)=aO (.int .i64 e.port) r:=by simp[bq,au]
@[simp↓] theorem LeQ (e:aR) (p:PV) (r:Zy):aO (bq e p) (.f 4 75::r)=aO (e.random.p) r:=by simp[bq,au]
def C4 (e:aR) (p:PV) (c:PV):PV:= .st 148 [cQ e.rules,e.qk.p,e.qT.p,.int .i64 e.port,c,.int .i64 e.now,p,cR e.aX,bQ e.aE,bM e.timers,e.iG.p,.int .i64 e.iM,ee e.aY,dA e.buckets,.int .i64 e.bad]
@[simp↓] def Xc (e:aR) (p:PV) (r:Zy) (x:PV):cu (bq e p) (.f 4 75::r) x=(cu (e.random.p) r x).bind λc=>some (C4 e p c):=by simp[bq,C4,au]
@[simp↓] theorem aee (e:aR) (p:PV) (v:FV gV):C4 e p (v.p)=bq {e with random:=v} p:=_root_.id rfl
@[simp↓] theorem LdY (e:aR) (p:PV) (r:Zy):aO (bq e p) (.f 5 107::r)=aO (.int .i64 e.now) r:=by simp[bq,au]
@[simp↓] theorem Xf (e:aR) (p:PV) (r:Zy):aO (bq e p) (.f 6 108::r)=aO (p) r:=by simp[bq,au]
def C5 (e:aR) (p:PV) (c:PV):PV:= .st 148 [cQ e.rules,e.qk.p,e.qT.p,.int .i64 e.port,e.random.p,.int .i64 e.now,c,cR e.aX,bQ e.aE,bM e.timers,e.iG.p,.int .i64 e.iM,ee e.aY,dA e.buckets,.int .i64 e.bad]
@[simp↓] def Xh (e:aR) (p:PV) (r:Zy) (x:PV):cu (bq e p) (.f 6 108::r) x=(cu (p) r x).bind λc=>some (C5 e p c):=by simp[bq,C5,au]
@[simp↓] theorem aef (e:aR) (p:PV) (v:PV):C5 e p v=bq e v:=_root_.id rfl
@[simp↓] theorem Xi (e:aR) (p:PV) (hp:p.width=1) (r:Zy):aO (bq e p) (.f 7 109::r)=aO (cR e.aX) r:=by simp[bq,au,hp]
def C6 (e:aR) (p:PV) (c:PV):PV:= .st 148 [cQ e.rules,e.qk.p,e.qT.p,.int .i64 e.port,e.random.p,.int .i64 e.now,p,c,bQ e.aE,bM e.timers,e.iG.p,.int .i64 e.iM,ee e.aY,dA e.buckets,.int .i64 e.bad]
@[simp↓] def Xj (e:aR) (p:PV) (hp:p.width=1) (r:Zy) (x:PV):cu (bq e p) (.f 7 109::r) x=(cu (cR e.aX) r x).bind λc=>some (C6 e p c):=by simp[bq,C6,au,hp]
@[simp↓] theorem aeg (e:aR) (p:PV) (v:List sc):C6 e p (cR v)=bq {e with aX:=v} p:=_root_.id rfl
@[simp↓] theorem Xk (e:aR) (p:PV) (hp:p.width=1) (r:Zy):aO (bq e p) (.f 8 110::r)=aO (bQ e.aE) r:=by simp[bq,au,hp]
def xV (e:aR) (p:PV) (c:PV):PV:= .st 148 [cQ e.rules,e.qk.p,e.qT.p,.int .i64 e.port,e.random.p,.int .i64 e.now,p,cR e.aX,c,bM e.timers,e.iG.p,.int .i64 e.iM,ee e.aY,dA e.buckets,.int .i64 e.bad]
@[simp↓] def Xm (e:aR) (p:PV) (hp:p.width=1) (r:Zy) (x:PV):cu (bq e p) (.f 8 110::r) x=(cu (bQ e.aE) r x).bind λc=>some (xV e p c):=by simp[bq,xV,au,hp]
@[simp↓] theorem aeh (e:aR) (p:PV) (v:List cG):xV e p (bQ v)=bq {e with aE:=v} p:=_root_.id rfl
@[simp↓] theorem Xn (e:aR) (p:PV) (hp:p.width=1) (r:Zy):aO (bq e p) (.f 9 111::r)=aO (bM e.timers) r:=by simp[bq,au,hp]
def C7 (e:aR) (p:PV) (c:PV):PV:= .st 148 [cQ e.rules,e.qk.p,e.qT.p,.int .i64 e.port,e.random.p,.int .i64 e.now,p,cR e.aX,bQ e.aE,c,e.iG.p,.int .i64 e.iM,ee e.aY,dA e.buckets,.int .i64 e.bad]
@[simp↓] def LbQ (e:aR) (p:PV) (hp:p.width=1) (r:Zy) (x:PV):cu (bq e p) (.f 9 111::r) x=(cu (bM e.timers) r x).bind λc=>some (C7 e p c):=by simp[bq,C7,au,hp]
@[simp↓] theorem aei (e:aR) (p:PV) (v:List cZ):C7 e p (bM v)=bq {e with timers:=v} p:=_root_.id rfl
@[simp↓] theorem UI (e:aR) (p:PV) (hp:p.width=1) (r:Zy):aO (bq e p) (.f 10 112::r)=aO (e.iG.p) r:=by simp[bq,au,hp]
@[simp↓] theorem UJ (e:aR) (p:PV) (hp:p.width=1) (r:Zy):aO (bq e p) (.f 11 144::r)=aO (.int .i64 e.iM) r:=by simp[bq,au,hp]
@[simp↓] theorem UK (e:aR) (p:PV) (hp:p.width=1) (r:Zy):aO (bq e p) (.f 12 145::r)=aO (ee e.aY) r:=by simp[bq,au,hp]
def zg (e:aR) (p:PV) (c:PV):PV:= .st 148 [cQ e.rules,e.qk.p,e.qT.p,.int .i64 e.port,e.random.p,.int .i64 e.now,p,cR e.aX,bQ e.aE,bM e.timers,e.iG.p,.int .i64 e.iM,c,dA e.buckets,.int .i64 e.bad]
@[simp↓] def UL (e:aR) (p:PV) (hp:p.width=1) (r:Zy) (x:PV):cu (bq e p) (.f 12 145::r) x=(cu (ee e.aY) r x).bind λc=>some (zg e p c):=by simp[bq,zg,au,hp]
@[simp↓] theorem UM (e:aR) (p:PV) (hp:p.width=1) (r:Zy):aO (bq e p) (.f 13 146::r)=aO (dA e.buckets) r:=by simp[bq,au,hp]
@[simp↓] theorem LcQ (e:aR) (p:PV) (hp:p.width=1) (r:Zy):aO (bq e p) (.f 14 147::r)=aO (.int .i64 e.bad) r:=by simp[bq,au,hp]
def zh (e:aR) (p:PV) (c:PV):PV:= .st 148 [cQ e.rules,e.qk.p,e.qT.p,.int .i64 e.port,e.random.p,.int .i64 e.now,p,cR e.aX,bQ e.aE,bM e.timers,e.iG.p,.int .i64 e.iM,ee e.aY,dA e.buckets,c]
@[simp↓] def UO (e:aR) (p:PV) (hp:p.width=1) (r:Zy) (x:PV):cu (bq e p) (.f 14 147::r) x=(cu (.int .i64 e.bad) r x).bind λc=>some (zh e p c):=by simp[bq,zh,au,hp]
@[simp↓] theorem aa9 (e:aR) (p:PV) (v:Int):zh e p (.int .i64 v)=bq {e with bad:=v} p:=_root_.id rfl
@[simp] theorem Gj (f:Nat->Bool) (e:aR) (p:PV):ae f (bq e p)=ae f p:=by
 have h1:ae f (cQ e.rules)=true:=(C2 _).refs f;have h2:ae f (cR e.aX)=true:=(AA _).refs f;have h3:ae f (bQ e.aE)=true:=(Iq _).refs f;have h4:ae f (bM e.timers)=true:=(wN _).refs f;have h5:ae f (ee e.aY)=true:=(C0 _).refs f;have h6:ae f (dA e.buckets)=true:=(AD _).refs f;have g1:ae f e.qk.p=true:=(FV.pure e.qk).refs f;have g2:ae f e.qT.p=true:=(FV.pure e.qT).refs f;have g3:ae f e.random.p=true:=(FV.pure e.random).refs f;have g4:ae f e.iG.p=true:=(FV.pure e.iG).refs f;simp[bq,ae,al]
@[simp] def ain (ρ:Nat->Nat) (e:aR) (p:PV):aI ρ (bq e p)=bq e (aI ρ p):=by
 simp[bq,aI,bw]
@[simp] def amc (e:aR) (p:PV):wk (bq e p)=bq e (wk p):=by simp[bq]
@[simp] theorem aio (k sz:Nat) (l:WG) (e:aR) (p:PV):eG k sz l (bq e p)=bq e (eG k sz l p):=by
 simp[bq,eG,fF]
@[simp] def aej (e:aR) {p:PV} (h:Pure p):Pure (bq e p):=Pure.of (by rw[Gj];exact h.refs _)
def bN (d:aR):PV:=bq d (gY d.aa)
@[simp] def ER (e:aR):Pure (bN e):=by simp[bN]
@[simp] theorem auR (e:aR):wk (bN e)=bN e:=by simp[bN]
@[simp↓] theorem amd (g:Bool) (e:aR) (K:W7):eT g (bN e) K=K (bN e):=_root_.id rfl
@[simp] theorem aek (e:aR):(bN e).width=148:=_root_.id rfl
@[simp] theorem ame (e:aR):(bN e).isAgg=true:=_root_.id rfl
@[simp] theorem aip (e:aR):(bN e).aV=true:=_root_.id rfl
@[simp] theorem aiq (e:aR):(bN e).flat=true:=_root_.id rfl
@[simp↓] theorem air (e:aR) (i o:Nat) (r:Zy):aO (bN e) (.f i o::r)=aO (bq e (gY e.aa)) (.f i o::r):=_root_.id rfl
theorem C8:∀l:Zz,kR (.i .u8) (l.map u8)=true
 |[]=>rfl
 |x::l=>by simp[kR,u8,fits,C8 l]
@[simp] def pn (k:Key):fits gV (bW k)=true:=by
 simp[bW,fits,C8,k.h,qi]
def Key.fv (k:Key):FV gV:=⟨bW k,pn k⟩
@[simp] theorem Key.aGl (k:Key):k.fv.p=bW k:=rfl
@[simp] theorem amf (e:Key):PV.beq (bW e) (bW e)=true:=(cY _ _ (pn e)).beq
abbrev axt:Sh:= .st [.i .u64,.i .u64,.i .i64,.i .i64,.i .i64,.i .i64,.i .i64,.i .i64,.i .i64,.i .i64]
@[simp] def KE (e:yx):fits axt (cQ e)=true:=by
 simp_all [cQ,fits,iL,qi,rC]
@[simp] def ais (e:yx):PV.beq (cQ e) (cQ e)=true:=(cY _ _ (KE e)).beq
abbrev shA:Sh:= .st [.b,.ar 16 (.i .u8)]
@[simp] def ES (e:iC):fits shA (cV e)=true:=by
 have:=e.h;simp_all [cV,fits,iL,qi,rC,C8]
abbrev shE:Sh:= .st [.st [.b,.ar 16 (.i .u8)],.i .i64]
@[simp] def zi (e:Jt):fits shE (fc e)=true:=by
 have:=e.addr.h;simp_all [fc,fits,iL,qi,rC]
@[simp] def RH (e:Jt):PV.beq (fc e) (fc e)=true:=(cY _ _ (zi e)).beq
abbrev shX:Sh:= .st [.st [.b,.ar 16 (.i .u8)],.i .i64]
@[simp] def OA (e:Ip):fits shX (gW e)=true:=by
 have:=e.addr.h;simp_all [gW,fits,iL,qi,rC]
abbrev axu:Sh:= .st [.st [.st [.b,.ar 16 (.i .u8)],.i .i64],.ar 32 (.i .u8)]
@[simp] def KF (e:sc):fits axu (ji e)=true:=by
 have:=OA e.rq;have:=pn e.peer;simp_all [ji,fits,iL,qi,rC]
@[simp] def ait (e:sc):PV.beq (ji e) (ji e)=true:=(cY _ _ (KF e)).beq
abbrev axv:Sh:= .st [.i .u32,.ar 32 (.i .u8),.b]
@[simp] def sV (e:cG):fits axv (aZ e)=true:=by
 have:=pn e.peer;simp_all [aZ,fits,iL,qi,rC]
@[simp] def OB (e:cG):PV.beq (aZ e) (aZ e)=true:=(cY _ _ (sV e)).beq
abbrev shT:Sh:= .st [.i .i64,.ar 32 (.i .u8),.i .i64]
@[simp] def OC (e:cZ):fits shT (bn e)=true:=by
 have:=pn e.peer;simp_all [bn,fits,iL,qi,rC]
@[simp] def amg (e:cZ):PV.beq (bn e) (bn e)=true:=(cY _ _ (OC e)).beq
abbrev axw:Sh:= .st [.st [.b,.ar 16 (.i .u8)],.i .i64,.i .i64]
@[simp] def KG (e:vW):fits axw (kE e)=true:=by
 have:=ES e.addr;simp_all [kE,fits,iL,qi,rC]
@[simp] def aiu (e:vW):PV.beq (kE e) (kE e)=true:=(cY _ _ (KG e)).beq
abbrev shH:Sh:= .st [.b,.i .u32,.ar 32 (.i .u8),.st [.ar 32 (.i .u8),.ar 32 (.i .u8)],.i .i64,.i .i64]
@[simp] def zj (e:G7):fits shH (ij e)=true:=by
 have:=e.eph.ok;have:=e.aaV.ok;simp_all [ij,fits,iL,qi,rC]
@[simp] def RI (e:G7):PV.beq (ij e) (ij e)=true:=(cY _ _ (zj e)).beq
abbrev axx:Sh:= .st [.i .u32,.i .u32,.ar 32 (.i .u8),.ar 32 (.i .u8),.i .u64,.i .u64,.st [.b,.i .u64,.ar 4 (.i .u64)],.i .i64,.b]
@[simp] def OD (e:jx):fits axx (dQ e)=true:=by
 have:=e.send.ok;have:=e.recv.ok;have:=e.tC.ok;simp_all [dQ,fits,iL,qi,rC]
abbrev amh:Sh:= .st [.b,.st [.i .u32,.i .u32,.ar 32 (.i .u8),.ar 32 (.i .u8),.i .u64,.i .u64,.st [.b,.i .u64,.ar 4 (.i .u64)],.i .i64,.b]]
@[simp] def pq (e:nU):fits amh (gq e)=true:=by
 have:=OD e.eM;simp_all [gq,fits,iL,qi,rC]
@[simp] def Ir (e:nU):PV.beq (gq e) (gq e)=true:=(cY _ _ (pq e)).beq
abbrev axy:Sh:= .st [.st [.b,.st [.i .u32,.i .u32,.ar 32 (.i .u8),.ar 32 (.i .u8),.i .u64,.i .u64,.st [.b,.i .u64,.ar 4 (.i .u64)],.i .i64,.b]],.st [.b,.st [.i .u32,.i .u32,.ar 32 (.i .u8),.ar 32 (.i .u8),.i .u64,.i .u64,.st [.b,.i .u64,.ar 4 (.i .u64)],.i .i64,.b]],.st [.b,.st [.i .u32,.i .u32,.ar 32 (.i .u8),.ar 32 (.i .u8),.i .u64,.i .u64,.st [.b,.i .u64,.ar 4 (.i .u64)],.i .i64,.b]]]
@[simp] def OE (e:lU):fits axy (dt e)=true:=by
 have:=pq e.p;have:=pq e.c;have:=pq e.n;simp_all [dt,fits,iL,qi,rC]
@[simp] def ami (e:lU):PV.beq (dt e) (dt e)=true:=(cY _ _ (OE e)).beq
abbrev Xo:=List bE
abbrev WO:=List cG
abbrev Wu:=List cZ
end Go.Ab
