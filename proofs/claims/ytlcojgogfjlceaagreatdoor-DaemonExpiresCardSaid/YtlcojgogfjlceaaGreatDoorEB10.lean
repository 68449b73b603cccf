/- Functions of the program and of the document, as the abstract reading walks them, part 10. No condition. -/
import Derived.Test.YtlcojgogfjlceaaGreatDoorEB9
import Derived.Test.YtlcojgogfjlceaaGreatDoorEB4
import Derived.Test.YtlcojgogfjlceaaGreatDoorEB3
import Derived.Test.YtlcojgogfjlceaaGreatDoorEB6
set_option maxRecDepth 10000
set_option maxHeartbeats 4000000
set_option linter.all false
noncomputable section
namespace Go.Ab
theorem ab2 (a:iG) {i:Nat} (Ai:i<128):aL Pg 194 [cN a,.int .i64 (i:Int)] (.int .i64 (rH a i)):=by
 refine ae.intro (aC R.xa.2) (by simp[R.xa]) ?_;have hx:=a.atn (i:=i/8) (by omega);have hw:IntKind.i64.wrap ((i/8:Nat):Int)=((i/8:Nat):Int):=wrap_i64 (by omega);have BU:IntKind.i64.wrap (7-((i%8:Nat):Int))=((7-i%8:Nat):Int):=by rw[wrap_i64 (by omega)];omega
 have hd:(i:Int).tdiv 8=((i/8:Nat):Int):=by rw[show(8:Int)=((8:Nat):Int) from rfl,←Int.ofNat_tdiv]
 have hb:=akQ ⟨7-i%8,by omega⟩ ⟨(a.uf (i/8)).toNat,(a.uf (i/8)).toNat_lt⟩;have hm:min (7-i%8) IntKind.u8.bits=7-i%8:=by show min (7-i%8) 8=_;omega
 have hr:rH a i=(a.uf (i/8)).toNat/2^(7-i%8)%2:=rfl;have hwr:IntKind.i64.wrap ((rH a i:Nat):Int)=rH a i:=wrap_i64 (by have:rH a i<2:=JdZ _ (by decide);omega);simp only at hb;rw[←hr]at hb;have Om:((i/8:Nat):Int)<16:=by omega
 generalize a.uf (i/8)=b at*;generalize rH a i=r at*;generalize hq:7-i%8=q at*;generalize hp:i%8=z at*;generalize hs:i/8=y at*;have hq2:IntKind.i64.wrap (7-(z:Int))=(q:Int):=BU;simp[R.xa,aj,av,YX,hw,BU,hd,hx,u8,hp,hm,Om,hb,hwr,-Int.natCast_ediv,-Int.natCast_emod,-getElem?_pos];refine aA.plain [] ?_;simp
theorem ab3 (a:iG) (i:Nat):rH a i=0∨rH a i=1:=by have:rH a i<2:=JdZ _ (by decide);omega
def C9 (has:Bool) (k:Key) (c0 c1:PV):PV:= .st 35 [.bl has,aG k,.ar 1 2 [c0,c1]]
def I6 (v:PV):PV:= .fp 35 [v] [.i 0 35]
def G2 (a:iG) (k:Key):Nat->Nat->PV
 |0,_=>I6 (C9 true k .np .np)
 |m+1,t=>if rH a t=0 then I6 (C9 false zK (G2 a k m (t+1)) .np)else I6 (C9 false zK .np (G2 a k m (t+1)))
theorem Da (a:iG) (k:Key):∀m t,∃v,G2 a k m t=I6 v∧Pure v
 |0,t=>⟨_,rfl,by simp[C9]⟩
 |
  m+1,t=>by
  obtain⟨v,h1,h2⟩:=Da a k m (t+1)
  unfold G2
  rw[h1]
  split<;>exact⟨_,rfl,by simp[C9,I6,h2]⟩
@[simp] theorem ayf (z:Nat) (l:List PV) (p:List Step):(PV.fp z l p).width=1:=_root_.id rfl
@[simp] theorem ayg (z:Nat) (l:List PV) (p:List Step):(PV.fp z l p).isAgg=false:=_root_.id rfl
@[simp] theorem ayh (z:Nat) (l:List PV) (p:List Step):(PV.fp z l p).flat=true:=_root_.id rfl
@[simp] theorem ayi (z:Nat) (l:List PV) (p:List Step):(PV.fp z l p).aT=true:=_root_.id rfl
@[simp] theorem ayj (z:Nat) (l:List PV) (p:List Step):wk (PV.fp z l p)=PV.fp z l p:=_root_.id rfl
@[simp] theorem ayk:PV.np.width=1:=_root_.id rfl
@[simp] theorem ayl:PV.np.isAgg=false:=_root_.id rfl
theorem akR:zr 2 PV.np=[.np,.np]:=by rw[cm];rfl
theorem akS (r:vY) {n:Nat} (hb:r.D8.bits=(n:Int)) (hn:n≤128):∀(m t:Nat),t+m=n->aL Pg 193 [.np,ia r,.int .i64 (t:Int)] (G2 r.D8.addr r.peer m t)
 |
  0,t,h=>by
  have e:(t:Int)=(n:Int):=by omega
  refine ae.intro T.eO (by simp[F.eO]) ?_
  simp[F.eO,aj,av,hb,e,akR]
  refine lv.run [11,11] rfl ?_
  simp
  refine aA.plain [.keep [6],.dr 4,.ba 6 11,.fz 11] ?_
  simp
  rfl
 |
  m+1,t,h=>by
  have ih:=akS r hb hn m (t+1) (by omega)
  have ih:aL Pg 193 [.np,ia r,.int .i64 ((t:Int)+1)] (G2 r.D8.addr r.peer m (t+1)):=by simpa using ih
  have e:¬(t:Int)=(n:Int):=by omega
  have Xh:=ab2 r.D8.addr (i:=t) (by omega)
  have hw:IntKind.i64.wrap ((t:Int)+1)=(t:Int)+1:=wrap_i64 (by omega)
  refine ae.intro T.eO (by simp[F.eO]) ?_
  obtain⟨v,hv,c1⟩:=Da r.D8.addr r.peer m (t+1)
  have hc:G2 r.D8.addr r.peer (m+1) t=if rH r.D8.addr t=0 then I6 (C9 false zK (G2 r.D8.addr r.peer m (t+1)) .np)else I6 (C9 false zK .np (G2 r.D8.addr r.peer m (t+1))):=rfl
  rw[hc]
  clear hc
  rw[hv]at ih⊢
  simp only[I6]at ih
  rcases ab3 r.D8.addr t with h0|h0
  all_goals
   rw[h0]at Xh⊢
   simp[F.eO,aj,av,hb,e,akR]
   refine ai.rA Xh ?_
   simp[hw]
   refine aM.ret ih (by simp) (by simp) (by simp[c1]) ?_
   simp
   refine aA.plain [.keep [6],.dr 4,.ba 6 11,.fz 11] ?_
   simp
   exact⟨by simp[af,ah,c1.refs],by simp[af,ah,c1.refs],c1,by rw[te];rfl⟩
theorem ab4 (a:iG) (t:Int):aL Pg 107 [.np,cN a,.int .i64 t] (.tup [aG zK,.bl false]):=by
 refine ae.intro T.cO (by simp[F.cO]) ?_;simp[F.cO,aj,av];refine aA.plain [] ?_;simp[te]
theorem YY (a b:iG) (k:Key) {n:Nat} (hn:n<128) (hb:∀i,i<n->rH b i=rH a i):∀(m t:Nat),t+m=n->aL Pg 107 [G2 a k m t,cN b,.int .i64 (t:Int)] (.tup [aG k,.bl true])
 |
  0,t,h=>by
  have ih:=ab4 b ((t:Int)+1)
  have Xh:=ab2 b (i:=t) (by omega)
  have Xi:(t:Int)<128:=by omega
  have hw:IntKind.i64.wrap ((t:Int)+1)=(t:Int)+1:=wrap_i64 (by omega)
  refine ae.intro T.cO (by simp[F.cO]) ?_
  rcases ab3 b t with h0|h0
  all_goals
   rw[h0]at Xh
   simp[F.cO,aj,av,G2,I6,C9,Xi]
   refine lv.run [8] rfl ?_
   simp
   refine aM.rA Xh ?_
   simp[hw]
   refine aM.rA ih ?_
   simp
   refine lv.run [6] rfl ?_
   simp
   refine aA.plain [] ?_
   simp
 |
  m+1,t,h=>by
  have ih:=YY a b k hn hb m (t+1) (by omega)
  have ih:aL Pg 107 [G2 a k m (t+1),cN b,.int .i64 ((t:Int)+1)] (.tup [aG k,.bl true]):=by simpa using ih
  obtain⟨v,hv,c1⟩:=Da a k m (t+1)
  have Xh:=ab2 b (i:=t) (by omega)
  rw[hb t (by omega)]at Xh
  have Xi:(t:Int)<128:=by omega
  have hw:IntKind.i64.wrap ((t:Int)+1)=(t:Int)+1:=wrap_i64 (by omega)
  have hc:G2 a k (m+1) t=if rH a t=0 then I6 (C9 false zK (G2 a k m (t+1)) .np)else I6 (C9 false zK .np (G2 a k m (t+1))):=rfl
  rw[hc]
  clear hc
  rw[hv]at ih⊢
  simp only[I6]at ih
  refine ae.intro T.cO (by simp[F.cO]) ?_
  rcases ab3 a t with h0|h0
  all_goals
   rw[h0]at Xh⊢
   simp[F.cO,aj,av,I6,C9,Xi]
   refine lv.run [8] rfl ?_
   simp
   refine aM.rA Xh ?_
   simp[hw]
   refine aM.ret ih (by simp) (by simp[c1]) (by simp) ?_
   simp
   refine aA.plain [] ?_
   simp
def Db (a:iG) (k:Key):vY:=⟨⟨a,16⟩,k⟩
theorem akT {a:iG} (h6:a.sA=false) (k:Key) (hv:vZ ⟨a,16⟩=true):aL Pg 106 [cU [Db a k],.bl false] (G2 a k 16 0):=by
 have hV:=zI ⟨a,16⟩;rw[hv]at hV;have hP:=akS (Db a k) (n:=16) rfl (by omega) 16 0 rfl;have hP:aL Pg 193 [.np,ia (Db a k),.int .i64 0] (G2 a k 16 0):=hP;obtain⟨v,hv,c1⟩:=Da a k 16 0;rw[hv]at hP⊢;simp only[I6]at hP;have hf:(Db a k).D8=⟨a,16⟩:=rfl;refine ae.intro (aC R.uN.2) (by simp[R.uN]) ?_;simp[R.uN,aj,av];refine mH.G3 1 (mH.s ?_);simp[↓al,hf,h6];refine ai.rA hV ?_;simp;refine ai.ret hP (by simp) (by simp) (by simp[c1]) ?_;simp;refine⟨[.keep [5,8,9,10],.dr 7],?_⟩;simp[bn];refine⟨by simp[af,ah,c1.refs],mH.z ?_⟩;simp[↓al];refine aA.plain [] ?_;simp[c1,I6]
def YZ:iG:=⟨false,List.replicate 16 0,rfl⟩
theorem akU:PV.st 18 [.st 17 [.bl false,.ar 1 16 (zr 16 (.int .u8 0))],.int .i64 0]=gr ⟨YZ,0⟩:=by rw[cm];rfl
theorem J3 {a:iG} (h6:a.sA=false) (hs:ug a=true):aL Pg 105 [gr ⟨YZ,0⟩,cN a] (.bl true):=by
 have hV:=zI ⟨YZ,0⟩;rw[show vZ ⟨YZ,0⟩=true by decide]at hV;have hv:=J4 a;rw[hs]at hv;have hc:=ab5 a (n:=0) (by omega)
 have e:uO a 0=YZ:=by
  unfold uO YZ;congr 1;unfold yu;have hl:=a.h;apply JnQ
  ·simp[hl]
  ·intro i h1 h2
   have:uP a 0 i=0:=by
    unfold uP lf;simp;unfold cb;simp;rw[show(~~~255:UInt8)=0 from by decide,UInt8.and_zero]
   have hi:i<16:=by simp[hl]at h1;omega
   rw[List.getElem_replicate];simp[hi,this]
 rw[e]at hc;have hc:aL Pg 192 [cN a,.int .i64 0] (cN YZ):=hc;refine ae.intro T.ki (by simp[F.ki]) ?_;simp[F.ki,aj,av];refine aM.rA hV ?_;simp;refine aM.rA hv ?_;simp[h6,show YZ.sA=false from rfl];refine aM.rA hc ?_;simp;refine aA.plain [] ?_;simp
theorem Vc {a b:iG} (h6:a.sA=false) (g6:b.sA=false) (hs:ug b=true) (k:Key) (hv:vZ ⟨a,16⟩=true) (hb:∀i,i<16->rH b i=rH a i):aL Pg 63 [cU [Db a k],cN b] (.tup [aG k,.bl true]):=by
 have hC:=J3 g6 hs;have hT:=akT h6 k hv;have hF:=YY a b k (n:=16) (by omega) hb 16 0 rfl;have hF:aL Pg 107 [G2 a k 16 0,cN b,.int .i64 0] (.tup [aG k,.bl true]):=hF;obtain⟨v,hv,c1⟩:=Da a k 16 0;rw[hv]at hF hT;simp only[I6]at hF hT;refine ae.intro (aC R.rI.2) (by simp[R.rI]) ?_;simp[R.rI,aj,av,g6];refine ai.ret hC (by simp[akU]) (by simp) (by simp) ?_;simp[g6];refine aM.ret hT (by simp) (by simp) (by simp[c1]) ?_;simp;refine aM.ret hF (by simp) (by simp[c1]) (by simp) ?_;simp;refine aA.plain [] ?_;simp
theorem gU (y:Int) (E:Key) (S T M N:List UInt8):Pure (eZ y E S T M N):=by simp[eZ]
@[simp] theorem aqx (y:Int) (E:Key) (S T M N:List UInt8):wk (eZ y E S T M N)=eZ y E S T M N:=by simp[eZ]
@[simp] theorem agz (y:Int) (E:Key) (S T M N:List UInt8):(eZ y E S T M N).aT=true:=rfl
@[simp] theorem ab6 (y:Int) (E:Key) (S T M N:List UInt8):(eZ y E S T M N).width=141:=rfl
@[simp] theorem akV (y:Int) (E:Key) (S T M N:List UInt8):(eZ y E S T M N).isAgg=true:=rfl
@[simp↓] theorem akW (g:Bool) (y:Int) (E:Key) (S T M N:List UInt8) (K:PV->Prop):ei g (eZ y E S T M N) K=K (eZ y E S T M N):=_root_.id rfl
@[simp↓] theorem agA (y:Int) (E:Key) (S T M N:List UInt8):aO (eZ y E S T M N) [.f 0 0]=some (.int .u32 y):=by simp[eZ,aO]
@[simp↓] theorem agB (y:Int) (E:Key) (S T M N:List UInt8) (r:List Step):aO (eZ y E S T M N) (.f 1 1::r)=aO (bA 32 E.l) r:=by simp[eZ,aO,aB,bA,nW]
@[simp↓] theorem agC (y:Int) (E:Key) (S T M N:List UInt8) (r:List Step):aO (eZ y E S T M N) (.f 2 33::r)=aO (bA 48 S) r:=by simp[eZ,aO,aB]
@[simp↓] theorem agD (y:Int) (E:Key) (S T M N:List UInt8) (r:List Step):aO (eZ y E S T M N) (.f 3 81::r)=aO (bA 28 T) r:=by simp[eZ,aO,aB]
@[simp↓] theorem agE (y:Int) (E:Key) (S T M N:List UInt8) (r:List Step):aO (eZ y E S T M N) (.f 4 109::r)=aO (bA 16 M) r:=by simp[eZ,aO,aB]
@[simp↓] theorem agF (y:Int) (E:Key) (S T M N:List UInt8) (r:List Step):aO (eZ y E S T M N) (.f 5 125::r)=aO (bA 16 N) r:=by simp[eZ,aO,aB]
theorem P5 (k:Int):ae Pg 300 [.int .i64 k] [] (λr fp=>r= .pt KB [] 0∧fp=[.box (.st 1 [.rs (KB+1) [] 0 4 4 1 .tip]),.arr 1 [.int .u8 (IntKind.u8.wrap k),.int .u8 0,.int .u8 0,.int .u8 0]]):=by
 refine ae.intro (aC R.rK.2) (by simp[R.rK]) ?_;simp[R.rK,aj,av];refine aA.with [.keep [2]] [7,5] ?_;simp
theorem Gd (l:List PV) (n k:Nat) (h1:1≤k) (h2:k≤8) (hp:au l) (hl:l.length≤4096):
  ae Pg 301 [.pt KB [] 0,.int .u64 n,.int .i64 k] [.box (.st 1 [.rs (KB+1) [] 0 l.length l.length 1 .tip]),.arr 1 l]
   (λr fp=>r= .tup []∧fp=[.box (.st 1 [.rs (KB+1) [] 0 (l.length+k) (l.length+k) 1 .tip]),.arr 1 (l++(cG n k).map u8)]):=by
 have hc:=cD (n:=n) h1 h2;have RY:=db n k;have AV:=cr (cG n k);have hww:=wkB (cG n k);have hlm:((cG n k).map u8).length=k:=by simp[RY]
 have he:aQ (cG n k)= .sl 1 ((cG n k).map u8) false:=rfl;rw[he]at hc;generalize (cG n k).map u8=L at*;refine ae.intro T.e9 (by simp[F.e9]) ?_;simp[F.e9,aj,av];refine lv.run [KB,KB+1] rfl ?_;simp;refine aM.ret hc (by simp) (by simp) (by simp[AV]) ?_;simp[hlm];refine⟨⟨by omega,by omega⟩,?_⟩;refine aA.with [.keep []] [KB,KB+1] ?_;simp[hp,AV,dh,af,ah,aE,aS]
theorem ab7 (l ys:List PV) (c:Bool) (hy:au ys) (hp:au l) (hl:l.length≤4096) (S4:ys.length≤4096):
  ae Pg 302 [.pt KB [] 0,.sl 1 ys c] [.box (.st 1 [.rs (KB+1) [] 0 l.length l.length 1 .tip]),.arr 1 l]
   (λr fp=>r= .tup []∧fp=[.box (.st 1 [.rs (KB+1) [] 0 (l.length+ys.length) (l.length+ys.length) 1 .tip]),.arr 1 (l++ys)]):=by
 refine ae.intro (aC R.dU.2) (by simp[R.dU]) ?_;simp[R.dU,aj,av];refine⟨⟨by omega,by omega⟩,?_⟩;refine aA.with [.keep []] [KB,KB+1] ?_;simp[hp,hy,dh,af,ah,aE,aS]
theorem Vd (l ys:List PV) {v:PV} {pth:List Step} (hv:Pure v) (hg:aO v pth=some (.ar 1 ys.length ys)) (hy:au ys) (hp:au l) (hl:l.length≤4096) (S4:ys.length≤4096):
  ae Pg 302 [.pt KB [] 0,.rs (KB+2) pth 0 ys.length 0 1 .clip] [.box (.st 1 [.rs (KB+1) [] 0 l.length l.length 1 .tip]),.arr 1 l,.box v]
   (λr fp=>r= .tup []∧fp=[.box (.st 1 [.rs (KB+1) [] 0 (l.length+ys.length) (l.length+ys.length) 1 .tip]),.arr 1 (l++ys),.box v]):=by
 refine ae.intro (aC R.dU.2) (by simp[R.dU]) ?_;simp[R.dU,aj,av,hg];refine⟨⟨by omega,by omega⟩,?_⟩;refine aA.with [.keep []] [KB,KB+1,KB+2] ?_;simp[hp,hy,dh,af,ah,aE,aS,hv.refs,hv.aE]
theorem yv {l ys B:List PV} {n m k:Nat} {v:PV} {pth:List Step} (hn:l.length=n) (hm:ys.length=m) (hk:k=n+m) (hB:B=l++ys) (hv:Pure v) (hg:aO v pth=some (.ar 1 m ys)) (hy:au ys) (hp:au l) (hl:n≤4096) (S4:m≤4096):
  ae Pg 302 [.pt KB [] 0,.rs (KB+2) pth 0 m 0 1 .clip] [.box (.st 1 [.rs (KB+1) [] 0 n n 1 .tip]),.arr 1 l,.box v]
   (λr fp=>r= .tup []∧fp=[.box (.st 1 [.rs (KB+1) [] 0 k k 1 .tip]),.arr 1 B,.box v]):=by
 subst hn hm hk hB;exact Vd l ys hv hg hy hp hl S4
theorem akY {y:Int} (hy:0≤y∧y≤4294967295) (E:Key) {S U M N:List UInt8} (hS:S.length=48) (hT:U.length=28) (hM:M.length=16) (hN:N.length=16):∃b:List UInt8,b.length=148∧aL Pg 343 [eZ y E S U M N] (aQ b):=by
 refine⟨[1,0,0,0]++cG y.toNat 4++E.l++S++U++M++N,by simp[db,E.h,hS,hT,hM,hN],?_⟩;have hw:IntKind.u64.wrap y=(y.toNat:Int):=by rw[wrap_u64 ⟨by omega,by omega⟩];omega
 have Xj:=db y.toNat 4;have h1:=Gd [.int .u8 1,.int .u8 0,.int .u8 0,.int .u8 0] y.toNat 4 (by omega) (by omega) (by simp) (by simp);have e1:[PV.int .u8 1,.int .u8 0,.int .u8 0,.int .u8 0]++(cG y.toNat 4).map u8=(([1,0,0,0]:List UInt8)++cG y.toNat 4).map u8:=rfl;rw[e1]at h1;have l1:(([1,0,0,0]:List UInt8)++cG y.toNat 4).length=8:=by simp[Xj]
 rw[show([PV.int .u8 1,.int .u8 0,.int .u8 0,.int .u8 0]:List PV).length=4 from rfl]at h1;generalize ([1,0,0,0]:List UInt8)++cG y.toNat 4=A1 at*;have iP:=gU y E S U M N;have h2:=yv (v:=eZ y E S U M N) (pth:=[.f 1 1]) (n:=8) (m:=32) (k:=40) (l:=A1.map u8) (ys:=E.l.map u8) (by simp[l1]) (by simp[E.h]) rfl (JeV (f:=u8) (l₁:=A1) (l₂:=E.l)) iP (by simp[bA]) (cr _) (cr _) (by omega) (by omega);have l2:(A1++E.l).length=40:=by simp[l1,E.h]
 generalize A1++E.l=A2 at*;have h3:=yv (v:=eZ y E S U M N) (pth:=[.f 2 33]) (n:=40) (m:=48) (k:=88) (l:=A2.map u8) (ys:=S.map u8) (by simp[l2]) (by simp[hS]) rfl (JeV (f:=u8) (l₁:=A2) (l₂:=S)) iP (by simp[bA]) (cr _) (cr _) (by omega) (by omega);have l3:(A2++S).length=88:=by simp[l2,hS]
 generalize A2++S=A3 at*;have h4:=yv (v:=eZ y E S U M N) (pth:=[.f 3 81]) (n:=88) (m:=28) (k:=116) (l:=A3.map u8) (ys:=U.map u8) (by simp[l3]) (by simp[hT]) rfl (JeV (f:=u8) (l₁:=A3) (l₂:=U)) iP (by simp[bA]) (cr _) (cr _) (by omega) (by omega);have l4:(A3++U).length=116:=by simp[l3,hT]
 generalize A3++U=A4 at*;have h5:=yv (v:=eZ y E S U M N) (pth:=[.f 4 109]) (n:=116) (m:=16) (k:=132) (l:=A4.map u8) (ys:=M.map u8) (by simp[l4]) (by simp[hM]) rfl (JeV (f:=u8) (l₁:=A4) (l₂:=M)) iP (by simp[bA]) (cr _) (cr _) (by omega) (by omega);have l5:(A4++M).length=132:=by simp[l4,hM]
 generalize A4++M=A5 at*;have h6:=yv (v:=eZ y E S U M N) (pth:=[.f 5 125]) (n:=132) (m:=16) (k:=148) (l:=A5.map u8) (ys:=N.map u8) (by simp[l5]) (by simp[hN]) rfl (JeV (f:=u8) (l₁:=A5) (l₂:=N)) iP (by simp[bA]) (cr _) (cr _) (by omega) (by omega);have l6:(A5++N).length=148:=by simp[l5,hN]
 generalize A5++N=A6 at*;have p1:=cr A1;have p2:=cr A2;have p3:=cr A3;have p4:=cr A4;have p5:=cr A5;have p6:=cr A6;have l6':(A6.map u8).length=148:=by simp[l6]
 have he:aQ A6= .sl 1 (A6.map u8) false:=rfl;rw[he];generalize A1.map u8=B1 at*;generalize A2.map u8=B2 at*;generalize A3.map u8=B3 at*;generalize A4.map u8=B4 at*;generalize A5.map u8=B5 at*;generalize A6.map u8=B6 at*;refine ae.intro (aC R.iv.2) (by simp[R.iv]) ?_;simp[R.iv,aj,av];refine ai.gA [] [90,91] [] (P5 1) (by simp) (by simp) (by simp[ab,af,ah,cY]) ?_;simp[aI,az,aE,aS,cL,hw];refine ai.gA [90,91] [] [.box (.st 1 [.rs 91 [] 0 4 4 1 .tip]),.arr 1 [.int .u8 1,.int .u8 0,.int .u8 0,.int .u8 0]] h1 (by simp[ab,ah,af,bT,idx]) (by simp[az,aE,aS,bz,idx]) (by simp[ab,af,ah,cY,p1.refs]) ?_;simp[aI,az,aE,aS,cL,p1.aE];refine mH.G3 5 (mH.s ?_);simp[↓al];refine ai.gA [90,91,1] [] [.box (.st 1 [.rs 91 [] 0 8 8 1 .tip]),.arr 1 B1,.box (eZ y E S U M N)] h2 (by simp[ab,ah,af,bT,idx,p1.refs,iP.refs]) (by simp[az,aE,aS,bz,idx,p1.aE,iP.aE]) (by simp[ab,af,ah,cY,p2.refs,iP.refs]) ?_;simp[aI,az,aE,aS,cL,p2.aE,iP.aE];refine⟨[.keep [1,2,3,22,23,24]],?_⟩;simp;refine mH.s ?_;simp[↓al];refine ai.gA [90,91,1] [] [.box (.st 1 [.rs 91 [] 0 40 40 1 .tip]),.arr 1 B2,.box (eZ y E S U M N)] h3 (by simp[ab,ah,af,bT,idx,p2.refs,iP.refs]) (by simp[az,aE,aS,bz,idx,p2.aE,iP.aE]) (by simp[ab,af,ah,cY,p3.refs,iP.refs]) ?_;simp[aI,az,aE,aS,cL,p3.aE,iP.aE];refine⟨[.keep [1,2,3,22,23,24]],?_⟩;simp;refine mH.s ?_;simp[↓al];refine ai.gA [90,91,1] [] [.box (.st 1 [.rs 91 [] 0 88 88 1 .tip]),.arr 1 B3,.box (eZ y E S U M N)] h4 (by simp[ab,ah,af,bT,idx,p3.refs,iP.refs]) (by simp[az,aE,aS,bz,idx,p3.aE,iP.aE]) (by simp[ab,af,ah,cY,p4.refs,iP.refs]) ?_;simp[aI,az,aE,aS,cL,p4.aE,iP.aE];refine⟨[.keep [1,2,3,22,23,24]],?_⟩;simp;refine mH.s ?_;simp[↓al];refine ai.gA [90,91,1] [] [.box (.st 1 [.rs 91 [] 0 116 116 1 .tip]),.arr 1 B4,.box (eZ y E S U M N)] h5 (by simp[ab,ah,af,bT,idx,p4.refs,iP.refs]) (by simp[az,aE,aS,bz,idx,p4.aE,iP.aE]) (by simp[ab,af,ah,cY,p5.refs,iP.refs]) ?_;simp[aI,az,aE,aS,cL,p5.aE,iP.aE];refine⟨[.keep [1,2,3,22,23,24]],?_⟩;simp;refine mH.s ?_;simp[↓al];refine ai.gA [90,91,1] [] [.box (.st 1 [.rs 91 [] 0 132 132 1 .tip]),.arr 1 B5,.box (eZ y E S U M N)] h6 (by simp[ab,ah,af,bT,idx,p5.refs,iP.refs]) (by simp[az,aE,aS,bz,idx,p5.aE,iP.aE]) (by simp[ab,af,ah,cY,p6.refs,iP.refs]) ?_;simp[aI,az,aE,aS,cL,p6.aE,iP.aE];refine⟨[.keep [1,2,3,22,23,24]],?_⟩;simp;refine mH.z ?_;simp[↓al];refine aA.plain [.keep [2],.fz 91] ?_;have kX:B6.take 148=B6:=by rw[←l6',JcX]
 simp[p6.refs,l6',kX];exact p6
def Lr (H0:Nat->UInt32) (d:List UInt8):Nat->(Nat->UInt32)
 |0=>H0
 |i+1=>uQ (Lr H0 d i) (tf (th d i)) (if i=qE d then d.length else 64*(i+1)) (decide (i=qE d))
theorem Dc {key d0:List UInt8} (pV:1≤key.length) (yT:key.length≤32) (hd:d0.length≤1000000) (c0:UInt32) (hx:bits .xor .u32 (bits .xor .u32 16842752 (IntKind.u32.wrap (IntKind.u32.wrap key.length*256))) 16=nU c0):
  ∃out:List UInt8,out.length=16∧aL Pg 254 [.int .i64 16,aQ key,aQ d0] (.tup [.sl 1 (out.map u8) true,.int .i64 0]):=by
 have hj:=ra [key,List.replicate (64-key.length) 0,d0] (by simp;omega) (by simp);generalize hde:[key,List.replicate (64-key.length) 0,d0].flatten=d at hj;have h1:1≤d.length:=by rw[←hde];simp;omega
 have h2:d.length≤1073741824:=by rw[←hde];simp;omega
 generalize hH0:ox Ls 0 (Ls 0^^^c0)=H0;refine⟨(xu (Lr H0 d (qE d+1)) 8).take 16,by rw[lJ,oi];rfl,?_⟩;refine ae.intro (aC R.mi.2) (by simp[R.mi]) ?_;have g0:=du (n:=8) Ls (i:=0) (by decide);have n1:¬(32:Int)<key.length:=by omega
 have n2:(key.length:Int)≤32:=by omega
 have n3:0<key.length:=by omega
 have wL:IntKind.i64.wrap (64-(key.length:Int))=((64-key.length:Nat):Int):=by rw[wrap_i64 (by omega)];omega
 have wv:=cr key;have hpd:=cr d0
 have hpz:au (List.replicate (64-key.length) (PV.int .u8 0)):=by
  have:=cr (List.replicate (64-key.length) 0);rw[JnV]at this;exact this
 simp[R.mi,aj,av,n1];refine ai.rA iw ?_;simp[g0,hx,nj,kj,show IntKind.u32.bits=32 from rfl,n3,wL,-getElem?_pos];refine⟨⟨by omega,by omega⟩,?_⟩;have hZ:(List.replicate (64-key.length) (PV.int .u8 0))=(List.replicate (64-key.length) (0:UInt8)).map u8:=by rw[JnV];rfl
 have hZl:(List.replicate (64-key.length) (PV.int .u8 0)).length=64-key.length:=JcW;have hZt:(List.replicate (64-key.length) (PV.int .u8 0)).take (64-key.length)=List.replicate (64-key.length) (PV.int .u8 0):=tJ (by simp);have hZe:aQ (List.replicate (64-key.length) (0:UInt8))= .sl 1 (List.replicate (64-key.length) (PV.int .u8 0)) false:=by rw[hZ];rfl
 have hpj:=cr d;rw[JdX,JdX,JrZ,hZe]at hj;generalize hZg:List.replicate (64-key.length) (PV.int .u8 0)=Z at*;refine ai.vA (bC:=[.sl 1 [aQ key,.rs KB [] 0 (64-key.length) (64-key.length) 1 .tip,aQ d0] false]) (args0:=[.sl 1 [aQ key,.sl 1 Z false,aQ d0] false]) (cg:=[.arr 1 Z]) [48] [51] [.arr 1 Z] hj (by simp[ab,hpz.refs]) (by simp[az,hpz.aE]) ?_ ?_ ?_
 ·refine⟨.inr (.inl ⟨1,_,[aQ key,.sl 1 Z false,aQ d0],false,rfl,⟨.inl ⟨rfl,(nT _).refs _⟩,.inr ⟨KB,[],0,64-key.length,64-key.length,1,.tip,Z,rfl,?_,hpz.refs _,by omega,rfl⟩,.inl ⟨rfl,(nT _).refs _⟩,trivial⟩,rfl⟩),trivial⟩;simp[av,hZl,hZt]
 ·rintro r new ⟨rfl,rfl⟩;exact⟨⟨by simp[gf,lR],by simp[tU,mB,kM (g:=u8) (λ_=>rfl)]⟩,rfl⟩
 rintro r new ⟨rfl,rfl⟩;simp[ab,cY,az,aE,cL,aI,hpz.refs,hpz.aE,show mB d=d.map u8 from rfl];have hdt:(d.map u8).take d.length=d.map u8:=tJ (by simp);clear hj hde hx hZ hZl hZt hZe hpz hZg;have avt:ox Ls 0 (Ls 0^^^c0)=Lr H0 d 0:=hH0;refine eW.fM (qE d) (λ_=>True) [0,8,9,10] (λi=>[(9,.sl 1 ((Dd d i).map u8) false),(10,.int .i64 ((64*i:Nat):Int))]) (λi=>[(8,.box (.ar 1 8 (uW 8 (Lr H0 d i))))]) [.keep [0,8,9,10],.dr 48,.fz 51] ?_;simp[aQ,Y0,avt,hdt,bn,bU,ab,af];have hnb:qE d=(d.length-1)/64:=rfl;refine⟨λi hi K hK=> ?_,λK=> ?_⟩
 ·have qH:Lr H0 d (i+1)=uQ (Lr H0 d i) (tf (th d i)) (64*(i+1)) false:=by
   rw[Lr,if_neg (by omega),decide_eq_false (by omega)]
  have KQ:=yw d i;have tI:=uR d i;have DW:(Dd d i).drop 64=Dd d (i+1):=by rw[Dd,Dd,JiW];rfl
  have hTl:(Dd d i).length=d.length-64*i:=JbV;rw[qH]at hK;rw[←DW]at hK;clear qH DW;have hcm:=λ(b:List UInt8) (hb:b.length=64)=>dJ (Lr H0 d i) (b:=b) hb (t:=64*(i+1)) (by omega) false;generalize th d i=B at*;generalize Lr H0 d i=H at*;rw[show d.drop (64*i)=Dd d i from rfl]at KQ;generalize hTe:Dd d i=T at*;have wA:min (T.length:Int) 64=64:=by omega
  have DS:min 64 T.length=64:=by omega
  have Sd:(64:Int)≤T.length:=by omega
  have hT0:¬T.length-64=0:=by omega
  have w1:IntKind.i64.wrap (64*(i:Int)+64)=((64*(i+1):Nat):Int):=by rw[wrap_i64 (by omega)];omega
  have w2:IntKind.u64.wrap ((64*(i+1):Nat):Int)=((64*(i+1):Nat):Int):=uS (by omega);have w3:64*((i:Int)+1)=((64*(i+1):Nat):Int):=by omega
  rw[lJ,DS]at KQ;generalize 64*(i+1)=q1 at*;simp[↓al,wA,DS,Sd,hT0,w1,w2,-List.reduceReplicate];refine yx (A:=B) (v:= .ar 1 8 (uW 8 (uQ H (tf B) q1 false))) (λb hb=> ?_) (by simp) (by simp) (by simp) (by simp) (by simp) (by simp) (by simp) (BF _ _ _) (by simp[KQ,JsV]) (by omega) (by omega) ?_
  ·have hbB:b=B:=by rw[hb,JpZ,←tI,JcX]
   subst hbB;exact hcm b tI
  simp[hT0];refine⟨[.keep [0,8,9,10],.dr 55],?_⟩;simp;exact hK _ (by simp[w3])
 ·have qH:Lr H0 d (qE d+1)=uQ (Lr H0 d (qE d)) (tf (th d (qE d))) d.length true:=by
   rw[Lr,if_pos rfl,decide_eq_true rfl]
  have KQ:=yw d (qE d);have tI:=uR d (qE d);have hTl:(Dd d (qE d)).length=d.length-64*qE d:=JbV;have hcm:=λ(b:List UInt8) (hb:b.length=64)=>dJ (Lr H0 d (qE d)) (b:=b) hb (t:=d.length) (by omega) true;rw[qH];clear qH;rw[show d.drop (64*qE d)=Dd d (qE d) from rfl]at KQ;generalize hTe:Dd d (qE d)=T at*;generalize th d (qE d)=B at*;generalize Lr H0 d (qE d)=H at*;have aef:T.length≤64:=by omega
  have wA:min (T.length:Int) 64=T.length:=by omega
  have DS:min 64 T.length=T.length:=by omega
  have KS:min T.length 64=T.length:=by omega
  have Sd:(T.length:Int)≤64:=by omega
  have w1:IntKind.i64.wrap (64*(qE d:Int)+T.length)=d.length:=by rw[wrap_i64 (by omega)];omega
  have w2:IntKind.u64.wrap (d.length:Int)=d.length:=uS (by omega);have htt:T.take 64=T:=tJ aef;have hdl:(T.map u8).drop T.length=[]:=JgV (by simp);have kX:(T.map u8).take T.length=T.map u8:=tJ (by simp);rw[htt]at KQ;generalize qE d=n at*;generalize avx:d.length=L at*;have G9:(List.replicate 64 (PV.int .u8 0)).length=64:=JcW;generalize hRz:List.replicate 64 (PV.int .u8 0)=Z at*;simp[↓al,wA,KS,w1,w2,hdl,kX,hRz,G9,-List.reduceReplicate,-List.length_replicate];refine yx (A:=B) (v:= .ar 1 8 (uW 8 (uQ H (tf B) L true))) (λb hb=> ?_) (by simp) (by simp) (by simp) (by simp) (by simp) (by simp) (by simp) (BF _ _ _) (by simp[KQ]) (by omega) (by omega) ?_
  ·have hbB:b=B:=by rw[hb,JpZ,←tI,JcX]
   subst hbB;exact hcm b tI
  generalize uQ H (tf B) L true=G;simp;simp[↓al];refine eW.fM 8 (λ_=>True) [0,13,78,79] (λi=>[(13,.rs 13 [] 0 (4*i) (4*i) 1 .tip),(79,.int .i64 i)]) (λi=>[(13,.arr 1 (mB (xu G i)))]) [.keep [0,13,78,79],.vt 13 13 1] ?_;simp[show mB (xu G 0)=[] from rfl];refine⟨λi hi K hK=> ?_,λK=> ?_⟩
  ·have hg:=du (n:=8) G hi;have jR:(i:Int)<8:=by omega
   have hc:=cD (n:=(G i).toNat) (k:=4) (by decide) (by decide);have RY:=db (G i).toNat 4;have Xk:=oi G i;have hs:xu G (i+1)=xu G i++cG (G i).toNat 4:=rfl;have w3:IntKind.u64.wrap (nU (G i))=((G i).toNat:Int):=uS (by have:=(G i).toNat_lt;omega);have w4:IntKind.i64.wrap ((i:Int)+1)=i+1:=wrap_i64 (by omega);rw[hs]at hK;clear hs;generalize cG (G i).toNat 4=N at*;generalize xu G i=O at*;have wM:(mB O).length=4*i:=by rw[mB,JaX,Xk]
   have hmn:(mB N).length=4:=by rw[mB,JaX,RY]
   have Xl:mB (O++N)=mB O++mB N:=JeV;rw[Xl]at hK;clear Xl;have Ve:aQ N= .sl 1 (mB N) false:=rfl;rw[Ve]at hc;have hmp:au (mB N):=aF (λ_=>by simp[u8]) _;have hN0:mB N≠[]:=by intro e;rw[e]at hmn;simp at hmn
   generalize mB O=mO at*;generalize mB N=mN at*;simp[↓al,jR,hg,w3,-getElem?_pos];refine ai.ret hc (by simp) (by simp) (by simp[hmp]) ?_;simp[wM,hmn,hN0,w4];refine⟨⟨by omega,by omega⟩,[.keep [0,13,78,79]],?_⟩;simp;exact hK _ (by simp[show 4*(i+1)=4*i+4 by omega])
  ·have Xk:=oi G 8;generalize xu G 8=O at*;have wM:(mB O).length=32:=by rw[mB,JaX,Xk]
   have hp:au (mB O):=aF (λ_=>by simp[u8]) O;have he:O.map u8=mB O:=rfl;rw[he];generalize mB O=mO at*;simp[↓al,wM];refine aA.plain [.fz 13] ?_;simp[hp.refs,wM];exact hp.take 16
theorem Lt (n:Nat) (l:List UInt8):gf (bA n l)=true:=CU (by
 show eG (l.map u8)=true;exact kM (λ_=>rfl) _)
@[simp] theorem aqy (n:Nat) (l:List UInt8):(bA n l).flat=true:=rfl
@[simp] theorem aqz (n:Nat) (l:List UInt8):(bA n l).aT=true:=rfl
@[simp↓] theorem agG (y:Int) (E:Key) (S T M N M':List UInt8):bO (eZ y E S T M N) [.f 4 109] (bA 16 M')=some (eZ y E S T M' N):=by simp[eZ,bO,aB]
@[simp↓] theorem agH (y:Int) (E:Key) (S T M N N':List UInt8):bO (eZ y E S T M N) [.f 5 125] (bA 16 N')=some (eZ y E S T M N'):=by simp[eZ,bO,aB]
theorem Y1 {key:List UInt8} (hk:key.length=16∨key.length=32) {ps:List (List UInt8)} (hn:ps.length≤100) (hd:ps.flatten.length≤1000000):∃out:List UInt8,out.length=16∧aL Pg 208 [aQ key,.sl 1 (ps.map aQ) false] (bA 16 out):=by
 have hS:∃out:List UInt8,out.length=16∧aL Pg 254 [.int .i64 16,aQ key,aQ ps.flatten] (.tup [.sl 1 (out.map u8) true,.int .i64 0]):=by
  rcases hk with hk|hk
  ·exact Dc (by omega) (by omega) hd 16846864 (by rw[hk];decide+kernel)
  ·exact Dc (by omega) (by omega) hd 16850960 (by rw[hk];decide+kernel)
 obtain⟨out,ho,hS⟩:=hS;refine⟨out,ho,?_⟩;have hj:=fh ps (by omega) (by omega);have AV:au (ps.map aQ):=aF (λ_=>by simp) _;have KO:fP (ps.map aQ)=ps.map aQ:=mY (λ_=>by simp) _;generalize ps.map aQ=W at*;generalize ps.flatten=d at*;have hpo:=cr out;have Xk:(out.map u8).length=16:=by simp[ho]
 have hot:(out.map u8).take 16=out.map u8:=tJ (by simp[ho]);rw[bA];generalize out.map u8=L at*;refine ae.intro (aC R.xb.2) (by simp[R.xb]) ?_;simp[R.xb,aj,av];refine ai.ret hj (by simp[KO]) (by simp[AV]) (by simp) ?_;simp;refine ai.ret hS (by simp) (by simp) (by simp[hpo]) ?_;simp[Xk,hot];refine aA.plain [] ?_;simp[hpo]
def m1L:List PV:=[.int .u8 109,.int .u8 97,.int .u8 99,.int .u8 49,.int .u8 45,.int .u8 45,.int .u8 45,.int .u8 45]
theorem akZ:aQ [109,97,99,49,45,45,45,45]= .sl 1 m1L false:=rfl
theorem ak0:au m1L:=by simp[m1L]
theorem ak1 (b8:Key) {b:List UInt8} (hb:b.length≤1000):∃out:List UInt8,out.length=16∧aL Pg 126 [aG b8,aQ b] (bA 16 out):=by
 have h1:=gv (ps:=[[109,97,99,49,45,45,45,45],b8.l]) (by simp) (by simp) (by simp[b8.h]);generalize iU _=k at h1;obtain⟨out,ho,h2⟩:=Y1 (key:=k.l) (.inr k.h) (ps:=[b]) (by simp) (by simp;omega);refine⟨out,ho,?_⟩;rw[JdX,JrZ,akZ]at h1;have htp:(b8.l.map u8).take 32=b8.l.map u8:=tJ (by simp[b8.h]);have kX:(k.l.map u8).take 32=k.l.map u8:=tJ (by simp[k.h]);have AV:=cr b8.l;have wv:=cr k.l;refine ae.intro (aC R.mm1.2) (by simp[R.mm1]) ?_;simp[R.mm1,aj,av];refine ai.view [2] [] [.box (aG b8)] (bC:=[.sl 1 [.sl 1 m1L false,.rs KB [] 0 32 0 1 .clip] false]) (args0:=[.sl 1 [.sl 1 m1L false,aQ b8.l] false]) (cg:=[.box (aG b8)]) h1 (by simp[getAll]) (by simp) (by simp) (by simp[ah,af,bT,idx]) (by simp[ab]) (by simp[aS,aE,bz,idx,m1L]) (by simp[az]) ?_ ?_ ?_
 ·refine⟨.inr (.inl ⟨1,_,[.sl 1 m1L false,aQ b8.l],false,rfl,⟨.inl ⟨rfl,by simp[af,ak0.refs]⟩,.inr ⟨KB,[],0,32,0,1,.clip,b8.l.map u8,rfl,?_,AV.refs _,by omega,rfl⟩,trivial⟩,rfl⟩),trivial⟩;simp[av,nW,htp]
 ·rintro r new ⟨rfl,rfl⟩;exact⟨⟨dv _,by simp⟩,rfl⟩
 rintro r new ⟨rfl,rfl⟩;simp[ab,az,aI];refine ai.vA (bC:=[.rs KB [] 0 32 0 1 .clip,.sl 1 [aQ b] false]) (args0:=[aQ k.l,.sl 1 [aQ b] false]) (cg:=[.box (aG k)]) [5] [] [.box (aG k)] h2 (by simp[ab]) (by simp[az]) ?_ ?_ ?_
 ·refine⟨.inl (.inr ⟨KB,[],0,32,0,1,.clip,k.l.map u8,rfl,?_,wv.refs _,by omega,rfl⟩),.inl (.inl ⟨rfl,by simp[af,ah]⟩),trivial⟩;simp[av,nW,kX]
 ·rintro r new ⟨rfl,rfl⟩;exact⟨⟨Lt _ _,by simp⟩,rfl⟩
 rintro r new ⟨rfl,rfl⟩;simp[ab,az,aI];refine aA.plain [.keep [4]] ?_;simp
theorem ab9 {y:Int} (hy:0≤y∧y≤4294967295) (E:Key) {S U M N M' N':List UInt8} (hS:S.length=48) (hT:U.length=28) (hM:M'.length=16) (hN:N'.length=16):∃b:List UInt8,b.length=148∧ae Pg 342 [bA 16 M',bA 16 N',.pt KB [] 0] [.box (eZ y E S U M N)] (λr fp=>r=aQ b∧fp=[.box (eZ y E S U M' N')]):=by
 obtain⟨b,hb,h⟩:=akY hy E hS hT hM hN;refine⟨b,hb,?_⟩;have I2:=cr b;refine ae.intro (aC R.msc.2) (by simp[R.msc]) ?_;simp[R.msc,aj,av];refine lv.run [KB] rfl ?_;simp;refine ai.ret h (by simp) (by simp[gU]) (by simp) ?_;simp;refine aA.with [] [KB] ?_;simp[ab,az,(gU y E S U M' N').refs,(gU y E S U M' N').aE]
theorem Ge:(List.replicate 16 (0:UInt8)).length=16:=rfl
theorem aca:PV.ar 1 16 (zr 16 (.int .u8 0))=bA 16 (List.replicate 16 0):=Lu 16
theorem ak2 (b8:Key) (has:Bool) {ck:List UInt8} (BT:ck.length=16) {y:Int} (hy:0≤y∧y≤4294967295) (E:Key) {S U M N:List UInt8} (hS:S.length=48) (hT:U.length=28):∃b m1 M' N':List UInt8,(b.length=148∧m1.length=16)∧
  ae Pg 236 [aG b8,.bl has,bA 16 ck,.fn (.func 342) [] [.pt KB [] 0]] [.box (eZ y E S U M N)] (λr fp=>r= .tup [aQ b,bA 16 m1]∧fp=[.box (eZ y E S U M' N')]):=by
 obtain⟨b0,tK,h0⟩:=ab9 (M:=M) (N:=N) hy E hS hT Ge Ge;obtain⟨m1,ZT,h1⟩:=ak1 b8 (b:=b0.take 116) (by simp;omega);obtain⟨b1,R6,h2⟩:=ab9 (M:=List.replicate 16 0) (N:=List.replicate 16 0) hy E hS hT ZT Ge;obtain⟨m2,hm2,h3⟩:=Y1 (key:=ck) (.inl BT) (ps:=[b1.take 132]) (by simp) (by simp;omega);obtain⟨b2,AU,h4⟩:=ab9 (M:=m1) (N:=List.replicate 16 0) hy E hS hT ZT hm2;refine⟨if has=true then b2 else b1,m1,m1,if has=true then m2 else List.replicate 16 0,⟨by split<;>assumption,ZT⟩,?_⟩;have hp0:=cr b0;have Jd:=cr b1;have rf:=cr b2;have hpc:=cr ck;have hct:(ck.map u8).take 16=ck.map u8:=tJ (by simp[BT]);generalize hzz:List.replicate 16 (0:UInt8)=Z at*;have ez:PV.ar 1 16 (zr 16 (.int .u8 0))=bA 16 Z:=by rw[aca,hzz]
 have i0:=gU y E S U M N;have i1:=gU y E S U Z Z;have i2:=gU y E S U m1 Z;have i3:=gU y E S U m1 m2;refine ae.intro T.mse (by simp[F.mse]) ?_;simp[F.mse,aj,av];refine ai.gen [KB] [] [.box (eZ y E S U M N)] h0 (by simp[getAll]) (by simp) (by simp) (by simp[ah,af,bT,idx]) (by simp[ab,i0.refs]) (by simp[aS,aE,bz,idx,ez]) (by simp[az,i0.aE]) (by simp[ab,i1.refs]) ?_;simp[aI,az,i1.aE];refine lv.run [11] rfl ?_;simp[aQ,tK];refine aM.ret h1 (by simp[aQ]) (by simp[hp0]) (by simp) ?_;simp;refine ai.gen [KB] [] [.box (eZ y E S U Z Z)] h2 (by simp[getAll]) (by simp) (by simp) (by simp[ah,af,bT,idx]) (by simp[ab,i1.refs]) (by simp[aS,aE,bz,idx,ez]) (by simp[az,i1.aE]) (by simp[ab,i2.refs]) ?_;simp[aI,az,i2.aE];refine⟨λhh=> ?_,λhh=> ?_⟩
 ·subst hh;refine lv.run [] rfl ?_;simp[aQ,R6];have azt:au ((b1.map u8).take 132):=Jd.take 132;have e132:PV.sl 1 [.sl 1 ((b1.map u8).take 132) false] false= .sl 1 [aQ (b1.take 132)] false:=by rw[aQ,JfQ]
  refine ai.vA (bC:=[.rs KB [] 0 16 0 1 .clip,.sl 1 [.sl 1 ((b1.map u8).take 132) false] false]) (args0:=[aQ ck,.sl 1 [aQ (b1.take 132)] false]) (cg:=[.box (bA 16 ck)]) [6] [] [.box (bA 16 ck)] h3 (by simp[ab]) (by simp[az]) ?_ ?_ ?_
  ·refine⟨.inl (.inr ⟨KB,[],0,16,0,1,.clip,ck.map u8,rfl,?_,hpc.refs _,by omega,rfl⟩),.inl (.inl ⟨e132.symm,by simp[af,ah]⟩),trivial⟩;simp[av,bA,hct]
  ·rintro r new ⟨rfl,rfl⟩;exact⟨⟨Lt _ _,by simp⟩,rfl⟩
  rintro r new ⟨rfl,rfl⟩;simp[ab,az,aI];refine ai.gA [KB] [] [.box (eZ y E S U m1 Z)] h4 (by simp[ab,i2.refs]) (by simp[az,i2.aE]) (by simp[ab,i3.refs]) ?_;simp[aI,az,i3.aE];refine aA.with [] [KB] ?_;simp[ab,az,i3.refs,i3.aE,aQ]
 ·subst hh;refine aA.with [] [KB] ?_;simp[ab,az,i2.refs,i2.aE,aQ]
theorem acb (b8:Key) (has:Bool) {ck:List UInt8} (BT:ck.length=16) {y:Int} (hy:0≤y∧y≤4294967295) (E:Key) {S U M N:List UInt8} (hS:S.length=48) (hT:U.length=28):∃b m1:List UInt8,(b.length=148∧m1.length=16)∧
  aL Pg 290 [aG b8,.bl has,bA 16 ck,eZ y E S U M N] (.tup [aQ b,bA 16 m1]):=by
 obtain⟨b,m1,M',N',hl,h⟩:=ak2 (M:=M) (N:=N) b8 has BT hy E hS hT;refine⟨b,m1,hl,?_⟩;have I2:=cr b;have i0:=gU y E S U M N;have i1:=gU y E S U M' N';refine ae.intro (aC R.ld.2) (by simp[R.ld]) ?_;simp[R.ld,aj,av];refine ai.gA [7] [] [.box (eZ y E S U M N)] h (by simp[ab,i0.refs]) (by simp[az,i0.aE]) (by simp[ab,af,ah,i1.refs]) ?_;simp[aI,az,aE,aS,i1.aE];refine aA.plain [.keep [8,9]] ?_;simp[aQ]
theorem aK.nsz {Γ:Cx} {c:Bool} {v:Value} {sz:Nat} (h:aK Γ (.sl 0 [] c) v):aK Γ (.sl sz [] c) v:=by
 simp only[aK]at h⊢;cases h with
 |sl _ _ _ a aX h1 h2 h3 h4 h5 h6=>exact aD.sl _ _ _ a aX h1 (by simp) h3 h4 h5 h6
theorem ae.ak4 {P:Program} [cK] [eE] {f:FuncId} {x y z:PV} {fp:List aU} {R:PV->List aU->Prop} {sz:Nat} (h:ae P f [x,y,z,.sl sz [] false] fp R):ae P f [x,y,z,.sl 0 [] false] fp R:=by
 refine λΓ w vs h1 h2 h3 h4=>h Γ w vs h1 h2 h3 ?_;match vs,h4 with
 |
  [a,b,c,d],h4=>
  simp only[eY]at h4⊢
  exact⟨h4.1,h4.2.1,h4.2.2.1,h4.2.2.2.1.nsz,trivial⟩
def Vf (l:List Int):List PV:=l.map (PV.int .u64)
theorem P6 (c:Int) (l:List Int) (hl:l.length≤1048576):aL Pg 242 [.int .u64 c,.sl 1 (Vf l) false] (.bl (l.all λx=>decide (c<x))):=by
 refine ae.intro (aC R.rL.2) (by simp[R.rL]) ?_;simp[R.rL,aj,av,Vf];refine eW.fM l.length (λi=>(l.take i).all (λx=>decide (c<x))=true) [0,7,8,9] (λi=>[(9,.int .i64 i)]) (λi=>[]) [.keep [0,7,8,9]] ?_;simp;refine⟨λi hi hI K hK=> ?_,λhI K=> ?_⟩
 ·have hx:l[i]? =some l[i]:=gJ hi;have BU:IntKind.i64.wrap ((i:Int)+1)=(i:Int)+1:=wrap_i64 (by omega);by_cases hc:c<l[i]
  ·simp[↓al,hi,BU,show¬l[i]≤c by omega];refine⟨[.keep [0,7,8,9]],?_⟩;simp;refine hK _ (by simp) λx hxx=> ?_;rw[JcZ hi]at hxx;rcases JaZ.1 hxx with h|h
   ·exact hI x h
   ·simp at h;rw[h];exact hc
  ·simp[↓al,hi,show l[i]≤c by omega];refine aA.plain [] ?_;simp;exact⟨l[i],JbJ hi,by omega⟩
 ·simp[↓al];refine aA.plain [] ?_;simp;exact hI
def P7 (s:kS) (now:Int):Int:=if now<s.born then 0 else min (now-s.born) 1099511627776
theorem atr {s:kS} {now:Int} (h1:0≤s.born) (h2:0≤now) (h3:now≤9000000000000000000):aL Pg 117 [eT s,.int .i64 now] (.int .i64 (P7 s now)):=by
 refine ae.intro (aC R.uT.2) (by simp[R.uT]) ?_;simp[R.uT,aj,av];refine⟨λh=> ?_,λh=> ?_⟩
 ·refine aA.plain [] ?_;simp[P7,h]
 ·have w1:IntKind.u64.wrap now=now:=wrap_u64 (by omega);have w2:IntKind.u64.wrap s.born=s.born:=wrap_u64 (by omega);have w3:IntKind.u64.wrap (now-s.born)=now-s.born:=wrap_u64 (by omega);have w4:IntKind.i64.wrap (min (now-s.born) 1099511627776)=min (now-s.born) 1099511627776:=wrap_i64 (by omega);rw[w1,w2,w3,w4];refine aA.plain [] ?_;simp[P7];intro h';omega
theorem ak5:aL Pg 293 [aQ []] (aQ []):=by
 have hj:=ra [[],[]] (by simp) (by simp);refine ae.intro (aC R.zJ.2) (by simp[R.zJ]) ?_;simp[R.zJ,aj,av];refine ai.vA (bC:=[.sl 1 [aQ [],.rs KB [] 0 0 0 1 .tip] false]) (args0:=[.sl 1 [aQ [],aQ []] false]) (cg:=[.arr 1 []]) [9] [11] [.arr 1 []] hj (by simp[ab,ah]) (by simp[az,aS]) ?_ ?_ ?_
 ·refine⟨.inr (.inl ⟨1,_,[aQ [],aQ []],false,rfl,⟨.inl ⟨rfl,(nT _).refs _⟩,.inr ⟨KB,[],0,0,0,1,.tip,[],rfl,?_,by simp,by omega,rfl⟩,trivial⟩,rfl⟩),trivial⟩;simp[av]
 ·rintro r new ⟨rfl,rfl⟩;exact⟨⟨by simp[gf,lR],by simp[tU,mB,eG]⟩,rfl⟩
 rintro r new ⟨rfl,rfl⟩;simp[ab,ah,cY,az,aE,aS,cL,aI,mB];refine aA.plain [.keep [2],.dr 9,.fz 11] ?_;simp[aQ]
theorem Vg {r c:Int} (hr:0≤r∧r≤4294967295) (hc:0≤c∧c≤18446744073709551615) {bs:List UInt8} (hb:bs.length=16):∃b:List UInt8,b.length=32∧aL Pg 291 [.st 3 [.int .u32 r,.int .u64 c,aQ bs]] (.tup [aQ b,.int .i64 0]):=by
 have hw:IntKind.u64.wrap r=(r.toNat:Int):=by rw[wrap_u64 ⟨by omega,by omega⟩];omega
 have hlr:=db r.toNat 4;have hlc:=db c.toNat 8;have h1:=Gd [.int .u8 4,.int .u8 0,.int .u8 0,.int .u8 0] r.toNat 4 (by omega) (by omega) (by simp) (by simp);have e1:[PV.int .u8 4,.int .u8 0,.int .u8 0,.int .u8 0]++(cG r.toNat 4).map u8=(([4,0,0,0]:List UInt8)++cG r.toNat 4).map u8:=rfl;rw[e1]at h1;have l1:(([4,0,0,0]:List UInt8)++cG r.toNat 4).length=8:=by simp[hlr]
 rw[show([PV.int .u8 4,.int .u8 0,.int .u8 0,.int .u8 0]:List PV).length=4 from rfl]at h1;generalize ([4,0,0,0]:List UInt8)++cG r.toNat 4=A1 at*;have h2:=Gd (A1.map u8) c.toNat 8 (by omega) (by omega) (cr _) (by simp;omega);rw[←JeV]at h2;have l2:(A1++cG c.toNat 8).length=16:=by simp[l1,hlc]
 rw[show(A1.map u8).length=8 by simp[l1]]at h2;generalize A1++cG c.toNat 8=A2 at*;have h3:=ab7 (A2.map u8) (bs.map u8) false (cr _) (cr _) (by simp;omega) (by simp;omega);rw[←JeV]at h3;have l3:(A2++bs).length=32:=by simp[l2,hb]
 rw[show(A2.map u8).length=16 by simp[l2],show(bs.map u8).length=16 by simp[hb]]at h3;refine⟨A2++bs,l3,?_⟩;generalize A2++bs=A3 at*;have p1:=cr A1;have p2:=cr A2;have p3:=cr A3;have pb:=cr bs;have wb:=wkB bs;have l3':(A3.map u8).length=32:=by simp[l3]
 have lb':(bs.map u8).length=16:=by simp[hb]
 have he:aQ A3= .sl 1 (A3.map u8) false:=rfl;have heb:aQ bs= .sl 1 (bs.map u8) false:=rfl;rw[he,heb];generalize A1.map u8=B1 at*;generalize A2.map u8=B2 at*;generalize A3.map u8=B3 at*;generalize bs.map u8=D at*;refine ae.intro (aC R.iV.2) (by simp[R.iV]) ?_;simp[R.iV,aj,av,lb'];have hwc:((c.toNat:Nat):Int)=c:=by omega
 rw[hwc]at h2;refine ai.gA [] [90,91] [] (P5 4) (by simp) (by simp) (by simp[ab,af,ah,cY]) ?_;simp[aI,az,aE,aS,cL,hw];refine ai.gA [90,91] [] [.box (.st 1 [.rs 91 [] 0 4 4 1 .tip]),.arr 1 [.int .u8 4,.int .u8 0,.int .u8 0,.int .u8 0]] h1 (by simp[ab,ah,af,bT,idx]) (by simp[az,aE,aS,bz,idx]) (by simp[ab,af,ah,cY,p1.refs]) ?_;simp[aI,az,aE,aS,cL,p1.aE];refine ai.gA [90,91] [] [.box (.st 1 [.rs 91 [] 0 8 8 1 .tip]),.arr 1 B1] h2 (by simp[ab,ah,af,bT,idx,p1.refs]) (by simp[az,aE,aS,bz,idx,p1.aE]) (by simp[ab,af,ah,cY,p2.refs]) ?_;simp[aI,az,aE,aS,cL,p2.aE];refine ai.gen [90,91] [] [.box (.st 1 [.rs 91 [] 0 16 16 1 .tip]),.arr 1 B2] h3 (by simp[getAll]) (by simp) (by simp) (by simp[ah,af,bT,idx,pb.refs]) (by simp[ab,ah,af,bT,idx,p2.refs]) (by simp[aS,aE,bz,idx,pb.aE,wb]) (by simp[az,aE,aS,bz,idx,p2.aE]) (by simp[ab,af,ah,cY,p3.refs]) ?_;simp[aI,az,aE,aS,cL,p3.aE];refine aA.plain [.keep [2,3],.fz 91] ?_;have kX:B3.take 32=B3:=by rw[←l3',JcX]
 simp[p3.refs,l3',kX];exact p3
def nxS (s:kS):kS:= {s with next:=s.next+1}
theorem acd {s:kS} {k:Key} (hk:s.send=k.fv) {lim:Int} (hr:0≤s.rem∧s.rem≤4294967295) (h0:0≤s.next) (dk:s.next<s.fC∧s.next<lim∧s.next<18446744073709543423):
  ∃b:List UInt8,b.length=32∧aL Pg 197 [eT s,.int .u64 lim,aQ []] (.tup [eT (nxS s),aQ b,.int .i64 0]):=by
 obtain⟨c,hc,hC⟩:=H9 s.next.toNat;have hwc:((s.next.toNat:Nat):Int)=s.next:=by omega
 rw[hwc]at hC;obtain⟨x,hx,hX⟩:=ak6 k.h hc (d:=[]) (m:=[]) (by simp) (by simp)
 have hX':aL Pg 292 [s.send.p,ji c,aQ [],.sl 0 [] false] (aQ x):=by
  rw[hk];exact ae.ak4 (sz:=1) hX
 obtain⟨b,hb,hB⟩:=Vg hr (c:=s.next) ⟨h0,by omega⟩ (bs:=x) (by simpa using hx);refine⟨b,hb,?_⟩;have Tc:=cr x;refine ae.intro T.nk (by simp[F.nk]) ?_;simp[F.nk,aj,av];refine ai.ret (P6 s.next [s.fC,lim,18446744073709543423] (by simp)) (by simp[Vf]) (by simp) (by simp) ?_;simp[dk.1,dk.2.1,dk.2.2];refine aM.rA hC ?_;simp;refine aM.rA ak5 ?_;simp;refine aM.rA hX' ?_;simp;refine aM.rA hB ?_;have hw:IntKind.u64.wrap (s.next+1)=s.next+1:=wrap_u64 (by omega);simp[hw];refine aA.plain [] ?_;simp[nxS]
def Y2 (s:kS) (r:zt) (now:Int):Bool:=decide (P7 s now<r.nc)&&[s.fC,r.sy,18446744073709543423].all λx=>decide (s.next<x)
theorem Vh {s:kS} {r:zt} {now:Int} (h1:0≤s.born) (h2:0≤now) (h3:now≤9000000000000000000):aL Pg 195 [eT s,c9 r,.int .i64 now] (.bl (Y2 s r now)):=by
 have hA:=atr h1 h2 h3;have hB:=P6 s.next [s.fC,r.sy,18446744073709543423] (by simp);refine ae.intro (aC R.qo.2) (by simp[R.qo]) ?_;simp[R.qo,aj,av];refine aM.rA hA ?_;by_cases hc:P7 s now<r.nc
 ·simp[hc];refine aM.ret hB (by simp[Vf]) (by simp) (by simp) ?_;simp;refine aA.plain [] ?_;simp[Y2,hc]
 ·simp[hc];refine aA.plain [] ?_;simp[Y2,hc]
def wa (L:List gh) (i:Nat) (t:gh):List gh:=L.take i++t::L.drop i
theorem AH {L:List gh} {i:Nat} (t:gh) (_:Unit) (hi:i≤L.length):(wa L i t).length=L.length+1:=by
 simp only[wa,JaJ,JcQ,lJ,JbV];omega
theorem ak7 {L:List gh} {J:List PV} {c:ft} (hl:L.length≤1048576) (hJ:au J) {g:FuncId} {q:gh->Bool} {v:PV} (hv:Pure v) (hq:∀x∈L,(ae Pg g [aV x,.pt KB [] 0] [aU.box v] (λr fp=>r= .bl (q x)∧fp=[aU.box v]))):
  ae Pg 358 [.rs KB [] 0 L.length (L.length+J.length) 34 c,.fn (.func g) [] [.pt (KB+1) [] 0]] [.arr 34 (L.map aV++J),.box v] (λr fp=>r= .int .i64 (kU q L)∧fp=[.arr 34 (L.map aV++J),.box v]):=by
 refine ae.intro (aC R.dN.2) (by simp[R.dN]) ?_;have oJ:au (L.map aV++J):=(aF gu L).append hJ;have hwl:L.length=(L.map aV).length:=by simp
 have hx:∀i,(h:i<L.length)->(L.map aV++J)[i]? =some (aV L[i]):=λi h=>by rw[List.getElem?_append_left (by simpa using h)];simp[h]
 have hlen:(L.map aV++J).length=L.length+J.length:=by simp
 generalize L.map aV++J=B at*;simp[R.dN,aj,av,hlen];refine eW.fM L.length (λi=>∀x∈L.take i,q x=false) [0,1,4,6,7,8] (λi=>[(8,.int .i64 i)]) (λ_=>[]) [.keep [0,1,4,6,7,8]] ?_;simp only[JnJ];simp;refine⟨λi hi hI K hK=> ?_,λhI K=> ?_⟩
 ·have hc:=hq L[i] (JbJ hi);have hx:=hx i hi;have wi:IntKind.i64.wrap ((i:Int)+1)=(i:Int)+1:=wrap_i64 (by omega);have hle:i<L.length+J.length:=by omega
  generalize Je:L[i]=x at*;simp[↓al,hx,hi,hlen,-getElem?_pos];refine ai.gA [KB+1] [] [aU.box v] hc (by simp[ab,hv.refs]) (by simp[az,hv.aE]) (by simp[ab,af,hv.refs]) ?_;simp[aI,az,aE,hv.aE];by_cases hb:q x=true
  ·simp[hb];refine aA.with [] [KB,KB+1] ?_;simp[ab,az,oJ.refs,oJ.aE,hv.refs,hv.aE];exact(sD hi hI (by rw[Je];exact hb)).symm
  ·have hb:q x=false:=by simpa using hb
   simp[hb,wi];refine⟨[.keep [0,1,4,6,7,8]],?_⟩;simp;refine hK _ (by simp) ?_;rw[JcZ hi,Je];intro y hy;rcases JaZ.1 hy with h|h
   ·exact hI y h
   ·simp at h;subst h;exact hb
 ·simp[↓al];refine aA.with [] [KB,KB+1] ?_;simp[ab,az,oJ.refs,oJ.aE,hv.refs,hv.aE];exact(vL hI).symm
theorem ak8 {L:List bM} {J:List PV} {c:ft} (hl:L.length≤1048576) (hJ:au J) {g:FuncId} {q:bM->Bool} {v:PV} (hv:Pure v) (hq:∀x∈L,(ae Pg g [aP x,.pt KB [] 0] [aU.box v] (λr fp=>r= .bl (q x)∧fp=[aU.box v]))):
  ae Pg 108 [.rs KB [] 0 L.length (L.length+J.length) 464 c,.fn (.func g) [] [.pt (KB+1) [] 0]] [.arr 464 (L.map aP++J),.box v] (λr fp=>r= .int .i64 (kU q L)∧fp=[.arr 464 (L.map aP++J),.box v]):=by
 refine ae.intro (aC R.dO.2) (by simp[R.dO]) ?_;have oJ:au (L.map aP++J):=(aF iu L).append hJ;have hwl:L.length=(L.map aP).length:=by simp
 have hx:∀i,(h:i<L.length)->(L.map aP++J)[i]? =some (aP L[i]):=λi h=>by rw[List.getElem?_append_left (by simpa using h)];simp[h]
 have hlen:(L.map aP++J).length=L.length+J.length:=by simp
 generalize L.map aP++J=B at*;simp[R.dO,aj,av,hlen];refine eW.fM L.length (λi=>∀x∈L.take i,q x=false) [0,1,4,6,7,8] (λi=>[(8,.int .i64 i)]) (λ_=>[]) [.keep [0,1,4,6,7,8]] ?_;simp only[JnJ];simp;refine⟨λi hi hI K hK=> ?_,λhI K=> ?_⟩
 ·have hc:=hq L[i] (JbJ hi);have hx:=hx i hi;have wi:IntKind.i64.wrap ((i:Int)+1)=(i:Int)+1:=wrap_i64 (by omega);have hle:i<L.length+J.length:=by omega
  generalize Je:L[i]=x at*;simp[↓al,hx,hi,hlen,-getElem?_pos];refine ai.gA [KB+1] [] [aU.box v] hc (by simp[ab,hv.refs]) (by simp[az,hv.aE]) (by simp[ab,af,hv.refs]) ?_;simp[aI,az,aE,hv.aE];by_cases hb:q x=true
  ·simp[hb];refine aA.with [] [KB,KB+1] ?_;simp[ab,az,oJ.refs,oJ.aE,hv.refs,hv.aE];exact(sD hi hI (by rw[Je];exact hb)).symm
  ·have hb:q x=false:=by simpa using hb
   simp[hb,wi];refine⟨[.keep [0,1,4,6,7,8]],?_⟩;simp;refine hK _ (by simp) ?_;rw[JcZ hi,Je];intro y hy;rcases JaZ.1 hy with h|h
   ·exact hI y h
   ·simp at h;subst h;exact hb
 ·simp[↓al];refine aA.with [] [KB,KB+1] ?_;simp[ab,az,oJ.refs,oJ.aE,hv.refs,hv.aE];exact(vL hI).symm
theorem ak9 {L:List gh} (hl:L.length≤1048576) {g:FuncId} {q:gh->Bool} {v:PV} (hv:Pure v) (hq:∀x∈L,(ae Pg g [aV x,.pt KB [] 0] [aU.box v] (λr fp=>r= .bl (q x)∧fp=[aU.box v]))):
  ae Pg 324 [.rs KB [] 0 L.length L.length 34 .tip,.fn (.func g) [] [.pt (KB+1) [] 0]] [.arr 34 (L.map aV),.box v] (λr fp=>∃(J:List PV) (c:Nat),(au J∧(L.filter λx=> !q x).length≤c∧c≤(L.filter λx=> !q x).length+J.length)∧r= .rs KB [] 0 (L.filter λx=> !q x).length ((L.filter λx=> !q x).length+J.length) 34 (.full c)∧fp=[.arr 34 ((L.filter λx=> !q x).map aV++J),.box v]):=by
 obtain⟨p,N3⟩:∃p:gh->Bool,∀x,p x= !q x:=⟨_,λ_=>rfl⟩
 rw[show(λx=> !q x)=p from funext λx=>(N3 x).symm];refine ae.intro (aC R.dK.2) (by simp[R.dK]) ?_;have nG:∀l:List gh,au (l.map aV):=λl=>aF gu l;have hix:=ak7 (c:= .tip) (J:=[]) hl vI hv hq;simp only[JhQ,List.length_nil,JnX]at hix;simp[R.dK,aj,av];refine ai.gA [KB,KB+1] [] [.arr 34 (L.map aV),.box v] hix (by simp[ab,hv.refs]) (by simp[az,hv.aE]) (by simp[ab,af,hv.refs]) ?_;simp[aI,az,aE,hv.aE];rcases tj q L with⟨he,cy⟩|⟨i,hi,he,Se,hqi⟩
 ·have hK:L.filter p=L:=JfX.2 λx hx=>by rw[N3,cy x hx];rfl
  rw[hK];simp[he];refine aA.with [.keep [4],.mt 4] [KB,KB+1] ?_;simp[ab,az,hv.refs,hv.aE];intro c j On;exact⟨(dE 34 j).refs _,List.replicate j (G0 34),c,⟨dE 34 j,by rcases On with h|⟨_,_,h⟩<;>simp[h],by rw[JcW];omega⟩,by simp,((nG L).append (dE 34 j)).aE _⟩
 ·have aej:p L[i]=false:=by rw[N3,hqi];rfl
  obtain⟨D,cn,⟨d0,c0⟩,dg,dn,dy,dl,cl,⟨ce,de⟩,dw,dp⟩:=P8 p aV gu (n:=34) (λx=>by simp) hi (λx hx=>by rw[N3,Se x hx];rfl) aej;have wi:IntKind.i64.wrap ((i:Int)+1)=(i:Int)+1:=wrap_i64 (by omega);have cS:¬(i:Int)= -1:=by omega
  simp[he,wi,cS];rw[←d0];have RQ:L.length-(i+1)+(i+1)=L.length:=by omega
  refine eW.fM (L.length-(i+1)) (λ_=>True) [0,1,4,5,6] (λr=>[(5,.int .i64 (cn (i+1+r))),(6,.int .i64 ((i:Int)+1+r))]) (λr=>[(KB,.arr 34 (D (i+1+r)))]) [.keep [0,1,4,5,6]] ?_;simp[c0];refine⟨λr hr K hK=> ?_,λK=> ?_⟩
  ·obtain⟨j,hj⟩:∃j,j=i+1+r:=⟨_,rfl⟩
   have Bp:j<L.length:=by omega
   have Td:(i:Int)+1+r=j:=by omega
   have hx:=dg j Bp;have hc:=hq L[j] (JbJ Bp);have dn:=dn j Bp;have dy:=dy j Bp;have cl:=cl j;have dlj:=dl j;have dpj:=dp j;have dpj1:=dp (j+1);have wj:IntKind.i64.wrap ((j:Int)+1)=(j:Int)+1:=wrap_i64 (by omega);have wc:IntKind.i64.wrap ((cn j:Int)+1)=(cn j:Int)+1:=wrap_i64 (by omega);have N1:cn j<L.length:=by omega
   obtain⟨y,hy,hyw⟩:∃y,(D j)[cn j]? =some y∧y.width=34:=by
    have dk:cn j<(D j).length:=by rw[dlj];exact N1
    exact⟨_,gJ dk,dw j _ (JbJ dk)⟩
   have hK:∀s2,gm s2 [0,1,4,5,6] [] []=⟨[(0,.rs KB [] 0 L.length L.length 34 .tip),(1,.fn (.func g) [] [.pt (KB+1) [] 0]),(4,.sl 34 [] true),(5,.int .i64 (cn (j+1))),(6,.int .i64 ((j:Int)+1))],[(KB,.arr 34 (D (j+1))),(KB+1,.box v)]⟩->K s2:=by
    intro s2 Bm;refine hK s2 (Bm.trans ?_);rw[show i+1+(r+1)=j+1 by omega,show(i:Int)+1+((r:Int)+1)=(j:Int)+1 by omega]
   rw[←hj,Td];have Tc:p L[j]= !q L[j]:=N3 _;generalize L[j]=x at*;generalize cn j=cj at*;generalize D j=Dj at*;generalize D (j+1)=Dj1 at*;generalize cn (j+1)=cj1 at*;simp[↓al,hx,Bp,dlj,-getElem?_pos];refine ai.gA [KB+1] [] [aU.box v] hc (by simp[ab,hv.refs]) (by simp[az,hv.aE]) (by simp[ab,af,hv.refs]) ?_;simp[aI,az,aE,hv.aE];by_cases hb:q x=true
   ·obtain⟨rfl,rfl⟩:=dn (by rw[Tc,hb];rfl);simp[hb,wj];refine⟨[.keep [0,1,4,5,6],.dr 7],?_⟩;simp[bn,bU,af,ah,ab,dpj.refs,hv.refs];exact hK _ (by simp)
   ·have hb:q x=false:=by simpa using hb
    obtain⟨rfl,rfl⟩:=dy (by rw[Tc,hb];rfl);simp[hb,wj,wc,dlj,N1,hy,hyw,-getElem?_pos];refine⟨[.keep [0,1,4,5,6],.dr 7],?_⟩;simp[bn,bU,af,ah,ab,dpj1.refs,hv.refs];exact hK _ (by simp)
  ·have Bp:i+1+(L.length-(i+1))=L.length:=by omega
   have Td:(i:Int)+1+((L.length-(i+1):Nat):Int)=L.length:=by omega
   simp only[Bp,Td];have cl:=cl L.length;have dlj:=dl L.length;have dpj:=dp L.length;have dw:=dw L.length;have qF:(L.filter p).length≤L.length:=by rw[←ce];exact cl.2
   rw[ce];generalize D L.length=DJ at*;generalize hKk:L.filter p=Kp at*;simp[↓al,dlj,qF,-getElem?_pos];rw[de]
   obtain⟨Z,hZ,W7,hzl⟩:∃Z,(List.replicate (L.length-Kp.length) (.st 34 [(.int .u32 0),(.ar 1 32 (zr 32 (.int .u8 0))),(.bl false)])++List.drop L.length DJ)=Z∧au Z∧Z.length=L.length-Kp.length:=
    ⟨_,rfl,(au.mk' λp hp=>by rw[JlW hp];simp).append (dpj.drop _),by simp[dlj]⟩
   rw[hZ];have ef:au (Kp.map aV++Z):=(nG Kp).append W7;have lN:(Kp.map aV++Z).length=L.length:=by simp;omega
   refine aA.with [.keep [4],.mt 4] [KB,KB+1] ?_;simp[lN,ab,az,hv.refs,hv.aE];intro c j On;have hzu:=W7.append (dE 34 j);refine⟨⟨W7.refs _,(dE 34 j).refs _⟩,Z++List.replicate j (G0 34),c,⟨hzu,?_,?_⟩,⟨by simp;omega,rfl⟩,((nG Kp).append hzu).aE _⟩
   ·rcases On with h|⟨_,_,h⟩
    ·omega
    ·simp[h]
   ·simp only[JaJ,JcW];omega
theorem ace {x:PV} {B:List PV} {off len:Nat} {c:ft} (ho:0<B.length) (hl:1≤len):ae Pg 312 [.rs KB [] 0 1 1 34 .tip,.rs (KB+1) [] off len B.length 34 c] [.arr 34 [x],.arr 34 B] (λr fp=>r= .bl false∧fp=[.arr 34 [x],.arr 34 B]):=by
 intro Γ w vs hw hm ly hA;match vs,hA with
 |
  [v1,v2],hA=>
  obtain⟨h1,h2,_⟩:=hA
  have g1:get Γ.bx KB=some (.arr 34 [x]):=by rw[ly];rfl
  have g2:get Γ.bx (KB+1)=some (.arr 34 B):=by rw[ly];rfl
  obtain⟨a1,c1,e1,k1⟩:=h1.rs g1 (by simp[aU.aN])
  obtain⟨a2,c2,e2,k2⟩:=h2.rs g2 (by simp[aU.aN])
  obtain⟨_,_,r1⟩:=hm.blk _ _ g1
  obtain⟨r2w,_,r2⟩:=hm.blk _ _ g2
  unfold gX at k1 k2
  cases i1:Γ.ι KB with
  |none=>rw[i1]at k1;exact absurd k1.1 (by omega)
  |
   some b1=>
   cases i2:Γ.ι (KB+1)with
   |none=>rw[i2]at k2;exact absurd k2.1 (by omega)
   |
    some b2=>
    rw[i1]at k1 r1;rw[i2]at k2 r2
    obtain⟨p1,p2,_⟩:=k1
    obtain⟨q1,q2,_⟩:=k2
    rcases p2 with p2|rfl
    ·omega
    rcases q2 with q2|rfl
    ·omega
    obtain⟨cc1,ce1,cs1,an7,u1,u2,u3,_⟩:=r1
    obtain⟨cc2,ce2,cs2,Sf,w1,w2,w3,_⟩:=r2
    have cS:b1≠b2:=λe=>by
     have:=hm.inj KB (KB+1) b1 (by rw[g1];rfl) (by rw[g2];rfl) i1 (by rw[i2,e]);omega
    rw[←hw]at u1 w1
    have Bm:cc2.size≠0:=by
     have e1:cs2.length=B.length*34:=by rw[w3.length,bf r2w]
     have e2:cc2.size=cs2.length+Sf.length:=by rw[←JbZ,w2];simp
     omega
    have fN:=Go.Lib.run_overlaps_apart (P:=Pg) w 31 4 128 (by kernel_rfl) 34 (λw=>run_sizeOf (by kernel_rfl)) ⟨b1,bI []+0*34,none⟩ ⟨b2,bI []+off*34,none⟩ 1 c1 len c2 cS ce1 ce2 cc1.size cc2.size (by simp[World.shape?,u1]) (by simp[World.shape?,w1]) Bm (by simp[World.frozen?,u1]) (by simp[World.frozen?,u1])
    rw[e1,e2]
    refine .inr ⟨.bool false,w,?_,_,_,[.arr 34 [x],.arr 34 B],Γ,rfl,⟨rfl,rfl⟩,hw,hm,ly,iK,Le.refl Γ,WF.refl w⟩
    rw[run_callFunc_extern (fn:=(Pg.funcs[312]?).getD default) (by kernel_rfl) (by kernel_rfl) (by kernel_rfl) (by kernel_rfl) (e:=Extern.SlicesOverlaps.overlaps #[31,31] #[4]) (by kernel_rfl)]
    rw[fN]
    rfl
theorem ala {L:List gh} {J:List PV} {c i:Nat} (hl:L.length≤1048576) (hJ:au J) (hc:L.length+1≤c∧c≤L.length+J.length) (hi:i≤L.length) (t:gh):
  ae Pg 228 [.rs KB [] 0 L.length (L.length+J.length) 34 (.full c),.int .i64 i,.rs (KB+1) [] 0 1 1 34 .tip] [.arr 34 (L.map aV++J),.arr 34 [aV t]] (λr fp=>∃B,(au B∧B.length=L.length+J.length∧B.take (L.length+1)=(wa L i t).map aV)∧r= .rs KB [] 0 (L.length+1) (L.length+J.length) 34 (.full c)∧fp=[.arr 34 B,.arr 34 [aV t]]):=by
 refine ae.intro (aC R.br.2) (by simp[R.br]) ?_;have nG:∀l:List gh,au (l.map aV):=λl=>aF gu l;have lN:(L.map aV++J).length=L.length+J.length:=by simp
 have kX:∀k,k≤L.length->(L.map aV++J).take k=(L.take k).map aV:=λk hk=>by rw[JfW (by simpa using hk),JfQ]
 have ef:au (L.map aV++J):=(nG _).append hJ;generalize L.map aV++J=B at*;by_cases hie:i=L.length
 ·subst hie;simp(disch:=omega) [R.br,aj,av,lN];refine⟨⟨by omega,hc.2,by omega,by omega⟩,λAd=> ?_,λAd=>by omega⟩
  obtain⟨B2,hB2,rf,AW,Hc⟩:∃B2,List.take L.length B++aV t::List.drop (L.length+1) B=B2∧au B2∧B2.length=L.length+J.length∧B2.take (L.length+1)=(wa L L.length t).map aV:=by
   have h0:(B.take L.length).length=L.length:=by rw[lJ,lN];omega
   refine⟨_,rfl,(ef.take _).append (au.mk' λx hx=> ?_),?_,?_⟩
   ·rcases cJ.1 hx with rfl|hx
    ·simp
    ·exact(ef.drop _).forget x hx
   ·simp only[JaJ,JcQ,JbV,h0,lN];omega
   ·rw[List.take_append,tJ (by omega),h0,show L.length+1-L.length=1 by omega,kX _ (JaQ _)];simp[wa]
  rw[hB2];refine aA.with [.keep [6]] [KB,KB+1] ?_;simp[ab,ah,az,aS,rf.refs,rf.aE];exact⟨rf,AW,Hc⟩
 ·have dk:i<L.length:=by omega
  have KT:¬(i:Int)=L.length:=by omega
  have h1:¬(c:Int)<(L.length:Int)+1:=by omega
  have h2:c≤L.length+J.length∧L.length≤c:=by omega
  have h3:L.length+1≤L.length+J.length:=by omega
  have W4:=ace (x:=aV t) (B:=B) (off:=i+1) (len:=L.length-i) (c:= .full (c-(i+1))) (by omega) (by omega);rw[lN]at W4;simp(disch:=omega) [R.br,aj,av,lN,KT,hi,h1,h2];refine⟨⟨by omega,by omega⟩,by omega,?_⟩;refine ai.gA [KB+1,KB] [] [.arr 34 [aV t],.arr 34 B] W4 (by simp[ab,ah,ef.refs]) (by simp[az,aS,ef.aE]) (by simp[ab,af,ah,ef.refs]) ?_;have hw:IntKind.i64.wrap ((i:Int)+1)=(i:Int)+1:=wrap_i64 (by omega);have m1:min (L.length+1-i) (L.length+J.length-i)=L.length+1-i:=by omega
  simp(disch:=omega) [aI,az,aE,aS,(gu t).aE,lN,hw,m1,-List.length_append];obtain⟨B1,hB1,KP,AW,Hc⟩:=Ia lN dk (by omega) (aV t);rw[kX _ (JaQ _),kX _ hi]at Hc;have Jd:au B1:=by rw[←hB1];exact(ef.take _).append ((((ef.drop _).take _).take _).append (ef.drop _))
  have rf:au (List.take i B1++aV t::List.drop (i+1) B1):=(Jd.take _).append (au.mk' λx hx=>by
   rcases cJ.1 hx with rfl|hx
   ·simp
   ·exact(Jd.drop _).forget x hx)
  rw[hB1];generalize List.take i B1++aV t::List.drop (i+1) B1=B2 at*;refine⟨⟨by omega,hi⟩,by omega,by omega,by omega,by rw[KP],by omega,⟨by rw[KP],by rw[KP];omega⟩,?_⟩;refine aA.with [.keep [6]] [KB,KB+1] ?_;simp[ab,ah,az,aS,rf.refs,rf.aE];exact⟨rf,AW,by rw[Hc];simp[wa,JjW,JfQ]⟩
theorem alb {L:List gh} {J:List PV} {i:Nat} (hl:L.length≤1048576) (hJ:au J) (hi:i≤L.length) (t:gh):
  ae Pg 228 [.rs KB [] 0 L.length (L.length+J.length) 34 (.full L.length),.int .i64 i,.rs (KB+1) [] 0 1 1 34 .tip] [.arr 34 (L.map aV++J),.arr 34 [aV t]] (λr fp=>r= .rs (KB+2) [] 0 (L.length+1) (L.length+1) 34 .tip∧fp=[.arr 34 (L.map aV++J),.arr 34 [aV t],.arr 34 ((wa L i t).map aV)]):=by
 refine ae.intro (aC R.br.2) (by simp[R.br]) ?_;have nG:∀l:List gh,au (l.map aV):=λl=>aF gu l;have lN:(L.map aV++J).length=L.length+J.length:=by simp
 have kX:∀k,k≤L.length->(L.map aV++J).take k=(L.take k).map aV:=λk hk=>by rw[JfW (by simpa using hk),JfQ]
 have ef:au (L.map aV++J):=(nG _).append hJ;generalize L.map aV++J=B at*;by_cases hie:i=L.length
 ·subst hie;simp(disch:=omega) [R.br,aj,av,lN];refine⟨⟨by omega,by omega⟩,λAd=>by omega,?_⟩;have hB2:List.take L.length B++[aV t]=(wa L L.length t).map aV:=by rw[kX _ (JaQ _)];simp[wa]
  rw[hB2];refine aA.with [.keep [6]] [KB,KB+1,25] ?_;have GW:=nG (wa L L.length t);generalize (wa L L.length t).map aV=B2 at*;simp[ab,ah,az,aS,GW.refs,GW.aE,ef.refs,ef.aE]
 ·have dk:i<L.length:=by omega
  have KT:¬(i:Int)=L.length:=by omega
  have h1:(L.length:Int)<(L.length:Int)+1:=by omega
  have h2:(i:Int)<(L.length:Int)+1:=by omega
  have h3:(i:Int)≤(L.length:Int)+1:=by omega
  have h4:(L.length+1)*40≤140737488355328:=by omega
  have h5:L.length≤9223372036854775806:=by omega
  simp(disch:=omega) [R.br,aj,av,lN,KT,hi,h1,h2,h3,h4,h5];refine⟨by omega,by omega,⟨by omega,by omega⟩,?_⟩;rw[EV (by rw[lN];omega) dk (by simp) (aV t),kX _ (JaQ _),kX _ hi];have hI:(List.take i L).map aV++aV t::List.drop i ((List.take L.length L).map aV)=(wa L i t).map aV:=by simp[wa,JjW,JfQ]
  rw[hI];have GW:=nG (wa L i t);generalize (wa L i t).map aV=B2 at*;refine aA.with [.keep [6]] [KB,KB+1,40] ?_;simp[ab,ah,az,aS,GW.refs,GW.aE,ef.refs,ef.aE]
theorem acf (x:gh) (n:Int):ae Pg 325 [aV x,.pt KB [] 0] [.box (.int .u32 n)] (λr fp=>r= .bl (!EW n x)∧fp=[.box (.int .u32 n)]):=by
 refine ae.intro (aC R.tk.2) (by simp[R.tk]) ?_;simp[R.tk,aj,av];refine aA.with [] [KB] ?_;simp[ab,az,EW]
theorem acg (x:gh) (n:Int):ae Pg 311 [aV x,.pt KB [] 0] [.box (.int .u32 n)] (λr fp=>r= .bl (decide (x.index=n))∧fp=[.box (.int .u32 n)]):=by
 refine ae.intro (aC R.tn.2) (by simp[R.tn]) ?_;simp[R.tn,aj,av];refine aA.with [] [KB] ?_;simp[ab,az]
theorem ach (x:gh) (n:Int):ae Pg 227 [aV x,.pt KB [] 0] [.box (.int .u32 n)] (λr fp=>r= .bl (decide (n<x.index))∧fp=[.box (.int .u32 n)]):=by
 refine ae.intro (aC R.tp.2) (by simp[R.tp]) ?_;simp[R.tp,aj,av];refine aA.with [] [KB] ?_;simp[ab,az]
theorem alc {l:List gh} (h:l.length≤1048576) (n:Int):aL Pg 249 [bK l,.int .u32 n] (bK (l.filter (EW n))):=by
 refine ae.intro (aC R.xc.2) (by simp[R.xc]) ?_;have nG:∀l:List gh,au (l.map aV):=λl=>aF gu l;have rh:uL Pg 57 [.sl 34 (l.map aV) false] 34 (l.map aV):=lV (bytes:=40) (aC R.bW.2) (by omega) (nG l) (by simpa using h) (by omega);have hd:=ak9 (L:=l) h (g:=325) (q:=λs=> !EW n s) (v:= .int .u32 n) (by simp) (λx _=>acf x n);have hf:(l.filter λx=> !!EW n x)=l.filter (EW n):=by simp only[Bool.not_not]
 rw[hf]at hd;generalize l.filter (EW n)=Rq at*;simp[R.xc,aj,av,bK];refine ai.own 6 rh (by simp) (by simp[nG]) (nG l) (by simp) ?_;simp;refine ai.gR [6,3] [] [.arr 34 (l.map aV),.box (.int .u32 n)] hd (by simp[ab,af]) (by simp[az,aE]) ?_;rintro r fp ⟨J,c,⟨hJ,h1,h2⟩,rfl,rfl⟩;have ef:au (Rq.map aV++J):=(nG _).append hJ;have lN:(Rq.map aV++J).length=Rq.length+J.length:=by simp
 have kX:(Rq.map aV++J).take Rq.length=Rq.map aV:=by rw[JfW (by simp),tJ (by simp)]
 generalize hB:Rq.map aV++J=B at ef lN kX⊢;refine⟨by simp[ab,af,cY,ef.refs],?_⟩;simp[aI,az,aE,cL,ef.aE];refine aA.plain [.keep [4],.fz 6] ?_;simp[ef.refs,lN,kX,nG]
theorem P9 {l:List gh} (hl:l.length≤1048576) {g:FuncId} {q:gh->Bool} {v:PV} (hv:Pure v) (hq:∀x∈l,ae Pg g [aV x,.pt KB [] 0] [.box v] (λr fp=>r= .bl (q x)∧fp=[.box v])):
  ae Pg 226 [bK l,.fn (.func g) [] [.pt KB [] 0]] [.box v] (λr fp=>r= .int .i64 (l.findIdx q:Nat)∧fp=[.box v]):=by
 refine ae.intro (aC R.ko.2) (by simp[R.ko]) ?_;simp[R.ko,aj,av];refine eW.fM l.length (λi=>∀x∈l.take i,q x=false) [0,1,4,7,8,9] (λi=>[(9,.int .i64 i)]) (λ_=>[]) [.keep [0,1,4,7,8,9]] ?_;simp only[JnJ];simp;refine⟨λi hi hI K hK=> ?_,λhI K=> ?_⟩
 ·have hc:=hq l[i] (JbJ hi);have hx:l[i]? =some l[i]:=gJ hi;have wi:IntKind.i64.wrap ((i:Int)+1)=(i:Int)+1:=wrap_i64 (by omega);generalize Je:l[i]=x at*;simp[↓al,hx,hi,-getElem?_pos];refine ai.gA [KB] [] [.box v] hc (by simp[ab,hv.refs]) (by simp[az,hv.aE]) (by simp[ab,hv.refs,af]) ?_;simp[aI,az,aE,hv.aE];by_cases hb:q x=true
  ·have he:l.findIdx q=i:=by
    rw[List.findIdx_eq hi];refine⟨by rw[Je];exact hb,λj hj=>hI _ (JpQ.2 ⟨j,by omega,rfl⟩)⟩
   simp[hb];refine aA.with [.keep [4],.dr 6] [KB] ?_;simp[bn,bU,ab,af,az,hv.refs,hv.aE,he]
  ·have hb:q x=false:=by simpa using hb
   simp[hb,wi];refine⟨[.keep [0,1,4,7,8,9],.dr 6],?_⟩;simp[bn,bU,ab,af,ah,hv.refs];refine hK _ (by simp) ?_;rw[JcZ hi,Je];intro y hy;rcases JaZ.1 hy with h|h
   ·exact hI y h
   ·simp at h;subst h;exact hb
 ·have he:l.findIdx q=l.length:=by
   rw[List.findIdx_eq_length];intro x hx;exact hI x hx
  simp[↓al];refine aA.with [.keep [4]] [KB] ?_;simp[ab,az,hv.refs,hv.aE,he]
def we (l:List gh):Nat->Int->Int×Bool
 |0,_=>(0,false)
 |n+1,x=>if l.findIdx (λs=>decide (s.index=x))=l.length then(x,true)else if x=4294967295 then(0,false)else we l n (x+1)
theorem Lv (l:List gh):∀(n:Nat) (x:Int),0≤x∧x≤4294967295->0≤(we l n x).1∧(we l n x).1≤4294967295
 |0,_,_=>by simp[we]
 |
  n+1,x,h=>by
  unfold we
  split
  ·exact h
  ·split
   ·simp
   ·exact Lv l n _ (by omega)
theorem Y3 {l:List gh} (hl:l.length≤1048575) {x:Int} (hx:0≤x∧x≤4294967295):aL Pg 225 [bK l,.int .u32 x] (.tup [.int .u32 (we l (l.length+1) x).1,.bl (we l (l.length+1) x).2]):=by
 refine ae.intro (aC R.xd.2) (by simp[R.xd]) ?_;have w0:IntKind.i64.wrap ((l.length:Int)+1)=((l.length+1:Nat):Int):=by rw[wrap_i64 (by omega)];omega
 simp[R.xd,aj,av,w0];refine eW.fM (l.length+1) (λi=>x+i≤4294967295∧we l (l.length+1-i) (x+i)=we l (l.length+1) x) [0,3,4,5,8,9] (λi=>[(9,.int .i64 i)]) (λi=>[(3,.box (.int .u32 (x+(i:Int))))]) [.keep [0,3,4,5,8,9]] ?_;simp;refine⟨hx.2,λi hi hb hI K hK=> ?_,λhb hI K=> ?_⟩
 ·have wi:IntKind.i64.wrap ((i:Int)+1)=(i:Int)+1:=wrap_i64 (by omega);have hn:l.length+1-i=(l.length-i)+1:=by omega
  have jR:(i:Int)<(l.length:Int)+1:=by omega
  have A7:x+((i:Int)+1)=x+(i:Int)+1:=by omega
  rw[hn,we]at hI;rw[A7]at hK;generalize x+(i:Int)=y at*;have hf:=P9 (l:=l) (by omega) (g:=311) (v:= .int .u32 y) (by simp) (λz _=>acg z y);generalize l.findIdx (λs=>decide (s.index=y))=fi at*;simp[↓al,jR];refine ai.gA [3] [] [.box (.int .u32 y)] hf (by simp[ab,af]) (by simp[az]) (by simp[ab,af]) ?_;simp[aI,az,aE];by_cases h1:fi=l.length
  ·rw[if_pos h1]at hI;have RP:(fi:Int)=(l.length:Int):=by omega
   simp[RP];refine aA.plain [.keep [4,5],.dr 3] ?_;simp[bn,af,←hI]
  ·rw[if_neg h1]at hI;have RP:¬(fi:Int)=(l.length:Int):=by omega
   by_cases h2:y=4294967295
   ·subst h2;rw[if_pos rfl]at hI;simp[↓al,RP];refine aA.plain [.keep [4,5],.dr 3] ?_;simp[bn,af,←hI]
   ·rw[if_neg h2]at hI;have wx:IntKind.u32.wrap (y+1)=y+1:=wrap_u32 (by omega);simp[RP,h2,wi,wx];refine⟨[.keep [0,3,4,5,8,9]],?_⟩;simp;exact hK _ (by simp) (by omega) hI
 ·have hI:((0,false):Int×Bool)=we l (l.length+1) x:=by rw[←hI];rfl
  simp[↓al];refine aA.plain [.keep [4,5],.dr 3] ?_;simp[bn,af];exact⟨by rw[←hI],by rw[←hI]⟩
theorem Nk {l:List gh} (h:l.length≤1048576):ae Pg 57 [bK l] [] (λr fp=>∃(J:List PV) (c:Nat),(au J∧l.length≤c∧c≤l.length+J.length)∧r= .rs KB [] 0 l.length (l.length+J.length) 34 (.full c)∧fp=[.arr 34 (l.map aV++J)]):=by
 refine ae.intro (aC R.bW.2) (by simp[R.bW]) ?_;have nG:∀l:List gh,au (l.map aV):=λl=>aF gu l;simp[R.bW,aj,av,bK];refine⟨⟨⟨by omega,by omega⟩,?_⟩,?_⟩
 ·refine aA.with [.mt 2] [7] ?_;simp[ab,az];intro c j On;exact⟨(dE 34 j).refs _,List.replicate j (G0 34),c,⟨dE 34 j,by rcases On with h|⟨_,_,h⟩<;>simp_all,by rw[JcW];rcases On with h|⟨_,_,h⟩<;>simp_all⟩,by simp,((nG l).append (dE 34 j)).aE _⟩
 ·rintro rfl;refine aA.with [.vt 2 7 34,.mt 2] [7] ?_;simp[ab,az];intro c j On;exact⟨(dE 34 j).refs _,List.replicate j (G0 34),c,⟨dE 34 j,by rcases On with h|⟨_,_,h⟩<;>simp_all⟩,by simp,(dE 34 j).aE _⟩
theorem ald {l:List gh} (hl:l.length≤1048575) {x:Int} (hx:0≤x∧x≤4294967295) (k:Key) (b:Bool):∃(y:Int) (R:List gh) (e:Int),(l.length<32->e=0)∧(R.length≤32∧R.length≤l.length+1)∧(0≤y∧y≤4294967295)∧
  aL Pg 136 [bK l,.int .u32 x,aG k,.bl b] (.tup [.sl 34 (R.map aV) false,.int .u32 y,.int .i64 e]):=by
 by_cases h32:32≤l.length
 ·refine⟨0,[],12,λh=>absurd h32 (by omega),by simp,by simp,?_⟩;refine ae.intro T.Y4 (by simp[F.Y4]) ?_;have h':(32:Int)≤l.length:=by omega
  simp[F.Y4,aj,av,h'];refine aA.plain [.keep [8,9,10],.dr 6,.wk 8] ?_;simp[bn,af,ah]
 ·obtain⟨y,hy⟩:∃y,y=if(we l (l.length+1) (max x 1)).2=true then(we l (l.length+1) (max x 1)).1 else(we l (l.length+1) 1).1:=⟨_,rfl⟩
  refine⟨y,wa l (l.findIdx λs=>decide (y<s.index)) ⟨y,k,b⟩,0,λ_=>rfl,by rw[AH _ () List.findIdx_le_length];omega,by rw[hy];split<;>exact Lv l _ _ (by omega),?_⟩;refine ae.intro T.Y4 (by simp[F.Y4]) ?_;have h':¬(32:Int)≤l.length:=by omega
  have nG:∀l:List gh,au (l.map aV):=λl=>aF gu l;have S6:=Y3 (l:=l) (by omega) (x:=max x 1) (by omega);have S7:=Y3 (l:=l) (by omega) (x:=1) (by omega);have rh:uL Pg 57 [.sl 34 (l.map aV) false] 34 (l.map aV):=lV (bytes:=40) (aC R.bW.2) (by omega) (nG l) (by simp;omega) (by omega);have Z8:=P9 (l:=l) (by omega) (g:=227) (v:= .int .u32 y) (by simp) (λz _=>ach z y);have hle:l.findIdx (λs=>decide (y<s.index))≤l.length:=List.findIdx_le_length;generalize l.findIdx (λs=>decide (y<s.index))=at' at*;obtain⟨c,hcA⟩:∃c,c=aV ⟨y,k,b⟩:=⟨_,rfl⟩
  have tail:∀ {s:St} {K:St->Prop},True:=λ {_ _}=>trivial;generalize we l (l.length+1) (max x 1)=f1 at*;generalize we l (l.length+1) 1=f2 at*;obtain⟨a1,b1⟩:=f1;obtain⟨a2,b2⟩:=f2;have rh:=Nk (l:=l) (by omega);cases b1
  all_goals
   simp at hy
   subst hy
   simp[F.Y4,aj,av,h']
   refine ai.rA S6 ?_
   simp
  case' false=>
   refine ai.rA S7 ?_;simp
  all_goals
   refine ai.gA [11] [] [.box (.int .u32 y)] Z8 (by simp[ab,af]) (by simp[az]) (by simp[ab,af]) ?_
   simp[aI,az,aE]
   refine XW.run [35,41] rfl rfl rfl ?_
   simp
   refine⟨?_,?_⟩
  all_goals
   refine ai.gR [] [35] [] rh (by simp) (by simp) ?_
   rintro r fp ⟨J,c,⟨hJ,h1,h2⟩,rfl,rfl⟩
   have ef:au (l.map aV++J):=(nG _).append hJ
   have lN:(l.map aV++J).length=l.length+J.length:=by simp
   have hA:=λhc:l.length+1≤c=>ala (L:=l) (J:=J) (c:=c) (i:=at') (by omega) hJ ⟨hc,h2⟩ hle ⟨y,k,b⟩
   have hB:=alb (L:=l) (J:=J) (i:=at') (by omega) hJ hle ⟨y,k,b⟩
   have hil:=AH (L:=l) ⟨y,k,b⟩ () hle
   generalize hBd:l.map aV++J=B at*
   refine⟨by simp[ab,af,cY,ef.refs],?_⟩
   simp[aI,az,aE,cL,ef.aE]
   have ey:PV.st 34 [.int .u32 y,aG k,.bl b]=aV ⟨y,k,b⟩:=rfl
   simp only[ey]
   by_cases hcc:l.length+1≤c
   ·refine ai.gR [35,41] [] [.arr 34 B,.arr 34 [aV ⟨y,k,b⟩]] (hA hcc) (by simp[ab,ah,ef.refs]) (by simp[az,aS,ef.aE]) ?_
    rintro r fp ⟨B2,⟨rf,AW,Hc⟩,rfl,rfl⟩
    refine⟨by simp[ab,af,ah,cY,rf.refs],?_⟩
    have KF:l.length+1≤B2.length:=by omega
    simp[aI,az,aE,aS,cL,rf.aE]
    refine aA.plain [.keep [8,9,10],.dr 6,.dr 11,.dr 41,.fz 35] ?_
    simp[bn,bU,ab,af,ah,rf.refs]
    rw[if_pos ⟨AW.symm,KF⟩,Hc]
    simp
   ·obtain rfl:c=l.length:=by omega
    refine ai.gA [35,41] [42] [.arr 34 B,.arr 34 [aV ⟨y,k,b⟩]] hB (by simp[ab,ah,ef.refs]) (by simp[az,aS,ef.aE]) (by simp[ab,af,ah,cY,ef.refs]) ?_
    simp[aI,az,aE,aS,cL,ef.aE]
    refine aA.plain [.keep [8,9,10],.dr 6,.dr 11,.dr 35,.dr 41,.fz 42] ?_
    simp[bn,bU,ab,af,ah,ef.refs]
    rw[if_pos (by rw[hil];omega),tJ (by rw[JaX,hil];omega)]
    simp
end Go.Ab
