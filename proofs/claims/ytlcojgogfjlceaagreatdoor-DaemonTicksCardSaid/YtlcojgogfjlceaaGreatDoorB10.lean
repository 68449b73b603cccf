/- Functions of the program and of the document, as the abstract reading walks them, part 10. No condition. -/
import Derived.Test.YtlcojgogfjlceaaGreatDoorB9
import Derived.Test.YtlcojgogfjlceaaGreatDoorB4
import Derived.Test.YtlcojgogfjlceaaGreatDoorB3
import Derived.Test.YtlcojgogfjlceaaGreatDoorB6
set_option maxRecDepth 10000
set_option maxHeartbeats 4000000
set_option linter.all false
noncomputable section
namespace Go.Ab
theorem acw (a:iI) {i:Nat} (As:i<128):aK Pg 194 [cP a,.int .i64 (i:Int)] (.int .i64 (rU a i)):=by
 refine ae.intro (aC R.xm.2) (by simp[R.xm]) ?_;have hx:=a.at2 (i:=i/8) (by omega);have hw:IntKind.i64.wrap ((i/8:Nat):Int)=((i/8:Nat):Int):=wrap_i64 (by omega);have B9:IntKind.i64.wrap (7-((i%8:Nat):Int))=((7-i%8:Nat):Int):=by rw[wrap_i64 (by omega)];omega
 have hd:(i:Int).tdiv 8=((i/8:Nat):Int):=by rw[show(8:Int)=((8:Nat):Int) from rfl,←Int.ofNat_tdiv]
 have hb:=alk ⟨7-i%8,by omega⟩ ⟨(a.uz (i/8)).toNat,(a.uz (i/8)).toNat_lt⟩;have hm:min (7-i%8) IntKind.u8.bits=7-i%8:=by show min (7-i%8) 8=_;omega
 have hr:rU a i=(a.uz (i/8)).toNat/2^(7-i%8)%2:=rfl;have hwr:IntKind.i64.wrap ((rU a i:Nat):Int)=rU a i:=wrap_i64 (by have:rU a i<2:=JdZ _ (by decide);omega);simp only at hb;rw[←hr]at hb;have OJ:((i/8:Nat):Int)<16:=by omega
 generalize a.uz (i/8)=b at*;generalize rU a i=r at*;generalize hq:7-i%8=q at*;generalize hp:i%8=z at*;generalize hs:i/8=y at*;have hq2:IntKind.i64.wrap (7-(z:Int))=(q:Int):=B9;simp[R.xm,aj,av,Zn,hw,B9,hd,hx,u8,hp,hm,OJ,hb,hwr,-Int.natCast_ediv,-Int.natCast_emod,-getElem?_pos];refine aA.plain [] ?_;simp
theorem acx (a:iI) (i:Nat):rU a i=0∨rU a i=1:=by have:rU a i<2:=JdZ _ (by decide);omega
def Dk (has:Bool) (k:Key) (c0 c1:PV):PV:= .st 35 [.bl has,aG k,.ar 1 2 [c0,c1]]
def I7 (v:PV):PV:= .fp 35 [v] [.i 0 35]
def G7 (a:iI) (k:Key):Nat->Nat->PV
 |0,_=>I7 (Dk true k .np .np)
 |m+1,t=>if rU a t=0 then I7 (Dk false zK (G7 a k m (t+1)) .np)else I7 (Dk false zK .np (G7 a k m (t+1)))
theorem Dl (a:iI) (k:Key):∀m t,∃v,G7 a k m t=I7 v∧Pure v
 |0,t=>⟨_,rfl,by simp[Dk]⟩
 |
  m+1,t=>by
  obtain⟨v,h1,h2⟩:=Dl a k m (t+1)
  unfold G7
  rw[h1]
  split<;>exact⟨_,rfl,by simp[Dk,I7,h2]⟩
@[simp] theorem ayQ (z:Nat) (l:List PV) (p:List Step):(PV.fp z l p).width=1:=_root_.id rfl
@[simp] theorem ayR (z:Nat) (l:List PV) (p:List Step):(PV.fp z l p).isAgg=false:=_root_.id rfl
@[simp] theorem ayS (z:Nat) (l:List PV) (p:List Step):(PV.fp z l p).flat=true:=_root_.id rfl
@[simp] theorem ayT (z:Nat) (l:List PV) (p:List Step):(PV.fp z l p).aT=true:=_root_.id rfl
@[simp] theorem ayU (z:Nat) (l:List PV) (p:List Step):wk (PV.fp z l p)=PV.fp z l p:=_root_.id rfl
@[simp] theorem ayV:PV.np.width=1:=_root_.id rfl
@[simp] theorem ayW:PV.np.isAgg=false:=_root_.id rfl
theorem alm:zr 2 PV.np=[.np,.np]:=by rw[cg];rfl
theorem aln (r:vi) {n:Nat} (hb:r.D1.bits=(n:Int)) (hn:n≤128):∀(m t:Nat),t+m=n->aK Pg 193 [.np,fY r,.int .i64 (t:Int)] (G7 r.D1.addr r.peer m t)
 |
  0,t,h=>by
  have e:(t:Int)=(n:Int):=by omega
  refine ae.intro T.eZ (by simp[F.eZ]) ?_
  simp[F.eZ,aj,av,hb,e,alm]
  refine lH.run [11,11] rfl ?_
  simp
  refine aA.plain [.keep [6],.dr 4,.ba 6 11,.fz 11] ?_
  simp
  rfl
 |
  m+1,t,h=>by
  have ih:=aln r hb hn m (t+1) (by omega)
  have ih:aK Pg 193 [.np,fY r,.int .i64 ((t:Int)+1)] (G7 r.D1.addr r.peer m (t+1)):=by simpa using ih
  have e:¬(t:Int)=(n:Int):=by omega
  have XC:=acw r.D1.addr (i:=t) (by omega)
  have hw:IntKind.i64.wrap ((t:Int)+1)=(t:Int)+1:=wrap_i64 (by omega)
  refine ae.intro T.eZ (by simp[F.eZ]) ?_
  obtain⟨v,hv,c1⟩:=Dl r.D1.addr r.peer m (t+1)
  have hc:G7 r.D1.addr r.peer (m+1) t=if rU r.D1.addr t=0 then I7 (Dk false zK (G7 r.D1.addr r.peer m (t+1)) .np)else I7 (Dk false zK .np (G7 r.D1.addr r.peer m (t+1))):=rfl
  rw[hc]
  clear hc
  rw[hv]at ih⊢
  simp only[I7]at ih
  rcases acx r.D1.addr t with h0|h0
  all_goals
   rw[h0]at XC⊢
   simp[F.eZ,aj,av,hb,e,alm]
   refine ai.rA XC ?_
   simp[hw]
   refine aN.ret ih (by simp) (by simp) (by simp[c1]) ?_
   simp
   refine aA.plain [.keep [6],.dr 4,.ba 6 11,.fz 11] ?_
   simp
   exact⟨by simp[af,ah,c1.refs],by simp[af,ah,c1.refs],c1,by rw[tF];rfl⟩
theorem acy (a:iI) (t:Int):aK Pg 107 [.np,cP a,.int .i64 t] (.tup [aG zK,.bl false]):=by
 refine ae.intro T.cQ (by simp[F.cQ]) ?_;simp[F.cQ,aj,av];refine aA.plain [] ?_;simp[tF]
theorem Zo (a b:iI) (k:Key) {n:Nat} (hn:n<128) (hb:∀i,i<n->rU b i=rU a i):∀(m t:Nat),t+m=n->aK Pg 107 [G7 a k m t,cP b,.int .i64 (t:Int)] (.tup [aG k,.bl true])
 |
  0,t,h=>by
  have ih:=acy b ((t:Int)+1)
  have XC:=acw b (i:=t) (by omega)
  have XD:(t:Int)<128:=by omega
  have hw:IntKind.i64.wrap ((t:Int)+1)=(t:Int)+1:=wrap_i64 (by omega)
  refine ae.intro T.cQ (by simp[F.cQ]) ?_
  rcases acx b t with h0|h0
  all_goals
   rw[h0]at XC
   simp[F.cQ,aj,av,G7,I7,Dk,XD]
   refine lH.run [8] rfl ?_
   simp
   refine aN.rA XC ?_
   simp[hw]
   refine aN.rA ih ?_
   simp
   refine lH.run [6] rfl ?_
   simp
   refine aA.plain [] ?_
   simp
 |
  m+1,t,h=>by
  have ih:=Zo a b k hn hb m (t+1) (by omega)
  have ih:aK Pg 107 [G7 a k m (t+1),cP b,.int .i64 ((t:Int)+1)] (.tup [aG k,.bl true]):=by simpa using ih
  obtain⟨v,hv,c1⟩:=Dl a k m (t+1)
  have XC:=acw b (i:=t) (by omega)
  rw[hb t (by omega)]at XC
  have XD:(t:Int)<128:=by omega
  have hw:IntKind.i64.wrap ((t:Int)+1)=(t:Int)+1:=wrap_i64 (by omega)
  have hc:G7 a k (m+1) t=if rU a t=0 then I7 (Dk false zK (G7 a k m (t+1)) .np)else I7 (Dk false zK .np (G7 a k m (t+1))):=rfl
  rw[hc]
  clear hc
  rw[hv]at ih⊢
  simp only[I7]at ih
  refine ae.intro T.cQ (by simp[F.cQ]) ?_
  rcases acx a t with h0|h0
  all_goals
   rw[h0]at XC⊢
   simp[F.cQ,aj,av,I7,Dk,XD]
   refine lH.run [8] rfl ?_
   simp
   refine aN.rA XC ?_
   simp[hw]
   refine aN.ret ih (by simp) (by simp[c1]) (by simp) ?_
   simp
   refine aA.plain [] ?_
   simp
def Dm (a:iI) (k:Key):vi:=⟨⟨a,16⟩,k⟩
theorem alo {a:iI} (h6:a.sO=false) (k:Key) (hv:wD ⟨a,16⟩=true):aK Pg 106 [cY [Dm a k],.bl false] (G7 a k 16 0):=by
 have hV:=Ac ⟨a,16⟩;rw[hv]at hV;have hP:=aln (Dm a k) (n:=16) rfl (by omega) 16 0 rfl;have hP:aK Pg 193 [.np,fY (Dm a k),.int .i64 0] (G7 a k 16 0):=hP;obtain⟨v,hv,c1⟩:=Dl a k 16 0;rw[hv]at hP⊢;simp only[I7]at hP;have hf:(Dm a k).D1=⟨a,16⟩:=rfl;refine ae.intro (aC R.vj.2) (by simp[R.vj]) ?_;simp[R.vj,aj,av];refine mM.G8 1 (mM.s ?_);simp[↓al,hf,h6];refine ai.rA hV ?_;simp;refine ai.ret hP (by simp) (by simp) (by simp[c1]) ?_;simp;refine⟨[.keep [5,8,9,10],.dr 7],?_⟩;simp[bt];refine⟨by simp[af,ah,c1.refs],mM.z ?_⟩;simp[↓al];refine aA.plain [] ?_;simp[c1,I7]
def Zp:iI:=⟨false,List.replicate 16 0,rfl⟩
theorem alp:PV.st 18 [.st 17 [.bl false,.ar 1 16 (zr 16 (.int .u8 0))],.int .i64 0]=gC ⟨Zp,0⟩:=by rw[cg];rfl
theorem J5 {a:iI} (h6:a.sO=false) (hs:uC a=true):aK Pg 105 [gC ⟨Zp,0⟩,cP a] (.bl true):=by
 have hV:=Ac ⟨Zp,0⟩;rw[show wD ⟨Zp,0⟩=true by decide]at hV;have hv:=J6 a;rw[hs]at hv;have hc:=acz a (n:=0) (by omega)
 have e:vk a 0=Zp:=by
  unfold vk Zp;congr 1;unfold yF;have hl:=a.h;apply JpZ
  ·simp[hl]
  ·intro i h1 h2
   have:vl a 0 i=0:=by
    unfold vl lf;simp;unfold cb;simp;rw[show(~~~255:UInt8)=0 from by decide,UInt8.and_zero]
   have hi:i<16:=by simp[hl]at h1;omega
   rw[List.getElem_replicate];simp[hi,this]
 rw[e]at hc;have hc:aK Pg 192 [cP a,.int .i64 0] (cP Zp):=hc;refine ae.intro T.ku (by simp[F.ku]) ?_;simp[F.ku,aj,av];refine aN.rA hV ?_;simp;refine aN.rA hv ?_;simp[h6,show Zp.sO=false from rfl];refine aN.rA hc ?_;simp;refine aA.plain [] ?_;simp
theorem Vw {a b:iI} (h6:a.sO=false) (g6:b.sO=false) (hs:uC b=true) (k:Key) (hv:wD ⟨a,16⟩=true) (hb:∀i,i<16->rU b i=rU a i):aK Pg 63 [cY [Dm a k],cP b] (.tup [aG k,.bl true]):=by
 have hC:=J5 g6 hs;have hT:=alo h6 k hv;have hF:=Zo a b k (n:=16) (by omega) hb 16 0 rfl;have hF:aK Pg 107 [G7 a k 16 0,cP b,.int .i64 0] (.tup [aG k,.bl true]):=hF;obtain⟨v,hv,c1⟩:=Dl a k 16 0;rw[hv]at hF hT;simp only[I7]at hF hT;refine ae.intro (aC R.rV.2) (by simp[R.rV]) ?_;simp[R.rV,aj,av,g6];refine ai.ret hC (by simp[alp]) (by simp) (by simp) ?_;simp[g6];refine aN.ret hT (by simp) (by simp) (by simp[c1]) ?_;simp;refine aN.ret hF (by simp) (by simp[c1]) (by simp) ?_;simp;refine aA.plain [] ?_;simp
theorem gY (y:Int) (E:Key) (S T M N:List UInt8):Pure (fg y E S T M N):=by simp[fg]
@[simp] theorem aq2 (y:Int) (E:Key) (S T M N:List UInt8):wk (fg y E S T M N)=fg y E S T M N:=by simp[fg]
@[simp] theorem ag3 (y:Int) (E:Key) (S T M N:List UInt8):(fg y E S T M N).aT=true:=rfl
@[simp] theorem acA (y:Int) (E:Key) (S T M N:List UInt8):(fg y E S T M N).width=141:=rfl
@[simp] theorem alr (y:Int) (E:Key) (S T M N:List UInt8):(fg y E S T M N).isAgg=true:=rfl
@[simp↓] theorem als (g:Bool) (y:Int) (E:Key) (S T M N:List UInt8) (K:PV->Prop):ed g (fg y E S T M N) K=K (fg y E S T M N):=_root_.id rfl
@[simp↓] theorem ag4 (y:Int) (E:Key) (S T M N:List UInt8):aM (fg y E S T M N) [.f 0 0]=some (.int .u32 y):=by simp[fg,aM]
@[simp↓] theorem ag5 (y:Int) (E:Key) (S T M N:List UInt8) (r:List Step):aM (fg y E S T M N) (.f 1 1::r)=aM (bA 32 E.l) r:=by simp[fg,aM,aB,bA,n7]
@[simp↓] theorem ag6 (y:Int) (E:Key) (S T M N:List UInt8) (r:List Step):aM (fg y E S T M N) (.f 2 33::r)=aM (bA 48 S) r:=by simp[fg,aM,aB]
@[simp↓] theorem ag7 (y:Int) (E:Key) (S T M N:List UInt8) (r:List Step):aM (fg y E S T M N) (.f 3 81::r)=aM (bA 28 T) r:=by simp[fg,aM,aB]
@[simp↓] theorem ag8 (y:Int) (E:Key) (S T M N:List UInt8) (r:List Step):aM (fg y E S T M N) (.f 4 109::r)=aM (bA 16 M) r:=by simp[fg,aM,aB]
@[simp↓] theorem ag9 (y:Int) (E:Key) (S T M N:List UInt8) (r:List Step):aM (fg y E S T M N) (.f 5 125::r)=aM (bA 16 N) r:=by simp[fg,aM,aB]
theorem Qp (k:Int):ae Pg 300 [.int .i64 k] [] (λr fp=>r= .pt KB [] 0∧fp=[.box (.st 1 [.rs (KB+1) [] 0 4 4 1 .tip]),.arr 1 [.int .u8 (IntKind.u8.wrap k),.int .u8 0,.int .u8 0,.int .u8 0]]):=by
 refine ae.intro (aC R.rW.2) (by simp[R.rW]) ?_;simp[R.rW,aj,av];refine aA.with [.keep [2]] [7,5] ?_;simp
theorem Gj (l:List PV) (n k:Nat) (h1:1≤k) (h2:k≤8) (hp:an l) (hl:l.length≤4096):
  ae Pg 301 [.pt KB [] 0,.int .u64 n,.int .i64 k] [.box (.st 1 [.rs (KB+1) [] 0 l.length l.length 1 .tip]),.arr 1 l]
   (λr fp=>r= .tup []∧fp=[.box (.st 1 [.rs (KB+1) [] 0 (l.length+k) (l.length+k) 1 .tip]),.arr 1 (l++(cD n k).map u8)]):=by
 have hc:=cB (n:=n) h1 h2;have Si:=db n k;have Bb:=cm (cD n k);have hww:=wkB (cD n k);have hlm:((cD n k).map u8).length=k:=by simp[Si]
 have he:aP (cD n k)= .sl 1 ((cD n k).map u8) false:=rfl;rw[he]at hc;generalize (cD n k).map u8=L at*;refine ae.intro T.fh (by simp[F.fh]) ?_;simp[F.fh,aj,av];refine lH.run [KB,KB+1] rfl ?_;simp;refine aN.ret hc (by simp) (by simp) (by simp[Bb]) ?_;simp[hlm];refine⟨⟨by omega,by omega⟩,?_⟩;refine aA.with [.keep []] [KB,KB+1] ?_;simp[hp,Bb,dj,af,ah,aE,aR]
theorem acB (l ys:List PV) (c:Bool) (hy:an ys) (hp:an l) (hl:l.length≤4096) (Tl:ys.length≤4096):
  ae Pg 302 [.pt KB [] 0,.sl 1 ys c] [.box (.st 1 [.rs (KB+1) [] 0 l.length l.length 1 .tip]),.arr 1 l]
   (λr fp=>r= .tup []∧fp=[.box (.st 1 [.rs (KB+1) [] 0 (l.length+ys.length) (l.length+ys.length) 1 .tip]),.arr 1 (l++ys)]):=by
 refine ae.intro (aC R.ee.2) (by simp[R.ee]) ?_;simp[R.ee,aj,av];refine⟨⟨by omega,by omega⟩,?_⟩;refine aA.with [.keep []] [KB,KB+1] ?_;simp[hp,hy,dj,af,ah,aE,aR]
theorem Vx (l ys:List PV) {v:PV} {pth:List Step} (hv:Pure v) (hg:aM v pth=some (.ar 1 ys.length ys)) (hy:an ys) (hp:an l) (hl:l.length≤4096) (Tl:ys.length≤4096):
  ae Pg 302 [.pt KB [] 0,.rs (KB+2) pth 0 ys.length 0 1 .clip] [.box (.st 1 [.rs (KB+1) [] 0 l.length l.length 1 .tip]),.arr 1 l,.box v]
   (λr fp=>r= .tup []∧fp=[.box (.st 1 [.rs (KB+1) [] 0 (l.length+ys.length) (l.length+ys.length) 1 .tip]),.arr 1 (l++ys),.box v]):=by
 refine ae.intro (aC R.ee.2) (by simp[R.ee]) ?_;simp[R.ee,aj,av,hg];refine⟨⟨by omega,by omega⟩,?_⟩;refine aA.with [.keep []] [KB,KB+1,KB+2] ?_;simp[hp,hy,dj,af,ah,aE,aR,hv.refs,hv.aE]
theorem yG {l ys B:List PV} {n m k:Nat} {v:PV} {pth:List Step} (hn:l.length=n) (hm:ys.length=m) (hk:k=n+m) (hB:B=l++ys) (hv:Pure v) (hg:aM v pth=some (.ar 1 m ys)) (hy:an ys) (hp:an l) (hl:n≤4096) (Tl:m≤4096):
  ae Pg 302 [.pt KB [] 0,.rs (KB+2) pth 0 m 0 1 .clip] [.box (.st 1 [.rs (KB+1) [] 0 n n 1 .tip]),.arr 1 l,.box v]
   (λr fp=>r= .tup []∧fp=[.box (.st 1 [.rs (KB+1) [] 0 k k 1 .tip]),.arr 1 B,.box v]):=by
 subst hn hm hk hB;exact Vx l ys hv hg hy hp hl Tl
theorem alv {y:Int} (hy:0≤y∧y≤4294967295) (E:Key) {S U M N:List UInt8} (hS:S.length=48) (hT:U.length=28) (hM:M.length=16) (hN:N.length=16):∃b:List UInt8,b.length=148∧aK Pg 343 [fg y E S U M N] (aP b):=by
 refine⟨[1,0,0,0]++cD y.toNat 4++E.l++S++U++M++N,by simp[db,E.h,hS,hT,hM,hN],?_⟩;have hw:IntKind.u64.wrap y=(y.toNat:Int):=by rw[wrap_u64 ⟨by omega,by omega⟩];omega
 have XE:=db y.toNat 4;have h1:=Gj [.int .u8 1,.int .u8 0,.int .u8 0,.int .u8 0] y.toNat 4 (by omega) (by omega) (by simp) (by simp);have e1:[PV.int .u8 1,.int .u8 0,.int .u8 0,.int .u8 0]++(cD y.toNat 4).map u8=(([1,0,0,0]:List UInt8)++cD y.toNat 4).map u8:=rfl;rw[e1]at h1;have l1:(([1,0,0,0]:List UInt8)++cD y.toNat 4).length=8:=by simp[XE]
 rw[show([PV.int .u8 1,.int .u8 0,.int .u8 0,.int .u8 0]:List PV).length=4 from rfl]at h1;generalize ([1,0,0,0]:List UInt8)++cD y.toNat 4=A1 at*;have iP:=gY y E S U M N;have h2:=yG (v:=fg y E S U M N) (pth:=[.f 1 1]) (n:=8) (m:=32) (k:=40) (l:=A1.map u8) (ys:=E.l.map u8) (by simp[l1]) (by simp[E.h]) rfl (JeV (f:=u8) (l₁:=A1) (l₂:=E.l)) iP (by simp[bA]) (cm _) (cm _) (by omega) (by omega);have l2:(A1++E.l).length=40:=by simp[l1,E.h]
 generalize A1++E.l=A2 at*;have h3:=yG (v:=fg y E S U M N) (pth:=[.f 2 33]) (n:=40) (m:=48) (k:=88) (l:=A2.map u8) (ys:=S.map u8) (by simp[l2]) (by simp[hS]) rfl (JeV (f:=u8) (l₁:=A2) (l₂:=S)) iP (by simp[bA]) (cm _) (cm _) (by omega) (by omega);have l3:(A2++S).length=88:=by simp[l2,hS]
 generalize A2++S=A3 at*;have h4:=yG (v:=fg y E S U M N) (pth:=[.f 3 81]) (n:=88) (m:=28) (k:=116) (l:=A3.map u8) (ys:=U.map u8) (by simp[l3]) (by simp[hT]) rfl (JeV (f:=u8) (l₁:=A3) (l₂:=U)) iP (by simp[bA]) (cm _) (cm _) (by omega) (by omega);have l4:(A3++U).length=116:=by simp[l3,hT]
 generalize A3++U=A4 at*;have h5:=yG (v:=fg y E S U M N) (pth:=[.f 4 109]) (n:=116) (m:=16) (k:=132) (l:=A4.map u8) (ys:=M.map u8) (by simp[l4]) (by simp[hM]) rfl (JeV (f:=u8) (l₁:=A4) (l₂:=M)) iP (by simp[bA]) (cm _) (cm _) (by omega) (by omega);have l5:(A4++M).length=132:=by simp[l4,hM]
 generalize A4++M=A5 at*;have h6:=yG (v:=fg y E S U M N) (pth:=[.f 5 125]) (n:=132) (m:=16) (k:=148) (l:=A5.map u8) (ys:=N.map u8) (by simp[l5]) (by simp[hN]) rfl (JeV (f:=u8) (l₁:=A5) (l₂:=N)) iP (by simp[bA]) (cm _) (cm _) (by omega) (by omega);have l6:(A5++N).length=148:=by simp[l5,hN]
 generalize A5++N=A6 at*;have p1:=cm A1;have p2:=cm A2;have p3:=cm A3;have p4:=cm A4;have p5:=cm A5;have p6:=cm A6;have l6':(A6.map u8).length=148:=by simp[l6]
 have he:aP A6= .sl 1 (A6.map u8) false:=rfl;rw[he];generalize A1.map u8=B1 at*;generalize A2.map u8=B2 at*;generalize A3.map u8=B3 at*;generalize A4.map u8=B4 at*;generalize A5.map u8=B5 at*;generalize A6.map u8=B6 at*;refine ae.intro (aC R.iy.2) (by simp[R.iy]) ?_;simp[R.iy,aj,av];refine ai.gA [] [90,91] [] (Qp 1) (by simp) (by simp) (by simp[ab,af,ah,c9]) ?_;simp[aI,az,aE,aR,cU,hw];refine ai.gA [90,91] [] [.box (.st 1 [.rs 91 [] 0 4 4 1 .tip]),.arr 1 [.int .u8 1,.int .u8 0,.int .u8 0,.int .u8 0]] h1 (by simp[ab,ah,af,bR,idx]) (by simp[az,aE,aR,bz,idx]) (by simp[ab,af,ah,c9,p1.refs]) ?_;simp[aI,az,aE,aR,cU,p1.aE];refine mM.G8 5 (mM.s ?_);simp[↓al];refine ai.gA [90,91,1] [] [.box (.st 1 [.rs 91 [] 0 8 8 1 .tip]),.arr 1 B1,.box (fg y E S U M N)] h2 (by simp[ab,ah,af,bR,idx,p1.refs,iP.refs]) (by simp[az,aE,aR,bz,idx,p1.aE,iP.aE]) (by simp[ab,af,ah,c9,p2.refs,iP.refs]) ?_;simp[aI,az,aE,aR,cU,p2.aE,iP.aE];refine⟨[.keep [1,2,3,22,23,24]],?_⟩;simp;refine mM.s ?_;simp[↓al];refine ai.gA [90,91,1] [] [.box (.st 1 [.rs 91 [] 0 40 40 1 .tip]),.arr 1 B2,.box (fg y E S U M N)] h3 (by simp[ab,ah,af,bR,idx,p2.refs,iP.refs]) (by simp[az,aE,aR,bz,idx,p2.aE,iP.aE]) (by simp[ab,af,ah,c9,p3.refs,iP.refs]) ?_;simp[aI,az,aE,aR,cU,p3.aE,iP.aE];refine⟨[.keep [1,2,3,22,23,24]],?_⟩;simp;refine mM.s ?_;simp[↓al];refine ai.gA [90,91,1] [] [.box (.st 1 [.rs 91 [] 0 88 88 1 .tip]),.arr 1 B3,.box (fg y E S U M N)] h4 (by simp[ab,ah,af,bR,idx,p3.refs,iP.refs]) (by simp[az,aE,aR,bz,idx,p3.aE,iP.aE]) (by simp[ab,af,ah,c9,p4.refs,iP.refs]) ?_;simp[aI,az,aE,aR,cU,p4.aE,iP.aE];refine⟨[.keep [1,2,3,22,23,24]],?_⟩;simp;refine mM.s ?_;simp[↓al];refine ai.gA [90,91,1] [] [.box (.st 1 [.rs 91 [] 0 116 116 1 .tip]),.arr 1 B4,.box (fg y E S U M N)] h5 (by simp[ab,ah,af,bR,idx,p4.refs,iP.refs]) (by simp[az,aE,aR,bz,idx,p4.aE,iP.aE]) (by simp[ab,af,ah,c9,p5.refs,iP.refs]) ?_;simp[aI,az,aE,aR,cU,p5.aE,iP.aE];refine⟨[.keep [1,2,3,22,23,24]],?_⟩;simp;refine mM.s ?_;simp[↓al];refine ai.gA [90,91,1] [] [.box (.st 1 [.rs 91 [] 0 132 132 1 .tip]),.arr 1 B5,.box (fg y E S U M N)] h6 (by simp[ab,ah,af,bR,idx,p5.refs,iP.refs]) (by simp[az,aE,aR,bz,idx,p5.aE,iP.aE]) (by simp[ab,af,ah,c9,p6.refs,iP.refs]) ?_;simp[aI,az,aE,aR,cU,p6.aE,iP.aE];refine⟨[.keep [1,2,3,22,23,24]],?_⟩;simp;refine mM.z ?_;simp[↓al];refine aA.plain [.keep [2],.fz 91] ?_;have lW:B6.take 148=B6:=by rw[←l6',JcJ]
 simp[p6.refs,l6',lW];exact p6
def Lr (H0:Nat->UInt32) (d:List UInt8):Nat->(Nat->UInt32)
 |0=>H0
 |i+1=>vn (Lr H0 d i) (tG (tH d i)) (if i=qQ d then d.length else 64*(i+1)) (decide (i=qQ d))
theorem Dn {key d0:List UInt8} (qc:1≤key.length) (za:key.length≤32) (hd:d0.length≤1000000) (c0:UInt32) (hx:bits .xor .u32 (bits .xor .u32 16842752 (IntKind.u32.wrap (IntKind.u32.wrap key.length*256))) 16=nU c0):
  ∃out:List UInt8,out.length=16∧aK Pg 254 [.int .i64 16,aP key,aP d0] (.tup [.sl 1 (out.map u8) true,.int .i64 0]):=by
 have hj:=rv [key,List.replicate (64-key.length) 0,d0] (by simp;omega) (by simp);generalize hde:[key,List.replicate (64-key.length) 0,d0].flatten=d at hj;have h1:1≤d.length:=by rw[←hde];simp;omega
 have h2:d.length≤1073741824:=by rw[←hde];simp;omega
 generalize hH0:oD Ls 0 (Ls 0^^^c0)=H0;refine⟨(xH (Lr H0 d (qQ d+1)) 8).take 16,by rw[lJ,ou];rfl,?_⟩;refine ae.intro (aC R.mC.2) (by simp[R.mC]) ?_;have g0:=dA (n:=8) Ls (i:=0) (by decide);have n1:¬(32:Int)<key.length:=by omega
 have n2:(key.length:Int)≤32:=by omega
 have n3:0<key.length:=by omega
 have wL:IntKind.i64.wrap (64-(key.length:Int))=((64-key.length:Nat):Int):=by rw[wrap_i64 (by omega)];omega
 have wM:=cm key;have hpd:=cm d0
 have hpz:an (List.replicate (64-key.length) (PV.int .u8 0)):=by
  have:=cm (List.replicate (64-key.length) 0);rw[JnV]at this;exact this
 simp[R.mC,aj,av,n1];refine ai.rA iz ?_;simp[g0,hx,nq,ky,show IntKind.u32.bits=32 from rfl,n3,wL,-getElem?_pos];refine⟨⟨by omega,by omega⟩,?_⟩;have hZ:(List.replicate (64-key.length) (PV.int .u8 0))=(List.replicate (64-key.length) (0:UInt8)).map u8:=by rw[JnV];rfl
 have hZl:(List.replicate (64-key.length) (PV.int .u8 0)).length=64-key.length:=JcW;have hZt:(List.replicate (64-key.length) (PV.int .u8 0)).take (64-key.length)=List.replicate (64-key.length) (PV.int .u8 0):=tJ (by simp);have hZe:aP (List.replicate (64-key.length) (0:UInt8))= .sl 1 (List.replicate (64-key.length) (PV.int .u8 0)) false:=by rw[hZ];rfl
 have hpj:=cm d;rw[JdX,JdX,JrQ,hZe]at hj;generalize hZg:List.replicate (64-key.length) (PV.int .u8 0)=Z at*;refine ai.vA (bC:=[.sl 1 [aP key,.rs KB [] 0 (64-key.length) (64-key.length) 1 .tip,aP d0] false]) (args0:=[.sl 1 [aP key,.sl 1 Z false,aP d0] false]) (b6:=[.arr 1 Z]) [48] [51] [.arr 1 Z] hj (by simp[ab,hpz.refs]) (by simp[az,hpz.aE]) ?_ ?_ ?_
 ·refine⟨.inr (.inl ⟨1,_,[aP key,.sl 1 Z false,aP d0],false,rfl,⟨.inl ⟨rfl,(nY _).refs _⟩,.inr ⟨KB,[],0,64-key.length,64-key.length,1,.tip,Z,rfl,?_,hpz.refs _,by omega,rfl⟩,.inl ⟨rfl,(nY _).refs _⟩,trivial⟩,rfl⟩),trivial⟩;simp[av,hZl,hZt]
 ·rintro r new ⟨rfl,rfl⟩;exact⟨⟨by simp[fL,lP],by simp[uj,mB,kS (g:=u8) (λ_=>rfl)]⟩,rfl⟩
 rintro r new ⟨rfl,rfl⟩;simp[ab,c9,az,aE,cU,aI,hpz.refs,hpz.aE,show mB d=d.map u8 from rfl];have hdt:(d.map u8).take d.length=d.map u8:=tJ (by simp);clear hj hde hx hZ hZl hZt hZe hpz hZg;have av1:oD Ls 0 (Ls 0^^^c0)=Lr H0 d 0:=hH0;refine eW.fD (qQ d) (λ_=>True) [0,8,9,10] (λi=>[(9,.sl 1 ((Dp d i).map u8) false),(10,.int .i64 ((64*i:Nat):Int))]) (λi=>[(8,.box (.ar 1 8 (uW 8 (Lr H0 d i))))]) [.keep [0,8,9,10],.dr 48,.fz 51] ?_;simp[aP,Zq,av1,hdt,bt,b8,ab,af];have hnb:qQ d=(d.length-1)/64:=rfl;refine⟨λi hi K hK=> ?_,λK=> ?_⟩
 ·have qT:Lr H0 d (i+1)=vn (Lr H0 d i) (tG (tH d i)) (64*(i+1)) false:=by
   rw[Lr,if_neg (by omega),decide_eq_false (by omega)]
  have KS:=yH d i;have ue:=vo d i;have D4:(Dp d i).drop 64=Dp d (i+1):=by rw[Dp,Dp,JiW];rfl
  have hTl:(Dp d i).length=d.length-64*i:=JbV;rw[qT]at hK;rw[←D4]at hK;clear qT D4;have hcm:=λ(b:List UInt8) (hb:b.length=64)=>dP (Lr H0 d i) (b:=b) hb (t:=64*(i+1)) (by omega) false;generalize tH d i=B at*;generalize Lr H0 d i=H at*;rw[show d.drop (64*i)=Dp d i from rfl]at KS;generalize hTe:Dp d i=T at*;have wN:min (T.length:Int) 64=64:=by omega
  have DZ:min 64 T.length=64:=by omega
  have Su:(64:Int)≤T.length:=by omega
  have hT0:¬T.length-64=0:=by omega
  have w1:IntKind.i64.wrap (64*(i:Int)+64)=((64*(i+1):Nat):Int):=by rw[wrap_i64 (by omega)];omega
  have w2:IntKind.u64.wrap ((64*(i+1):Nat):Int)=((64*(i+1):Nat):Int):=vp (by omega);have w3:64*((i:Int)+1)=((64*(i+1):Nat):Int):=by omega
  rw[lJ,DZ]at KS;generalize 64*(i+1)=q1 at*;simp[↓al,wN,DZ,Su,hT0,w1,w2,-List.reduceReplicate];refine yI (A:=B) (v:= .ar 1 8 (uW 8 (vn H (tG B) q1 false))) (λb hb=> ?_) (by simp) (by simp) (by simp) (by simp) (by simp) (by simp) (by simp) (BO _ _ _) (by simp[KS,JsX]) (by omega) (by omega) ?_
  ·have hbB:b=B:=by rw[hb,JpQ,←ue,JcJ]
   subst hbB;exact hcm b ue
  simp[hT0];refine⟨[.keep [0,8,9,10],.dr 55],?_⟩;simp;exact hK _ (by simp[w3])
 ·have qT:Lr H0 d (qQ d+1)=vn (Lr H0 d (qQ d)) (tG (tH d (qQ d))) d.length true:=by
   rw[Lr,if_pos rfl,decide_eq_true rfl]
  have KS:=yH d (qQ d);have ue:=vo d (qQ d);have hTl:(Dp d (qQ d)).length=d.length-64*qQ d:=JbV;have hcm:=λ(b:List UInt8) (hb:b.length=64)=>dP (Lr H0 d (qQ d)) (b:=b) hb (t:=d.length) (by omega) true;rw[qT];clear qT;rw[show d.drop (64*qQ d)=Dp d (qQ d) from rfl]at KS;generalize hTe:Dp d (qQ d)=T at*;generalize tH d (qQ d)=B at*;generalize Lr H0 d (qQ d)=H at*;have aeC:T.length≤64:=by omega
  have wN:min (T.length:Int) 64=T.length:=by omega
  have DZ:min 64 T.length=T.length:=by omega
  have KT:min T.length 64=T.length:=by omega
  have Su:(T.length:Int)≤64:=by omega
  have w1:IntKind.i64.wrap (64*(qQ d:Int)+T.length)=d.length:=by rw[wrap_i64 (by omega)];omega
  have w2:IntKind.u64.wrap (d.length:Int)=d.length:=vp (by omega);have htt:T.take 64=T:=tJ aeC;have hdl:(T.map u8).drop T.length=[]:=JgX (by simp);have lW:(T.map u8).take T.length=T.map u8:=tJ (by simp);rw[htt]at KS;generalize qQ d=n at*;generalize av5:d.length=L at*;have Hd:(List.replicate 64 (PV.int .u8 0)).length=64:=JcW;generalize hRz:List.replicate 64 (PV.int .u8 0)=Z at*;simp[↓al,wN,KT,w1,w2,hdl,lW,hRz,Hd,-List.reduceReplicate,-List.length_replicate];refine yI (A:=B) (v:= .ar 1 8 (uW 8 (vn H (tG B) L true))) (λb hb=> ?_) (by simp) (by simp) (by simp) (by simp) (by simp) (by simp) (by simp) (BO _ _ _) (by simp[KS]) (by omega) (by omega) ?_
  ·have hbB:b=B:=by rw[hb,JpQ,←ue,JcJ]
   subst hbB;exact hcm b ue
  generalize vn H (tG B) L true=G;simp;simp[↓al];refine eW.fD 8 (λ_=>True) [0,13,78,79] (λi=>[(13,.rs 13 [] 0 (4*i) (4*i) 1 .tip),(79,.int .i64 i)]) (λi=>[(13,.arr 1 (mB (xH G i)))]) [.keep [0,13,78,79],.vt 13 13 1] ?_;simp[show mB (xH G 0)=[] from rfl];refine⟨λi hi K hK=> ?_,λK=> ?_⟩
  ·have hg:=dA (n:=8) G hi;have kY:(i:Int)<8:=by omega
   have hc:=cB (n:=(G i).toNat) (k:=4) (by decide) (by decide);have Si:=db (G i).toNat 4;have XF:=ou G i;have hs:xH G (i+1)=xH G i++cD (G i).toNat 4:=rfl;have w3:IntKind.u64.wrap (nU (G i))=((G i).toNat:Int):=vp (by have:=(G i).toNat_lt;omega);have w4:IntKind.i64.wrap ((i:Int)+1)=i+1:=wrap_i64 (by omega);rw[hs]at hK;clear hs;generalize cD (G i).toNat 4=N at*;generalize xH G i=O at*;have wY:(mB O).length=4*i:=by rw[mB,JaX,XF]
   have hmn:(mB N).length=4:=by rw[mB,JaX,Si]
   have XG:mB (O++N)=mB O++mB N:=JeV;rw[XG]at hK;clear XG;have Vy:aP N= .sl 1 (mB N) false:=rfl;rw[Vy]at hc;have hmp:an (mB N):=aF (λ_=>by simp[u8]) _;have hN0:mB N≠[]:=by intro e;rw[e]at hmn;simp at hmn
   generalize mB O=mO at*;generalize mB N=mN at*;simp[↓al,kY,hg,w3,-getElem?_pos];refine ai.ret hc (by simp) (by simp) (by simp[hmp]) ?_;simp[wY,hmn,hN0,w4];refine⟨⟨by omega,by omega⟩,[.keep [0,13,78,79]],?_⟩;simp;exact hK _ (by simp[show 4*(i+1)=4*i+4 by omega])
  ·have XF:=ou G 8;generalize xH G 8=O at*;have wY:(mB O).length=32:=by rw[mB,JaX,XF]
   have hp:an (mB O):=aF (λ_=>by simp[u8]) O;have he:O.map u8=mB O:=rfl;rw[he];generalize mB O=mO at*;simp[↓al,wY];refine aA.plain [.fz 13] ?_;simp[hp.refs,wY];exact hp.take 16
theorem Lt (n:Nat) (l:List UInt8):fL (bA n l)=true:=C2 (by
 show eM (l.map u8)=true;exact kS (λ_=>rfl) _)
@[simp] theorem aq3 (n:Nat) (l:List UInt8):(bA n l).flat=true:=rfl
@[simp] theorem aq4 (n:Nat) (l:List UInt8):(bA n l).aT=true:=rfl
@[simp↓] theorem aha (y:Int) (E:Key) (S T M N M':List UInt8):bT (fg y E S T M N) [.f 4 109] (bA 16 M')=some (fg y E S T M' N):=by simp[fg,bT,aB]
@[simp↓] theorem ahb (y:Int) (E:Key) (S T M N N':List UInt8):bT (fg y E S T M N) [.f 5 125] (bA 16 N')=some (fg y E S T M N'):=by simp[fg,bT,aB]
theorem Zr {key:List UInt8} (hk:key.length=16∨key.length=32) {ps:List (List UInt8)} (hn:ps.length≤100) (hd:ps.flatten.length≤1000000):∃out:List UInt8,out.length=16∧aK Pg 208 [aP key,.sl 1 (ps.map aP) false] (bA 16 out):=by
 have hS:∃out:List UInt8,out.length=16∧aK Pg 254 [.int .i64 16,aP key,aP ps.flatten] (.tup [.sl 1 (out.map u8) true,.int .i64 0]):=by
  rcases hk with hk|hk
  ·exact Dn (by omega) (by omega) hd 16846864 (by rw[hk];decide+kernel)
  ·exact Dn (by omega) (by omega) hd 16850960 (by rw[hk];decide+kernel)
 obtain⟨out,ho,hS⟩:=hS;refine⟨out,ho,?_⟩;have hj:=ft ps (by omega) (by omega);have Bb:an (ps.map aP):=aF (λ_=>by simp) _;have KP:fI (ps.map aP)=ps.map aP:=nm (λ_=>by simp) _;generalize ps.map aP=W at*;generalize ps.flatten=d at*;have hpo:=cm out;have XF:(out.map u8).length=16:=by simp[ho]
 have hot:(out.map u8).take 16=out.map u8:=tJ (by simp[ho]);rw[bA];generalize out.map u8=L at*;refine ae.intro (aC R.xn.2) (by simp[R.xn]) ?_;simp[R.xn,aj,av];refine ai.ret hj (by simp[KP]) (by simp[Bb]) (by simp) ?_;simp;refine ai.ret hS (by simp) (by simp) (by simp[hpo]) ?_;simp[XF,hot];refine aA.plain [] ?_;simp[hpo]
def m1L:List PV:=[.int .u8 109,.int .u8 97,.int .u8 99,.int .u8 49,.int .u8 45,.int .u8 45,.int .u8 45,.int .u8 45]
theorem alw:aP [109,97,99,49,45,45,45,45]= .sl 1 m1L false:=rfl
theorem alx:an m1L:=by simp[m1L]
theorem aly (cH:Key) {b:List UInt8} (hb:b.length≤1000):∃out:List UInt8,out.length=16∧aK Pg 126 [aG cH,aP b] (bA 16 out):=by
 have h1:=gE (ps:=[[109,97,99,49,45,45,45,45],cH.l]) (by simp) (by simp) (by simp[cH.h]);generalize iV _=k at h1;obtain⟨out,ho,h2⟩:=Zr (key:=k.l) (.inr k.h) (ps:=[b]) (by simp) (by simp;omega);refine⟨out,ho,?_⟩;rw[JdX,JrQ,alw]at h1;have htp:(cH.l.map u8).take 32=cH.l.map u8:=tJ (by simp[cH.h]);have lW:(k.l.map u8).take 32=k.l.map u8:=tJ (by simp[k.h]);have Bb:=cm cH.l;have wM:=cm k.l;refine ae.intro (aC R.mm1.2) (by simp[R.mm1]) ?_;simp[R.mm1,aj,av];refine ai.view [2] [] [.box (aG cH)] (bC:=[.sl 1 [.sl 1 m1L false,.rs KB [] 0 32 0 1 .clip] false]) (args0:=[.sl 1 [.sl 1 m1L false,aP cH.l] false]) (b6:=[.box (aG cH)]) h1 (by simp[getAll]) (by simp) (by simp) (by simp[ah,af,bR,idx]) (by simp[ab]) (by simp[aR,aE,bz,idx,m1L]) (by simp[az]) ?_ ?_ ?_
 ·refine⟨.inr (.inl ⟨1,_,[.sl 1 m1L false,aP cH.l],false,rfl,⟨.inl ⟨rfl,by simp[af,alx.refs]⟩,.inr ⟨KB,[],0,32,0,1,.clip,cH.l.map u8,rfl,?_,Bb.refs _,by omega,rfl⟩,trivial⟩,rfl⟩),trivial⟩;simp[av,n7,htp]
 ·rintro r new ⟨rfl,rfl⟩;exact⟨⟨dB _,by simp⟩,rfl⟩
 rintro r new ⟨rfl,rfl⟩;simp[ab,az,aI];refine ai.vA (bC:=[.rs KB [] 0 32 0 1 .clip,.sl 1 [aP b] false]) (args0:=[aP k.l,.sl 1 [aP b] false]) (b6:=[.box (aG k)]) [5] [] [.box (aG k)] h2 (by simp[ab]) (by simp[az]) ?_ ?_ ?_
 ·refine⟨.inl (.inr ⟨KB,[],0,32,0,1,.clip,k.l.map u8,rfl,?_,wM.refs _,by omega,rfl⟩),.inl (.inl ⟨rfl,by simp[af,ah]⟩),trivial⟩;simp[av,n7,lW]
 ·rintro r new ⟨rfl,rfl⟩;exact⟨⟨Lt _ _,by simp⟩,rfl⟩
 rintro r new ⟨rfl,rfl⟩;simp[ab,az,aI];refine aA.plain [.keep [4]] ?_;simp
theorem acD {y:Int} (hy:0≤y∧y≤4294967295) (E:Key) {S U M N M' N':List UInt8} (hS:S.length=48) (hT:U.length=28) (hM:M'.length=16) (hN:N'.length=16):∃b:List UInt8,b.length=148∧ae Pg 342 [bA 16 M',bA 16 N',.pt KB [] 0] [.box (fg y E S U M N)] (λr fp=>r=aP b∧fp=[.box (fg y E S U M' N')]):=by
 obtain⟨b,hb,h⟩:=alv hy E hS hT hM hN;refine⟨b,hb,?_⟩;have I4:=cm b;refine ae.intro (aC R.msc.2) (by simp[R.msc]) ?_;simp[R.msc,aj,av];refine lH.run [KB] rfl ?_;simp;refine ai.ret h (by simp) (by simp[gY]) (by simp) ?_;simp;refine aA.with [] [KB] ?_;simp[ab,az,(gY y E S U M' N').refs,(gY y E S U M' N').aE]
theorem Gk:(List.replicate 16 (0:UInt8)).length=16:=rfl
theorem acE:PV.ar 1 16 (zr 16 (.int .u8 0))=bA 16 (List.replicate 16 0):=Lu 16
theorem alz (cH:Key) (has:Bool) {ck:List UInt8} (B8:ck.length=16) {y:Int} (hy:0≤y∧y≤4294967295) (E:Key) {S U M N:List UInt8} (hS:S.length=48) (hT:U.length=28):∃b m1 M' N':List UInt8,(b.length=148∧m1.length=16)∧
  ae Pg 236 [aG cH,.bl has,bA 16 ck,.fn (.func 342) [] [.pt KB [] 0]] [.box (fg y E S U M N)] (λr fp=>r= .tup [aP b,bA 16 m1]∧fp=[.box (fg y E S U M' N')]):=by
 obtain⟨b0,uf,h0⟩:=acD (M:=M) (N:=N) hy E hS hT Gk Gk;obtain⟨m1,Xh,h1⟩:=aly cH (b:=b0.take 116) (by simp;omega);obtain⟨b1,Sm,h2⟩:=acD (M:=List.replicate 16 0) (N:=List.replicate 16 0) hy E hS hT Xh Gk;obtain⟨m2,hm2,h3⟩:=Zr (key:=ck) (.inl B8) (ps:=[b1.take 132]) (by simp) (by simp;omega);obtain⟨b2,A9,h4⟩:=acD (M:=m1) (N:=List.replicate 16 0) hy E hS hT Xh hm2;refine⟨if has=true then b2 else b1,m1,m1,if has=true then m2 else List.replicate 16 0,⟨by split<;>assumption,Xh⟩,?_⟩;have hp0:=cm b0;have Jd:=cm b1;have su:=cm b2;have hpc:=cm ck;have hct:(ck.map u8).take 16=ck.map u8:=tJ (by simp[B8]);generalize hzz:List.replicate 16 (0:UInt8)=Z at*;have ez:PV.ar 1 16 (zr 16 (.int .u8 0))=bA 16 Z:=by rw[acE,hzz]
 have i0:=gY y E S U M N;have i1:=gY y E S U Z Z;have i2:=gY y E S U m1 Z;have i3:=gY y E S U m1 m2;refine ae.intro T.mse (by simp[F.mse]) ?_;simp[F.mse,aj,av];refine ai.gen [KB] [] [.box (fg y E S U M N)] h0 (by simp[getAll]) (by simp) (by simp) (by simp[ah,af,bR,idx]) (by simp[ab,i0.refs]) (by simp[aR,aE,bz,idx,ez]) (by simp[az,i0.aE]) (by simp[ab,i1.refs]) ?_;simp[aI,az,i1.aE];refine lH.run [11] rfl ?_;simp[aP,uf];refine aN.ret h1 (by simp[aP]) (by simp[hp0]) (by simp) ?_;simp;refine ai.gen [KB] [] [.box (fg y E S U Z Z)] h2 (by simp[getAll]) (by simp) (by simp) (by simp[ah,af,bR,idx]) (by simp[ab,i1.refs]) (by simp[aR,aE,bz,idx,ez]) (by simp[az,i1.aE]) (by simp[ab,i2.refs]) ?_;simp[aI,az,i2.aE];refine⟨λhh=> ?_,λhh=> ?_⟩
 ·subst hh;refine lH.run [] rfl ?_;simp[aP,Sm];have az4:an ((b1.map u8).take 132):=Jd.take 132;have e132:PV.sl 1 [.sl 1 ((b1.map u8).take 132) false] false= .sl 1 [aP (b1.take 132)] false:=by rw[aP,JfQ]
  refine ai.vA (bC:=[.rs KB [] 0 16 0 1 .clip,.sl 1 [.sl 1 ((b1.map u8).take 132) false] false]) (args0:=[aP ck,.sl 1 [aP (b1.take 132)] false]) (b6:=[.box (bA 16 ck)]) [6] [] [.box (bA 16 ck)] h3 (by simp[ab]) (by simp[az]) ?_ ?_ ?_
  ·refine⟨.inl (.inr ⟨KB,[],0,16,0,1,.clip,ck.map u8,rfl,?_,hpc.refs _,by omega,rfl⟩),.inl (.inl ⟨e132.symm,by simp[af,ah]⟩),trivial⟩;simp[av,bA,hct]
  ·rintro r new ⟨rfl,rfl⟩;exact⟨⟨Lt _ _,by simp⟩,rfl⟩
  rintro r new ⟨rfl,rfl⟩;simp[ab,az,aI];refine ai.gA [KB] [] [.box (fg y E S U m1 Z)] h4 (by simp[ab,i2.refs]) (by simp[az,i2.aE]) (by simp[ab,i3.refs]) ?_;simp[aI,az,i3.aE];refine aA.with [] [KB] ?_;simp[ab,az,i3.refs,i3.aE,aP]
 ·subst hh;refine aA.with [] [KB] ?_;simp[ab,az,i2.refs,i2.aE,aP]
theorem acF (cH:Key) (has:Bool) {ck:List UInt8} (B8:ck.length=16) {y:Int} (hy:0≤y∧y≤4294967295) (E:Key) {S U M N:List UInt8} (hS:S.length=48) (hT:U.length=28):∃b m1:List UInt8,(b.length=148∧m1.length=16)∧
  aK Pg 290 [aG cH,.bl has,bA 16 ck,fg y E S U M N] (.tup [aP b,bA 16 m1]):=by
 obtain⟨b,m1,M',N',hl,h⟩:=alz (M:=M) (N:=N) cH has B8 hy E hS hT;refine⟨b,m1,hl,?_⟩;have I4:=cm b;have i0:=gY y E S U M N;have i1:=gY y E S U M' N';refine ae.intro (aC R.lp.2) (by simp[R.lp]) ?_;simp[R.lp,aj,av];refine ai.gA [7] [] [.box (fg y E S U M N)] h (by simp[ab,i0.refs]) (by simp[az,i0.aE]) (by simp[ab,af,ah,i1.refs]) ?_;simp[aI,az,aE,aR,i1.aE];refine aA.plain [.keep [8,9]] ?_;simp[aP]
theorem aL.nsz {Γ:Cx} {c:Bool} {v:Value} {sz:Nat} (h:aL Γ (.sl 0 [] c) v):aL Γ (.sl sz [] c) v:=by
 simp only[aL]at h⊢;cases h with
 |sl _ _ _ a aX h1 h2 h3 h4 h5 h6=>exact aD.sl _ _ _ a aX h1 (by simp) h3 h4 h5 h6
theorem ae.alB {P:Program} [cL] [eJ] {f:FuncId} {x y z:PV} {fp:List aV} {R:PV->List aV->Prop} {sz:Nat} (h:ae P f [x,y,z,.sl sz [] false] fp R):ae P f [x,y,z,.sl 0 [] false] fp R:=by
 refine λΓ w vs h1 h2 h3 h4=>h Γ w vs h1 h2 h3 ?_;match vs,h4 with
 |
  [a,b,c,d],h4=>
  simp only[ff]at h4⊢
  exact⟨h4.1,h4.2.1,h4.2.2.1,h4.2.2.2.1.nsz,trivial⟩
def Vz (l:List Int):List PV:=l.map (PV.int .u64)
theorem Qq (c:Int) (l:List Int) (hl:l.length≤1048576):aK Pg 242 [.int .u64 c,.sl 1 (Vz l) false] (.bl (l.all λx=>decide (c<x))):=by
 refine ae.intro (aC R.rX.2) (by simp[R.rX]) ?_;simp[R.rX,aj,av,Vz];refine eW.fD l.length (λi=>(l.take i).all (λx=>decide (c<x))=true) [0,7,8,9] (λi=>[(9,.int .i64 i)]) (λi=>[]) [.keep [0,7,8,9]] ?_;simp;refine⟨λi hi hI K hK=> ?_,λhI K=> ?_⟩
 ·have hx:l[i]? =some l[i]:=gJ hi;have B9:IntKind.i64.wrap ((i:Int)+1)=(i:Int)+1:=wrap_i64 (by omega);by_cases hc:c<l[i]
  ·simp[↓al,hi,B9,show¬l[i]≤c by omega];refine⟨[.keep [0,7,8,9]],?_⟩;simp;refine hK _ (by simp) λx hxx=> ?_;rw[JcZ hi]at hxx;rcases JaZ.1 hxx with h|h
   ·exact hI x h
   ·simp at h;rw[h];exact hc
  ·simp[↓al,hi,show l[i]≤c by omega];refine aA.plain [] ?_;simp;exact⟨l[i],JbQ hi,by omega⟩
 ·simp[↓al];refine aA.plain [] ?_;simp;exact hI
def Qr (s:ld) (now:Int):Int:=if now<s.born then 0 else min (now-s.born) 1099511627776
theorem at6 {s:ld} {now:Int} (h1:0≤s.born) (h2:0≤now) (h3:now≤9000000000000000000):aK Pg 117 [fa s,.int .i64 now] (.int .i64 (Qr s now)):=by
 refine ae.intro (aC R.vq.2) (by simp[R.vq]) ?_;simp[R.vq,aj,av];refine⟨λh=> ?_,λh=> ?_⟩
 ·refine aA.plain [] ?_;simp[Qr,h]
 ·have w1:IntKind.u64.wrap now=now:=wrap_u64 (by omega);have w2:IntKind.u64.wrap s.born=s.born:=wrap_u64 (by omega);have w3:IntKind.u64.wrap (now-s.born)=now-s.born:=wrap_u64 (by omega);have w4:IntKind.i64.wrap (min (now-s.born) 1099511627776)=min (now-s.born) 1099511627776:=wrap_i64 (by omega);rw[w1,w2,w3,w4];refine aA.plain [] ?_;simp[Qr];intro h';omega
theorem alC:aK Pg 293 [aP []] (aP []):=by
 have hj:=rv [[],[]] (by simp) (by simp);refine ae.intro (aC R.Ad.2) (by simp[R.Ad]) ?_;simp[R.Ad,aj,av];refine ai.vA (bC:=[.sl 1 [aP [],.rs KB [] 0 0 0 1 .tip] false]) (args0:=[.sl 1 [aP [],aP []] false]) (b6:=[.arr 1 []]) [9] [11] [.arr 1 []] hj (by simp[ab,ah]) (by simp[az,aR]) ?_ ?_ ?_
 ·refine⟨.inr (.inl ⟨1,_,[aP [],aP []],false,rfl,⟨.inl ⟨rfl,(nY _).refs _⟩,.inr ⟨KB,[],0,0,0,1,.tip,[],rfl,?_,by simp,by omega,rfl⟩,trivial⟩,rfl⟩),trivial⟩;simp[av]
 ·rintro r new ⟨rfl,rfl⟩;exact⟨⟨by simp[fL,lP],by simp[uj,mB,eM]⟩,rfl⟩
 rintro r new ⟨rfl,rfl⟩;simp[ab,ah,c9,az,aE,aR,cU,aI,mB];refine aA.plain [.keep [2],.dr 9,.fz 11] ?_;simp[aP]
theorem VA {r c:Int} (hr:0≤r∧r≤4294967295) (hc:0≤c∧c≤18446744073709551615) {bs:List UInt8} (hb:bs.length=16):∃b:List UInt8,b.length=32∧aK Pg 291 [.st 3 [.int .u32 r,.int .u64 c,aP bs]] (.tup [aP b,.int .i64 0]):=by
 have hw:IntKind.u64.wrap r=(r.toNat:Int):=by rw[wrap_u64 ⟨by omega,by omega⟩];omega
 have hlr:=db r.toNat 4;have hlc:=db c.toNat 8;have h1:=Gj [.int .u8 4,.int .u8 0,.int .u8 0,.int .u8 0] r.toNat 4 (by omega) (by omega) (by simp) (by simp);have e1:[PV.int .u8 4,.int .u8 0,.int .u8 0,.int .u8 0]++(cD r.toNat 4).map u8=(([4,0,0,0]:List UInt8)++cD r.toNat 4).map u8:=rfl;rw[e1]at h1;have l1:(([4,0,0,0]:List UInt8)++cD r.toNat 4).length=8:=by simp[hlr]
 rw[show([PV.int .u8 4,.int .u8 0,.int .u8 0,.int .u8 0]:List PV).length=4 from rfl]at h1;generalize ([4,0,0,0]:List UInt8)++cD r.toNat 4=A1 at*;have h2:=Gj (A1.map u8) c.toNat 8 (by omega) (by omega) (cm _) (by simp;omega);rw[←JeV]at h2;have l2:(A1++cD c.toNat 8).length=16:=by simp[l1,hlc]
 rw[show(A1.map u8).length=8 by simp[l1]]at h2;generalize A1++cD c.toNat 8=A2 at*;have h3:=acB (A2.map u8) (bs.map u8) false (cm _) (cm _) (by simp;omega) (by simp;omega);rw[←JeV]at h3;have l3:(A2++bs).length=32:=by simp[l2,hb]
 rw[show(A2.map u8).length=16 by simp[l2],show(bs.map u8).length=16 by simp[hb]]at h3;refine⟨A2++bs,l3,?_⟩;generalize A2++bs=A3 at*;have p1:=cm A1;have p2:=cm A2;have p3:=cm A3;have pb:=cm bs;have wb:=wkB bs;have l3':(A3.map u8).length=32:=by simp[l3]
 have lb':(bs.map u8).length=16:=by simp[hb]
 have he:aP A3= .sl 1 (A3.map u8) false:=rfl;have heb:aP bs= .sl 1 (bs.map u8) false:=rfl;rw[he,heb];generalize A1.map u8=B1 at*;generalize A2.map u8=B2 at*;generalize A3.map u8=B3 at*;generalize bs.map u8=D at*;refine ae.intro (aC R.iX.2) (by simp[R.iX]) ?_;simp[R.iX,aj,av,lb'];have hwc:((c.toNat:Nat):Int)=c:=by omega
 rw[hwc]at h2;refine ai.gA [] [90,91] [] (Qp 4) (by simp) (by simp) (by simp[ab,af,ah,c9]) ?_;simp[aI,az,aE,aR,cU,hw];refine ai.gA [90,91] [] [.box (.st 1 [.rs 91 [] 0 4 4 1 .tip]),.arr 1 [.int .u8 4,.int .u8 0,.int .u8 0,.int .u8 0]] h1 (by simp[ab,ah,af,bR,idx]) (by simp[az,aE,aR,bz,idx]) (by simp[ab,af,ah,c9,p1.refs]) ?_;simp[aI,az,aE,aR,cU,p1.aE];refine ai.gA [90,91] [] [.box (.st 1 [.rs 91 [] 0 8 8 1 .tip]),.arr 1 B1] h2 (by simp[ab,ah,af,bR,idx,p1.refs]) (by simp[az,aE,aR,bz,idx,p1.aE]) (by simp[ab,af,ah,c9,p2.refs]) ?_;simp[aI,az,aE,aR,cU,p2.aE];refine ai.gen [90,91] [] [.box (.st 1 [.rs 91 [] 0 16 16 1 .tip]),.arr 1 B2] h3 (by simp[getAll]) (by simp) (by simp) (by simp[ah,af,bR,idx,pb.refs]) (by simp[ab,ah,af,bR,idx,p2.refs]) (by simp[aR,aE,bz,idx,pb.aE,wb]) (by simp[az,aE,aR,bz,idx,p2.aE]) (by simp[ab,af,ah,c9,p3.refs]) ?_;simp[aI,az,aE,aR,cU,p3.aE];refine aA.plain [.keep [2,3],.fz 91] ?_;have lW:B3.take 32=B3:=by rw[←l3',JcJ]
 simp[p3.refs,l3',lW];exact p3
def nxS (s:ld):ld:= {s with next:=s.next+1}
theorem acG {s:ld} {k:Key} (hk:s.send=k.fv) {lim:Int} (hr:0≤s.rem∧s.rem≤4294967295) (h0:0≤s.next) (dq:s.next<s.fM∧s.next<lim∧s.next<18446744073709543423):
  ∃b:List UInt8,b.length=32∧aK Pg 197 [fa s,.int .u64 lim,aP []] (.tup [fa (nxS s),aP b,.int .i64 0]):=by
 obtain⟨c,hc,hC⟩:=Ie s.next.toNat;have hwc:((s.next.toNat:Nat):Int)=s.next:=by omega
 rw[hwc]at hC;obtain⟨x,hx,hX⟩:=alD k.h hc (d:=[]) (m:=[]) (by simp) (by simp)
 have hX':aK Pg 292 [s.send.p,jl c,aP [],.sl 0 [] false] (aP x):=by
  rw[hk];exact ae.alB (sz:=1) hX
 obtain⟨b,hb,hB⟩:=VA hr (c:=s.next) ⟨h0,by omega⟩ (bs:=x) (by simpa using hx);refine⟨b,hb,?_⟩;have Tt:=cm x;refine ae.intro T.nr (by simp[F.nr]) ?_;simp[F.nr,aj,av];refine ai.ret (Qq s.next [s.fM,lim,18446744073709543423] (by simp)) (by simp[Vz]) (by simp) (by simp) ?_;simp[dq.1,dq.2.1,dq.2.2];refine aN.rA hC ?_;simp;refine aN.rA alC ?_;simp;refine aN.rA hX' ?_;simp;refine aN.rA hB ?_;have hw:IntKind.u64.wrap (s.next+1)=s.next+1:=wrap_u64 (by omega);simp[hw];refine aA.plain [] ?_;simp[nxS]
def Zs (s:ld) (r:y7) (now:Int):Bool:=decide (Qr s now<r.sN)&&[s.fM,r.uy,18446744073709543423].all λx=>decide (s.next<x)
theorem VB {s:ld} {r:y7} {now:Int} (h1:0≤s.born) (h2:0≤now) (h3:now≤9000000000000000000):aK Pg 195 [fa s,cO r,.int .i64 now] (.bl (Zs s r now)):=by
 have hA:=at6 h1 h2 h3;have hB:=Qq s.next [s.fM,r.uy,18446744073709543423] (by simp);refine ae.intro (aC R.qD.2) (by simp[R.qD]) ?_;simp[R.qD,aj,av];refine aN.rA hA ?_;by_cases hc:Qr s now<r.sN
 ·simp[hc];refine aN.ret hB (by simp[Vz]) (by simp) (by simp) ?_;simp;refine aA.plain [] ?_;simp[Zs,hc]
 ·simp[hc];refine aA.plain [] ?_;simp[Zs,hc]
def wE (L:List gr) (i:Nat) (t:gr):List gr:=L.take i++t::L.drop i
theorem AT {L:List gr} {i:Nat} (t:gr) (_:Unit) (hi:i≤L.length):(wE L i t).length=L.length+1:=by
 simp only[wE,JaJ,JcX,lJ,JbV];omega
theorem alE {L:List gr} {J:List PV} {c:fB} (hl:L.length≤1048576) (hJ:an J) {g:FuncId} {q:gr->Bool} {v:PV} (hv:Pure v) (hq:∀x∈L,(ae Pg g [aU x,.pt KB [] 0] [aV.box v] (λr fp=>r= .bl (q x)∧fp=[aV.box v]))):
  ae Pg 358 [.rs KB [] 0 L.length (L.length+J.length) 34 c,.fn (.func g) [] [.pt (KB+1) [] 0]] [.arr 34 (L.map aU++J),.box v] (λr fp=>r= .int .i64 (lQ q L)∧fp=[.arr 34 (L.map aU++J),.box v]):=by
 refine ae.intro (aC R.dU.2) (by simp[R.dU]) ?_;have oR:an (L.map aU++J):=(aF gD L).append hJ;have hwl:L.length=(L.map aU).length:=by simp
 have hx:∀i,(h:i<L.length)->(L.map aU++J)[i]? =some (aU L[i]):=λi h=>by rw[List.getElem?_append_left (by simpa using h)];simp[h]
 have hlen:(L.map aU++J).length=L.length+J.length:=by simp
 generalize L.map aU++J=B at*;simp[R.dU,aj,av,hlen];refine eW.fD L.length (λi=>∀x∈L.take i,q x=false) [0,1,4,6,7,8] (λi=>[(8,.int .i64 i)]) (λ_=>[]) [.keep [0,1,4,6,7,8]] ?_;simp only[JnJ];simp;refine⟨λi hi hI K hK=> ?_,λhI K=> ?_⟩
 ·have hc:=hq L[i] (JbQ hi);have hx:=hx i hi;have wi:IntKind.i64.wrap ((i:Int)+1)=(i:Int)+1:=wrap_i64 (by omega);have hle:i<L.length+J.length:=by omega
  generalize Hf:L[i]=x at*;simp[↓al,hx,hi,hlen,-getElem?_pos];refine ai.gA [KB+1] [] [aV.box v] hc (by simp[ab,hv.refs]) (by simp[az,hv.aE]) (by simp[ab,af,hv.refs]) ?_;simp[aI,az,aE,hv.aE];by_cases hb:q x=true
  ·simp[hb];refine aA.with [] [KB,KB+1] ?_;simp[ab,az,oR.refs,oR.aE,hv.refs,hv.aE];exact(sR hi hI (by rw[Hf];exact hb)).symm
  ·have hb:q x=false:=by simpa using hb
   simp[hb,wi];refine⟨[.keep [0,1,4,6,7,8]],?_⟩;simp;refine hK _ (by simp) ?_;rw[JcZ hi,Hf];intro y hy;rcases JaZ.1 hy with h|h
   ·exact hI y h
   ·simp at h;subst h;exact hb
 ·simp[↓al];refine aA.with [] [KB,KB+1] ?_;simp[ab,az,oR.refs,oR.aE,hv.refs,hv.aE];exact(we hI).symm
theorem alF {L:List bO} {J:List PV} {c:fB} (hl:L.length≤1048576) (hJ:an J) {g:FuncId} {q:bO->Bool} {v:PV} (hv:Pure v) (hq:∀x∈L,(ae Pg g [aQ x,.pt KB [] 0] [aV.box v] (λr fp=>r= .bl (q x)∧fp=[aV.box v]))):
  ae Pg 108 [.rs KB [] 0 L.length (L.length+J.length) 464 c,.fn (.func g) [] [.pt (KB+1) [] 0]] [.arr 464 (L.map aQ++J),.box v] (λr fp=>r= .int .i64 (lQ q L)∧fp=[.arr 464 (L.map aQ++J),.box v]):=by
 refine ae.intro (aC R.dV.2) (by simp[R.dV]) ?_;have oR:an (L.map aQ++J):=(aF iw L).append hJ;have hwl:L.length=(L.map aQ).length:=by simp
 have hx:∀i,(h:i<L.length)->(L.map aQ++J)[i]? =some (aQ L[i]):=λi h=>by rw[List.getElem?_append_left (by simpa using h)];simp[h]
 have hlen:(L.map aQ++J).length=L.length+J.length:=by simp
 generalize L.map aQ++J=B at*;simp[R.dV,aj,av,hlen];refine eW.fD L.length (λi=>∀x∈L.take i,q x=false) [0,1,4,6,7,8] (λi=>[(8,.int .i64 i)]) (λ_=>[]) [.keep [0,1,4,6,7,8]] ?_;simp only[JnJ];simp;refine⟨λi hi hI K hK=> ?_,λhI K=> ?_⟩
 ·have hc:=hq L[i] (JbQ hi);have hx:=hx i hi;have wi:IntKind.i64.wrap ((i:Int)+1)=(i:Int)+1:=wrap_i64 (by omega);have hle:i<L.length+J.length:=by omega
  generalize Hf:L[i]=x at*;simp[↓al,hx,hi,hlen,-getElem?_pos];refine ai.gA [KB+1] [] [aV.box v] hc (by simp[ab,hv.refs]) (by simp[az,hv.aE]) (by simp[ab,af,hv.refs]) ?_;simp[aI,az,aE,hv.aE];by_cases hb:q x=true
  ·simp[hb];refine aA.with [] [KB,KB+1] ?_;simp[ab,az,oR.refs,oR.aE,hv.refs,hv.aE];exact(sR hi hI (by rw[Hf];exact hb)).symm
  ·have hb:q x=false:=by simpa using hb
   simp[hb,wi];refine⟨[.keep [0,1,4,6,7,8]],?_⟩;simp;refine hK _ (by simp) ?_;rw[JcZ hi,Hf];intro y hy;rcases JaZ.1 hy with h|h
   ·exact hI y h
   ·simp at h;subst h;exact hb
 ·simp[↓al];refine aA.with [] [KB,KB+1] ?_;simp[ab,az,oR.refs,oR.aE,hv.refs,hv.aE];exact(we hI).symm
theorem alG {L:List gr} (hl:L.length≤1048576) {g:FuncId} {q:gr->Bool} {v:PV} (hv:Pure v) (hq:∀x∈L,(ae Pg g [aU x,.pt KB [] 0] [aV.box v] (λr fp=>r= .bl (q x)∧fp=[aV.box v]))):
  ae Pg 324 [.rs KB [] 0 L.length L.length 34 .tip,.fn (.func g) [] [.pt (KB+1) [] 0]] [.arr 34 (L.map aU),.box v] (λr fp=>∃(J:List PV) (c:Nat),(an J∧(L.filter λx=> !q x).length≤c∧c≤(L.filter λx=> !q x).length+J.length)∧r= .rs KB [] 0 (L.filter λx=> !q x).length ((L.filter λx=> !q x).length+J.length) 34 (.full c)∧fp=[.arr 34 ((L.filter λx=> !q x).map aU++J),.box v]):=by
 obtain⟨p,Ol⟩:∃p:gr->Bool,∀x,p x= !q x:=⟨_,λ_=>rfl⟩
 rw[show(λx=> !q x)=p from funext λx=>(Ol x).symm];refine ae.intro (aC R.dQ.2) (by simp[R.dQ]) ?_;have oT:∀l:List gr,an (l.map aU):=λl=>aF gD l;have hix:=alE (c:= .tip) (J:=[]) hl vY hv hq;simp only[JgV,List.length_nil,JnQ]at hix;simp[R.dQ,aj,av];refine ai.gA [KB,KB+1] [] [.arr 34 (L.map aU),.box v] hix (by simp[ab,hv.refs]) (by simp[az,hv.aE]) (by simp[ab,af,hv.refs]) ?_;simp[aI,az,aE,hv.aE];rcases tI q L with⟨he,cq⟩|⟨i,hi,he,Sv,hqi⟩
 ·have hK:L.filter p=L:=JfX.2 λx hx=>by rw[Ol,cq x hx];rfl
  rw[hK];simp[he];refine aA.with [.keep [4],.mt 4] [KB,KB+1] ?_;simp[ab,az,hv.refs,hv.aE];intro c j OK;exact⟨(dJ 34 j).refs _,List.replicate j (G5 34),c,⟨dJ 34 j,by rcases OK with h|⟨_,_,h⟩<;>simp[h],by rw[JcW];omega⟩,by simp,((oT L).append (dJ 34 j)).aE _⟩
 ·have aeG:p L[i]=false:=by rw[Ol,hqi];rfl
  obtain⟨D,cn,⟨d0,c0⟩,dg,dn,dy,dl,cl,⟨ce,de⟩,dw,dp⟩:=Qs p aU gD (n:=34) (λx=>by simp) hi (λx hx=>by rw[Ol,Sv x hx];rfl) aeG;have wi:IntKind.i64.wrap ((i:Int)+1)=(i:Int)+1:=wrap_i64 (by omega);have cI:¬(i:Int)= -1:=by omega
  simp[he,wi,cI];rw[←d0];have Sa:L.length-(i+1)+(i+1)=L.length:=by omega
  refine eW.fD (L.length-(i+1)) (λ_=>True) [0,1,4,5,6] (λr=>[(5,.int .i64 (cn (i+1+r))),(6,.int .i64 ((i:Int)+1+r))]) (λr=>[(KB,.arr 34 (D (i+1+r)))]) [.keep [0,1,4,5,6]] ?_;simp[c0];refine⟨λr hr K hK=> ?_,λK=> ?_⟩
  ·obtain⟨j,hj⟩:∃j,j=i+1+r:=⟨_,rfl⟩
   have Bx:j<L.length:=by omega
   have Tu:(i:Int)+1+r=j:=by omega
   have hx:=dg j Bx;have hc:=hq L[j] (JbQ Bx);have dn:=dn j Bx;have dy:=dy j Bx;have cl:=cl j;have dlj:=dl j;have dpj:=dp j;have dpj1:=dp (j+1);have wj:IntKind.i64.wrap ((j:Int)+1)=(j:Int)+1:=wrap_i64 (by omega);have wc:IntKind.i64.wrap ((cn j:Int)+1)=(cn j:Int)+1:=wrap_i64 (by omega);have Oj:cn j<L.length:=by omega
   obtain⟨y,hy,hyw⟩:∃y,(D j)[cn j]? =some y∧y.width=34:=by
    have dq:cn j<(D j).length:=by rw[dlj];exact Oj
    exact⟨_,gJ dq,dw j _ (JbQ dq)⟩
   have hK:∀s2,gx s2 [0,1,4,5,6] [] []=⟨[(0,.rs KB [] 0 L.length L.length 34 .tip),(1,.fn (.func g) [] [.pt (KB+1) [] 0]),(4,.sl 34 [] true),(5,.int .i64 (cn (j+1))),(6,.int .i64 ((j:Int)+1))],[(KB,.arr 34 (D (j+1))),(KB+1,.box v)]⟩->K s2:=by
    intro s2 Bv;refine hK s2 (Bv.trans ?_);rw[show i+1+(r+1)=j+1 by omega,show(i:Int)+1+((r:Int)+1)=(j:Int)+1 by omega]
   rw[←hj,Tu];have Tt:p L[j]= !q L[j]:=Ol _;generalize L[j]=x at*;generalize cn j=cj at*;generalize D j=Dj at*;generalize D (j+1)=Dj1 at*;generalize cn (j+1)=cj1 at*;simp[↓al,hx,Bx,dlj,-getElem?_pos];refine ai.gA [KB+1] [] [aV.box v] hc (by simp[ab,hv.refs]) (by simp[az,hv.aE]) (by simp[ab,af,hv.refs]) ?_;simp[aI,az,aE,hv.aE];by_cases hb:q x=true
   ·obtain⟨rfl,rfl⟩:=dn (by rw[Tt,hb];rfl);simp[hb,wj];refine⟨[.keep [0,1,4,5,6],.dr 7],?_⟩;simp[bt,b8,af,ah,ab,dpj.refs,hv.refs];exact hK _ (by simp)
   ·have hb:q x=false:=by simpa using hb
    obtain⟨rfl,rfl⟩:=dy (by rw[Tt,hb];rfl);simp[hb,wj,wc,dlj,Oj,hy,hyw,-getElem?_pos];refine⟨[.keep [0,1,4,5,6],.dr 7],?_⟩;simp[bt,b8,af,ah,ab,dpj1.refs,hv.refs];exact hK _ (by simp)
  ·have Bx:i+1+(L.length-(i+1))=L.length:=by omega
   have Tu:(i:Int)+1+((L.length-(i+1):Nat):Int)=L.length:=by omega
   simp only[Bx,Tu];have cl:=cl L.length;have dlj:=dl L.length;have dpj:=dp L.length;have dw:=dw L.length;have qR:(L.filter p).length≤L.length:=by rw[←ce];exact cl.2
   rw[ce];generalize D L.length=DJ at*;generalize hKk:L.filter p=Kp at*;simp[↓al,dlj,qR,-getElem?_pos];rw[de]
   obtain⟨Z,hZ,Xs,hzl⟩:∃Z,(List.replicate (L.length-Kp.length) (.st 34 [(.int .u32 0),(.ar 1 32 (zr 32 (.int .u8 0))),(.bl false)])++List.drop L.length DJ)=Z∧an Z∧Z.length=L.length-Kp.length:=
    ⟨_,rfl,(an.mk' λp hp=>by rw[JlW hp];simp).append (dpj.drop _),by simp[dlj]⟩
   rw[hZ];have eE:an (Kp.map aU++Z):=(oT Kp).append Xs;have lY:(Kp.map aU++Z).length=L.length:=by simp;omega
   refine aA.with [.keep [4],.mt 4] [KB,KB+1] ?_;simp[lY,ab,az,hv.refs,hv.aE];intro c j OK;have hzu:=Xs.append (dJ 34 j);refine⟨⟨Xs.refs _,(dJ 34 j).refs _⟩,Z++List.replicate j (G5 34),c,⟨hzu,?_,?_⟩,⟨by simp;omega,rfl⟩,((oT Kp).append hzu).aE _⟩
   ·rcases OK with h|⟨_,_,h⟩
    ·omega
    ·simp[h]
   ·simp only[JaJ,JcW];omega
theorem acH {x:PV} {B:List PV} {off len:Nat} {c:fB} (ho:0<B.length) (hl:1≤len):ae Pg 312 [.rs KB [] 0 1 1 34 .tip,.rs (KB+1) [] off len B.length 34 c] [.arr 34 [x],.arr 34 B] (λr fp=>r= .bl false∧fp=[.arr 34 [x],.arr 34 B]):=by
 intro Γ w vs hw hm lK hA;match vs,hA with
 |
  [v1,v2],hA=>
  obtain⟨h1,h2,_⟩:=hA
  have g1:get Γ.bx KB=some (.arr 34 [x]):=by rw[lK];rfl
  have g2:get Γ.bx (KB+1)=some (.arr 34 B):=by rw[lK];rfl
  obtain⟨a1,c1,e1,k1⟩:=h1.rs g1 (by simp[aV.aO])
  obtain⟨a2,c2,e2,k2⟩:=h2.rs g2 (by simp[aV.aO])
  obtain⟨_,_,r1⟩:=hm.blk _ _ g1
  obtain⟨r2w,_,r2⟩:=hm.blk _ _ g2
  unfold ia at k1 k2
  cases i1:Γ.ι KB with
  |none=>rw[i1]at k1;exact absurd k1.1 (by omega)
  |
   some b1=>
   cases i2:Γ.ι (KB+1)with
   |none=>rw[i2]at k2;exact absurd k2.1 (by omega)
   |
    some b2=>
    rw[i1]at k1 r1;rw[i2]at k2 r2
    obtain⟨p1,p2,_⟩:=k1
    obtain⟨q1,q2,_⟩:=k2
    rcases p2 with p2|rfl
    ·omega
    rcases q2 with q2|rfl
    ·omega
    obtain⟨cc1,ce1,cs1,aoE,u1,u2,u3,_⟩:=r1
    obtain⟨cc2,ce2,cs2,Sw,w1,w2,w3,_⟩:=r2
    have cI:b1≠b2:=λe=>by
     have:=hm.inj KB (KB+1) b1 (by rw[g1];rfl) (by rw[g2];rfl) i1 (by rw[i2,e]);omega
    rw[←hw]at u1 w1
    have Bv:cc2.size≠0:=by
     have e1:cs2.length=B.length*34:=by rw[w3.length,bf r2w]
     have e2:cc2.size=cs2.length+Sw.length:=by rw[←JbZ,w2];simp
     omega
    have fU:=Go.Lib.run_overlaps_apart (P:=Pg) w 31 4 128 (by kernel_rfl) 34 (λw=>run_sizeOf (by kernel_rfl)) ⟨b1,bK []+0*34,none⟩ ⟨b2,bK []+off*34,none⟩ 1 c1 len c2 cI ce1 ce2 cc1.size cc2.size (by simp[World.shape?,u1]) (by simp[World.shape?,w1]) Bv (by simp[World.frozen?,u1]) (by simp[World.frozen?,u1])
    rw[e1,e2]
    refine .inr ⟨.bool false,w,?_,_,_,[.arr 34 [x],.arr 34 B],Γ,rfl,⟨rfl,rfl⟩,hw,hm,lK,iK,Le.refl Γ,WF.refl w⟩
    rw[run_callFunc_extern (fn:=(Pg.funcs[312]?).getD default) (by kernel_rfl) (by kernel_rfl) (by kernel_rfl) (by kernel_rfl) (e:=Extern.SlicesOverlaps.overlaps #[31,31] #[4]) (by kernel_rfl)]
    rw[fU]
    rfl
theorem alH {L:List gr} {J:List PV} {c i:Nat} (hl:L.length≤1048576) (hJ:an J) (hc:L.length+1≤c∧c≤L.length+J.length) (hi:i≤L.length) (t:gr):
  ae Pg 228 [.rs KB [] 0 L.length (L.length+J.length) 34 (.full c),.int .i64 i,.rs (KB+1) [] 0 1 1 34 .tip] [.arr 34 (L.map aU++J),.arr 34 [aU t]] (λr fp=>∃B,(an B∧B.length=L.length+J.length∧B.take (L.length+1)=(wE L i t).map aU)∧r= .rs KB [] 0 (L.length+1) (L.length+J.length) 34 (.full c)∧fp=[.arr 34 B,.arr 34 [aU t]]):=by
 refine ae.intro (aC R.bq.2) (by simp[R.bq]) ?_;have oT:∀l:List gr,an (l.map aU):=λl=>aF gD l;have lY:(L.map aU++J).length=L.length+J.length:=by simp
 have lW:∀k,k≤L.length->(L.map aU++J).take k=(L.take k).map aU:=λk hk=>by rw[JfW (by simpa using hk),JfQ]
 have eE:an (L.map aU++J):=(oT _).append hJ;generalize L.map aU++J=B at*;by_cases hie:i=L.length
 ·subst hie;simp(disch:=omega) [R.bq,aj,av,lY];refine⟨⟨by omega,hc.2,by omega,by omega⟩,λAn=> ?_,λAn=>by omega⟩
  obtain⟨B2,Je,su,Bc,Hg⟩:∃B2,List.take L.length B++aU t::List.drop (L.length+1) B=B2∧an B2∧B2.length=L.length+J.length∧B2.take (L.length+1)=(wE L L.length t).map aU:=by
   have h0:(B.take L.length).length=L.length:=by rw[lJ,lY];omega
   refine⟨_,rfl,(eE.take _).append (an.mk' λx hx=> ?_),?_,?_⟩
   ·rcases cJ.1 hx with rfl|hx
    ·simp
    ·exact(eE.drop _).forget x hx
   ·simp only[JaJ,JcX,JbV,h0,lY];omega
   ·rw[List.take_append,tJ (by omega),h0,show L.length+1-L.length=1 by omega,lW _ (JaQ _)];simp[wE]
  rw[Je];refine aA.with [.keep [6]] [KB,KB+1] ?_;simp[ab,ah,az,aR,su.refs,su.aE];exact⟨su,Bc,Hg⟩
 ·have dq:i<L.length:=by omega
  have KU:¬(i:Int)=L.length:=by omega
  have h1:¬(c:Int)<(L.length:Int)+1:=by omega
  have h2:c≤L.length+J.length∧L.length≤c:=by omega
  have h3:L.length+1≤L.length+J.length:=by omega
  have Xp:=acH (x:=aU t) (B:=B) (off:=i+1) (len:=L.length-i) (c:= .full (c-(i+1))) (by omega) (by omega);rw[lY]at Xp;simp(disch:=omega) [R.bq,aj,av,lY,KU,hi,h1,h2];refine⟨⟨by omega,by omega⟩,by omega,?_⟩;refine ai.gA [KB+1,KB] [] [.arr 34 [aU t],.arr 34 B] Xp (by simp[ab,ah,eE.refs]) (by simp[az,aR,eE.aE]) (by simp[ab,af,ah,eE.refs]) ?_;have hw:IntKind.i64.wrap ((i:Int)+1)=(i:Int)+1:=wrap_i64 (by omega);have m1:min (L.length+1-i) (L.length+J.length-i)=L.length+1-i:=by omega
  simp(disch:=omega) [aI,az,aE,aR,(gD t).aE,lY,hw,m1,-List.length_append];obtain⟨B1,XH,KQ,Bc,Hg⟩:=Ig lY dq (by omega) (aU t);rw[lW _ (JaQ _),lW _ hi]at Hg;have Jd:an B1:=by rw[←XH];exact(eE.take _).append ((((eE.drop _).take _).take _).append (eE.drop _))
  have su:an (List.take i B1++aU t::List.drop (i+1) B1):=(Jd.take _).append (an.mk' λx hx=>by
   rcases cJ.1 hx with rfl|hx
   ·simp
   ·exact(Jd.drop _).forget x hx)
  rw[XH];generalize List.take i B1++aU t::List.drop (i+1) B1=B2 at*;refine⟨⟨by omega,hi⟩,by omega,by omega,by omega,by rw[KQ],by omega,⟨by rw[KQ],by rw[KQ];omega⟩,?_⟩;refine aA.with [.keep [6]] [KB,KB+1] ?_;simp[ab,ah,az,aR,su.refs,su.aE];exact⟨su,Bc,by rw[Hg];simp[wE,JjV,JfQ]⟩
theorem alI {L:List gr} {J:List PV} {i:Nat} (hl:L.length≤1048576) (hJ:an J) (hi:i≤L.length) (t:gr):
  ae Pg 228 [.rs KB [] 0 L.length (L.length+J.length) 34 (.full L.length),.int .i64 i,.rs (KB+1) [] 0 1 1 34 .tip] [.arr 34 (L.map aU++J),.arr 34 [aU t]] (λr fp=>r= .rs (KB+2) [] 0 (L.length+1) (L.length+1) 34 .tip∧fp=[.arr 34 (L.map aU++J),.arr 34 [aU t],.arr 34 ((wE L i t).map aU)]):=by
 refine ae.intro (aC R.bq.2) (by simp[R.bq]) ?_;have oT:∀l:List gr,an (l.map aU):=λl=>aF gD l;have lY:(L.map aU++J).length=L.length+J.length:=by simp
 have lW:∀k,k≤L.length->(L.map aU++J).take k=(L.take k).map aU:=λk hk=>by rw[JfW (by simpa using hk),JfQ]
 have eE:an (L.map aU++J):=(oT _).append hJ;generalize L.map aU++J=B at*;by_cases hie:i=L.length
 ·subst hie;simp(disch:=omega) [R.bq,aj,av,lY];refine⟨⟨by omega,by omega⟩,λAn=>by omega,?_⟩;have Je:List.take L.length B++[aU t]=(wE L L.length t).map aU:=by rw[lW _ (JaQ _)];simp[wE]
  rw[Je];refine aA.with [.keep [6]] [KB,KB+1,25] ?_;have G2:=oT (wE L L.length t);generalize (wE L L.length t).map aU=B2 at*;simp[ab,ah,az,aR,G2.refs,G2.aE,eE.refs,eE.aE]
 ·have dq:i<L.length:=by omega
  have KU:¬(i:Int)=L.length:=by omega
  have h1:(L.length:Int)<(L.length:Int)+1:=by omega
  have h2:(i:Int)<(L.length:Int)+1:=by omega
  have h3:(i:Int)≤(L.length:Int)+1:=by omega
  have h4:(L.length+1)*40≤140737488355328:=by omega
  have h5:L.length≤9223372036854775806:=by omega
  simp(disch:=omega) [R.bq,aj,av,lY,KU,hi,h1,h2,h3,h4,h5];refine⟨by omega,by omega,⟨by omega,by omega⟩,?_⟩;rw[E5 (by rw[lY];omega) dq (by simp) (aU t),lW _ (JaQ _),lW _ hi];have hI:(List.take i L).map aU++aU t::List.drop i ((List.take L.length L).map aU)=(wE L i t).map aU:=by simp[wE,JjV,JfQ]
  rw[hI];have G2:=oT (wE L i t);generalize (wE L i t).map aU=B2 at*;refine aA.with [.keep [6]] [KB,KB+1,40] ?_;simp[ab,ah,az,aR,G2.refs,G2.aE,eE.refs,eE.aE]
theorem acI (x:gr) (n:Int):ae Pg 325 [aU x,.pt KB [] 0] [.box (.int .u32 n)] (λr fp=>r= .bl (!Gl n x)∧fp=[.box (.int .u32 n)]):=by
 refine ae.intro (aC R.tK.2) (by simp[R.tK]) ?_;simp[R.tK,aj,av];refine aA.with [] [KB] ?_;simp[ab,az,Gl]
theorem acJ (x:gr) (n:Int):ae Pg 311 [aU x,.pt KB [] 0] [.box (.int .u32 n)] (λr fp=>r= .bl (decide (x.index=n))∧fp=[.box (.int .u32 n)]):=by
 refine ae.intro (aC R.tL.2) (by simp[R.tL]) ?_;simp[R.tL,aj,av];refine aA.with [] [KB] ?_;simp[ab,az]
theorem acK (x:gr) (n:Int):ae Pg 227 [aU x,.pt KB [] 0] [.box (.int .u32 n)] (λr fp=>r= .bl (decide (n<x.index))∧fp=[.box (.int .u32 n)]):=by
 refine ae.intro (aC R.tM.2) (by simp[R.tM]) ?_;simp[R.tM,aj,av];refine aA.with [] [KB] ?_;simp[ab,az]
theorem alJ {l:List gr} (h:l.length≤1048576) (n:Int):aK Pg 249 [bL l,.int .u32 n] (bL (l.filter (Gl n))):=by
 refine ae.intro (aC R.xo.2) (by simp[R.xo]) ?_;have oT:∀l:List gr,an (l.map aU):=λl=>aF gD l;have rD:u9 Pg 57 [.sl 34 (l.map aU) false] 34 (l.map aU):=me (bytes:=40) (aC R.bV.2) (by omega) (oT l) (by simpa using h) (by omega);have hd:=alG (L:=l) h (g:=325) (q:=λs=> !Gl n s) (v:= .int .u32 n) (by simp) (λx _=>acI x n);have hf:(l.filter λx=> !!Gl n x)=l.filter (Gl n):=by simp only[Bool.not_not]
 rw[hf]at hd;generalize l.filter (Gl n)=R at*;simp[Go.Ab.R.xo,aj,av,bL];refine ai.own 6 rD (by simp) (by simp[oT]) (oT l) (by simp) ?_;simp;refine ai.gR [6,3] [] [.arr 34 (l.map aU),.box (.int .u32 n)] hd (by simp[ab,af]) (by simp[az,aE]) ?_;rintro r fp ⟨J,c,⟨hJ,h1,h2⟩,rfl,rfl⟩;have eE:an (R.map aU++J):=(oT _).append hJ;have lY:(R.map aU++J).length=R.length+J.length:=by simp
 have lW:(R.map aU++J).take R.length=R.map aU:=by rw[JfW (by simp),tJ (by simp)]
 generalize hB:R.map aU++J=B at eE lY lW⊢;refine⟨by simp[ab,af,c9,eE.refs],?_⟩;simp[aI,az,aE,cU,eE.aE];refine aA.plain [.keep [4],.fz 6] ?_;simp[eE.refs,lY,lW,oT]
theorem Qt {l:List gr} (hl:l.length≤1048576) {g:FuncId} {q:gr->Bool} {v:PV} (hv:Pure v) (hq:∀x∈l,ae Pg g [aU x,.pt KB [] 0] [.box v] (λr fp=>r= .bl (q x)∧fp=[.box v])):
  ae Pg 226 [bL l,.fn (.func g) [] [.pt KB [] 0]] [.box v] (λr fp=>r= .int .i64 (l.findIdx q:Nat)∧fp=[.box v]):=by
 refine ae.intro (aC R.kz.2) (by simp[R.kz]) ?_;simp[R.kz,aj,av];refine eW.fD l.length (λi=>∀x∈l.take i,q x=false) [0,1,4,7,8,9] (λi=>[(9,.int .i64 i)]) (λ_=>[]) [.keep [0,1,4,7,8,9]] ?_;simp only[JnJ];simp;refine⟨λi hi hI K hK=> ?_,λhI K=> ?_⟩
 ·have hc:=hq l[i] (JbQ hi);have hx:l[i]? =some l[i]:=gJ hi;have wi:IntKind.i64.wrap ((i:Int)+1)=(i:Int)+1:=wrap_i64 (by omega);generalize Hf:l[i]=x at*;simp[↓al,hx,hi,-getElem?_pos];refine ai.gA [KB] [] [.box v] hc (by simp[ab,hv.refs]) (by simp[az,hv.aE]) (by simp[ab,hv.refs,af]) ?_;simp[aI,az,aE,hv.aE];by_cases hb:q x=true
  ·have he:l.findIdx q=i:=by
    rw[List.findIdx_eq hi];refine⟨by rw[Hf];exact hb,λj hj=>hI _ (JoW.2 ⟨j,by omega,rfl⟩)⟩
   simp[hb];refine aA.with [.keep [4],.dr 6] [KB] ?_;simp[bt,b8,ab,af,az,hv.refs,hv.aE,he]
  ·have hb:q x=false:=by simpa using hb
   simp[hb,wi];refine⟨[.keep [0,1,4,7,8,9],.dr 6],?_⟩;simp[bt,b8,ab,af,ah,hv.refs];refine hK _ (by simp) ?_;rw[JcZ hi,Hf];intro y hy;rcases JaZ.1 hy with h|h
   ·exact hI y h
   ·simp at h;subst h;exact hb
 ·have he:l.findIdx q=l.length:=by
   rw[List.findIdx_eq_length];intro x hx;exact hI x hx
  simp[↓al];refine aA.with [.keep [4]] [KB] ?_;simp[ab,az,hv.refs,hv.aE,he]
def wF (l:List gr):Nat->Int->Int×Bool
 |0,_=>(0,false)
 |n+1,x=>if l.findIdx (λs=>decide (s.index=x))=l.length then(x,true)else if x=4294967295 then(0,false)else wF l n (x+1)
theorem Lv (l:List gr):∀(n:Nat) (x:Int),0≤x∧x≤4294967295->0≤(wF l n x).1∧(wF l n x).1≤4294967295
 |0,_,_=>by simp[wF]
 |
  n+1,x,h=>by
  unfold wF
  split
  ·exact h
  ·split
   ·simp
   ·exact Lv l n _ (by omega)
theorem Zt {l:List gr} (hl:l.length≤1048575) {x:Int} (hx:0≤x∧x≤4294967295):aK Pg 225 [bL l,.int .u32 x] (.tup [.int .u32 (wF l (l.length+1) x).1,.bl (wF l (l.length+1) x).2]):=by
 refine ae.intro (aC R.xp.2) (by simp[R.xp]) ?_;have w0:IntKind.i64.wrap ((l.length:Int)+1)=((l.length+1:Nat):Int):=by rw[wrap_i64 (by omega)];omega
 simp[R.xp,aj,av,w0];refine eW.fD (l.length+1) (λi=>x+i≤4294967295∧wF l (l.length+1-i) (x+i)=wF l (l.length+1) x) [0,3,4,5,8,9] (λi=>[(9,.int .i64 i)]) (λi=>[(3,.box (.int .u32 (x+(i:Int))))]) [.keep [0,3,4,5,8,9]] ?_;simp;refine⟨hx.2,λi hi hb hI K hK=> ?_,λhb hI K=> ?_⟩
 ·have wi:IntKind.i64.wrap ((i:Int)+1)=(i:Int)+1:=wrap_i64 (by omega);have hn:l.length+1-i=(l.length-i)+1:=by omega
  have kY:(i:Int)<(l.length:Int)+1:=by omega
  have D0:x+((i:Int)+1)=x+(i:Int)+1:=by omega
  rw[hn,wF]at hI;rw[D0]at hK;generalize x+(i:Int)=y at*;have hf:=Qt (l:=l) (by omega) (g:=311) (v:= .int .u32 y) (by simp) (λz _=>acJ z y);generalize l.findIdx (λs=>decide (s.index=y))=fi at*;simp[↓al,kY];refine ai.gA [3] [] [.box (.int .u32 y)] hf (by simp[ab,af]) (by simp[az]) (by simp[ab,af]) ?_;simp[aI,az,aE];by_cases h1:fi=l.length
  ·rw[if_pos h1]at hI;have R9:(fi:Int)=(l.length:Int):=by omega
   simp[R9];refine aA.plain [.keep [4,5],.dr 3] ?_;simp[bt,af,←hI]
  ·rw[if_neg h1]at hI;have R9:¬(fi:Int)=(l.length:Int):=by omega
   by_cases h2:y=4294967295
   ·subst h2;rw[if_pos rfl]at hI;simp[↓al,R9];refine aA.plain [.keep [4,5],.dr 3] ?_;simp[bt,af,←hI]
   ·rw[if_neg h2]at hI;have wx:IntKind.u32.wrap (y+1)=y+1:=wrap_u32 (by omega);simp[R9,h2,wi,wx];refine⟨[.keep [0,3,4,5,8,9]],?_⟩;simp;exact hK _ (by simp) (by omega) hI
 ·have hI:((0,false):Int×Bool)=wF l (l.length+1) x:=by rw[←hI];rfl
  simp[↓al];refine aA.plain [.keep [4,5],.dr 3] ?_;simp[bt,af];exact⟨by rw[←hI],by rw[←hI]⟩
theorem Nv {l:List gr} (h:l.length≤1048576):ae Pg 57 [bL l] [] (λr fp=>∃(J:List PV) (c:Nat),(an J∧l.length≤c∧c≤l.length+J.length)∧r= .rs KB [] 0 l.length (l.length+J.length) 34 (.full c)∧fp=[.arr 34 (l.map aU++J)]):=by
 refine ae.intro (aC R.bV.2) (by simp[R.bV]) ?_;have oT:∀l:List gr,an (l.map aU):=λl=>aF gD l;simp[R.bV,aj,av,bL];refine⟨⟨⟨by omega,by omega⟩,?_⟩,?_⟩
 ·refine aA.with [.mt 2] [7] ?_;simp[ab,az];intro c j OK;exact⟨(dJ 34 j).refs _,List.replicate j (G5 34),c,⟨dJ 34 j,by rcases OK with h|⟨_,_,h⟩<;>simp_all,by rw[JcW];rcases OK with h|⟨_,_,h⟩<;>simp_all⟩,by simp,((oT l).append (dJ 34 j)).aE _⟩
 ·rintro rfl;refine aA.with [.vt 2 7 34,.mt 2] [7] ?_;simp[ab,az];intro c j OK;exact⟨(dJ 34 j).refs _,List.replicate j (G5 34),c,⟨dJ 34 j,by rcases OK with h|⟨_,_,h⟩<;>simp_all⟩,by simp,(dJ 34 j).aE _⟩
theorem alK {l:List gr} (hl:l.length≤1048575) {x:Int} (hx:0≤x∧x≤4294967295) (k:Key) (b:Bool):∃(y:Int) (R:List gr) (e:Int),(l.length<32->e=0)∧(R.length≤32∧R.length≤l.length+1)∧(0≤y∧y≤4294967295)∧
  aK Pg 136 [bL l,.int .u32 x,aG k,.bl b] (.tup [.sl 34 (R.map aU) false,.int .u32 y,.int .i64 e]):=by
 by_cases h32:32≤l.length
 ·refine⟨0,[],12,λh=>absurd h32 (by omega),by simp,by simp,?_⟩;refine ae.intro T.Zu (by simp[F.Zu]) ?_;have h':(32:Int)≤l.length:=by omega
  simp[F.Zu,aj,av,h'];refine aA.plain [.keep [8,9,10],.dr 6,.wk 8] ?_;simp[bt,af,ah]
 ·obtain⟨y,hy⟩:∃y,y=if(wF l (l.length+1) (max x 1)).2=true then(wF l (l.length+1) (max x 1)).1 else(wF l (l.length+1) 1).1:=⟨_,rfl⟩
  refine⟨y,wE l (l.findIdx λs=>decide (y<s.index)) ⟨y,k,b⟩,0,λ_=>rfl,by rw[AT _ () List.findIdx_le_length];omega,by rw[hy];split<;>exact Lv l _ _ (by omega),?_⟩;refine ae.intro T.Zu (by simp[F.Zu]) ?_;have h':¬(32:Int)≤l.length:=by omega
  have oT:∀l:List gr,an (l.map aU):=λl=>aF gD l;have Tn:=Zt (l:=l) (by omega) (x:=max x 1) (by omega);have To:=Zt (l:=l) (by omega) (x:=1) (by omega);have rD:u9 Pg 57 [.sl 34 (l.map aU) false] 34 (l.map aU):=me (bytes:=40) (aC R.bV.2) (by omega) (oT l) (by simp;omega) (by omega);have hft:=Qt (l:=l) (by omega) (g:=227) (v:= .int .u32 y) (by simp) (λz _=>acK z y);have hle:l.findIdx (λs=>decide (y<s.index))≤l.length:=List.findIdx_le_length;generalize l.findIdx (λs=>decide (y<s.index))=at' at*;obtain⟨c,hcA⟩:∃c,c=aU ⟨y,k,b⟩:=⟨_,rfl⟩
  have tail:∀ {s:St} {K:St->Prop},True:=λ {_ _}=>trivial;generalize wF l (l.length+1) (max x 1)=f1 at*;generalize wF l (l.length+1) 1=f2 at*;obtain⟨a1,b1⟩:=f1;obtain⟨a2,b2⟩:=f2;have rD:=Nv (l:=l) (by omega);cases b1
  all_goals
   simp at hy
   subst hy
   simp[F.Zu,aj,av,h']
   refine ai.rA Tn ?_
   simp
  case' false=>
   refine ai.rA To ?_;simp
  all_goals
   refine ai.gA [11] [] [.box (.int .u32 y)] hft (by simp[ab,af]) (by simp[az]) (by simp[ab,af]) ?_
   simp[aI,az,aE]
   refine Ym.run [35,41] rfl rfl rfl ?_
   simp
   refine⟨?_,?_⟩
  all_goals
   refine ai.gR [] [35] [] rD (by simp) (by simp) ?_
   rintro r fp ⟨J,c,⟨hJ,h1,h2⟩,rfl,rfl⟩
   have eE:an (l.map aU++J):=(oT _).append hJ
   have lY:(l.map aU++J).length=l.length+J.length:=by simp
   have hA:=λhc:l.length+1≤c=>alH (L:=l) (J:=J) (c:=c) (i:=at') (by omega) hJ ⟨hc,h2⟩ hle ⟨y,k,b⟩
   have hB:=alI (L:=l) (J:=J) (i:=at') (by omega) hJ hle ⟨y,k,b⟩
   have hil:=AT (L:=l) ⟨y,k,b⟩ () hle
   generalize hBd:l.map aU++J=B at*
   refine⟨by simp[ab,af,c9,eE.refs],?_⟩
   simp[aI,az,aE,cU,eE.aE]
   have ey:PV.st 34 [.int .u32 y,aG k,.bl b]=aU ⟨y,k,b⟩:=rfl
   simp only[ey]
   by_cases hcc:l.length+1≤c
   ·refine ai.gR [35,41] [] [.arr 34 B,.arr 34 [aU ⟨y,k,b⟩]] (hA hcc) (by simp[ab,ah,eE.refs]) (by simp[az,aR,eE.aE]) ?_
    rintro r fp ⟨B2,⟨su,Bc,Hg⟩,rfl,rfl⟩
    refine⟨by simp[ab,af,ah,c9,su.refs],?_⟩
    have KG:l.length+1≤B2.length:=by omega
    simp[aI,az,aE,aR,cU,su.aE]
    refine aA.plain [.keep [8,9,10],.dr 6,.dr 11,.dr 41,.fz 35] ?_
    simp[bt,b8,ab,af,ah,su.refs]
    rw[if_pos ⟨Bc.symm,KG⟩,Hg]
    simp
   ·obtain rfl:c=l.length:=by omega
    refine ai.gA [35,41] [42] [.arr 34 B,.arr 34 [aU ⟨y,k,b⟩]] hB (by simp[ab,ah,eE.refs]) (by simp[az,aR,eE.aE]) (by simp[ab,af,ah,c9,eE.refs]) ?_
    simp[aI,az,aE,aR,cU,eE.aE]
    refine aA.plain [.keep [8,9,10],.dr 6,.dr 11,.dr 35,.dr 41,.fz 42] ?_
    simp[bt,b8,ab,af,ah,eE.refs]
    rw[if_pos (by rw[hil];omega),tJ (by rw[JaX,hil];omega)]
    simp
end Go.Ab
