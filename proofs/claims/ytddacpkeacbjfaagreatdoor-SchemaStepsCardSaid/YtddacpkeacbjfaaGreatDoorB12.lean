/- Walks of functions, part 12. No condition. -/
import Derived.Test.YtddacpkeacbjfaaGreatDoorB11
import Derived.Test.YtddacpkeacbjfaaGreatDoorB9
set_option maxRecDepth 10000
set_option linter.all false
noncomputable section
namespace Go.Ab
theorem KJ:∀ {L:WG},kR (.i .u8) L=true->bB (uL .u8 L.length) L
 |[],_=>by simp[uL,bB]
 |
  x::L,h=>by
  simp only[kR,aJ]at h
  have hx:=h.1
  cases x<;>simp[Ab.fits]at hx
  subst hx
  have ih:=KJ h.2
  simp only[JbZ,uL,List.replicate_succ,bB,gm]
  exact⟨⟨trivial,by simp⟩,ih⟩
def xX {p:PV} (hp:fits gV p=true):gm (uA .u8 32) p:=by
 cases p<;>simp[gV,Ab.fits]at hp;rename_i sz m L;obtain⟨⟨h1,h2,h3⟩,h4⟩:=hp;have e:sz=1:=by simpa[qi]using h1
 subst e h2;simp only[uA,gm];refine⟨⟨trivial,trivial⟩,?_⟩;have:=KJ h4;rwa [h3]at this
def KK (v:FV gV):∃l:WQ,l.length=32∧v.p= .ar 1 32 (gM l):=nV (xX v.ok)
theorem BA:∀l:WQ,kR (.i .u8) (gM l)=true
 |[]=>rfl
 |x::l=>by simp only[gM,JcQ,kR,Ab.fits,aJ];exact⟨by simp,BA l⟩
def keyOf (l:WQ) (h:l.length=32):FV gV:=⟨.ar 1 32 (gM l),by simp[gV,Ab.fits,qi,h,BA]⟩
theorem Xr {a b:WQ} (ha:a.length=32) (hb:b.length=4):∃x y:FV gV,uf Pg 40 [bS a,bS b,.int .i64 2] 32 [x.p,y.p]:=by
 obtain⟨_,m,h1,h2⟩:=amA amy (.head _) [bS a,bS b,.int .i64 2] ⟨pX ha,pX hb,by simp[kI,gm],trivial⟩;match m,h1 with
 |
  [p,q],h1=>
  obtain⟨x,hx,rfl⟩:=nV h1.1
  obtain⟨y,hy,rfl⟩:=nV h1.2.1
  exact⟨keyOf x hx,keyOf y hy,h2⟩
 |[],h1=>simp[bB]at h1
 |[_],h1=>simp[List.replicate,bB]at h1
 |_::_::_::_,h1=>simp[List.replicate,bB]at h1
def RL4 {a:WQ} (ha:a.length=4):∃n:Int,aP Pg 230 [bS a] (.int .u64 n):=by
 obtain⟨_,v,h1,h2⟩:=S22 z22 (.head _) [bS a] ⟨pX ha,trivial⟩;cases v<;>simp[uI,gm]at h1;obtain⟨rfl,_⟩:=h1;exact⟨_,h2⟩
def aj.vw {P:Program} {s:St} [gQ] {d:Option Nat} {f:FuncId} {k off n N:Nat} {c:iO} {L ys:WG} {v:PV} {K:UD} {t:Tg K} (hA:aP P f [.sl 1 ys false] v)
  (hb:get s.bx k=some (.box (.ar 1 N L))) (hL:aB L) (hyp:aB ys) (hn:off+n≤N) (Fl:(L.drop off).take n=ys) (hv:Pure v) (mQ:pQ v=true)
  (h:K ({s with bx:=put s.bx k (.box (.ar 1 N L))}.put d v)):aj P s d f [.rs k [] off n 0 1 c] K t:=by
 refine aj.view [k] [] [.box (.ar 1 N L)] (cC:=[.rs KB [] off n 0 1 c]) (iN:=[.box (.ar 1 N L)]) hA (by simp[getAll,hb]) (by simp) (by simp) (by simp[al,ae,cW,idx]) (by simp[af,ae,hL.refs]) (by simp[bw,aI,bV,idx]) (by simp[aG,aI,hL.aI]) ?_ ?_ ?_
 ·refine⟨.inl (.inr ⟨KB,[],off,n,0,1,c,ys,rfl,?_,hyp.refs _,by omega,rfl⟩),trivial⟩;simp[content,az,Fl,hn,aO]
 ·rintro r new ⟨rfl,rfl⟩;exact⟨⟨mQ,by simp⟩,rfl⟩
 ·rintro r new ⟨rfl,rfl⟩;simp[hv.aI,hv.refs,af,ae,hL.refs,aG,aI,hL.aI,aQ];exact h
def AE (d:aR) (r:FV gV):aR:= {d with random:=r}
def RN (v:FV gV):lS v.p=true:=by
 obtain⟨l,_,h⟩:=KK v;rw[h];simp only[lS];exact Gl l
def Mv (d:aR) (ps:Xo) {L:WG} (hL:aB L):∃r k:FV gV,
  ab Pg 128 [.pt KB [] 0] (MB d ps L) (λx fp=>x=k.p∧fp=MB (AE d r) ps L):=by
 obtain⟨a,ha,hp⟩:=KK d.random;obtain⟨x,y,hE⟩:=Xr (b:=[100,114,97,119]) ha rfl;refine⟨x,y,?_⟩;refine ab.intro (aA R.iH.2) (by simp[R.iH]) ?_;simp[R.iH,ah,az,MB];refine aj.view [KB,KB+1,KB+2] [11] (MB d ps L) (cC:=[.rs KB [Step.f 0 0,Step.f 4 75] 0 32 0 1 .clip,bS [100,114,97,119],.int .i64 2]) (iN:=MB d ps L) hE (by simp[getAll,MB]) (by simp) (by simp) (by simp[al,ae,cW,idx]) (by simp[MB,af,al,ae,cW,idx,hL.refs,(aL bh ps).refs]) (by simp[bw,aI,bV,idx,bS,gM]) (by simp[MB,aG,aI,bw,bV,idx,hL.aI,(aL bh ps).aI]) ?_ ?_ ?_
 ·refine⟨.inl (.inr ⟨KB,[Step.f 0 0,Step.f 4 75],0,32,0,1,.clip,gM a,rfl,?_,(fb a).refs _,by omega,rfl⟩),.inl (.inl ⟨rfl,(Mw _).refs _⟩),.inl (.inl ⟨rfl,by simp[ae]⟩),trivial⟩;simp[content,az,MB,aO,hp,ha];exact tJ (by simp[ha])
 ·rintro r new ⟨rfl,rfl⟩;refine⟨⟨by simp[pQ,lS],?_⟩,rfl⟩;simp[EK,fT,RN]
 ·rintro r new ⟨rfl,rfl⟩;simp[MB,aG,aI,bw,bV,idx,cN,af,ae,al,dL,aQ,hL.refs,hL.aI,(aL bh ps).refs,(aL bh ps).aI,x.pure.aI,x.pure.refs,y.pure.refs,y.pure.aI];refine bj.with [] [KB,KB+1,KB+2] ?_;simp[dN,AE,hL.refs,hL.aI,aW,bA,ae,af,(aL bh ps).refs]
def Xt (d:aR) (ps:Xo) {L:WG} (hL:aB L):∃(r:FV gV) (n:Int),(0≤n∧n<4294967296)∧
  ab Pg 137 [.pt KB [] 0] (MB d ps L) (λx fp=>x= .int .u32 n∧fp=MB (AE d r) ps L):=by
 obtain⟨r,k,hD⟩:=Mv d ps hL;obtain⟨l,hl,hk⟩:=KK k;obtain⟨n,hR⟩:=RL4 (a:=l.take 4) (by simp[hl]);refine⟨r,IntKind.u32.wrap n,by constructor<;>simp[IntKind.wrap,IntKind.bits,IntKind.signed]<;>omega,?_⟩;refine ab.intro (aA R.iI.2) (by simp[R.iI]) ?_;simp[R.iI,ah,az,MB];refine aj.Gm hD hL ?_;rintro x fp ⟨rfl,rfl⟩;refine⟨_,_,_,rfl,by simp,hL,?_⟩;simp[hk];refine aj.vw (N:=32) (ys:=gM (l.take 4)) hR (by simp) (fb l) (fb _) (by omega) (by simp[gM]) (by simp) (by simp[pQ,lS]) ?_;simp;refine bj.with [] [KB,KB+1,KB+2] ?_;simp[dN,AE,hL.refs,hL.aI,aW,bA,ae,af,(aL bh ps).refs]
def ab.RO {P:Program} {f:FuncId} {args:WG} {sz:Nat} {l:WG} {v:PV} (h:ab P f args [] (λr fp=>r=v∧fp=[.arr sz l])) (hl:aB l):aP P f args (eG KB sz l v):=by
 refine λΓ w vs h1 h2 h3 h4=>(h Γ w vs h1 h2 h3 h4).mono ?_;rintro e w' ⟨v',r,mW,Γ',e1,⟨rfl,rfl⟩,e3,e4,e5,e6,e7,e8⟩;have hg:get Γ'.bx KB=some (.arr sz l):=by rw[e5,eS];simp
 have hf:=JV e4 hg (hl.refs _);refine⟨v',_,[],{Γ' with bx:=fX (wz KB sz l) (del Γ'.bx KB)},e1,⟨rfl,rfl⟩,e3,Bi e4 _ (λj blk bY hb=>(e4.blk j blk hb).eG hf),?_,e6.eG hf,?_,e8⟩
 ·rw[e5];simp[az]
 ·refine⟨e7.heap,λb hb hm=> ?_,e7.cI,e7.size,λk blk hk=> ?_⟩
  ·obtain⟨k,blk,g1,g2⟩:=hm;rw[e5]at g1;simp[az]at g1
  ·rw[h3]at hk;simp[az]at hk
def Xu:AV:= .st 141 [(uI .u32),(uA .u8 32),(uA .u8 48),(uA .u8 28),(uA .u8 16),(uA .u8 16)]
def zk (m:Int) (a b c d e:WQ):PV:= .st 141 [.int .u32 m,.ar 1 32 (gM a),.ar 1 48 (gM b),.ar 1 28 (gM c),.ar 1 16 (gM d),.ar 1 16 (gM e)]
def abb {w:Nat} {l:Xe} {p:PV} (h:gm (.st w l) p):∃m,p= .st w m∧bB l m:=by
 cases p<;>simp only[gm]at h;obtain⟨rfl,h⟩:=h;exact⟨_,rfl,h⟩
def vr {l:Xe} {p:PV} (h:gm (.tup l) p):∃m,p= .tup m∧bB l m:=by
 cases p<;>simp only[gm]at h;exact⟨_,rfl,h⟩
theorem dY {a:AV} {l:Xe} {m:WG} (h:bB (a::l) m):∃x r,m=x::r∧gm a x∧bB l r:=by
 match m,h with
 |x::r,h=>exact⟨x,r,rfl,h.1,h.2⟩
 |[],h=>simp[bB]at h
theorem qA {m:WG} (h:bB [] m):m=[]:=by
 match m,h with
 |[],_=>rfl
 |_::_,h=>simp[bB]at h
def ayr (a b:WQ) (ha:a.length=32) (hb:b.length=32):FV KC:=⟨.st 64 [.ar 1 32 (gM a),.ar 1 32 (gM b)],by simp[KC,Ab.fits,qi,rC,gV,ha,hb,BA,iL]⟩
def anI (a:WQ) (ha:a.length=16):FV uq:=⟨.ar 1 16 (gM a),by simp[uq,Ab.fits,qi,ha,BA]⟩
def Xv {p:PV} (hp:fits uq p=true):gm (uA .u8 16) p:=by
 cases p<;>simp[uq,Ab.fits]at hp;rename_i sz m L;obtain⟨⟨h1,h2,h3⟩,h4⟩:=hp;have e:sz=1:=by simpa[qi]using h1
 subst e h2;simp only[uA,gm];refine⟨⟨trivial,trivial⟩,?_⟩;have:=KJ h4;rwa [h3]at this
def aeo {p:PV} (h:gm Xu p):∃m l1 l2 l3 l4 l5,p=zk m l1 l2 l3 l4 l5:=by
 unfold Xu at h;obtain⟨m,rfl,g⟩:=abb h;obtain⟨x1,m,rfl,h1,h⟩:=dY g;obtain⟨x2,m,rfl,h2,h⟩:=dY h;obtain⟨x3,m,rfl,h3,h⟩:=dY h;obtain⟨x4,m,rfl,h4,h⟩:=dY h;obtain⟨x5,m,rfl,h5,h⟩:=dY h;obtain⟨x6,m,rfl,h6,h⟩:=dY h;obtain rfl:=qA h;obtain⟨n,rfl⟩:=EU h1;obtain⟨l2,_,rfl⟩:=nV h2;obtain⟨l3,_,rfl⟩:=nV h3;obtain⟨l4,_,rfl⟩:=nV h4;obtain⟨l5,_,rfl⟩:=nV h5;obtain⟨l6,_,rfl⟩:=nV h6;exact⟨n,l2,l3,l4,l5,l6,rfl⟩
def anJ {a b c:PV} (ha:gm (uA .u8 32) a) (hb:gm (uA .u8 32) b) (hc:gm (uA .u8 32) c) {s:WQ} (hs:s.length=12) (n:Int):∃(m:Int) (l1 l2 l3 l4 l5:WQ) (no:FV KC) (e:Int),gm Xu (zk m l1 l2 l3 l4 l5)∧aP Pg 240 [a,b,c,.ar 1 12 (gM s),.int .u32 n] (.tup [zk m l1 l2 l3 l4 l5,no.p,.int .i64 e]):=by
 obtain⟨_,v,h,h2⟩:=anA anx (.head _) [a,b,c,.ar 1 12 (gM s),.int .u32 n] ⟨ha,hb,hc,vY hs,by simp[uI,gm],trivial⟩;obtain⟨m,rfl,g⟩:=vr h;obtain⟨x1,m,rfl,h1,h⟩:=dY g;obtain⟨x2,m,rfl,hn,h⟩:=dY h;obtain⟨x3,m,rfl,h3,h⟩:=dY h;obtain rfl:=qA h;have Jg:=h1;obtain⟨m,l1,l2,l3,l4,l5,rfl⟩:=aeo h1;obtain⟨p,q,hp,hq,rfl⟩:=abc hn;obtain⟨e,rfl⟩:=EU h3;exact⟨m,l1,l2,l3,l4,l5,ayr p q hp hq,e,Jg,h2⟩
def Xw {a:PV} (ha:gm (uA .u8 32) a) (b:Bool) (c:FV uq) {x:PV} (hx:gm Xu x):∃(l:WQ) (t:FV uq),aP Pg 242 [a,.bl b,c.p,x] (.tup [.sl 1 (gM l) false,t.p]):=by
 obtain⟨_,v,m,h,hm,h2⟩:=anH anF (.head _) [a,.bl b,c.p,x] ⟨ha,by simp[gm],Xv c.ok,hx,trivial⟩;obtain⟨ms,rfl,g⟩:=vr h;obtain⟨x1,ms,rfl,h1,h⟩:=dY g;obtain⟨x2,ms,rfl,ht,h⟩:=dY h;obtain rfl:=qA h;obtain⟨t,hl,rfl⟩:=nV ht;obtain⟨l,JD,rfl⟩:=qB hm;simp only[gm]at h1;subst h1;refine⟨l,anI t hl,?_⟩;have this:aP Pg 242 [a,.bl b,c.p,x] _:=ab.RO h2 (fb l);simpa[eG,fF,JD,anI,(fb t).eG,(fb l).eG,tJ]using this
@[simp] def aiw (m:Int) (a b c d e:WQ):Pure (zk m a b c d e):=by simp[zk]
@[simp] theorem auV (m:Int) (a b c d e:WQ):wk (zk m a b c d e)=zk m a b c d e:=by simp[zk]
@[simp] theorem aep (m:Int) (a b c d e:WQ):(zk m a b c d e).width=141:=_root_.id rfl
@[simp] theorem anK (m:Int) (a b c d e:WQ):(zk m a b c d e).isAgg=true:=_root_.id rfl
@[simp] theorem aix (m:Int) (a b c d e:WQ):(zk m a b c d e).aV=true:=_root_.id rfl
@[simp↓] theorem anL (g:Bool) (m:Int) (a b c d e:WQ) (K:W7):eT g (zk m a b c d e) K=K (zk m a b c d e):=_root_.id rfl
theorem ays (n:Int):∃l:WQ,l.length=12∧aP Pg 241 [.int .i64 n] (.ar 1 12 (gM l)):=by
 refine OfE (λn=> ?_) (λn=> ?_) n
 ·obtain⟨_,m,h1,h2⟩:=anu z156 (.head _) [.int .u64 n,.int .i64 8] ⟨by simp[uI,gm],by simp[kI,gm],trivial⟩;obtain⟨l,hl,rfl⟩:=qB h1;exact⟨l,hl,h2⟩
 ·obtain⟨_,m,h1,h2⟩:=anw z157 (.head _) [.int .u64 n,.int .i64 4] ⟨by simp[uI,gm],by simp[kI,gm],trivial⟩;obtain⟨l,hl,rfl⟩:=qB h1;exact⟨l,hl,h2⟩
@[simp] theorem aiy (d:aR) (r:FV gV):(AE d r).rules=d.rules:=rfl
@[simp] theorem anM (d:aR) (r:FV gV):(AE d r).qk=d.qk:=rfl
@[simp] theorem anN (d:aR) (r:FV gV):(AE d r).qT=d.qT:=rfl
@[simp] theorem anO (d:aR) (r:FV gV):(AE d r).port=d.port:=rfl
@[simp] theorem auW (d:aR) (r:FV gV):(AE d r).now=d.now:=rfl
@[simp] theorem aiz (d:aR) (r:FV gV):(AE d r).aa=d.aa:=rfl
@[simp] theorem aeq (d:aR) (r:FV gV):(AE d r).aX=d.aX:=rfl
@[simp] theorem aiA (d:aR) (r:FV gV):(AE d r).aE=d.aE:=rfl
@[simp] theorem aer (d:aR) (r:FV gV):(AE d r).timers=d.timers:=rfl
@[simp] theorem aes (d:aR) (r:FV gV):(AE d r).iG=d.iG:=rfl
@[simp] theorem aiB (d:aR) (r:FV gV):(AE d r).iM=d.iM:=rfl
@[simp] theorem aet (d:aR) (r:FV gV):(AE d r).aY=d.aY:=rfl
@[simp] theorem abd (d:aR) (r:FV gV):(AE d r).buckets=d.buckets:=rfl
@[simp] theorem auX (d:aR) (r:FV gV):(AE d r).bad=d.bad:=rfl
@[simp] theorem aeu (d:aR) (r:FV gV):(AE d r).random=r:=rfl
theorem RP (l:WO) (s:cG):(oK l s).length=l.length+1:=by
 have:=BB s.index l;simp only[oK,JaV,lJ,JdX,List.length_singleton];omega
def Mx (k:Key):gm (uA .u8 32) (bW k):=xX (pn k)
theorem aev:PV.st 100 [.bl false,.int .u32 0,.ar 1 32 (zr 32 (.int .u8 0)),.st 64 [.ar 1 32 (zr 32 (.int .u8 0)),.ar 1 32 (zr 32 (.int .u8 0))],.int .i64 0,.int .i64 0]=ij kJ:=rfl
def ur (l:Wu) (k:Key) (n:Int):(bI l k n).length≤l.length:=JeV _ _
def It (l:Wu) (t:cZ):(im l t).length≤l.length+1:=by
 have h1:=ur l t.peer t.kind;have h2:=xY t (bI l t.peer t.kind);simp only[im,JaV,lJ,JdX,List.length_singleton];omega
def My {d:aR} (ht:d.timers.length≤1048575) {ps:Xo} {i:Nat} (hi:i<ps.length) {L:WG} (hL:aB L):∃d',(BC 1 d ps d' ps∧d'.aE=d.aE)∧d'=(if ps[i].ik=0 then d else vu d (im d.timers ⟨IntKind.i64.wrap (d.now+ps[i].ik),ps[i].cK,4⟩))∧
  ab Pg 158 [.pt KB [] 0,.int .i64 i] (MB d ps L) (λr fp=>r= .tup []∧fp=MB d' ps L):=by
 refine⟨_,?_,rfl,Iu ht hi hL⟩;split
 ·exact⟨.refl _ _ _,rfl⟩
 ·exact⟨⟨by have:=It d.timers ⟨IntKind.i64.wrap (d.now+ps[i].ik),ps[i].cK,4⟩;simpa[vu]using this,by simp[vu],rfl,rfl,rfl,.refl _⟩,rfl⟩
def Mz {d:aR} (ht:d.timers.length≤1048575) {ps:Xo} {i:Nat} (hi:i<ps.length) (k n:Int) {L:WG} (hL:aB L):∃d',(BC 1 d ps d' ps∧d'.aE=d.aE)∧d'=vu d (im d.timers ⟨IntKind.i64.wrap (d.now+n),ps[i].cK,k⟩)∧
  ab Pg 68 [.pt KB [] 0,.int .i64 i,.int .i64 k,.int .i64 n] (MB d ps L) (λr fp=>r= .tup []∧fp=MB d' ps L):=
 by
  refine⟨_,?_,rfl,RQ ht hi k n hL⟩;exact⟨⟨by have:=It d.timers ⟨IntKind.i64.wrap (d.now+n),ps[i].cK,k⟩;simpa[vu]using this,by simp[vu],rfl,rfl,rfl,.refl _⟩,rfl⟩
def KL {d:aR} (ht:d.timers.length≤1048576) {ps:Xo} {i:Nat} (hi:i<ps.length) (k:Int) {L:WG} (hL:aB L):∃d',(BC 0 d ps d' ps∧d'.aE=d.aE)∧d'=vu d (bI d.timers ps[i].cK k)∧
  ab Pg 121 [.pt KB [] 0,.int .i64 i,.int .i64 k] (MB d ps L) (λr fp=>r= .tup []∧fp=MB d' ps L):=
 by
  refine⟨_,?_,rfl,EV ht hi k hL⟩;exact⟨⟨by have:=ur d.timers ps[i].cK k;simpa[vu]using this,by simp[vu],rfl,rfl,rfl,.refl _⟩,rfl⟩
def once {A G:Prop} (h:G->A) (g:G):A:=h g
theorem D1 {d:aR} {ps:Xo} {i:Nat} (hi:i<ps.length) (hs:d.aE.length<32) (hb:∀s∈d.aE,s.index≤1000) (ht:d.timers.length≤1000000) {L:WG} (hL:aB L) (hl:L.length≤900) (hh:ps[i].hand.has=false) (hep:ps[i].ff=true):
  ab Pg 156 [.pt KB [] 0,.int .i64 i] (MB d ps L) (λr fp=>r= .tup []∧∃d' tR L',GrG 4 d ps d' tR∧aB L'∧L'.length≤L.length+1∧fp=MB d' tR L'):=by
 have hx:ps[i]? =some ps[i]:=gJ hi;refine ab.intro T.dj (by simp[F.dj]) ?_;simp[F.dj,ah,az,MB,hx,hi,↓an,hh];obtain⟨r1,n,⟨T6,PE⟩,hW⟩:=Xt d ps hL;obtain⟨y,⟨hy1,hyf⟩,hT⟩:=anP hs hb T6 PE ps[i].cK false;refine DrE.run [KB,KB] rfl rfl rfl ?_;simp[hx,hi];apply once
 ·intro hgo;refine⟨?_,?_⟩
  ·refine aj.Gm hW hL ?_;rintro x fp ⟨rfl,rfl⟩;refine⟨_,_,_,rfl,by simp,hL,?_⟩;simp;refine aK.rA hT ?_;simp;exact hgo
  ·refine aj.Gm hW hL ?_;rintro x fp ⟨rfl,rfl⟩;refine⟨_,_,_,rfl,by simp,hL,?_⟩;simp;refine aK.rA hT ?_;simp;exact hgo
 generalize G0:({d with random:=r1,aE:=oK d.aE ⟨y,ps[i].cK,false⟩}:aR)=d1;have g1:BC 1 d ps d1 ps:=by subst G0;exact⟨by simp,by simp[RP],rfl,rfl,rfl,.refl _⟩
 have Ef:d1.aE.length≤32:=by have:=g1.aE;omega
 have ht1:d1.timers.length≤1000001:=by have:=g1.timers;omega
 obtain⟨r2,k,hD⟩:=Mv d1 ps hL;refine aj.Gm hD hL ?_;rintro x fp ⟨rfl,rfl⟩;refine⟨_,_,_,rfl,by simp,hL,?_⟩;simp;obtain⟨st,Be,hO⟩:=ays d1.now;obtain⟨m,l1,l2,l3,l4,l5,no,e,hx1,hI⟩:=anJ (xX d1.qk.ok) (Mx ps[i].cK) (xX k.ok) Be y;refine oG.run [] rfl ?_;simp[hx,hi];refine aK.rA hO ?_;simp;refine aK.rA hI ?_;simp;refine⟨λhe=> ?_,λhe=> ?_⟩
 ·refine aj.mo KB (KB+1) (KB+2) (Xx (d:=AE d1 r2) (l:=[y]) (by simp;omega) (by simp) ps hL) (by simp) (by simp) (by simp) (by simp) hL (by simp[al,ae,cW,idx]) (by simp[bw,aI,bV,idx,lr]) ?_;rintro x fp ⟨rfl,rfl⟩;refine⟨_,_,_,rfl,by simp,hL,?_⟩;simp[hx,hi,aev];generalize hp:({ps[i]with hand:=kJ}:bE)=p';have Ag:C9 ps[i] p':=by subst hp;exact⟨rfl,rfl,rfl,List.suffix_refl _⟩
  refine aj.mo KB (KB+1) (KB+2) (EV (d:=xg (AE d1 r2) (dD d1.aE [y])) (ps:=ps.set i p') (i:=i) (by simp[xg];omega) (by simp[hi]) 1 hL) (by simp) (by simp[JeJ]) (by simp) (by simp) hL (by simp[al,ae,cW,idx]) (by simp[bw,aI,bV,idx,lr]) ?_;rintro x fp ⟨rfl,rfl⟩;refine⟨_,_,_,rfl,by simp,hL,?_⟩;simp;refine bj.with [] [KB,KB+1,KB+2] ?_;simp[dN,hL.refs,hL.aI,aW,bA,ae,af,(aL bh ps).refs]
  have hG:BC 1 d1 ps (vu (xg (AE d1 r2) (dD d1.aE [y])) (bI d1.timers p'.cK 1)) (ps.set i p'):=
   ⟨by have:=ur d1.timers p'.cK 1;simp[vu,xg];omega,by have:=pY [y] d1.aE;simp[vu,xg];omega,rfl,rfl,rfl,qC.set hi Ag⟩
  exact⟨_,_,⟨(g1.trans hG).mono (by omega),λhz=>by subst G0;subst hp;exact hz.fail hi hyf ps[i].cK false r2⟩,L,hL,by omega,by simp[vu,xg]⟩
 ·obtain⟨bc,hC⟩:=OF (AE d1 r2) hi hL;obtain⟨lb,tg,hSI⟩:=Xw (Mx ps[i].cK) bc ps[i].kU hx1;refine oG.run [] rfl ?_;simp[hx,hi];refine aj.mo KB (KB+1) (KB+2) hC (by simp) (by simp) (by simp) (by simp) hL (by simp[al,ae,cW,idx]) (by simp[bw,aI,bV,idx,lr]) ?_;rintro x fp ⟨rfl,rfl⟩;refine⟨_,_,_,rfl,by simp,hL,?_⟩;simp[hx,hi];refine aK.rA hSI ?_;have eh:PV.st 100 [.bl true,.int .u32 y,k.p,no.p,.int .i64 d.now,.int .i64 d1.now]=ij ⟨true,y,k,no,d.now,d1.now⟩:=rfl;simp[hx,hi,eh];generalize hp:({ps[i]with hand:=⟨true,y,k,no,d.now,d1.now⟩,yy:=tg}:bE)=p';have Ag:C9 ps[i] p':=by subst hp;exact⟨rfl,rfl,rfl,List.suffix_refl _⟩
  refine aj.Gm (h1:=by simp[JeJ]) (Xy (AE d1 r2) (ps:=ps.set i p') (i:=i) (by simp[hi]) hL (by omega) lb false) hL ?_;rintro x fp ⟨x,hxp,rfl,rfl⟩;have Hf:aB (L++[x]):=(sN _ _).2 ⟨hL,(wH _ _).2 ⟨hxp,nk⟩⟩;generalize Ah:L++[x]=L1 at Hf;have JD:L1.length=L.length+1:=by subst Ah;simp
  refine⟨_,_,_,rfl,by simp,Hf,?_⟩;simp;obtain⟨d2,⟨g2,_⟩,e2,hS⟩:=Mz (d:=AE d1 r2) (ps:=ps.set i p') (i:=i) (by simp;omega) (by simp[hi]) 1 d1.rules.ret Hf
  have g2:BC 1 d1 ps d2 (ps.set i p'):=by
   have h0:BC 0 d1 ps (AE d1 r2) (ps.set i p'):=⟨by simp,by simp,rfl,rfl,rfl,qC.set hi Ag⟩
   exact(h0.trans g2).mono (by omega)
  have Eo:d2.timers.length≤1000002:=by have:=g2.timers;omega
  refine aj.Gm (h1:=by simp[JeJ]) hS Hf ?_;rintro x fp ⟨rfl,rfl⟩;refine⟨_,_,_,rfl,by simp,Hf,?_⟩;simp;obtain⟨d3,⟨g3,_⟩,e3,hT3⟩:=My (d:=d2) (ps:=ps.set i p') (i:=i) (by omega) (by simp[hi]) Hf;refine aj.Gm (h1:=by simp[JeJ]) hT3 Hf ?_;rintro x fp ⟨rfl,rfl⟩;refine⟨_,_,_,rfl,by simp,Hf,?_⟩;simp;refine bj.with [] [KB,KB+1,KB+2] ?_;simp[dN,Hf.refs,Hf.aI,aW,bA,ae,af,(aL bh ps).refs];refine⟨_,_,⟨((g1.trans g2).trans g3).mono (by omega),λhz=> ?_⟩,L1,Hf,by omega,by simp⟩;rw[e3];refine Gd.trv (d:=d2) (ps:=ps.set i p') (i:=i) ?_ (by simpa using hi);rw[e2];have:=hz.Mt hi hep (y:=y) hy1 hyf (H:=⟨true,y,k,no,d.now,d1.now⟩) rfl rfl rfl (by subst G0;rfl) tg r2;rw[hp]at this;have ep:(ps.set i p')[i]'(by simpa using hi)=p':=List.getElem_set_self _;rw[ep];subst G0;subst hp;exact this
end Go.Ab
