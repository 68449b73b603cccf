/- Walks of functions, part 10. No condition. -/
import Derived.Test.YtddacpkeacbjfaaGreatDoorB1
import Derived.Test.YtddacpkeacbjfaaGreatDoorA8
set_option maxRecDepth 10000
set_option maxHeartbeats 4000000
set_option linter.all false
noncomputable section
namespace Go.Ab
open Go.Ab
def gM (l:WQ):WG:=l.map (PV.int .u8)
@[simp] def aBw (l:WQ):(gM l).length=l.length:=by simp[gM]
@[simp] theorem fb (l:WQ):aB (gM l):=aL (λ_=>by simp) _
@[simp] theorem aFi (l:WQ):gI (gM l)=gM l:=sO (λ_=>by simp) _
def bS (l:WQ):PV:= .sl 1 (gM l) false
@[simp] def Mw (l:WQ):Pure (bS l):=by simp[bS]
def uL (k:IntKind) (n:Nat):Xe:=List.replicate n (.int k none)
def uA (k:IntKind) (n:Nat):AV:= .ar 1 n (uL k n)
def uS (k:IntKind) (n:Nat):AV:= .sl 1 (uL k n) false
def uI (k:IntKind):AV:= .int k none
def kI (n:Int):AV:= .int .i64 (some n)
theorem qB:∀ {n:Nat} {m:WG},bB (uL .u8 n) m->∃l:WQ,l.length=n∧m=gM l
 |0,[],_=>⟨[],rfl,rfl⟩
 |0,_::_,h=>by simp[uL,bB]at h
 |n+1,[],h=>by simp[uL,List.replicate_succ,bB]at h
 |
  n+1,p::m,h=>by
  simp only[uL,List.replicate_succ,bB]at h
  obtain⟨h1,h2⟩:=h
  obtain⟨l,h3,rfl⟩:=qB h2
  cases p<;>simp only[gm]at h1
  rename_i k x
  obtain⟨rfl,_⟩:=h1
  exact⟨x::l,by simp[h3],by simp[gM]⟩
theorem abJ:∀(l:WQ),bB (uL .u8 l.length) (gM l)
 |[]=>by simp[uL,gM,bB]
 |
  x::l=>by
  have:=abJ l
  simp only[uL,gM,JbZ,List.replicate_succ,JcQ,bB,gm]
  exact⟨⟨trivial,by simp⟩,this⟩
def TT {l:WQ} {n:Nat} (h:l.length=n):bB (uL .u8 n) (gM l):=h▸abJ l
def arP {n:Nat} {p:PV} (h:gm (uS .u8 n) p):∃l:WQ,l.length=n∧p=bS l:=by
 cases p<;>simp only[uS,gm]at h;obtain⟨⟨rfl,rfl⟩,h⟩:=h;obtain⟨l,h1,rfl⟩:=qB h;exact⟨l,h1,rfl⟩
def nV {n:Nat} {p:PV} (h:gm (uA .u8 n) p):∃l:WQ,l.length=n∧p= .ar 1 n (gM l):=by
 cases p<;>simp only[uA,gm]at h;obtain⟨⟨rfl,rfl⟩,h⟩:=h;obtain⟨l,h1,rfl⟩:=qB h;exact⟨l,h1,rfl⟩
def EU {k:IntKind} {p:PV} (h:gm (uI k) p):∃n,p= .int k n:=by
 cases p<;>simp only[uI,gm]at h;obtain⟨rfl,_⟩:=h;exact⟨_,rfl⟩
def pX {l:WQ} {n:Nat} (h:l.length=n):gm (uS .u8 n) (bS l):=by
 simp only[uS,bS,gm];exact⟨⟨trivial,trivial⟩,TT h⟩
def vY {l:WQ} {n:Nat} (h:l.length=n):gm (uA .u8 n) (.ar 1 n (gM l)):=by
 simp only[uA,gm];exact⟨⟨trivial,trivial⟩,TT h⟩
def NO:AV:= .st 64 [uA .u8 32,uA .u8 32]
theorem abc {p:PV} (h:gm NO p):∃a b:WQ,a.length=32∧b.length=32∧p= .st 64 [.ar 1 32 (gM a),.ar 1 32 (gM b)]:=by
 cases p<;>simp only[NO,gm]at h;obtain⟨rfl,h⟩:=h;rename_i l;match l,h with
 |
  [x,y],h=>
  simp only[bB]at h
  obtain⟨a,ha,rfl⟩:=nV h.1
  obtain⟨b,hb,rfl⟩:=nV h.2.1
  exact⟨a,b,ha,hb,rfl⟩
 |[],h=>simp[bB]at h
 |[_],h=>simp[bB]at h
 |_::_::_::_,h=>simp[bB]at h
def arQ {a b:WQ} (ha:a.length=32) (hb:b.length=32):gm NO (.st 64 [.ar 1 32 (gM a),.ar 1 32 (gM b)]):=by
 simp only[NO,gm,bB];exact⟨trivial,vY ha,vY hb,trivial⟩
theorem Gl:∀l:WQ,fT (gM l)=true
 |[]=>rfl
 |x::l=>by simp only[gM,JcQ,fT,lS,JhW];exact Gl l
def Je {a b c h:WQ} (ha:a.length=32) (hb:b.length=32) (hc:c.length≤1000)
  (hH:aP Pg 160 [.sl 1 [bS a,bS c] false] (.ar 1 32 (gM h))):
  aP Pg 277 [.st 64 [.ar 1 32 (gM a),.ar 1 32 (gM b)],.sl 1 [bS c] false] (.st 64 [.ar 1 32 (gM h),.ar 1 32 (gM b)]):=by
 refine ab.intro (aA R.kO.2) (by simp[R.kO]) ?_;simp[R.kO,ah,az];refine aj.view [2,11] [] [.box (.st 64 [.ar 1 32 (gM a),.ar 1 32 (gM b)]),.arr 1 [.rs 2 [Step.f 0 0] 0 32 0 1 iO.clip,bS c]] hH (by simp[getAll]) (by simp) (by simp) (by simp[al,ae,cW,idx]) (by simp[af,al,ae,cW,idx]) rfl rfl ?_ ?_ ?_
 ·simp[aG,aI,bw,bV,idx,gI,wk,Q5,az];refine .inr (.inr ⟨KB+1,[],0,2,2,1,.tip,[.rs KB [Step.f 0 0] 0 32 0 1 .clip,bS c],[bS a,bS c],rfl,by simp[get],⟨?_,.inl ⟨rfl,(Mw c).refs _⟩,trivial⟩,by omega,rfl⟩);refine .inr ⟨KB,[Step.f 0 0],0,32,0,1,.clip,gM a,rfl,?_,(fb a).refs _,by omega,rfl⟩;simp[get,←ha];exact tJ (by simp)
 ·rintro r new ⟨rfl,rfl⟩;simp[pQ,lS,Gl]
 ·rintro r new ⟨rfl,rfl⟩;simp[aG,aI,bw,bV,idx,cN,af,ae,al,dL,aQ];refine bj.plain [.keep [4]] ?_;simp
theorem wO {n:Nat} {SP:ZQ} (hS:av Pg SP) (hn:n≤1000) (hf:pS 160 [.sl 1 [uS .u8 32,uS .u8 n] false] SP=some (.val (uA .u8 32))) (hp:NO.rX=true):
  (⟨277,[NO,.sl 1 [uS .u8 n] false],.val NO⟩:Spec).ok Pg:=by
 intro ps h;refine⟨hp,?_⟩;match ps,h with
 |
  [x,y],h=>
  simp only[bB]at h
  obtain⟨a,b,ha,hb,rfl⟩:=abc h.1
  have h2:=h.2.1
  cases y<;>simp only[gm]at h2
  obtain⟨⟨rfl,rfl⟩,h2⟩:=h2
  rename_i m
  match m,h2 with
  |
   [z],h2=>
   simp only[bB]at h2
   obtain⟨c,hc,rfl⟩:=arP h2.1
   obtain⟨_,v,g1,g2⟩:=fH (qs:=[.sl 1 [bS a,bS c] false]) (by simp only[bB,gm];exact⟨⟨⟨trivial,trivial⟩,pX ha,pX hc,trivial⟩,trivial⟩) hS hf
   obtain⟨l,hl,rfl⟩:=nV g1
   exact⟨_,arQ hl hb,Je ha hb (by omega) g2⟩
  |[],h2=>simp[bB]at h2
  |_::_::_,h2=>simp[bB]at h2
 |[],h=>simp[bB]at h
 |[_],h=>simp[bB]at h
 |_::_::_::_,h=>simp[bB]at h
abbrev DI:Sh:= .ar 16 (.i .i64)
@[simp] theorem aDs:qi DI=16:=rfl
@[simp] theorem auS:Sh.agg DI=true:=rfl
theorem amj {k:IntKind}:∀ {n:Nat} {m:WG},bB (uL k n) m->∃l:WQ,l.length=n∧m=l.map (PV.int k)
 |0,[],_=>⟨[],rfl,rfl⟩
 |0,_::_,h=>by simp[uL,bB]at h
 |n+1,[],h=>by simp[uL,List.replicate_succ,bB]at h
 |
  n+1,p::m,h=>by
  simp only[uL,List.replicate_succ,bB]at h
  obtain⟨h1,h2⟩:=h
  obtain⟨l,h3,rfl⟩:=amj h2
  cases p<;>simp only[gm]at h1
  rename_i k x
  obtain⟨rfl,_⟩:=h1
  exact⟨x::l,by simp[h3],by simp⟩
theorem Mu {k:IntKind}:∀l:WQ,kR (.i k) (l.map (PV.int k))=true
 |[]=>rfl
 |x::l=>by simp only[JcQ,kR,fits,Mu l];simp
theorem RJ {k:IntKind}:∀ {n:Nat} {m:WG},m.length=n->kR (.i k) m=true->bB (uL k n) m
 |0,[],_,_=>by simp[uL,bB]
 |
  n+1,p::m,hl,h=>by
  simp only[kR,aJ]at h
  have:=RJ (n:=n) (m:=m) (by simpa using hl) h.2
  simp only[uL,List.replicate_succ,bB]
  refine⟨?_,this⟩
  have h1:=h.1
  cases p<;>simp[fits]at h1
  subst h1
  simp[gm]
def KH {p:PV} (h:gm (uA .i64 16) p):∃a:FV DI,p=a.p:=by
 cases p<;>simp only[uA,gm]at h;obtain⟨⟨rfl,rfl⟩,h⟩:=h;obtain⟨l,h1,rfl⟩:=amj h;exact⟨⟨.ar 1 16 (l.map (PV.int .i64)),by simp[fits,h1,qi,Mu l]⟩,rfl⟩
def Gk (a:FV DI):gm (uA .i64 16) a.p:=by
 obtain⟨p,h⟩:=a;cases p<;>simp[fits]at h;obtain⟨⟨rfl,rfl,h2⟩,h3⟩:=h;simp only[uA,gm];exact⟨⟨rfl,trivial⟩,RJ h2 h3⟩
structure G8 where
 a:FV DI
 b:FV DI
 c:FV DI
 d:FV DI
def xW (L:G8):PV:= .st 64 [L.a.p,L.b.p,L.c.p,L.d.p]
def LAD:AV:= .st 64 [uA .i64 16,uA .i64 16,uA .i64 16,uA .i64 16]
theorem RK {p:PV} (h:gm LAD p):∃L:G8,p=xW L:=by
 cases p<;>simp only[LAD,gm]at h;obtain⟨rfl,h⟩:=h;rename_i l;match l,h with
 |
  [x,y,z,w],h=>
  simp only[bB]at h
  obtain⟨a,rfl⟩:=KH h.1
  obtain⟨b,rfl⟩:=KH h.2.1
  obtain⟨c,rfl⟩:=KH h.2.2.1
  obtain⟨d,rfl⟩:=KH h.2.2.2.1
  exact⟨⟨a,b,c,d⟩,rfl⟩
 |[],h=>simp[bB]at h
 |[_],h=>simp[bB]at h
 |[_,_],h=>simp[bB]at h
 |[_,_,_],h=>simp[bB]at h
 |_::_::_::_::_::_,h=>simp[bB]at h
def RM (L:G8):gm LAD (xW L):=by
 simp only[LAD,xW,gm,bB];exact⟨trivial,Gk _,Gk _,Gk _,Gk _,trivial⟩
@[simp] def aiv (L:G8):(xW L).width=64:=_root_.id rfl
@[simp] theorem auT (L:G8):(xW L).isAgg=true:=_root_.id rfl
@[simp] theorem amk (L:G8):(xW L).aV=true:=_root_.id rfl
@[simp] theorem aml (L:G8):Pure (xW L):=by simp[xW]
@[simp] theorem axz (L:G8):wk (xW L)=xW L:=by simp[xW]
@[simp↓] theorem auU (g:Bool) (L:G8) (K:W7):eT g (xW L) K=K (xW L):=_root_.id rfl
@[simp↓] theorem ael (L:G8) (r:Zy):aO (xW L) (.f 0 0::r)=aO L.a.p r:=by simp[xW]
@[simp↓] theorem aem (L:G8) (r:Zy):aO (xW L) (.f 1 16::r)=aO L.b.p r:=by simp[xW,au]
def Is (c:WQ) (i:Nat):Int:=bits .and .u8 ((c.getD ((254-i)/8) 0).fdiv (2^min ((254-i)%8) IntKind.u8.bits)) 1
def KI (sw stp:G8->G8) (bt:Nat->Int) (L0:G8):Nat->G8×Int
 |0=>(L0,0)
 |i+1=>(stp (if bt i=(KI sw stp bt L0 i).2 then(KI sw stp bt L0 i).1 else sw (KI sw stp bt L0 i).1),bt i)
def mT:FV DI:=⟨.ar 1 16 (.int .i64 1::List.replicate 15 (.int .i64 0)),rfl⟩
def qz:FV DI:=⟨.ar 1 16 (List.replicate 16 (.int .i64 0)),rfl⟩
theorem Xq {k q c:WQ} (hk:k.length=32) (hq:q.length=32) (hc:c.length=32) {f:FV DI} {sw stp:G8->G8} {iv:FV DI->FV DI} {ti:FV DI->FV DI->FV DI} {wr:FV DI->WQ}
  (h1:aP Pg 298 [.ar 1 32 (gM k)] (.ar 1 32 (gM c)))
  (h2:aP Pg 299 [.ar 1 32 (gM q)] f.p)
  (h3:∀L,aP Pg 300 [xW L] (xW (sw L)))
  (h4:∀L,aP Pg 301 [xW L,f.p] (xW (stp L)))
  (h5:∀a,aP Pg 304 [a.p] (iv a).p)
  (h6:∀a b,aP Pg 303 [a.p,b.p] (ti a b).p)
  (h7:∀a,(wr a).length=32∧aP Pg 302 [a.p] (.ar 1 32 (gM (wr a)))):
  ∃r:WQ,r.length=32∧aP Pg 278 [.ar 1 32 (gM k),.ar 1 32 (gM q)] (.ar 1 32 (gM r)):=by
 let S:=KI sw stp (Is c) ⟨mT,qz,f,mT⟩;let E:=if(S 255).2=1 then sw (S 255).1 else(S 255).1
 refine⟨wr (ti E.a (iv E.b)),(h7 _).1,?_⟩;refine ab.intro (aA R.mq.2) (by simp[R.mq]) ?_;simp[R.mq,ah,az];refine oG.run [5,6] rfl ?_;simp;refine aK.rA h1 ?_;simp;refine aK.rA h2 ?_;have hz:zr 16 (PV.int .i64 0)=List.replicate 16 (.int .i64 0):=by rw[dh]
 simp[hz,List.replicate_succ]
 have hl:PV.st 64 [.ar 1 16 [.int .i64 1,.int .i64 0,.int .i64 0,.int .i64 0,.int .i64 0,.int .i64 0,.int .i64 0,.int .i64 0,.int .i64 0,.int .i64 0,.int .i64 0,.int .i64 0,.int .i64 0,.int .i64 0,.int .i64 0,.int .i64 0],
  .ar 1 16 [.int .i64 0,.int .i64 0,.int .i64 0,.int .i64 0,.int .i64 0,.int .i64 0,.int .i64 0,.int .i64 0,.int .i64 0,.int .i64 0,.int .i64 0,.int .i64 0,.int .i64 0,.int .i64 0,.int .i64 0,.int .i64 0],f.p,
  .ar 1 16 [.int .i64 1,.int .i64 0,.int .i64 0,.int .i64 0,.int .i64 0,.int .i64 0,.int .i64 0,.int .i64 0,.int .i64 0,.int .i64 0,.int .i64 0,.int .i64 0,.int .i64 0,.int .i64 0,.int .i64 0,.int .i64 0]]=xW ⟨mT,qz,f,mT⟩:=rfl
 rw[hl];have s0:(KI sw stp (Is c) ⟨mT,qz,f,mT⟩ 0)=(⟨mT,qz,f,mT⟩,0):=rfl;have sS:∀i,KI sw stp (Is c) ⟨mT,qz,f,mT⟩ (i+1)=(stp (if Is c i=(KI sw stp (Is c) ⟨mT,qz,f,mT⟩ i).2 then(KI sw stp (Is c) ⟨mT,qz,f,mT⟩ i).1 else sw (KI sw stp (Is c) ⟨mT,qz,f,mT⟩ i).1),Is c i):=λ_=>rfl;have hE:E=if(KI sw stp (Is c) ⟨mT,qz,f,mT⟩ 255).2=1 then sw (KI sw stp (Is c) ⟨mT,qz,f,mT⟩ 255).1 else(KI sw stp (Is c) ⟨mT,qz,f,mT⟩ 255).1:=rfl
 clear_value E;clear S;refine fa.fN 255 (λ_=>True) [4,5,6,7,8,9] (λi=>[(8,.int .u8 (KI sw stp (Is c) ⟨mT,qz,f,mT⟩ i).2),(9,.int .i64 (254-(i:Int)))]) (λi=>[(7,.box (xW (KI sw stp (Is c) ⟨mT,qz,f,mT⟩ i).1))]) [.keep [4,5,6,7,8,9],.dr 2,.dr 3] ?_;simp[s0,aW,bA,ae,af];generalize KI sw stp (Is c) ⟨mT,qz,f,mT⟩=LS at*;refine⟨λi hi K hK=> ?_,λK=> ?_⟩
 ·rw[sS]at hK
  have hb:∃x:Int,c[(254-i)/8]? =some x∧Is c i=bits .and .u8 (x.fdiv (2^min ((254-i)%8) IntKind.u8.bits)) 1:=by
   have h8:(254-i)/8<c.length:=by omega
   exact⟨c[(254-i)/8],gJ h8,by simp[Is,List.getD,h8]⟩
  obtain⟨x,hx,lj⟩:=hb;generalize Is c i=bt at*;generalize LS i=st at*;obtain⟨L,last⟩:=st;have g0:(0:Int)≤254-(i:Int):=by omega
  have e1:(254-(i:Int)).tdiv 8=(((254-i)/8:Nat):Int):=by rw[Int.tdiv_eq_ediv_of_nonneg g0];omega
  have e2:(254-(i:Int)).tmod 8=(((254-i)%8:Nat):Int):=by rw[JiJ g0];omega
  have g1:(i:Int)≤254:=by omega
  have w1:IntKind.i64.wrap (254-(i:Int)-1)=254-(i:Int)-1:=wrap_i64 (by omega);have g2:(254-i)/8<32:=by omega
  have w2:254-((i:Int)+1)=254-(i:Int)-1:=by omega
  rw[lj]at hK;obtain⟨j,hj⟩:∃j,(254-i)/8=j:=⟨_,rfl⟩
  obtain⟨m,hm⟩:∃m,(254-i)%8=m:=⟨_,rfl⟩
  rw[hj]at e1 hx g2;rw[hm]at e2 hK;have wj:IntKind.i64.wrap (j:Int)=(j:Int):=wrap_i64 (by omega);have hm8:m<8:=by omega
  have wm:IntKind.i64.wrap (m:Int)=(m:Int):=wrap_i64 (by omega);have gj:(j:Int)<32:=by omega
  push_cast at hK;rw[w2]at hK;obtain⟨v,hv⟩:∃v,bits .and .u8 (x.fdiv (2^min m IntKind.u8.bits)) 1=v:=⟨_,rfl⟩
  rw[hv]at hK;have fin:∀L':G8,L'=(if v=last then L else sw L)->True:=λ_ _=>trivial;by_cases hvl:v=last
  ·rw[if_pos hvl]at hK;simp[↓an,g1,e1,e2,hx,gM,wj,gj,hv,hvl,-getElem?_pos];refine aj.rA (h4 L) ?_;simp[w1];refine⟨[.keep [4,5,6,7,8,9]],?_⟩;simp;exact hK _ (by simp[hvl,gM])
  ·rw[if_neg hvl]at hK;simp[↓an,g1,e1,e2,hx,gM,wj,gj,hv,hvl,-getElem?_pos];refine aj.rA (h3 L) ?_;simp;refine aj.rA (h4 (sw L)) ?_;simp[w1];refine⟨[.keep [4,5,6,7,8,9]],?_⟩;simp;exact hK _ (by simp[gM])
 ·by_cases Jg:(LS 255).2=1
  ·rw[if_pos Jg]at hE;simp[↓an,Jg];refine aj.rA (h3 (LS 255).1) ?_;rw[←hE];simp;refine aK.rA (h5 E.b) ?_;simp;refine aK.rA (h6 E.a (iv E.b)) ?_;simp;refine aK.rA (h7 (ti E.a (iv E.b))).2 ?_;simp;refine bH ?_;simp
  ·rw[if_neg Jg]at hE;simp[↓an,Jg];rw[←hE];refine aK.rA (h5 E.b) ?_;simp;refine aK.rA (h6 E.a (iv E.b)) ?_;simp;refine aK.rA (h7 (ti E.a (iv E.b))).2 ?_;simp;refine bH ?_;simp
theorem aen {SP:ZQ} (hS:av Pg SP)
  (f1:pS 298 [uA .u8 32] SP=some (.val (uA .u8 32))) (f2:pS 299 [uA .u8 32] SP=some (.val (uA .i64 16)))
  (f3:pS 300 [LAD] SP=some (.val LAD)) (f4:pS 301 [LAD,uA .i64 16] SP=some (.val LAD))
  (f5:pS 304 [uA .i64 16] SP=some (.val (uA .i64 16))) (f6:pS 303 [uA .i64 16,uA .i64 16] SP=some (.val (uA .i64 16)))
  (f7:pS 302 [uA .i64 16] SP=some (.val (uA .u8 32))) (hp:(uA .u8 32).rX=true):
  (⟨278,[uA .u8 32,uA .u8 32],.val (uA .u8 32)⟩:Spec).ok Pg:=by
 intro ps h;refine⟨hp,?_⟩;match ps,h with
 |
  [x,y],h=>
  simp only[bB]at h
  obtain⟨k,hk,rfl⟩:=nV h.1
  obtain⟨q,hq,rfl⟩:=nV h.2.1
  obtain⟨_,_,a1,b1⟩:=fH (qs:=[.ar 1 32 (gM k)]) (by simp only[bB];exact⟨vY hk,trivial⟩) hS f1
  obtain⟨c,hc,rfl⟩:=nV a1
  obtain⟨_,_,a2,b2⟩:=fH (qs:=[.ar 1 32 (gM q)]) (by simp only[bB];exact⟨vY hq,trivial⟩) hS f2
  obtain⟨f,rfl⟩:=KH a2
  have c3:∀L,∃L',aP Pg 300 [xW L] (xW L'):=λL=>by
   obtain⟨_,_,a,b⟩:=fH (qs:=[xW L]) (by simp only[bB];exact⟨RM L,trivial⟩) hS f3;obtain⟨L',rfl⟩:=RK a;exact⟨L',b⟩
  have c4:∀L,∃L',aP Pg 301 [xW L,f.p] (xW L'):=λL=>by
   obtain⟨_,_,a,b⟩:=fH (qs:=[xW L,f.p]) (by simp only[bB];exact⟨RM L,Gk f,trivial⟩) hS f4;obtain⟨L',rfl⟩:=RK a;exact⟨L',b⟩
  have c5:∀a:FV DI,∃b:FV DI,aP Pg 304 [a.p] b.p:=λa=>by
   obtain⟨_,_,a1,b1⟩:=fH (qs:=[a.p]) (by simp only[bB];exact⟨Gk a,trivial⟩) hS f5;obtain⟨b,rfl⟩:=KH a1;exact⟨b,b1⟩
  have c6:∀a b:FV DI,∃c:FV DI,aP Pg 303 [a.p,b.p] c.p:=λa b=>by
   obtain⟨_,_,a1,b1⟩:=fH (qs:=[a.p,b.p]) (by simp only[bB];exact⟨Gk a,Gk b,trivial⟩) hS f6;obtain⟨b,rfl⟩:=KH a1;exact⟨b,b1⟩
  have c7:∀a:FV DI,∃l:WQ,l.length=32∧aP Pg 302 [a.p] (.ar 1 32 (gM l)):=λa=>by
   obtain⟨_,_,a1,b1⟩:=fH (qs:=[a.p]) (by simp only[bB];exact⟨Gk a,trivial⟩) hS f7;obtain⟨l,hl,rfl⟩:=nV a1;exact⟨l,hl,b1⟩
  obtain⟨r,hr,hM⟩:=Xq hk hq hc b1 b2 (λL=>Classical.choose_spec (c3 L)) (λL=>Classical.choose_spec (c4 L)) (λa=>Classical.choose_spec (c5 a)) (ti:=λa b=>Classical.choose (c6 a b)) (λa b=>Classical.choose_spec (c6 a b)) (λa=>Classical.choose_spec (c7 a))
  exact⟨_,vY hr,hM⟩
 |[],h=>simp[bB]at h
 |[_],h=>simp[bB]at h
 |_::_::_::_,h=>simp[bB]at h
end Go.Ab
