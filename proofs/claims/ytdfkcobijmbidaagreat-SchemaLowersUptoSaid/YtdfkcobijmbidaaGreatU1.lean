/- Shapes. No condition. -/
import Derived.Test.YtdfkcobijmbidaaGreatSF1
import Derived.Test.YtdfkcobijmbidaaGreatSF2
import Derived.Test.YtdfkcobijmbidaaGreatSF3
import Derived.Test.YtdfkcobijmbidaaGreatSF4
import Derived.Test.YtdfkcobijmbidaaGreatSF5
import Derived.Test.YtdfkcobijmbidaaGreatA8
import Derived.Test.YtdfkcobijmbidaaGreatA5
set_option maxRecDepth 10000
set_option linter.all false
namespace Go.Ab
open Go.Ab
def jb (l:List Int):List PV:=l.map (PV.int .u8)
@[simp] theorem avF (l:List Int):(jb l).length=l.length:=by simp[jb]
@[simp] theorem ik (l:List Int):aB (jb l):=bR (λ_=>by simp) _
@[simp] theorem azy (l:List Int):jO (jb l)=jb l:=D1 (λ_=>by simp) _
def bS (l:List Int):PV:= .sl 1 (jb l) false
@[simp] theorem JF (l:List Int):Pure (bS l):=by simp[bS]
def uL (k:IntKind) (n:Nat):List AV:=List.replicate n (.int k none)
def uA (k:IntKind) (n:Nat):AV:= .ar 1 n (uL k n)
def uS (k:IntKind) (n:Nat):AV:= .sl 1 (uL k n) false
def uI (k:IntKind):AV:= .int k none
def kI (n:Int):AV:= .int .i64 (some n)
theorem pM:∀ {n:Nat} {m:List PV},bT (uL .u8 n) m->∃l:List Int,l.length=n∧m=jb l
 |0,[],_=>⟨[],rfl,rfl⟩
 |0,_::_,h=>by simp[uL,bT]at h
 |n+1,[],h=>by simp[uL,List.replicate_succ,bT]at h
 |
  n+1,p::m,h=>by
  simp only[uL,List.replicate_succ,bT]at h
  obtain⟨h1,h2⟩:=h
  obtain⟨l,h3,rfl⟩:=pM h2
  cases p<;>simp only[gm]at h1
  rename_i k x
  obtain⟨rfl,_⟩:=h1
  exact⟨x::l,by simp[h3],by simp[jb]⟩
theorem Ws:∀(l:List Int),bT (uL .u8 l.length) (jb l)
 |[]=>by simp[uL,jb,bT]
 |
  x::l=>by
  have:=Ws l
  simp only[uL,jb,List.length_cons,List.replicate_succ,List.map_cons,bT,gm]
  exact⟨⟨trivial,by simp⟩,this⟩
theorem Pd {l:List Int} {n:Nat} (h:l.length=n):bT (uL .u8 n) (jb l):=h▸Ws l
theorem amp {n:Nat} {p:PV} (h:gm (uS .u8 n) p):∃l:List Int,l.length=n∧p=bS l:=by
 cases p<;>simp only[uS,gm]at h
 obtain⟨⟨rfl,rfl⟩,h⟩:=h
 obtain⟨l,h1,rfl⟩:=pM h
 exact⟨l,h1,rfl⟩
theorem nD {n:Nat} {p:PV} (h:gm (uA .u8 n) p):∃l:List Int,l.length=n∧p= .ar 1 n (jb l):=by
 cases p<;>simp only[uA,gm]at h
 obtain⟨⟨rfl,rfl⟩,h⟩:=h
 obtain⟨l,h1,rfl⟩:=pM h
 exact⟨l,h1,rfl⟩
theorem Db {k:IntKind} {p:PV} (h:gm (uI k) p):∃n,p= .int k n:=by
 cases p<;>simp only[uI,gm]at h
 obtain⟨rfl,_⟩:=h
 exact⟨_,rfl⟩
theorem oZ {l:List Int} {n:Nat} (h:l.length=n):gm (uS .u8 n) (bS l):=by
 simp only[uS,bS,gm]
 exact⟨⟨trivial,trivial⟩,Pd h⟩
theorem tI {l:List Int} {n:Nat} (h:l.length=n):gm (uA .u8 n) (.ar 1 n (jb l)):=by
 simp only[uA,gm]
 exact⟨⟨trivial,trivial⟩,Pd h⟩
end Go.Ab
noncomputable section U2s
namespace Go.Ab
open Go.Ab
def NO:AV:= .st 64 [uA .u8 32,uA .u8 32]
theorem Wf {p:PV} (h:gm NO p):∃a b:List Int,a.length=32∧b.length=32∧p= .st 64 [.ar 1 32 (jb a),.ar 1 32 (jb b)]:=by
 cases p<;>simp only[NO,gm]at h
 obtain⟨rfl,h⟩:=h
 rename_i l
 match l,h with
 |
  [x,y],h=>
  simp only[bT]at h
  obtain⟨a,ha,rfl⟩:=nD h.1
  obtain⟨b,hb,rfl⟩:=nD h.2.1
  exact⟨a,b,ha,hb,rfl⟩
 |[],h=>simp[bT]at h
 |[_],h=>simp[bT]at h
 |_::_::_::_,h=>simp[bT]at h
theorem amq {a b:List Int} (ha:a.length=32) (hb:b.length=32):gm NO (.st 64 [.ar 1 32 (jb a),.ar 1 32 (jb b)]):=by
 simp only[NO,gm,bT]
 exact⟨trivial,tI ha,tI hb,trivial⟩
theorem Ev:∀l:List Int,iH (jb l)=true
 |[]=>rfl
 |x::l=>by simp only[jb,List.map_cons,iH,mN,Bool.true_and];exact Ev l
theorem GQ {a b c h:List Int} (ha:a.length=32) (hb:b.length=32) (hc:c.length≤1000)
  (hH:bB Pg I.eg [.sl 1 [bS a,bS c] false] (.ar 1 32 (jb h))):
  bB Pg I.cO [.st 64 [.ar 1 32 (jb a),.ar 1 32 (jb b)],.sl 1 [bS c] false] (.st 64 [.ar 1 32 (jb h),.ar 1 32 (jb b)]):=by
 refine af.intro T.cO (by simp[F.cO]) ?_
 simp[F.cO,an,aG]
 refine al.view [2,11] [] [.box (.st 64 [.ar 1 32 (jb a),.ar 1 32 (jb b)]),.arr 1 [.rs 2 [Step.f 0 0] 0 32 0 1 jA.clip,bS c]] hH (by simp[getAll]) (by simp) (by simp) (by simp[ae,ab,bj,idx]) (by simp[ah,ae,ab,bj,idx]) rfl rfl ?_ ?_ ?_
 ·simp[aZ,aI,aO,aV,idx,jO,wk,PY,aG]
  refine .inr (.inr ⟨KB+1,[],0,2,2,1,.tip,[.rs KB [Step.f 0 0] 0 32 0 1 .clip,bS c],[bS a,bS c],rfl,by simp[get],⟨?_,.inl ⟨rfl,(JF c).refs _⟩,trivial⟩,by omega,rfl⟩)
  refine .inr ⟨KB,[Step.f 0 0],0,32,0,1,.clip,jb a,rfl,?_,(ik a).refs _,by omega,rfl⟩
  simp[get,←ha]
  exact tJ (by simp)
 ·rintro r new ⟨rfl,rfl⟩
  simp[rO,mN,Ev]
 ·rintro r new ⟨rfl,rfl⟩
  simp[aZ,aI,aO,aV,idx,eP,ah,ab,ae,fY,bI]
  refine aM.plain [.keep [4]] ?_
  simp
theorem uy {n:Nat} {SP:List Spec} (hS:aA Pg SP) (hn:n≤1000) (hf:oU I.eg [.sl 1 [uS .u8 32,uS .u8 n] false] SP=some (.val (uA .u8 32))) (hp:NO.qy=true):
  (⟨I.cO,[NO,.sl 1 [uS .u8 n] false],.val NO⟩:Spec).ok Pg:=by
 intro ps h
 refine⟨hp,?_⟩
 match ps,h with
 |
  [x,y],h=>
  simp only[bT]at h
  obtain⟨a,b,ha,hb,rfl⟩:=Wf h.1
  have h2:=h.2.1
  cases y<;>simp only[gm]at h2
  obtain⟨⟨rfl,rfl⟩,h2⟩:=h2
  rename_i m
  match m,h2 with
  |
   [z],h2=>
   simp only[bT]at h2
   obtain⟨c,hc,rfl⟩:=amp h2.1
   obtain⟨_,v,g1,g2⟩:=iy (qs:=[.sl 1 [bS a,bS c] false]) (by simp only[bT,gm];exact⟨⟨⟨trivial,trivial⟩,oZ ha,oZ hc,trivial⟩,trivial⟩) hS hf
   obtain⟨l,hl,rfl⟩:=nD g1
   exact⟨_,amq hl hb,GQ ha hb (by omega) g2⟩
  |[],h2=>simp[bT]at h2
  |_::_::_,h2=>simp[bT]at h2
 |[],h=>simp[bT]at h
 |[_],h=>simp[bT]at h
 |_::_::_::_,h=>simp[bT]at h
end Go.Ab
end U2s
noncomputable section U3s
namespace Go.Ab
open Go.Ab
abbrev BW:Sh:= .ar 16 (.i .i64)
@[simp] theorem azz:pj BW=16:=rfl
@[simp] theorem apH:Sh.agg BW=true:=rfl
theorem amr {k:IntKind}:∀ {n:Nat} {m:List PV},bT (uL k n) m->∃l:List Int,l.length=n∧m=l.map (PV.int k)
 |0,[],_=>⟨[],rfl,rfl⟩
 |0,_::_,h=>by simp[uL,bT]at h
 |n+1,[],h=>by simp[uL,List.replicate_succ,bT]at h
 |
  n+1,p::m,h=>by
  simp only[uL,List.replicate_succ,bT]at h
  obtain⟨h1,h2⟩:=h
  obtain⟨l,h3,rfl⟩:=amr h2
  cases p<;>simp only[gm]at h1
  rename_i k x
  obtain⟨rfl,_⟩:=h1
  exact⟨x::l,by simp[h3],by simp⟩
theorem JT {k:IntKind}:∀l:List Int,lj (.i k) (l.map (PV.int k))=true
 |[]=>rfl
 |x::l=>by simp only[List.map_cons,lj,fits,JT l];simp
theorem Pe {k:IntKind}:∀ {n:Nat} {m:List PV},m.length=n->lj (.i k) m=true->bT (uL k n) m
 |0,[],_,_=>by simp[uL,bT]
 |
  n+1,p::m,hl,h=>by
  simp only[lj,aJ]at h
  have:=Pe (n:=n) (m:=m) (by simpa using hl) h.2
  simp only[uL,List.replicate_succ,bT]
  refine⟨?_,this⟩
  have h1:=h.1
  cases p<;>simp[fits]at h1
  subst h1
  simp[gm]
theorem IC {p:PV} (h:gm (uA .i64 16) p):∃a:FV BW,p=a.p:=by
 cases p<;>simp only[uA,gm]at h
 obtain⟨⟨rfl,rfl⟩,h⟩:=h
 obtain⟨l,h1,rfl⟩:=amr h
 exact⟨⟨.ar 1 16 (l.map (PV.int .i64)),by simp[fits,h1,pj,JT l]⟩,rfl⟩
theorem EK (a:FV BW):gm (uA .i64 16) a.p:=by
 obtain⟨p,h⟩:=a
 cases p<;>simp[fits]at h
 obtain⟨⟨rfl,rfl,h2⟩,h3⟩:=h
 simp only[uA,gm]
 exact⟨⟨rfl,trivial⟩,Pe h2 h3⟩
structure E0 where
 a:FV BW
 b:FV BW
 c:FV BW
 d:FV BW
def wJ (L:E0):PV:= .st 64 [L.a.p,L.b.p,L.c.p,L.d.p]
def Wt:AV:= .st 64 [uA .i64 16,uA .i64 16,uA .i64 16,uA .i64 16]
theorem Pf {p:PV} (h:gm Wt p):∃L:E0,p=wJ L:=by
 cases p<;>simp only[Wt,gm]at h
 obtain⟨rfl,h⟩:=h
 rename_i l
 match l,h with
 |
  [x,y,z,w],h=>
  simp only[bT]at h
  obtain⟨a,rfl⟩:=IC h.1
  obtain⟨b,rfl⟩:=IC h.2.1
  obtain⟨c,rfl⟩:=IC h.2.2.1
  obtain⟨d,rfl⟩:=IC h.2.2.2.1
  exact⟨⟨a,b,c,d⟩,rfl⟩
 |[],h=>simp[bT]at h
 |[_],h=>simp[bT]at h
 |[_,_],h=>simp[bT]at h
 |[_,_,_],h=>simp[bT]at h
 |_::_::_::_::_::_,h=>simp[bT]at h
theorem Ph (L:E0):gm Wt (wJ L):=by
 simp only[Wt,wJ,gm,bT]
 exact⟨trivial,EK _,EK _,EK _,EK _,trivial⟩
@[simp] theorem adA (L:E0):(wJ L).width=64:=_root_.id rfl
@[simp] theorem apI (L:E0):(wJ L).isAgg=true:=_root_.id rfl
@[simp] theorem ams (L:E0):(wJ L).bp=true:=_root_.id rfl
@[simp] theorem amt (L:E0):Pure (wJ L):=by simp[wJ]
@[simp] theorem avG (L:E0):wk (wJ L)=wJ L:=by simp[wJ]
@[simp↓] theorem apJ (g:Bool) (L:E0) (K:PV->Prop):il g (wJ L) K=K (wJ L):=_root_.id rfl
@[simp↓] theorem ZZ (L:E0) (r:List Step):aQ (wJ L) (.f 0 0::r)=aQ L.a.p r:=by simp[wJ,az]
@[simp↓] theorem aaa (L:E0) (r:List Step):aQ (wJ L) (.f 1 16::r)=aQ L.b.p r:=by simp[wJ,az]
def GR (c:List Int) (i:Nat):Int:=bits .and .u8 ((c.getD ((254-i)/8) 0).fdiv (2^min ((254-i)%8) IntKind.u8.bits)) 1
def ID (sw stp:E0->E0) (bt:Nat->Int) (L0:E0):Nat->E0×Int
 |0=>(L0,0)
 |i+1=>(stp (if bt i=(ID sw stp bt L0 i).2 then(ID sw stp bt L0 i).1 else sw (ID sw stp bt L0 i).1),bt i)
def mO:FV BW:=⟨.ar 1 16 (.int .i64 1::List.replicate 15 (.int .i64 0)),rfl⟩
def pQ:FV BW:=⟨.ar 1 16 (List.replicate 16 (.int .i64 0)),rfl⟩
theorem TJ {k q c:List Int} (hk:k.length=32) (hq:q.length=32) (hc:c.length=32) {f:FV BW} {sw stp:E0->E0} {iv:FV BW->FV BW} {ti:FV BW->FV BW->FV BW} {wr:FV BW->List Int}
  (h1:bB Pg I.kt [.ar 1 32 (jb k)] (.ar 1 32 (jb c)))
  (h2:bB Pg I.kZ [.ar 1 32 (jb q)] f.p)
  (h3:∀L,bB Pg I.gO [wJ L] (wJ (sw L)))
  (h4:∀L,bB Pg I.iA [wJ L,f.p] (wJ (stp L)))
  (h5:∀a,bB Pg I.iz [a.p] (iv a).p)
  (h6:∀a b,bB Pg I.jx [a.p,b.p] (ti a b).p)
  (h7:∀a,(wr a).length=32∧bB Pg I.jy [a.p] (.ar 1 32 (jb (wr a)))):
  ∃r:List Int,r.length=32∧bB Pg I.fM [.ar 1 32 (jb k),.ar 1 32 (jb q)] (.ar 1 32 (jb r)):=by
 let S:=ID sw stp (GR c) ⟨mO,pQ,f,mO⟩
 let E:=if(S 255).2=1 then sw (S 255).1 else(S 255).1
 refine⟨wr (ti E.a (iv E.b)),(h7 _).1,?_⟩
 refine af.intro T.fM (by simp[F.fM]) ?_
 simp[F.fM,an,aG,hk,hq]
 refine ny.run [5,6] rfl ?_
 simp[hk,hq]
 refine a0.ret h1 (by simp) (by simp) (by simp) ?_
 simp[hk,hq,hc]
 refine a0.ret h2 (by simp) (by simp) (by simp) ?_
 have hz:zr 16 (PV.int .i64 0)=List.replicate 16 (.int .i64 0):=by rw[gX]
 simp[hk,hq,hc,hz,List.replicate_succ]
 have hl:PV.st 64 [.ar 1 16 [.int .i64 1,.int .i64 0,.int .i64 0,.int .i64 0,.int .i64 0,.int .i64 0,.int .i64 0,.int .i64 0,.int .i64 0,.int .i64 0,.int .i64 0,.int .i64 0,.int .i64 0,.int .i64 0,.int .i64 0,.int .i64 0],
  .ar 1 16 [.int .i64 0,.int .i64 0,.int .i64 0,.int .i64 0,.int .i64 0,.int .i64 0,.int .i64 0,.int .i64 0,.int .i64 0,.int .i64 0,.int .i64 0,.int .i64 0,.int .i64 0,.int .i64 0,.int .i64 0,.int .i64 0],f.p,
  .ar 1 16 [.int .i64 1,.int .i64 0,.int .i64 0,.int .i64 0,.int .i64 0,.int .i64 0,.int .i64 0,.int .i64 0,.int .i64 0,.int .i64 0,.int .i64 0,.int .i64 0,.int .i64 0,.int .i64 0,.int .i64 0,.int .i64 0]]=wJ ⟨mO,pQ,f,mO⟩:=rfl
 rw[hl]
 have s0:(ID sw stp (GR c) ⟨mO,pQ,f,mO⟩ 0)=(⟨mO,pQ,f,mO⟩,0):=rfl
 have sS:∀i,ID sw stp (GR c) ⟨mO,pQ,f,mO⟩ (i+1)=(stp (if GR c i=(ID sw stp (GR c) ⟨mO,pQ,f,mO⟩ i).2 then(ID sw stp (GR c) ⟨mO,pQ,f,mO⟩ i).1 else sw (ID sw stp (GR c) ⟨mO,pQ,f,mO⟩ i).1),GR c i):=λ_=>rfl
 have hE:E=if(ID sw stp (GR c) ⟨mO,pQ,f,mO⟩ 255).2=1 then sw (ID sw stp (GR c) ⟨mO,pQ,f,mO⟩ 255).1 else(ID sw stp (GR c) ⟨mO,pQ,f,mO⟩ 255).1:=rfl
 clear_value E
 clear S
 refine jh.jY 255 (λ_=>True) [4,5,6,7,8,9] (λi=>[(8,.int .u8 (ID sw stp (GR c) ⟨mO,pQ,f,mO⟩ i).2),(9,.int .i64 (254-(i:Int)))]) (λi=>[(7,.box (wJ (ID sw stp (GR c) ⟨mO,pQ,f,mO⟩ i).1))]) [.keep [4,5,6,7,8,9],.dr 2,.dr 3] ?_
 simp[s0,cr,dx,ab,ah]
 generalize ID sw stp (GR c) ⟨mO,pQ,f,mO⟩=LS at*
 refine⟨λi hi K hK=> ?_,λK=> ?_⟩
 ·rw[sS]at hK
  have hb:∃x:Int,c[(254-i)/8]? =some x∧GR c i=bits .and .u8 (x.fdiv (2^min ((254-i)%8) IntKind.u8.bits)) 1:=by
   have h8:(254-i)/8<c.length:=by omega
   exact⟨c[(254-i)/8],gJ h8,by simp[GR,List.getD,h8]⟩
  obtain⟨x,hx,mH⟩:=hb
  generalize GR c i=bt at*
  generalize LS i=st at*
  obtain⟨L,last⟩:=st
  have g0:(0:Int)≤254-(i:Int):=by omega
  have e1:(254-(i:Int)).tdiv 8=(((254-i)/8:Nat):Int):=by rw[Int.tdiv_eq_ediv_of_nonneg g0];omega
  have e2:(254-(i:Int)).tmod 8=(((254-i)%8:Nat):Int):=by rw[Int.tmod_eq_emod_of_nonneg g0];omega
  have g1:(i:Int)≤254:=by omega
  have w1:IntKind.i64.wrap (254-(i:Int)-1)=254-(i:Int)-1:=wrap_i64 (by omega)
  have g2:(254-i)/8<32:=by omega
  have w2:254-((i:Int)+1)=254-(i:Int)-1:=by omega
  rw[mH]at hK
  obtain⟨j,hj⟩:∃j,(254-i)/8=j:=⟨_,rfl⟩
  obtain⟨m,hm⟩:∃m,(254-i)%8=m:=⟨_,rfl⟩
  rw[hj]at e1 hx g2
  rw[hm]at e2 hK
  have wj:IntKind.i64.wrap (j:Int)=(j:Int):=wrap_i64 (by omega)
  have hm8:m<8:=by omega
  have wm:IntKind.i64.wrap (m:Int)=(m:Int):=wrap_i64 (by omega)
  have gj:(j:Int)<32:=by omega
  push_cast at hK
  rw[w2]at hK
  obtain⟨v,hv⟩:∃v,bits .and .u8 (x.fdiv (2^min m IntKind.u8.bits)) 1=v:=⟨_,rfl⟩
  rw[hv]at hK
  have fin:∀L':E0,L'=(if v=last then L else sw L)->True:=λ_ _=>trivial
  by_cases hvl:v=last
  ·rw[if_pos hvl]at hK
   simp[↓av,g0,g1,g2,e1,e2,hx,hc,jb,w1,wj,wm,gj,hv,hvl,-getElem?_pos]
   refine al.ret (h4 L) (by simp) (by simp) (by simp) ?_
   simp[w1]
   refine⟨[.keep [4,5,6,7,8,9]],?_⟩
   simp
   exact hK _ (by simp[hvl,jb])
  ·rw[if_neg hvl]at hK
   simp[↓av,g0,g1,g2,e1,e2,hx,hc,jb,w1,wj,wm,gj,hv,hvl,-getElem?_pos]
   refine al.ret (h3 L) (by simp) (by simp) (by simp) ?_
   simp
   refine al.ret (h4 (sw L)) (by simp) (by simp) (by simp) ?_
   simp[w1]
   refine⟨[.keep [4,5,6,7,8,9]],?_⟩
   simp
   exact hK _ (by simp[jb])
 ·by_cases Qu:(LS 255).2=1
  ·rw[if_pos Qu]at hE
   simp[↓av,Qu]
   refine al.ret (h3 (LS 255).1) (by simp) (by simp) (by simp) ?_
   rw[←hE]
   simp
   refine a0.ret (h5 E.b) (by simp) (by simp) (by simp) ?_
   simp
   refine a0.ret (h6 E.a (iv E.b)) (by simp) (by simp) (by simp) ?_
   simp
   refine a0.ret (h7 (ti E.a (iv E.b))).2 (by simp) (by simp) (by simp) ?_
   simp[(h7 (ti E.a (iv E.b))).1]
   refine aM.plain [] ?_
   simp
  ·rw[if_neg Qu]at hE
   simp[↓av,Qu]
   rw[←hE]
   refine a0.ret (h5 E.b) (by simp) (by simp) (by simp) ?_
   simp
   refine a0.ret (h6 E.a (iv E.b)) (by simp) (by simp) (by simp) ?_
   simp
   refine a0.ret (h7 (ti E.a (iv E.b))).2 (by simp) (by simp) (by simp) ?_
   simp[(h7 (ti E.a (iv E.b))).1]
   refine aM.plain [] ?_
   simp
theorem Y9 {SP:List Spec} (hS:aA Pg SP)
  (f1:oU I.kt [uA .u8 32] SP=some (.val (uA .u8 32))) (f2:oU I.kZ [uA .u8 32] SP=some (.val (uA .i64 16)))
  (f3:oU I.gO [Wt] SP=some (.val Wt)) (f4:oU I.iA [Wt,uA .i64 16] SP=some (.val Wt))
  (f5:oU I.iz [uA .i64 16] SP=some (.val (uA .i64 16))) (f6:oU I.jx [uA .i64 16,uA .i64 16] SP=some (.val (uA .i64 16)))
  (f7:oU I.jy [uA .i64 16] SP=some (.val (uA .u8 32))) (hp:(uA .u8 32).qy=true):
  (⟨I.fM,[uA .u8 32,uA .u8 32],.val (uA .u8 32)⟩:Spec).ok Pg:=by
 intro ps h
 refine⟨hp,?_⟩
 match ps,h with
 |
  [x,y],h=>
  simp only[bT]at h
  obtain⟨k,hk,rfl⟩:=nD h.1
  obtain⟨q,hq,rfl⟩:=nD h.2.1
  obtain⟨_,_,a1,b1⟩:=iy (qs:=[.ar 1 32 (jb k)]) (by simp only[bT];exact⟨tI hk,trivial⟩) hS f1
  obtain⟨c,hc,rfl⟩:=nD a1
  obtain⟨_,_,a2,b2⟩:=iy (qs:=[.ar 1 32 (jb q)]) (by simp only[bT];exact⟨tI hq,trivial⟩) hS f2
  obtain⟨f,rfl⟩:=IC a2
  have c3:∀L,∃L',bB Pg I.gO [wJ L] (wJ L'):=λL=>by
   obtain⟨_,_,a,b⟩:=iy (qs:=[wJ L]) (by simp only[bT];exact⟨Ph L,trivial⟩) hS f3
   obtain⟨L',rfl⟩:=Pf a
   exact⟨L',b⟩
  have c4:∀L,∃L',bB Pg I.iA [wJ L,f.p] (wJ L'):=λL=>by
   obtain⟨_,_,a,b⟩:=iy (qs:=[wJ L,f.p]) (by simp only[bT];exact⟨Ph L,EK f,trivial⟩) hS f4
   obtain⟨L',rfl⟩:=Pf a
   exact⟨L',b⟩
  have c5:∀a:FV BW,∃b:FV BW,bB Pg I.iz [a.p] b.p:=λa=>by
   obtain⟨_,_,a1,b1⟩:=iy (qs:=[a.p]) (by simp only[bT];exact⟨EK a,trivial⟩) hS f5
   obtain⟨b,rfl⟩:=IC a1
   exact⟨b,b1⟩
  have c6:∀a b:FV BW,∃c:FV BW,bB Pg I.jx [a.p,b.p] c.p:=λa b=>by
   obtain⟨_,_,a1,b1⟩:=iy (qs:=[a.p,b.p]) (by simp only[bT];exact⟨EK a,EK b,trivial⟩) hS f6
   obtain⟨b,rfl⟩:=IC a1
   exact⟨b,b1⟩
  have c7:∀a:FV BW,∃l:List Int,l.length=32∧bB Pg I.jy [a.p] (.ar 1 32 (jb l)):=λa=>by
   obtain⟨_,_,a1,b1⟩:=iy (qs:=[a.p]) (by simp only[bT];exact⟨EK a,trivial⟩) hS f7
   obtain⟨l,hl,rfl⟩:=nD a1
   exact⟨l,hl,b1⟩
  obtain⟨r,hr,hM⟩:=TJ hk hq hc b1 b2 (λL=>Classical.choose_spec (c3 L)) (λL=>Classical.choose_spec (c4 L)) (λa=>Classical.choose_spec (c5 a)) (ti:=λa b=>Classical.choose (c6 a b)) (λa b=>Classical.choose_spec (c6 a b)) (λa=>Classical.choose_spec (c7 a))
  exact⟨_,tI hr,hM⟩
 |[],h=>simp[bT]at h
 |[_],h=>simp[bT]at h
 |_::_::_::_,h=>simp[bT]at h
end Go.Ab
end U3s
