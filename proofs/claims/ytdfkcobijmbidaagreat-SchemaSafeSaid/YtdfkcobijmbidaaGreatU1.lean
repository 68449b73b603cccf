/- Shapes. No condition. -/
import Derived.Test.YtdfkcobijmbidaaGreatSF1
import Derived.Test.YtdfkcobijmbidaaGreatSF2
import Derived.Test.YtdfkcobijmbidaaGreatSF3
import Derived.Test.YtdfkcobijmbidaaGreatSF4
import Derived.Test.YtdfkcobijmbidaaGreatSF5
import Derived.Test.YtdfkcobijmbidaaGreatA8
import Derived.Test.YtdfkcobijmbidaaGreatA5
set_option maxRecDepth 10000
set_option linter.all false
namespace Go.Ab
open Go.Ab
def iF (l:List Int):List PV:=l.map (PV.int .u8)
@[simp] theorem at0 (l:List Int):(iF l).length=l.length:=by simp[iF]
@[simp] theorem gM (l:List Int):aB (iF l):=bZ (λ_=>by simp) _
@[simp] theorem axS (l:List Int):jj (iF l)=iF l:=Dc (λ_=>by simp) _
def bS (l:List Int):PV:= .sl 1 (iF l) false
@[simp] theorem IY (l:List Int):Pure (bS l):=by simp[bS]
def uL (k:IntKind) (n:Nat):List AV:=List.replicate n (.int k none)
def uA (k:IntKind) (n:Nat):AV:= .ar 1 n (uL k n)
def uS (k:IntKind) (n:Nat):AV:= .sl 1 (uL k n) false
def uI (k:IntKind):AV:= .int k none
def kI (n:Int):AV:= .int .i64 (some n)
theorem oO:∀ {n:Nat} {m:List PV},bH (uL .u8 n) m->∃l:List Int,l.length=n∧m=iF l
 |0,[],_=>⟨[],rfl,rfl⟩
 |0,_::_,h=>by simp[uL,bH]at h
 |n+1,[],h=>by simp[uL,List.replicate_succ,bH]at h
 |
  n+1,p::m,h=>by
  simp only[uL,List.replicate_succ,bH]at h
  obtain⟨h1,h2⟩:=h
  obtain⟨l,h3,rfl⟩:=oO h2
  cases p<;>simp only[gm]at h1
  rename_i k x
  obtain⟨rfl,_⟩:=h1
  exact⟨x::l,by simp[h3],by simp[iF]⟩
theorem Vr:∀(l:List Int),bH (uL .u8 l.length) (iF l)
 |[]=>by simp[uL,iF,bH]
 |
  x::l=>by
  have:=Vr l
  simp only[uL,iF,List.length_cons,List.replicate_succ,List.map_cons,bH,gm]
  exact⟨⟨trivial,by simp⟩,this⟩
theorem Oq {l:List Int} {n:Nat} (h:l.length=n):bH (uL .u8 n) (iF l):=h▸Vr l
theorem akN {n:Nat} {p:PV} (h:gm (uS .u8 n) p):∃l:List Int,l.length=n∧p=bS l:=by
 cases p<;>simp only[uS,gm]at h
 obtain⟨⟨rfl,rfl⟩,h⟩:=h
 obtain⟨l,h1,rfl⟩:=oO h
 exact⟨l,h1,rfl⟩
theorem mN {n:Nat} {p:PV} (h:gm (uA .u8 n) p):∃l:List Int,l.length=n∧p= .ar 1 n (iF l):=by
 cases p<;>simp only[uA,gm]at h
 obtain⟨⟨rfl,rfl⟩,h⟩:=h
 obtain⟨l,h1,rfl⟩:=oO h
 exact⟨l,h1,rfl⟩
theorem Ct {k:IntKind} {p:PV} (h:gm (uI k) p):∃n,p= .int k n:=by
 cases p<;>simp only[uI,gm]at h
 obtain⟨rfl,_⟩:=h
 exact⟨_,rfl⟩
theorem ox {l:List Int} {n:Nat} (h:l.length=n):gm (uS .u8 n) (bS l):=by
 simp only[uS,bS,gm]
 exact⟨⟨trivial,trivial⟩,Oq h⟩
theorem sV {l:List Int} {n:Nat} (h:l.length=n):gm (uA .u8 n) (.ar 1 n (iF l)):=by
 simp only[uA,gm]
 exact⟨⟨trivial,trivial⟩,Oq h⟩
end Go.Ab
noncomputable section U2s
namespace Go.Ab
open Go.Ab
def NO:AV:= .st 64 [uA .u8 32,uA .u8 32]
theorem Vf {p:PV} (h:gm NO p):∃a b:List Int,a.length=32∧b.length=32∧p= .st 64 [.ar 1 32 (iF a),.ar 1 32 (iF b)]:=by
 cases p<;>simp only[NO,gm]at h
 obtain⟨rfl,h⟩:=h
 rename_i l
 match l,h with
 |
  [x,y],h=>
  simp only[bH]at h
  obtain⟨a,ha,rfl⟩:=mN h.1
  obtain⟨b,hb,rfl⟩:=mN h.2.1
  exact⟨a,b,ha,hb,rfl⟩
 |[],h=>simp[bH]at h
 |[_],h=>simp[bH]at h
 |_::_::_::_,h=>simp[bH]at h
theorem akO {a b:List Int} (ha:a.length=32) (hb:b.length=32):gm NO (.st 64 [.ar 1 32 (iF a),.ar 1 32 (iF b)]):=by
 simp only[NO,gm,bH]
 exact⟨trivial,sV ha,sV hb,trivial⟩
theorem DH:∀l:List Int,ig (iF l)=true
 |[]=>rfl
 |x::l=>by simp only[iF,List.map_cons,ig,md,Bool.true_and];exact DH l
theorem FY {a b c h:List Int} (ha:a.length=32) (hb:b.length=32) (hc:c.length≤1000)
  (hH:bI Pg I.dS [.sl 1 [bS a,bS c] false] (.ar 1 32 (iF h))):
  bI Pg I.cG [.st 64 [.ar 1 32 (iF a),.ar 1 32 (iF b)],.sl 1 [bS c] false] (.st 64 [.ar 1 32 (iF h),.ar 1 32 (iF b)]):=by
 refine ah.intro T.cG (by simp[F.cG]) ?_
 simp[F.cG,au,aG]
 refine al.view [2,11] [] [.box (.st 64 [.ar 1 32 (iF a),.ar 1 32 (iF b)]),.arr 1 [.rs 2 [Step.f 0 0] 0 32 0 1 jb.clip,bS c]] hH (by simp[getAll]) (by simp) (by simp) (by simp[ae,ab,bg,idx]) (by simp[af,ae,ab,bg,idx]) rfl rfl ?_ ?_ ?_
 ·simp[a0,aF,aK,aT,idx,jj,wk,O4,aG]
  refine .inr (.inr ⟨KB+1,[],0,2,2,1,.tip,[.rs KB [Step.f 0 0] 0 32 0 1 .clip,bS c],[bS a,bS c],rfl,by simp[get],⟨?_,.inl ⟨rfl,(IY c).refs _⟩,trivial⟩,by omega,rfl⟩)
  refine .inr ⟨KB,[Step.f 0 0],0,32,0,1,.clip,iF a,rfl,?_,(gM a).refs _,by omega,rfl⟩
  simp[get,←ha]
  exact tJ (by simp)
 ·rintro r new ⟨rfl,rfl⟩
  simp[qR,md,DH]
 ·rintro r new ⟨rfl,rfl⟩
  simp[a0,aF,aK,aT,idx,eO,af,ab,ae,fR,bC]
  refine aL.plain [.keep [4]] ?_
  simp
theorem tH {n:Nat} {SP:List Spec} (hS:az Pg SP) (hn:n≤1000) (hf:oi I.dS [.sl 1 [uS .u8 32,uS .u8 n] false] SP=some (.val (uA .u8 32))) (hp:NO.pO=true):
  (⟨I.cG,[NO,.sl 1 [uS .u8 n] false],.val NO⟩:Spec).ok Pg:=by
 intro ps h
 refine⟨hp,?_⟩
 match ps,h with
 |
  [x,y],h=>
  simp only[bH]at h
  obtain⟨a,b,ha,hb,rfl⟩:=Vf h.1
  have h2:=h.2.1
  cases y<;>simp only[gm]at h2
  obtain⟨⟨rfl,rfl⟩,h2⟩:=h2
  rename_i m
  match m,h2 with
  |
   [z],h2=>
   simp only[bH]at h2
   obtain⟨c,hc,rfl⟩:=akN h2.1
   obtain⟨_,v,g1,g2⟩:=gX (qs:=[.sl 1 [bS a,bS c] false]) (by simp only[bH,gm];exact⟨⟨⟨trivial,trivial⟩,ox ha,ox hc,trivial⟩,trivial⟩) hS hf
   obtain⟨l,hl,rfl⟩:=mN g1
   exact⟨_,akO hl hb,FY ha hb (by omega) g2⟩
  |[],h2=>simp[bH]at h2
  |_::_::_,h2=>simp[bH]at h2
 |[],h=>simp[bH]at h
 |[_],h=>simp[bH]at h
 |_::_::_::_,h=>simp[bH]at h
end Go.Ab
end U2s
noncomputable section U3s
namespace Go.Ab
open Go.Ab
abbrev A6:Sh:= .ar 16 (.i .i64)
@[simp] theorem axT:qf A6=16:=rfl
@[simp] theorem an1:Sh.agg A6=true:=rfl
theorem akP {k:IntKind}:∀ {n:Nat} {m:List PV},bH (uL k n) m->∃l:List Int,l.length=n∧m=l.map (PV.int k)
 |0,[],_=>⟨[],rfl,rfl⟩
 |0,_::_,h=>by simp[uL,bH]at h
 |n+1,[],h=>by simp[uL,List.replicate_succ,bH]at h
 |
  n+1,p::m,h=>by
  simp only[uL,List.replicate_succ,bH]at h
  obtain⟨h1,h2⟩:=h
  obtain⟨l,h3,rfl⟩:=akP h2
  cases p<;>simp only[gm]at h1
  rename_i k x
  obtain⟨rfl,_⟩:=h1
  exact⟨x::l,by simp[h3],by simp⟩
theorem Ja {k:IntKind}:∀l:List Int,kR (.i k) (l.map (PV.int k))=true
 |[]=>rfl
 |x::l=>by simp only[List.map_cons,kR,fits,Ja l];simp
theorem Ot {k:IntKind}:∀ {n:Nat} {m:List PV},m.length=n->kR (.i k) m=true->bH (uL k n) m
 |0,[],_,_=>by simp[uL,bH]
 |
  n+1,p::m,hl,h=>by
  simp only[kR,aJ]at h
  have:=Ot (n:=n) (m:=m) (by simpa using hl) h.2
  simp only[uL,List.replicate_succ,bH]
  refine⟨?_,this⟩
  have h1:=h.1
  cases p<;>simp[fits]at h1
  subst h1
  simp[gm]
theorem HI {p:PV} (h:gm (uA .i64 16) p):∃a:FV A6,p=a.p:=by
 cases p<;>simp only[uA,gm]at h
 obtain⟨⟨rfl,rfl⟩,h⟩:=h
 obtain⟨l,h1,rfl⟩:=akP h
 exact⟨⟨.ar 1 16 (l.map (PV.int .i64)),by simp[fits,h1,qf,Ja l]⟩,rfl⟩
theorem DT (a:FV A6):gm (uA .i64 16) a.p:=by
 obtain⟨p,h⟩:=a
 cases p<;>simp[fits]at h
 obtain⟨⟨rfl,rfl,h2⟩,h3⟩:=h
 simp only[uA,gm]
 exact⟨⟨rfl,trivial⟩,Ot h2 h3⟩
structure D8 where
 a:FV A6
 b:FV A6
 c:FV A6
 d:FV A6
def vv (L:D8):PV:= .st 64 [L.a.p,L.b.p,L.c.p,L.d.p]
def Vs:AV:= .st 64 [uA .i64 16,uA .i64 16,uA .i64 16,uA .i64 16]
theorem Ou {p:PV} (h:gm Vs p):∃L:D8,p=vv L:=by
 cases p<;>simp only[Vs,gm]at h
 obtain⟨rfl,h⟩:=h
 rename_i l
 match l,h with
 |
  [x,y,z,w],h=>
  simp only[bH]at h
  obtain⟨a,rfl⟩:=HI h.1
  obtain⟨b,rfl⟩:=HI h.2.1
  obtain⟨c,rfl⟩:=HI h.2.2.1
  obtain⟨d,rfl⟩:=HI h.2.2.2.1
  exact⟨⟨a,b,c,d⟩,rfl⟩
 |[],h=>simp[bH]at h
 |[_],h=>simp[bH]at h
 |[_,_],h=>simp[bH]at h
 |[_,_,_],h=>simp[bH]at h
 |_::_::_::_::_::_,h=>simp[bH]at h
theorem Ov (L:D8):gm Vs (vv L):=by
 simp only[Vs,vv,gm,bH]
 exact⟨trivial,DT _,DT _,DT _,DT _,trivial⟩
@[simp] theorem ab6 (L:D8):(vv L).width=64:=_root_.id rfl
@[simp] theorem an2 (L:D8):(vv L).isAgg=true:=_root_.id rfl
@[simp] theorem akQ (L:D8):(vv L).bj=true:=_root_.id rfl
@[simp] theorem akR (L:D8):Pure (vv L):=by simp[vv]
@[simp] theorem at1 (L:D8):wk (vv L)=vv L:=by simp[vv]
@[simp↓] theorem an3 (g:Bool) (L:D8) (K:PV->Prop):gN g (vv L) K=K (vv L):=_root_.id rfl
@[simp↓] theorem YM (L:D8) (r:List Step):aQ (vv L) (.f 0 0::r)=aQ L.a.p r:=by simp[vv,av]
@[simp↓] theorem YN (L:D8) (r:List Step):aQ (vv L) (.f 1 16::r)=aQ L.b.p r:=by simp[vv,av]
def FZ (c:List Int) (i:Nat):Int:=bits .and .u8 ((c.getD ((254-i)/8) 0).fdiv (2^min ((254-i)%8) IntKind.u8.bits)) 1
def HJ (sw stp:D8->D8) (bt:Nat->Int) (L0:D8):Nat->D8×Int
 |0=>(L0,0)
 |i+1=>(stp (if bt i=(HJ sw stp bt L0 i).2 then(HJ sw stp bt L0 i).1 else sw (HJ sw stp bt L0 i).1),bt i)
def me:FV A6:=⟨.ar 1 16 (.int .i64 1::List.replicate 15 (.int .i64 0)),rfl⟩
def oS:FV A6:=⟨.ar 1 16 (List.replicate 16 (.int .i64 0)),rfl⟩
theorem SC {k q c:List Int} (hk:k.length=32) (hq:q.length=32) (hc:c.length=32) {f:FV A6} {sw stp:D8->D8} {iv:FV A6->FV A6} {ti:FV A6->FV A6->FV A6} {wr:FV A6->List Int}
  (h1:bI Pg I.jW [.ar 1 32 (iF k)] (.ar 1 32 (iF c)))
  (h2:bI Pg I.ku [.ar 1 32 (iF q)] f.p)
  (h3:∀L,bI Pg I.gr [vv L] (vv (sw L)))
  (h4:∀L,bI Pg I.gZ [vv L,f.p] (vv (stp L)))
  (h5:∀a,bI Pg I.gY [a.p] (iv a).p)
  (h6:∀a b,bI Pg I.iX [a.p,b.p] (ti a b).p)
  (h7:∀a,(wr a).length=32∧bI Pg I.iY [a.p] (.ar 1 32 (iF (wr a)))):
  ∃r:List Int,r.length=32∧bI Pg I.fu [.ar 1 32 (iF k),.ar 1 32 (iF q)] (.ar 1 32 (iF r)):=by
 let S:=HJ sw stp (FZ c) ⟨me,oS,f,me⟩
 let E:=if(S 255).2=1 then sw (S 255).1 else(S 255).1
 refine⟨wr (ti E.a (iv E.b)),(h7 _).1,?_⟩
 refine ah.intro T.fu (by simp[F.fu]) ?_
 simp[F.fu,au,aG,hk,hq]
 refine nj.run [5,6] rfl ?_
 simp[hk,hq]
 refine a8.ret h1 (by simp) (by simp) (by simp) ?_
 simp[hk,hq,hc]
 refine a8.ret h2 (by simp) (by simp) (by simp) ?_
 have hz:zr 16 (PV.int .i64 0)=List.replicate 16 (.int .i64 0):=by rw[gC]
 simp[hk,hq,hc,hz,List.replicate_succ]
 have hl:PV.st 64 [.ar 1 16 [.int .i64 1,.int .i64 0,.int .i64 0,.int .i64 0,.int .i64 0,.int .i64 0,.int .i64 0,.int .i64 0,.int .i64 0,.int .i64 0,.int .i64 0,.int .i64 0,.int .i64 0,.int .i64 0,.int .i64 0,.int .i64 0],
  .ar 1 16 [.int .i64 0,.int .i64 0,.int .i64 0,.int .i64 0,.int .i64 0,.int .i64 0,.int .i64 0,.int .i64 0,.int .i64 0,.int .i64 0,.int .i64 0,.int .i64 0,.int .i64 0,.int .i64 0,.int .i64 0,.int .i64 0],f.p,
  .ar 1 16 [.int .i64 1,.int .i64 0,.int .i64 0,.int .i64 0,.int .i64 0,.int .i64 0,.int .i64 0,.int .i64 0,.int .i64 0,.int .i64 0,.int .i64 0,.int .i64 0,.int .i64 0,.int .i64 0,.int .i64 0,.int .i64 0]]=vv ⟨me,oS,f,me⟩:=rfl
 rw[hl]
 have s0:(HJ sw stp (FZ c) ⟨me,oS,f,me⟩ 0)=(⟨me,oS,f,me⟩,0):=rfl
 have sS:∀i,HJ sw stp (FZ c) ⟨me,oS,f,me⟩ (i+1)=(stp (if FZ c i=(HJ sw stp (FZ c) ⟨me,oS,f,me⟩ i).2 then(HJ sw stp (FZ c) ⟨me,oS,f,me⟩ i).1 else sw (HJ sw stp (FZ c) ⟨me,oS,f,me⟩ i).1),FZ c i):=λ_=>rfl
 have hE:E=if(HJ sw stp (FZ c) ⟨me,oS,f,me⟩ 255).2=1 then sw (HJ sw stp (FZ c) ⟨me,oS,f,me⟩ 255).1 else(HJ sw stp (FZ c) ⟨me,oS,f,me⟩ 255).1:=rfl
 clear_value E
 clear S
 refine jx.kl 255 (λ_=>True) [4,5,6,7,8,9] (λi=>[(8,.int .u8 (HJ sw stp (FZ c) ⟨me,oS,f,me⟩ i).2),(9,.int .i64 (254-(i:Int)))]) (λi=>[(7,.box (vv (HJ sw stp (FZ c) ⟨me,oS,f,me⟩ i).1))]) [.keep [4,5,6,7,8,9],.dr 2,.dr 3] ?_
 simp[s0,bL,cL,ab,af]
 generalize HJ sw stp (FZ c) ⟨me,oS,f,me⟩=LS at*
 refine⟨λi hi K hK=> ?_,λK=> ?_⟩
 ·rw[sS]at hK
  have hb:∃x:Int,c[(254-i)/8]? =some x∧FZ c i=bits .and .u8 (x.fdiv (2^min ((254-i)%8) IntKind.u8.bits)) 1:=by
   have h8:(254-i)/8<c.length:=by omega
   exact⟨c[(254-i)/8],gJ h8,by simp[FZ,List.getD,h8]⟩
  obtain⟨x,hx,lY⟩:=hb
  generalize FZ c i=bt at*
  generalize LS i=st at*
  obtain⟨L,last⟩:=st
  have g0:(0:Int)≤254-(i:Int):=by omega
  have e1:(254-(i:Int)).tdiv 8=(((254-i)/8:Nat):Int):=by rw[Int.tdiv_eq_ediv_of_nonneg g0];omega
  have e2:(254-(i:Int)).tmod 8=(((254-i)%8:Nat):Int):=by rw[Int.tmod_eq_emod_of_nonneg g0];omega
  have g1:(i:Int)≤254:=by omega
  have w1:IntKind.i64.wrap (254-(i:Int)-1)=254-(i:Int)-1:=wrap_i64 (by omega)
  have g2:(254-i)/8<32:=by omega
  have w2:254-((i:Int)+1)=254-(i:Int)-1:=by omega
  rw[lY]at hK
  obtain⟨j,hj⟩:∃j,(254-i)/8=j:=⟨_,rfl⟩
  obtain⟨m,hm⟩:∃m,(254-i)%8=m:=⟨_,rfl⟩
  rw[hj]at e1 hx g2
  rw[hm]at e2 hK
  have wj:IntKind.i64.wrap (j:Int)=(j:Int):=wrap_i64 (by omega)
  have hm8:m<8:=by omega
  have wm:IntKind.i64.wrap (m:Int)=(m:Int):=wrap_i64 (by omega)
  have gj:(j:Int)<32:=by omega
  push_cast at hK
  rw[w2]at hK
  obtain⟨v,hv⟩:∃v,bits .and .u8 (x.fdiv (2^min m IntKind.u8.bits)) 1=v:=⟨_,rfl⟩
  rw[hv]at hK
  have fin:∀L':D8,L'=(if v=last then L else sw L)->True:=λ_ _=>trivial
  by_cases Zb:v=last
  ·rw[if_pos Zb]at hK
   simp[↓aA,g0,g1,g2,e1,e2,hx,hc,iF,w1,wj,wm,gj,hv,Zb,-getElem?_pos]
   refine al.ret (h4 L) (by simp) (by simp) (by simp) ?_
   simp[w1]
   refine⟨[.keep [4,5,6,7,8,9]],?_⟩
   simp
   exact hK _ (by simp[Zb,iF])
  ·rw[if_neg Zb]at hK
   simp[↓aA,g0,g1,g2,e1,e2,hx,hc,iF,w1,wj,wm,gj,hv,Zb,-getElem?_pos]
   refine al.ret (h3 L) (by simp) (by simp) (by simp) ?_
   simp
   refine al.ret (h4 (sw L)) (by simp) (by simp) (by simp) ?_
   simp[w1]
   refine⟨[.keep [4,5,6,7,8,9]],?_⟩
   simp
   exact hK _ (by simp[iF])
 ·by_cases SE:(LS 255).2=1
  ·rw[if_pos SE]at hE
   simp[↓aA,SE]
   refine al.ret (h3 (LS 255).1) (by simp) (by simp) (by simp) ?_
   rw[←hE]
   simp
   refine a8.ret (h5 E.b) (by simp) (by simp) (by simp) ?_
   simp
   refine a8.ret (h6 E.a (iv E.b)) (by simp) (by simp) (by simp) ?_
   simp
   refine a8.ret (h7 (ti E.a (iv E.b))).2 (by simp) (by simp) (by simp) ?_
   simp[(h7 (ti E.a (iv E.b))).1]
   refine aL.plain [] ?_
   simp
  ·rw[if_neg SE]at hE
   simp[↓aA,SE]
   rw[←hE]
   refine a8.ret (h5 E.b) (by simp) (by simp) (by simp) ?_
   simp
   refine a8.ret (h6 E.a (iv E.b)) (by simp) (by simp) (by simp) ?_
   simp
   refine a8.ret (h7 (ti E.a (iv E.b))).2 (by simp) (by simp) (by simp) ?_
   simp[(h7 (ti E.a (iv E.b))).1]
   refine aL.plain [] ?_
   simp
theorem Ye {SP:List Spec} (hS:az Pg SP)
  (f1:oi I.jW [uA .u8 32] SP=some (.val (uA .u8 32))) (f2:oi I.ku [uA .u8 32] SP=some (.val (uA .i64 16)))
  (f3:oi I.gr [Vs] SP=some (.val Vs)) (f4:oi I.gZ [Vs,uA .i64 16] SP=some (.val Vs))
  (f5:oi I.gY [uA .i64 16] SP=some (.val (uA .i64 16))) (f6:oi I.iX [uA .i64 16,uA .i64 16] SP=some (.val (uA .i64 16)))
  (f7:oi I.iY [uA .i64 16] SP=some (.val (uA .u8 32))) (hp:(uA .u8 32).pO=true):
  (⟨I.fu,[uA .u8 32,uA .u8 32],.val (uA .u8 32)⟩:Spec).ok Pg:=by
 intro ps h
 refine⟨hp,?_⟩
 match ps,h with
 |
  [x,y],h=>
  simp only[bH]at h
  obtain⟨k,hk,rfl⟩:=mN h.1
  obtain⟨q,hq,rfl⟩:=mN h.2.1
  obtain⟨_,_,a1,b1⟩:=gX (qs:=[.ar 1 32 (iF k)]) (by simp only[bH];exact⟨sV hk,trivial⟩) hS f1
  obtain⟨c,hc,rfl⟩:=mN a1
  obtain⟨_,_,a2,b2⟩:=gX (qs:=[.ar 1 32 (iF q)]) (by simp only[bH];exact⟨sV hq,trivial⟩) hS f2
  obtain⟨f,rfl⟩:=HI a2
  have c3:∀L,∃L',bI Pg I.gr [vv L] (vv L'):=λL=>by
   obtain⟨_,_,a,b⟩:=gX (qs:=[vv L]) (by simp only[bH];exact⟨Ov L,trivial⟩) hS f3
   obtain⟨L',rfl⟩:=Ou a
   exact⟨L',b⟩
  have c4:∀L,∃L',bI Pg I.gZ [vv L,f.p] (vv L'):=λL=>by
   obtain⟨_,_,a,b⟩:=gX (qs:=[vv L,f.p]) (by simp only[bH];exact⟨Ov L,DT f,trivial⟩) hS f4
   obtain⟨L',rfl⟩:=Ou a
   exact⟨L',b⟩
  have c5:∀a:FV A6,∃b:FV A6,bI Pg I.gY [a.p] b.p:=λa=>by
   obtain⟨_,_,a1,b1⟩:=gX (qs:=[a.p]) (by simp only[bH];exact⟨DT a,trivial⟩) hS f5
   obtain⟨b,rfl⟩:=HI a1
   exact⟨b,b1⟩
  have c6:∀a b:FV A6,∃c:FV A6,bI Pg I.iX [a.p,b.p] c.p:=λa b=>by
   obtain⟨_,_,a1,b1⟩:=gX (qs:=[a.p,b.p]) (by simp only[bH];exact⟨DT a,DT b,trivial⟩) hS f6
   obtain⟨b,rfl⟩:=HI a1
   exact⟨b,b1⟩
  have c7:∀a:FV A6,∃l:List Int,l.length=32∧bI Pg I.iY [a.p] (.ar 1 32 (iF l)):=λa=>by
   obtain⟨_,_,a1,b1⟩:=gX (qs:=[a.p]) (by simp only[bH];exact⟨DT a,trivial⟩) hS f7
   obtain⟨l,hl,rfl⟩:=mN a1
   exact⟨l,hl,b1⟩
  obtain⟨r,hr,hM⟩:=SC hk hq hc b1 b2 (λL=>Classical.choose_spec (c3 L)) (λL=>Classical.choose_spec (c4 L)) (λa=>Classical.choose_spec (c5 a)) (ti:=λa b=>Classical.choose (c6 a b)) (λa b=>Classical.choose_spec (c6 a b)) (λa=>Classical.choose_spec (c7 a))
  exact⟨_,sV hr,hM⟩
 |[],h=>simp[bH]at h
 |[_],h=>simp[bH]at h
 |_::_::_::_,h=>simp[bH]at h
end Go.Ab
end U3s
