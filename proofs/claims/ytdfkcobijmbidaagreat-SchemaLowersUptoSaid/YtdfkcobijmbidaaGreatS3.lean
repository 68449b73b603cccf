/- What each version keeps of a daemon. No condition. -/
import Derived.Test.YtdfkcobijmbidaaGreatS2
import Derived.Test.YtdfkcobijmbidaaGreatS1
import Derived.Test.YtdfkcobijmbidaaGreatB4
set_option maxRecDepth 10000
set_option maxHeartbeats 4000000
set_option linter.all false
noncomputable section S9s
namespace Go.Ab
open Go.Ab
theorem Tt (s:iK):af Pg I.fN [cy s] [] (λr fp=>r= .bl (!s.iO)∧fp=[]):=by
 refine af.intro T.fN (by simp[F.fN]) ?_
 simp[F.fN,an,aG]
 refine aM.plain [] ?_
 simp
def WU (v:FV ui):Prop:=∃w:sy,Wl w.top∧v=pr w
theorem WU.ex (v:FV ui):∃v':FV ui,∀w:sy,Wl w.top->v=pr w->v'=pr (pO w):=by
 by_cases h:WU v
 ·obtain⟨w,h1,rfl⟩:=h
  refine⟨pr (pO w),λw' h2 e=> ?_⟩
  have hp:wP w=wP w':=congrArg FV.p e
  obtain⟨a,b,c,d,f,g⟩:=w
  obtain⟨a',b',c',d',f',g'⟩:=w'
  simp[wP]at hp
  obtain⟨rfl,rfl,rfl,rfl,rfl,rfl⟩:=hp
  rfl
 ·exact⟨v,λw h1 e=>absurd ⟨w,h1,e⟩ h⟩
def GK (v:FV ui):FV ui:=Classical.choose (WU.ex v)
theorem xV {w:sy} (h:Wl w.top):GK (pr w)=pr (pO w):=Classical.choose_spec (WU.ex (pr w)) w h rfl
theorem O5 {v:FV ui} (h:WU v):bB Pg I.pP [v.p] (GK v).p:=by
 obtain⟨w,h1,rfl⟩:=h
 rw[xV h1]
 exact al7 h1
def tK (s:j9):j9:= {s with py:=GK s.py}
def BF (p:pq):pq:=if p.has=true then⟨true,tK p.iO⟩else p
def ko (r:kN) (k:Nat):kN:=⟨if 1≤k then BF r.p else r.p,if 2≤k then BF r.c else r.c,if 3≤k then BF r.n else r.n⟩
def LG (p:pq) (a:Bool×Int):Bool×Int:=if p.has=true then(if a.1=false∨a.2<p.iO.born then(true,p.iO.born)else a)else a
def xW (r:kN):Nat->Bool×Int
 |0=>(false,0)
 |k+1=>LG (mf r (k+1)) (xW r k)
theorem GL (r:kN) {k:Nat} (h:k<3):mf (ko r k) (k+1)=mf r (k+1):=by
 rcases(by omega:k=0∨k=1∨k=2)with rfl|rfl|rfl<;>simp[mf,ko]
theorem JP (r:kN) {k:Nat} (h:k<3) (hh:(mf r (k+1)).has=false):ko r (k+1)=ko r k:=by
 rcases(by omega:k=0∨k=1∨k=2)with rfl|rfl|rfl<;>simp[mf]at hh<;>simp[ko,BF,hh]
theorem GM (r:kN) {k:Nat} (h:k<3) (hh:(mf r (k+1)).has=true):xB (ko r k) (k+1) (tK (mf r (k+1)).iO)=ko r (k+1):=by
 rcases(by omega:k=0∨k=1∨k=2)with rfl|rfl|rfl<;>simp[mf]at hh<;>simp[ko,BF,hh,xB,mf]
def wO:List fX->PV
 |[]=> .sl 0 [] true
 |l=>db l
theorem wH {l:List fX} (h:l≠[]):wO l=db l:=by cases l<;>simp_all [wO]
@[simp] theorem adw (l:List fX):(wO l).width=1:=by cases l<;>rfl
@[simp] theorem apF (l:List fX):(wO l).isAgg=false:=by cases l<;>rfl
@[simp] theorem aml (l:List fX):(wO l).bp=true:=by cases l<;>rfl
@[simp↓] theorem apG (g:Bool) (l:List fX) (K:PV->Prop):il g (wO l) K=K (wO l):=by cases l<;>rfl
@[simp] theorem O6 (l:List fX):Pure (wO l):=by cases l<;>simp[wO]
theorem JQ (l:List fX) (t:fX):kX l t≠[]:=by simp[kX]
theorem Wp {l:List fX} (h:l.length≤1048575) (t:fX):bB Pg I.jW [wk (wO l),bU t] (wO (kX l t)):=by
 rw[wH (JQ l t)]
 have:=avD h t
 cases l with
 |nil=>exact af.nzA this (.cons (by simp only[wO,wk];exact .sl 0 34 false false (by simp) .nil) (CR.refl _)) .nil
 |
  cons x r=>
  have e:wk (wO (x::r))=db (x::r):=by rw[wH (by simp)];simp
  rw[e];exact this
def iU (e:bK) (p q c:PV):PV:=jX e p q c
theorem JR (e:bK) (p q c:PV):jX e p q c=iU e p q c:=rfl
@[simp] theorem Wq (e:bK) (p q c:PV):(iU e p q c).width=148:=_root_.id rfl
@[simp] theorem adx (e:bK) (p q c:PV):(iU e p q c).isAgg=true:=rfl
@[simp] theorem ZG (e:bK) (p q c:PV):(iU e p q c).bp=true:=rfl
@[simp] theorem ZH (e:bK) (p q c:PV):(iU e p q c).flat=true:=rfl
@[simp↓] theorem ady (g:Bool) (e:bK) (p q c:PV) (K:PV->Prop):il g (iU e p q c) K=K (iU e p q c):=_root_.id rfl
@[simp↓] theorem Tu (e:bK) (p q c:PV) (r:List Step):aQ (iU e p q c) (.f 0 0::r)=aQ (dU e.rules) r:=by simp[iU,jX]
@[simp↓] theorem Tv (e:bK) (p q c:PV) (r:List Step):aQ (iU e p q c) (.f 5 107::r)=aQ (.int .i64 e.now) r:=by simp[iU,jX,az]
@[simp↓] theorem Tw (e:bK) (p q c:PV) (r:List Step):aQ (iU e p q c) (.f 6 108::r)=aQ p r:=by simp[iU,jX,az]
@[simp↓] theorem Tx (e:bK) (p q c:PV) (hp:p.width=1) (hq:q.width=1) (r:List Step):aQ (iU e p q c) (.f 9 111::r)=aQ c r:=by simp[iU,jX,az,hp,hq]
@[simp↓] theorem Ty (e:bK) (p q c:PV) (hp:p.width=1) (hq:q.width=1) (r:List Step) (x:PV):di (iU e p q c) (.f 9 111::r) x=(di c r x).bind λc'=>some (iU e p q c'):=by simp[iU,jX,az,hp,hq]
@[simp] theorem Tz (f:Nat->Bool) (e:bK) (p q:PV) (l:List fX):ab f (iU e p q (wO l))=(ab f p&&ab f q):=by
 have:=EF f e p q
 have h4:ab f (db e.timers)=true:=(um _).refs f
 have h5:ab f (wO l)=true:=(O6 _).refs f
 rw[←this]
 simp[ft,iU,jX,ab,ae]
@[simp] theorem adz (ρ:Nat->Nat) (e:bK) (p q:PV) (l:List fX):aI ρ (iU e p q (wO l))=iU e (aI ρ p) (aI ρ q) (wO l):=by
 simp[iU,jX,aI,aO]
theorem GN (e:bK) (p q:PV) (l:List fX):Nz [iU e p q (wO l)] [ft {e with timers:=l} p q]:=by
 cases l with
 |nil=>exact .st 148 (.same _<| .same _<| .same _<| .same _<| .same _<| .same _<| .same _<| .same _<| .same _<| .sl 0 34 true false (by simp)<| .same _<| .same _<| .same _<| .same _<| .same _ .nil) .nil
 |cons x r=>exact .refl _
def jZ (e:dC):dC:= {e with hand:=qI,mP:=false,ot:=wN,qB:=0,CX:=wN,ring:=ko e.ring 3}
def yF (d:bK) (l:List fX) (e:dC):List fX:=
 let l1:=if(xW e.ring 3).1=true then kX l ⟨max (IntKind.i64.wrap ((xW e.ring 3).2+IntKind.i64.wrap (3*d.rules.lQ))) (IntKind.i64.wrap (d.now+1)),e.gC,5⟩else l
 if e.nI≠0 then kX l1 ⟨IntKind.i64.wrap (d.now+e.nI),e.gC,4⟩else l1
def PU (e:dC):Prop:=∀k,k=1∨k=2∨k=3->(mf e.ring k).has=true->WU (mf e.ring k).iO.py
theorem nG (l:List fX) (t:fX):(kX l t).length≤l.length+1:=by
 have h1:(dI l t.peer t.kind).length≤l.length:=List.length_filter_le _ _
 have h2:=vT t (dI l t.peer t.kind)
 simp only[kX,List.length_append,lJ,List.length_drop,List.length_cons,List.length_nil];omega
theorem Ix (d:bK) (l:List fX) (e:dC):(yF d l e).length≤l.length+2:=by
 unfold yF
 simp only
 split
 ·refine Nat.le_trans (nG _ _) ?_
  split
  ·have:=nG l ⟨max (IntKind.i64.wrap ((xW e.ring 3).2+IntKind.i64.wrap (3*d.rules.lQ))) (IntKind.i64.wrap (d.now+1)),e.gC,5⟩;omega
  ·omega
 ·split
  ·have:=nG l ⟨max (IntKind.i64.wrap ((xW e.ring 3).2+IntKind.i64.wrap (3*d.rules.lQ))) (IntKind.i64.wrap (d.now+1)),e.gC,5⟩;omega
  ·omega
theorem rH (d:bK):∀(ps:List dC) (l:List fX),(ps.foldl (yF d) l).length≤l.length+2*ps.length
 |[],l=>by simp
 |
  e::ps,l=>by
  have h1:=rH d ps (yF d l e)
  have h2:=Ix d l e
  simp only[List.foldl_cons,List.length_cons];omega
theorem Iy {d:bK} {ps:List dC} {S:List iK} (hl:ps.length≤100000) (hS:S.length≤1048576) (hw:∀e∈ps,PU e):
  af Pg I.fw [ft d (.rs KB [] 0 ps.length ps.length 464 .tip) (.rs (KB+1) [] 0 S.length S.length 34 .tip)] [.arr 464 (ps.map aC),.arr 34 (S.map cy)] (λr fp=>r=iU d (.rs KB [] 0 ps.length ps.length 464 .tip) (.rs (KB+1) [] 0 (S.filter λx=>x.iO).length S.length 34 .tip) (wO (ps.foldl (yF d) []))∧fp=[.arr 464 ((ps.map jZ).map aC),.arr 34 ((S.filter λx=>x.iO).map cy++List.replicate (S.length-(S.filter λx=>x.iO).length) EE)]):=by
 refine af.intro T.fw (by simp[F.fw]) ?_
 have hdl:=avC (L:=S) hS (g:=I.fN) (q:=λs=> !s.iO) (λx _=>Tt x)
 simp only[Bool.not_not]at hdl
 have tv:aB (S.map cy):=bR iT S
 obtain⟨D,d0,dn,dg,ds,dl,dp⟩:=BE aC (λe=>aC (jZ e)) ps
 have dp:=dp eG (λ_=>eG _)
 simp[F.fw,an,aG]
 have rY:(S.filter λx=>x.iO).length≤S.length:=List.length_filter_le _ _
 obtain⟨J,hJe,hJ,hJl⟩:∃J,List.replicate (S.length-(S.filter λx=>x.iO).length) EE=J∧aB J∧J.length=S.length-(S.filter λx=>x.iO).length:=⟨_,rfl,aB.mk' λp hp=>by rw[List.eq_of_mem_replicate hp];simp[EE],by simp⟩
 rw[hJe]at hdl⊢
 have jc:aB ((S.filter λx=>x.iO).map cy++J):=(bR iT _).append hJ
 have wR:((S.filter λx=>x.iO).map cy++J).length=S.length:=by simp;omega
 generalize hKd:(S.filter λx=>x.iO)=Kp at*
 refine al.gen [KB+1] [] [.arr 34 (S.map cy)] hdl (by simp[getAll]) (by simp) (by simp) (by simp[ae,ab,bj,idx]) (by simp[ah]) (by simp[aO,aI,aV,idx]) (by simp[aZ]) (by simp[ah,ab,fY,jc.refs]) ?_
 simp[bI,aZ,aI,eP,jc.aI,JR]
 rw[←d0]
 have E3:∀i,i≤ps.length->((ps.take i).foldl (yF d) []).length≤1000000:=λi hi=>by
  have:=rH d (ps.take i) []
  rw[lJ]at this
  simp only[List.length_nil]at this;omega
 refine jh.jY ps.length (λ_=>True) [1,2,16,17] (λi=>[(17,.int .i64 i)]) (λi=>[(1,.box (iU d (.rs KB [] 0 ps.length ps.length 464 .tip) (.rs (KB+1) [] 0 Kp.length S.length 34 .tip) (wO ((ps.take i).foldl (yF d) [])))),(KB,.arr 464 (D i))]) [.keep [1,2,16,17]] ?_
 simp
 refine⟨by simp[wO],λi hi K hK=> ?_,λK=> ?_⟩
 ·have hx:=dg i hi
  have Ua:=ds i hi
  have Ub:=dl i
  have wi:IntKind.i64.wrap ((i:Int)+1)=(i:Int)+1:=wrap_i64 (by omega)
  have uU:=hw ps[i] (List.getElem_mem hi)
  have Qy:=E3 i (by omega)
  have hts:(ps.take (i+1)).foldl (yF d) []=yF d ((ps.take i).foldl (yF d) []) ps[i]:=by
   rw[List.take_succ_eq_append_getElem hi,List.foldl_append];rfl
  rw[hts]at hK
  generalize (ps.take i).foldl (yF d) []=tl at*
  generalize ps[i]=e at*
  obtain⟨X,X0,Xd,Xg,Xs,Xl,Xp⟩:∃X:PV->List PV,X (aC e)=D i∧X (aC (jZ e))=D (i+1)∧(∀a,(X a)[i]? =some a)∧(∀a b,(X a).set i b=X b)∧(∀a,(X a).length=ps.length)∧(∀a,Pure a->aB (X a)):=by
   refine⟨λa=>(D i).set i a,?_,Ua,λa=> ?_,λa b=>List.set_set ..,λa=>by rw[List.length_set,Ub],λa ha=>aB.mk' λx hx=> ?_⟩
   ·apply List.ext_getElem?
    intro j
    rw[List.getElem?_set]
    split
    ·rename_i h;subst h
     rw[if_pos (by omega),hx]
    ·rfl
   ·rw[List.getElem?_set_self (by omega)]
   ·rcases List.mem_or_eq_of_mem_set hx with h|rfl
    ·exact(dp i).forget x h
    ·exact ha
  rw[←X0]
  rw[←Xd]at hK
  have z8:∀e:dC,su e (.st 100 [.bl false,.int .u32 0,.ar 1 32 (zr 32 (.int .u8 0)),.st 64 [.ar 1 32 (zr 32 (.int .u8 0)),.ar 1 32 (zr 32 (.int .u8 0))],.int .i64 0,.int .i64 0])=aC {e with hand:=qI}:=λ_=>rfl
  have z10:∀e:dC,qC e (.ar 1 16 (zr 16 (.int .u8 0)))=aC {e with ot:=wN}:=λ_=>rfl
  have Es:∀e:dC,qD e (.ar 1 16 (zr 16 (.int .u8 0)))=aC {e with CX:=wN}:=λ_=>rfl
  simp[↓av,hi,Xg,Xs,Xl,z8,z10,Es,-getElem?_pos]
  refine jh.jY 3 (λ_=>True) [1,2,4,5,6,7,16,17] (λk=>[(5,.bl (xW e.ring k).1),(6,.int .i64 (xW e.ring k).2),(7,.int .i64 ((k:Int)+1))]) (λk=>[(KB,.arr 464 (X (aC {e with hand:=qI,mP:=false,ot:=wN,qB:=0,CX:=wN,ring:=ko e.ring k})))]) [.keep [1,2,4,5,6,7,16,17]] ?_
  have r0:ko e.ring 0=e.ring:=by simp[ko]
  have y7:xW e.ring 0=(false,0):=rfl
  simp[r0,y7]
  refine⟨λk hk K2 xY=> ?_,λK2=> ?_⟩
  ·have hg:bB Pg I.gu [ee (ko e.ring k),.int .i64 ((k:Int)+1)] (gP (mf e.ring (k+1))):=by
    have:=gu (ko e.ring k) (k:=k+1) (by omega)
    rw[GL e.ring hk]at this
    rw[show(k:Int)+1=((k+1:Nat):Int) by omega];exact this
   have xZ:∀x,bB Pg I.gv [ee (ko e.ring k),.int .i64 ((k:Int)+1),fO x] (ee (xB (ko e.ring k) (k+1) x)):=λx=>by
    have:=gv (ko e.ring k) (k:=k+1) (by omega) x
    rw[show(k:Int)+1=((k+1:Nat):Int) by omega];exact this
   rw[show xW e.ring (k+1)=LG (mf e.ring (k+1)) (xW e.ring k) from rfl]at xY
   have Mi:=uU (k+1) (by omega)
   have GW:=JP e.ring hk
   have hpt:=GM e.ring hk
   have hk3:(k:Int)+1≤3:=by omega
   have wk':IntKind.i64.wrap ((k:Int)+1+1)=(k:Int)+1+1:=wrap_i64 (by omega)
   generalize xW e.ring k=ac at*
   generalize mf e.ring (k+1)=pl at*
   generalize ko e.ring k=rk at*
   generalize ko e.ring (k+1)=rk1 at*
   simp[↓av,hk3,Xg,Xl,-getElem?_pos]
   refine al.ret hg (by simp) (by simp) (by simp) ?_
   by_cases hh:pl.has=true
   ·simp[hh]
    refine⟨λhb=> ?_,λWA EN=> ?_⟩
    ·refine al.ret (O5 (Mi hh)) (by simp) (by simp) (by simp) ?_
     simp[Xg,Xl,-getElem?_pos]
     refine a0.ret (xZ (tK pl.iO)) (by simp[tK]) (by simp) (by simp) ?_
     simp[Xg,Xs,Xl,wk',-getElem?_pos]
     rw[hpt hh]
     refine⟨[.keep [1,2,4,5,6,7,16,17],.dr 8],?_⟩
     simp[cr,dx,ab,ae,ah]
     refine⟨⟨(Xp _ (by simp)).refs _,hJ.refs _⟩,xY _ ?_⟩
     have EL:LG pl ac=(true,pl.iO.born):=by rw[LG,if_pos hh,if_pos hb]
     simp[EL]
    ·refine al.ret (O5 (Mi hh)) (by simp) (by simp) (by simp) ?_
     simp[Xg,Xl,-getElem?_pos]
     refine a0.ret (xZ (tK pl.iO)) (by simp[tK]) (by simp) (by simp) ?_
     simp[Xg,Xs,Xl,wk',-getElem?_pos]
     rw[hpt hh]
     refine⟨[.keep [1,2,4,5,6,7,16,17],.dr 8],?_⟩
     simp[cr,dx,ab,ae,ah]
     refine⟨⟨(Xp _ (by simp)).refs _,hJ.refs _⟩,xY _ ?_⟩
     have EL:LG pl ac=ac:=by rw[LG,if_pos hh,if_neg (by rintro(h|h)<;>simp_all<;>omega)]
     simp[EL]
   ·have hh:pl.has=false:=by simpa using hh
    simp[hh]
    refine⟨[.keep [1,2,4,5,6,7,16,17],.dr 8],?_⟩
    simp[wk',cr,dx,ab,ae,ah]
    exact⟨⟨(Xp _ (by simp)).refs _,hJ.refs _⟩,xY _ (by simp[LG,hh,GW hh])⟩
  ·have aa0:({gC:=e.gC,shared:=e.shared,lF:=e.lF,ep:=e.ep,nI:=e.nI,pJ:=e.pJ,pK:=e.pK,tn:=e.tn,hand:=qI,mP:=false,ot:=wN,qB:=0,CX:=wN,ring:=ko e.ring 3,aW:=e.aW}:dC)=jZ e:=rfl
   have Uc:yF d tl e=(if e.nI≠0 then kX (if(xW e.ring 3).1=true then kX tl ⟨max (IntKind.i64.wrap ((xW e.ring 3).2+IntKind.i64.wrap (3*d.rules.lQ))) (IntKind.i64.wrap (d.now+1)),e.gC,5⟩else tl) ⟨IntKind.i64.wrap (d.now+e.nI),e.gC,4⟩else(if(xW e.ring 3).1=true then kX tl ⟨max (IntKind.i64.wrap ((xW e.ring 3).2+IntKind.i64.wrap (3*d.rules.lQ))) (IntKind.i64.wrap (d.now+1)),e.gC,5⟩else tl)):=rfl
   have yd:=Wp (l:=tl) (by omega)
   have Dp:=nG tl
   have PI:=λt=>Wp (l:=kX tl t) (by have:=Dp t;omega)
   rw[aa0]
   have lk1:(jZ e).nI=e.nI:=rfl
   have lk2:(jZ e).gC=e.gC:=rfl
   have QG:Pure (aC (jZ e)):=by simp
   have hdg:∀e':dC,(aC e').isAgg=true:=λ_=>by simp
   generalize xW e.ring 3=hb at*
   generalize jZ e=le at*
   by_cases h1:hb.1=true
   ·by_cases h2:e.nI=0
    ·simp[↓av,h1,lk2,Xg,Xl,-getElem?_pos]
     refine a0.ret (yd (⟨max (IntKind.i64.wrap (hb.2+IntKind.i64.wrap (3*d.rules.lQ))) (IntKind.i64.wrap (d.now+1)),e.gC,5⟩:fX)) (by simp[bU]) (by simp) (by simp) ?_
     simp[↓av,h2,lk1,Xg,Xl,wi,-getElem?_pos]
     refine⟨[.keep [1,2,16,17]],?_⟩
     simp
     exact hK _ (by simp[Uc,h1,h2])
    ·simp[↓av,h1,lk2,Xg,Xl,-getElem?_pos]
     refine a0.ret (yd (⟨max (IntKind.i64.wrap (hb.2+IntKind.i64.wrap (3*d.rules.lQ))) (IntKind.i64.wrap (d.now+1)),e.gC,5⟩:fX)) (by simp[bU]) (by simp) (by simp) ?_
     simp[h2,lk1,lk2,Xg,Xl,-getElem?_pos]
     refine a0.ret (PI (⟨max (IntKind.i64.wrap (hb.2+IntKind.i64.wrap (3*d.rules.lQ))) (IntKind.i64.wrap (d.now+1)),e.gC,5⟩:fX) (⟨IntKind.i64.wrap (d.now+e.nI),e.gC,4⟩:fX)) (by simp[bU]) (by simp) (by simp) ?_
     simp[↓av,wi,-getElem?_pos]
     refine⟨[.keep [1,2,16,17]],?_⟩
     simp
     exact hK _ (by simp[Uc,h1,h2])
   ·have h1:hb.1=false:=by simpa using h1
    by_cases h2:e.nI=0
    ·simp[↓av,h1,h2,lk1,Xg,Xl,wi,-getElem?_pos]
     refine⟨[.keep [1,2,16,17]],?_⟩
     simp
     exact hK _ (by simp[Uc,h1,h2])
    ·simp[↓av,h1,h2,lk1,lk2,Xg,Xl,-getElem?_pos]
     refine a0.ret (yd (⟨IntKind.i64.wrap (d.now+e.nI),e.gC,4⟩:fX)) (by simp[bU]) (by simp) (by simp) ?_
     simp[↓av,wi,-getElem?_pos]
     refine⟨[.keep [1,2,16,17]],?_⟩
     simp
     exact hK _ (by simp[Uc,h1,h2])
 ·simp[↓av,↓av]
  rw[dn]
  have td:aB (ps.map λe=>aC (jZ e)):=aB.map (λ_=>eG _) ps
  have Mc:ps.map (aC∘jZ)=ps.map λe=>aC (jZ e):=rfl
  rw[Mc]
  generalize (ps.map λe=>aC (jZ e))=PL at*
  generalize hSL:Kp.map cy++J=SL at*
  refine aM.with [] [KB,KB+1] ?_
  simp[ah,ab,aZ,aI,td.refs,td.aI,jc.refs,jc.aI]
theorem ZI {d:bK} {ps:List dC} {S:List iK} (hl:ps.length≤100000) (hS:S.length≤1048576) (hw:∀e∈ps,PU e):
  af Pg I.fw [ft d (.rs KB [] 0 ps.length ps.length 464 .tip) (.rs (KB+1) [] 0 S.length S.length 34 .tip)] [.arr 464 (ps.map aC),.arr 34 (S.map cy)] (λr fp=>r=ft {d with timers:=ps.foldl (yF d) []} (.rs KB [] 0 ps.length ps.length 464 .tip) (.rs (KB+1) [] 0 (S.filter λx=>x.iO).length S.length 34 .tip)∧fp=[.arr 464 ((ps.map jZ).map aC),.arr 34 ((S.filter λx=>x.iO).map cy++List.replicate (S.length-(S.filter λx=>x.iO).length) EE)]):=by
 refine(Iy hl hS hw).nz ?_
 rintro r fp ⟨rfl,rfl⟩
 exact⟨_,_,GN _ _ _ _,.cons (.same _) (.cons (.same _) .nil),rfl,rfl⟩
end Go.Ab
end S9s
noncomputable section S10s
namespace Go.Ab
open Go.Ab
def EY (ps:List dC):Nat->List dC
 |0=>ps
 |1=>ps.map ke
 |_=>(ps.map ke).map jZ
def G6 (d:bK) (ps:List dC):Nat->bK
 |0=>d
 |1=> {d with bD:=[],buckets:=[],bad:=0}
 |_=> {d with bD:=[],buckets:=[],bad:=0,timers:=(ps.map ke).foldl (yF {d with bD:=[],buckets:=[],bad:=0}) []}
def EZ (S:List iK):Nat->List PV
 |0=>S.map cy
 |1=>S.map cy
 |_=>(S.filter λx=>x.iO).map cy++List.replicate (S.length-(S.filter λx=>x.iO).length) EE
def LH (S:List iK):Nat->Nat
 |0=>S.length
 |1=>S.length
 |_=>(S.filter λx=>x.iO).length
def LI:Nat->List PV
 |0=>[]
 |1=>[.fn (.func I.eA) [] []]
 |_=>[.fn (.func I.eA) [] [],.fn (.func I.fw) [] []]
theorem TA {m:Nat} (h:m≤2):(LI m).length=m:=by
 rcases(by omega:m=0∨m=1∨m=2)with rfl|rfl|rfl<;>rfl
theorem amm {m:Nat} (h:0<m):(LI m)[0]? =some (.fn (.func I.eA) [] []):=by
 match m,h with
 |1,_=>rfl
 |m+2,_=>rfl
theorem amn {m:Nat} (h:1<m):(LI m)[1]? =some (.fn (.func I.fw) [] []):=by
 match m,h with
 |m+2,_=>rfl
theorem GO (m:Nat):aB (LI m):=by
 match m with
 |0=>simp[LI]
 |1=>simp[LI]
 |m+2=>simp[LI]
theorem JS {e:dC} (h:PU e):PU (ke e):=h
theorem TB (ps:List dC) (m:Nat):(EY ps m).length=ps.length:=by
 match m with
 |0=>rfl
 |1=>simp[EY]
 |m+2=>simp[EY]
theorem LJ:Pure EE:=by simp[EE]
theorem BG (S:List iK) (m:Nat):aB (EZ S m):=by
 have h:∀l:List iK,aB (l.map cy):=λl=>bR iT l
 match m with
 |0=>exact h S
 |1=>exact h S
 |m+2=>exact(h _).append (aB.mk' λp hp=>by rw[List.eq_of_mem_replicate hp];exact LJ)
theorem TC (S:List iK) (m:Nat):(EZ S m).length=S.length:=by
 have:=List.length_filter_le (λx:iK=>x.iO) S
 match m with
 |0=>simp[EZ]
 |1=>simp[EZ]
 |m+2=>simp[EZ];omega
theorem ZJ {d:bK} {ps:List dC} {S:List iK} {m:Nat} (hm:m≤2) (hl:ps.length≤100000) (hS:S.length≤1048576) (hw:∀e∈ps,PU e):
  af Pg I.iF [ft d (.rs KB [] 0 ps.length ps.length 464 .tip) (.rs (KB+1) [] 0 S.length S.length 34 .tip),.sl 1 (LI m) false] [.arr 464 (ps.map aC),.arr 34 (S.map cy)] (λr fp=>r=ft (G6 d ps m) (.rs KB [] 0 ps.length ps.length 464 .tip) (.rs (KB+1) [] 0 (LH S m) S.length 34 .tip)∧fp=[.arr 464 ((EY ps m).map aC),.arr 34 (EZ S m)]):=by
 refine af.intro T.iF (by simp[F.iF]) ?_
 have Py:=TA hm
 have f0:=λh=>amm (m:=m) h
 have f1:=λh=>amn (m:=m) h
 have hfp:=GO m
 have tv:∀l:List dC,aB (l.map aC):=λl=>bR eG l
 have TS:aB (S.map cy):=bR iT S
 generalize LI m=fs at*
 simp[F.iF,an,aG,Py]
 refine jh.jY m (λ_=>True) [2,4,7,8,9] (λi=>[(9,.int .i64 i)]) (λi=>[(2,.box (ft (G6 d ps i) (.rs KB [] 0 ps.length ps.length 464 .tip) (.rs (KB+1) [] 0 (LH S i) S.length 34 .tip))),(KB,.arr 464 ((EY ps i).map aC)),(KB+1,.arr 34 (EZ S i))]) [.keep [2,4,7,8,9]] ?_
 have d0:G6 d ps 0=d:=rfl
 have p0:EY ps 0=ps:=rfl
 have n0:LH S 0=S.length:=rfl
 have t0:EZ S 0=S.map cy:=rfl
 have d1:G6 d ps 1= {d with bD:=[],buckets:=[],bad:=0}:=rfl
 have p1:EY ps 1=ps.map ke:=rfl
 have n1:LH S 1=S.length:=rfl
 have t1:EZ S 1=S.map cy:=rfl
 have d2:G6 d ps 2= {d with bD:=[],buckets:=[],bad:=0,timers:=(ps.map ke).foldl (yF {d with bD:=[],buckets:=[],bad:=0}) []}:=rfl
 have p2:EY ps 2=(ps.map ke).map jZ:=rfl
 have n2:LH S 2=(S.filter λx=>x.iO).length:=rfl
 have t2:EZ S 2=(S.filter λx=>x.iO).map cy++List.replicate (S.length-(S.filter λx=>x.iO).length) EE:=rfl
 simp[d0,p0,n0,t0]
 refine⟨λi hi K hK=> ?_,λK=> ?_⟩
 ·rcases(by omega:i=0∨i=1)with rfl|rfl
  ·have f0:=f0 hi
   have E4:=Ts (d:=d) (ps:=ps) (S:=S.map cy) (n:=S.length) (by omega) TS (by simp)
   have PH:=tv ps
   have tc:=tv (ps.map ke)
   have h0m:(0:Int)<m:=by omega
   simp only[d0,p0,n0,t0]
   simp only[Nat.zero_add,d1,p1,n1,t1]at hK
   generalize (ps.map ke).map aC=P2 at*
   simp[↓av,hi,Py,f0,-getElem?_pos]
   refine al.gen [KB,KB+1] [] [.arr 464 (ps.map aC),.arr 34 (S.map cy)] E4 (by simp[getAll]) (by simp) (by simp) (by simp[ae,ab,bj,idx]) (by simp[ah]) (by simp[aO,aI,aV,idx]) (by simp[aZ]) (by simp[ah,ab,fY,tc.refs]) ?_
   simp[bI,aZ,aI,eP,tc.aI]
   refine⟨[.keep [2,4,7,8,9]],?_⟩
   simp
   exact hK _ (by simp)
  ·have f1:=f1 hi
   have E4:=ZI (d:=G6 d ps 1) (ps:=ps.map ke) (S:=S) (by simpa using hl) hS (λe he=>by obtain⟨e',h',rfl⟩:=List.mem_map.1 he;exact JS (hw e' h'))
   rw[List.length_map]at E4
   have LR: {G6 d ps 1 with timers:=(ps.map ke).foldl (yF (G6 d ps 1)) []}=G6 d ps 2:=rfl
   rw[LR,←t2,←n2,←p2]at E4
   have PH:=tv (ps.map ke)
   have tc:=tv (EY ps 2)
   have Du:=BG S 2
   have h0m:(1:Int)<m:=by omega
   have h01:((1:Nat):Int)=1:=rfl
   simp only[p1,n1,t1]
   simp only[show 1+1=2 from rfl]at hK
   generalize G6 d ps 1=dd1 at*
   generalize G6 d ps 2=dd2 at*
   generalize (EY ps 2).map aC=P2 at*
   generalize EZ S 2=S2 at*
   generalize LH S 2=N2 at*
   generalize hP1:(ps.map ke).map aC=P1 at*
   simp[↓av,h0m,Py,f1,h01,-getElem?_pos]
   refine al.gen [KB,KB+1] [] [.arr 464 P1,.arr 34 (S.map cy)] E4 (by simp[getAll]) (by simp) (by simp) (by simp[ae,ab,bj,idx]) (by simp[ah,PH.refs]) (by simp[aO,aI,aV,idx]) (by simp[aZ,PH.aI]) (by simp[ah,ab,fY,Du.refs,tc.refs]) ?_
   simp[bI,aZ,aI,eP,Du.aI,tc.aI]
   refine⟨[.keep [2,4,7,8,9]],?_⟩
   simp
   exact hK _ (by simp)
 ·have tc:=tv (EY ps m)
  have Du:=BG S m
  generalize (EY ps m).map aC=P2 at*
  generalize EZ S m=S2 at*
  simp[↓av,↓av]
  refine aM.with [] [KB,KB+1] ?_
  simp[ah,ab,aZ,aI,tc.refs,tc.aI,Du.refs,Du.aI]
def Im (S:List iK) (m:Nat):List iK:=if m≤1 then S else S.filter λx=>x.iO
def pv (d:bK) (m:Nat):bK:= {G6 d d.aj m with aj:=EY d.aj m,aD:=Im d.aD m}
theorem O7 (S:List iK) (m:Nat):(EZ S m).take (LH S m)=(Im S m).map cy:=by
 match m with
 |0=>simp[EZ,LH,Im]
 |1=>simp[EZ,LH,Im]
 |m+2=>simp[EZ,LH,Im]
theorem ZK (S:List iK) (m:Nat):LH S m≤S.length:=by
 match m with
 |0=>simp[LH]
 |1=>simp[LH]
 |m+2=>exact List.length_filter_le _ _
theorem Iz {d:bK} (h:uo d) (hp:d.aj.length≤100000) (hw:∀e∈d.aj,PU e) {m:Nat} (hm:m≤2):bB Pg I.eB [dY d,.int .i64 (3-m)] (.tup [dY (pv d m),.int .i64 0]):=by
 refine af.intro T.eB (by simp[F.eB]) ?_
 have g1:¬(3-(m:Int))<1:=by omega
 have g2:¬3<(3-(m:Int)):=by omega
 have w1:IntKind.i64.wrap (3-(3-(m:Int)))=m:=by rw[wrap_i64 (by omega)];omega
 simp[F.eB,an,aG,g1,g2]
 have ht:List.take m [PV.fn (.func I.eA) [] [],.fn (.func I.fw) [] []]=LI m:=by
  rcases(by omega:m=0∨m=1∨m=2)with rfl|rfl|rfl<;>rfl
 have hfp:=GO m
 have pS:jO (LI m)=LI m:=by rcases(by omega:m=0∨m=1∨m=2)with rfl|rfl|rfl<;>simp[LI]
 have jc:=ZJ (d:=d) (ps:=d.aj) (S:=d.aD) hm hp h.aD hw
 have PH:aB (d.aj.map aC):=bR eG _
 have yG:aB (d.aD.map cy):=bR iT _
 have tc:aB ((EY d.aj m).map aC):=bR eG _
 have yZ:=BG d.aD m
 refine ny.run [16,30] rfl ?_
 simp[w1,ht]
 refine⟨by omega,?_⟩
 refine al.gen [] [16,30] [] (kR h) (by simp) (by simp) (by simp) (by simp[ae]) (by simp) (by simp[aO]) (by simp) (by simp[ah,ab,fY]) ?_
 simp[bI,aZ,aI,eP]
 refine al.gen [16,30] [] [.arr 464 (d.aj.map aC),.arr 34 (d.aD.map cy)] jc (by simp[getAll]) (by simp) (by simp) (by simp[ae,ab,bj,idx,hfp.refs]) (by simp[ah]) (by simp[aO,aI,aV,idx,hfp.aI,pS]) (by simp[aZ]) (by simp[ah,ab,fY,yZ.refs]) ?_
 simp[bI,aZ,aI,eP,yZ.aI]
 refine aM.plain [.fz 16,.fz 30] ?_
 have EU:=TB d.aj m
 have hl3:=TC d.aD m
 have hl4:=ZK d.aD m
 have hfz:∀l0,im 16 464 l0 (EZ d.aD m)=EZ d.aD m:=λl0=>nk _ (yZ.refs _)
 have zX:List.take d.aj.length ((EY d.aj m).map aC)=(EY d.aj m).map aC:=tJ (by simp[EU])
 have J1:Pure (dY (pv d m)):=by simp
 simp[yZ.refs,EU,hl3,hl4,hfz,zX,O7]
 exact⟨J1,rfl⟩
def LK:xv:=⟨0,0,0,0,0,0,0,0,0,0⟩
def nc:bK:=⟨LK,Jx,Jx,0,Jx,0,[],[],[],[],Jx,0,[],[],0⟩
theorem LL (d:bK) {v:Int} (hv:v<1∨3<v):bB Pg I.eB [dY d,.int .i64 v] (.tup [dY nc,.int .i64 17]):=by
 refine af.nzT (l:=[.st 148 [dU LK,.ar 1 32 (zr 32 (.int .u8 0)),.ar 1 32 (zr 32 (.int .u8 0)),.int .i64 0,.ar 1 32 (zr 32 (.int .u8 0)),.int .i64 0,.sl 464 [] true,.sl 50 [] true,.sl 34 [] true,.sl 34 [] true,.ar 1 32 (zr 32 (.int .u8 0)),.int .i64 0,.sl 1 [] true,.sl 19 [] true,.int .i64 0],.int .i64 17]) (l':=[dY nc,.int .i64 17]) ?_ ?_ ⟨rfl,rfl⟩
 ·refine af.intro T.eB (by simp[F.eB]) ?_
  rcases hv with hv|hv
  ·simp[F.eB,an,aG,hv]
   refine aM.plain [] ?_
   simp
   rfl
  ·have uK:¬v<1:=by omega
   simp[F.eB,an,aG,hv,uK]
   refine aM.plain [] ?_
   simp
   rfl
 ·exact .cons (.st 148 (.same _<| .same _<| .same _<| .same _<| .same _<| .same _<| .sl 464 464 true false (by simp)<| .sl 50 50 true false (by simp)<| .sl 34 34 true false (by simp)<| .sl 34 34 true false (by simp)<| .same _<| .same _<| .sl 1 1 true false (by simp)<| .sl 19 19 true false (by simp)<| .same _ .nil) .nil) (CR.refl _)
end Go.Ab
end S10s
noncomputable section S12s
namespace Go.Ab
open Go.Ab
theorem eT (r:kN) {k:Nat} (h:k=1∨k=2∨k=3) (x:j9):bB Pg I.eT [ee r,.int .i64 k,fO x] (ee (xB r k x)):=by
 refine af.intro T.eT (by simp[F.eT]) ?_
 have z:PV.st 77 [PV.bl true,fO x]=gP ⟨true,x⟩:=rfl
 rcases h with rfl|rfl|rfl
 all_goals simp[F.eT,an,aG,z]
 all_goals refine aM.plain [] ?_
 all_goals simp[xB]
 all_goals rfl
theorem LM (k sz:Nat) (l:List PV) (e:bK) (p q c:PV):gq k sz l (iU e p q c)=iU e (gq k sz l p) (gq k sz l q) (gq k sz l c):=by
 simp[iU,jX,gq,im]
theorem O8 {v:FV ui} (h:WU v):bB Pg I.j5 [v.p] (GK v).p:=by
 obtain⟨w,h1,rfl⟩:=h
 rw[xV h1]
 exact al8 h1
theorem Wr {l:List fX} (h:l.length≤1048575) (t:fX):bB Pg I.cu [wk (wO l),bU t] (wO (kX l t)):=by
 rw[wH (JQ l t)]
 have:=cu h t
 cases l with
 |nil=>exact af.nzA this (.cons (by simp only[wO,wk];exact .sl 0 34 false false (by simp) .nil) (CR.refl _)) .nil
 |
  cons x r=>
  have e:wk (wO (x::r))=db (x::r):=by rw[wH (by simp)];simp
  rw[e];exact this
def fS (S:List iK) (i:Nat):List iK:=(S.take i).filter λx=>x.iO
theorem TD {S:List iK} {i:Nat} (h:i<S.length):fS S (i+1)=fS S i++(if S[i].iO=true then [S[i]]else []):=kO (λx:iK=>x.iO) h
theorem amo (S:List iK) (i:Nat):(fS S i).length≤i:=oY (λx:iK=>x.iO) S i
theorem ZL (S:List iK):fS S S.length=S.filter λx=>x.iO:=by unfold fS;rw[List.take_length]
theorem LN {d:bK} {ps:List dC} (hl:ps.length≤100000) (hS:d.aD.length≤1048576) (hw:∀e∈ps,PU e):
  af Pg I.eC [br d (.rs KB [] 0 ps.length ps.length 464 .tip)] [.arr 464 (ps.map aC)] (λr fp=>r=iU d (.rs KB [] 0 ps.length ps.length 464 .tip) (cZ (d.aD.filter λx=>x.iO)) (wO (ps.foldl (yF d) []))∧fp=[.arr 464 ((ps.map jZ).map aC)]):=by
 refine af.intro T.eC (by simp[F.eC]) ?_
 obtain⟨D,d0,dn,dg,ds,dl,dp⟩:=BE aC (λe=>aC (jZ e)) ps
 have dp:=dp eG (λ_=>eG _)
 have tv:aB (ps.map aC):=bR eG ps
 simp[F.eC,an,aG]
 refine jh.jY d.aD.length (λ_=>True) [1,2,3,13,14,15] (λi=>[(3,.rs 3 [] 0 (fS d.aD i).length (fS d.aD i).length 34 .tip),(15,.int .i64 i)]) (λi=>[(3,.arr 34 ((fS d.aD i).map cy))]) [.keep [1,2,3,13,14,15],.vt 3 3 34] ?_
 simp[show fS d.aD 0=[] from rfl]
 refine⟨λi hi K hK=> ?_,λK=> ?_⟩
 ·have hx:d.aD[i]? =some d.aD[i]:=gJ hi
  have hA:=amo d.aD i
  rw[TD hi]at hK
  generalize d.aD[i]=p at*
  generalize fS d.aD i=A at*
  simp[↓av,hx,hi,-getElem?_pos]
  by_cases h1:p.iO=true
  ·simp[h1,fG hi hS]
   refine⟨by omega,[.keep [1,2,3,13,14,15],.dr 5],?_⟩
   simp[cr,dx,ab,ah]
   exact hK _ (by simp[h1])
  ·simp[h1,fG hi hS]
   refine⟨[.keep [1,2,3,13,14,15],.dr 5],?_⟩
   simp[cr,dx,ab,ah]
   exact hK _ (by simp[h1])
 rw[ZL]
 have rY:(d.aD.filter λx=>x.iO).length≤d.aD.length:=List.length_filter_le _ _
 generalize hKd:(d.aD.filter λx=>x.iO)=Kp at*
 simp[↓av,BD,JR]
 rw[←d0]
 have E3:∀i,i≤ps.length->((ps.take i).foldl (yF d) []).length≤1000000:=λi hi=>by
  have:=rH d (ps.take i) []
  rw[lJ]at this
  simp only[List.length_nil]at this;omega
 refine jh.jY ps.length (λ_=>True) [1,2,31,32] (λi=>[(32,.int .i64 i)]) (λi=>[(1,.box (iU d (.rs KB [] 0 ps.length ps.length 464 .tip) (cZ Kp) (wO ((ps.take i).foldl (yF d) [])))),(KB,.arr 464 (D i))]) [.fz 3,.keep [1,2,31,32]] ?_
 simp[LM,gq,im,cZ,(dp 0).gq]
 refine⟨by simp[wO],λi hi K hK=> ?_,λK=> ?_⟩
 ·have hx:=dg i hi
  have Ua:=ds i hi
  have Ub:=dl i
  have wi:IntKind.i64.wrap ((i:Int)+1)=(i:Int)+1:=wrap_i64 (by omega)
  have uU:=hw ps[i] (List.getElem_mem hi)
  have Qy:=E3 i (by omega)
  have hts:(ps.take (i+1)).foldl (yF d) []=yF d ((ps.take i).foldl (yF d) []) ps[i]:=by
   rw[List.take_succ_eq_append_getElem hi,List.foldl_append];rfl
  rw[hts]at hK
  generalize (ps.take i).foldl (yF d) []=tl at*
  generalize ps[i]=e at*
  obtain⟨X,X0,Xd,Xg,Xs,Xl,Xp⟩:∃X:PV->List PV,X (aC e)=D i∧X (aC (jZ e))=D (i+1)∧(∀a,(X a)[i]? =some a)∧(∀a b,(X a).set i b=X b)∧(∀a,(X a).length=ps.length)∧(∀a,Pure a->aB (X a)):=by
   refine⟨λa=>(D i).set i a,?_,Ua,λa=> ?_,λa b=>List.set_set ..,λa=>by rw[List.length_set,Ub],λa ha=>aB.mk' λx hx=> ?_⟩
   ·apply List.ext_getElem?
    intro j
    rw[List.getElem?_set]
    split
    ·rename_i h;subst h
     rw[if_pos (by omega),hx]
    ·rfl
   ·rw[List.getElem?_set_self (by omega)]
   ·rcases List.mem_or_eq_of_mem_set hx with h|rfl
    ·exact(dp i).forget x h
    ·exact ha
  rw[←X0]
  rw[←Xd]at hK
  have z8:∀e:dC,su e (.st 100 [.bl false,.int .u32 0,.ar 1 32 (zr 32 (.int .u8 0)),.st 64 [.ar 1 32 (zr 32 (.int .u8 0)),.ar 1 32 (zr 32 (.int .u8 0))],.int .i64 0,.int .i64 0])=aC {e with hand:=qI}:=λ_=>rfl
  have z10:∀e:dC,qC e (.ar 1 16 (zr 16 (.int .u8 0)))=aC {e with ot:=wN}:=λ_=>rfl
  have Es:∀e:dC,qD e (.ar 1 16 (zr 16 (.int .u8 0)))=aC {e with CX:=wN}:=λ_=>rfl
  simp[↓av,hi,Xg,Xs,Xl,z8,z10,Es,-getElem?_pos]
  refine jh.jY 3 (λ_=>True) [1,2,7,8,9,10,31,32] (λk=>[(8,.int .i64 (xW e.ring k).2),(9,.bl (xW e.ring k).1),(10,.int .i64 ((k:Int)+1))]) (λk=>[(KB,.arr 464 (X (aC {e with hand:=qI,mP:=false,ot:=wN,qB:=0,CX:=wN,ring:=ko e.ring k})))]) [.keep [1,2,7,8,9,10,31,32]] ?_
  have r0:ko e.ring 0=e.ring:=by simp[ko]
  have y7:xW e.ring 0=(false,0):=rfl
  simp[r0,y7]
  refine⟨λk hk K2 xY=> ?_,λK2=> ?_⟩
  ·have hg:bB Pg I.dQ [ee (ko e.ring k),.int .i64 ((k:Int)+1)] (gP (mf e.ring (k+1))):=by
    have:=dQ (ko e.ring k) (k:=k+1) (by omega)
    rw[GL e.ring hk]at this
    rw[show(k:Int)+1=((k+1:Nat):Int) by omega];exact this
   have xZ:∀x,bB Pg I.eT [ee (ko e.ring k),.int .i64 ((k:Int)+1),fO x] (ee (xB (ko e.ring k) (k+1) x)):=λx=>by
    have:=eT (ko e.ring k) (k:=k+1) (by omega) x
    rw[show(k:Int)+1=((k+1:Nat):Int) by omega];exact this
   rw[show xW e.ring (k+1)=LG (mf e.ring (k+1)) (xW e.ring k) from rfl]at xY
   have Mi:=uU (k+1) (by omega)
   have GW:=JP e.ring hk
   have hpt:=GM e.ring hk
   have hk3:(k:Int)+1≤3:=by omega
   have wk':IntKind.i64.wrap ((k:Int)+1+1)=(k:Int)+1+1:=wrap_i64 (by omega)
   generalize xW e.ring k=ac at*
   generalize mf e.ring (k+1)=pl at*
   generalize ko e.ring k=rk at*
   generalize ko e.ring (k+1)=rk1 at*
   simp[↓av,hk3,Xg,Xl,-getElem?_pos]
   refine al.ret hg (by simp) (by simp) (by simp) ?_
   by_cases hh:pl.has=true
   ·simp[hh]
    refine⟨λhb=> ?_,λWA EN=> ?_⟩
    ·refine al.ret (O8 (Mi hh)) (by simp) (by simp) (by simp) ?_
     simp[Xg,Xl,-getElem?_pos]
     refine a0.ret (xZ (tK pl.iO)) (by simp[tK]) (by simp) (by simp) ?_
     simp[Xg,Xs,Xl,wk',-getElem?_pos]
     rw[hpt hh]
     refine⟨[.keep [1,2,7,8,9,10,31,32],.dr 11],?_⟩
     simp[cr,dx,ab,ae,ah]
     refine⟨(Xp _ (by simp)).refs _,xY _ ?_⟩
     have EL:LG pl ac=(true,pl.iO.born):=by rw[LG,if_pos hh,if_pos hb]
     simp[EL]
    ·refine al.ret (O8 (Mi hh)) (by simp) (by simp) (by simp) ?_
     simp[Xg,Xl,-getElem?_pos]
     refine a0.ret (xZ (tK pl.iO)) (by simp[tK]) (by simp) (by simp) ?_
     simp[Xg,Xs,Xl,wk',-getElem?_pos]
     rw[hpt hh]
     refine⟨[.keep [1,2,7,8,9,10,31,32],.dr 11],?_⟩
     simp[cr,dx,ab,ae,ah]
     refine⟨(Xp _ (by simp)).refs _,xY _ ?_⟩
     have EL:LG pl ac=ac:=by rw[LG,if_pos hh,if_neg (by rintro(h|h)<;>simp_all<;>omega)]
     simp[EL]
   ·have hh:pl.has=false:=by simpa using hh
    simp[hh]
    refine⟨[.keep [1,2,7,8,9,10,31,32],.dr 11],?_⟩
    simp[wk',cr,dx,ab,ae,ah]
    exact⟨(Xp _ (by simp)).refs _,xY _ (by simp[LG,hh,GW hh])⟩
  ·have aa0:({gC:=e.gC,shared:=e.shared,lF:=e.lF,ep:=e.ep,nI:=e.nI,pJ:=e.pJ,pK:=e.pK,tn:=e.tn,hand:=qI,mP:=false,ot:=wN,qB:=0,CX:=wN,ring:=ko e.ring 3,aW:=e.aW}:dC)=jZ e:=rfl
   have Uc:yF d tl e=(if e.nI≠0 then kX (if(xW e.ring 3).1=true then kX tl ⟨max (IntKind.i64.wrap ((xW e.ring 3).2+IntKind.i64.wrap (3*d.rules.lQ))) (IntKind.i64.wrap (d.now+1)),e.gC,5⟩else tl) ⟨IntKind.i64.wrap (d.now+e.nI),e.gC,4⟩else(if(xW e.ring 3).1=true then kX tl ⟨max (IntKind.i64.wrap ((xW e.ring 3).2+IntKind.i64.wrap (3*d.rules.lQ))) (IntKind.i64.wrap (d.now+1)),e.gC,5⟩else tl)):=rfl
   have yd:=Wr (l:=tl) (by omega)
   have Dp:=nG tl
   have PI:=λt=>Wr (l:=kX tl t) (by have:=Dp t;omega)
   rw[aa0]
   have lk1:(jZ e).nI=e.nI:=rfl
   have lk2:(jZ e).gC=e.gC:=rfl
   have QG:Pure (aC (jZ e)):=by simp
   have hdg:∀e':dC,(aC e').isAgg=true:=λ_=>by simp
   generalize xW e.ring 3=hb at*
   generalize jZ e=le at*
   by_cases h1:hb.1=true
   ·by_cases h2:e.nI=0
    ·simp[↓av,h1,lk2,Xg,Xl,-getElem?_pos]
     refine a0.ret (yd (⟨max (IntKind.i64.wrap (hb.2+IntKind.i64.wrap (3*d.rules.lQ))) (IntKind.i64.wrap (d.now+1)),e.gC,5⟩:fX)) (by simp[bU]) (by simp) (by simp) ?_
     simp[↓av,h2,lk1,Xg,Xl,wi,-getElem?_pos]
     refine⟨[.keep [1,2,31,32]],?_⟩
     simp
     exact hK _ (by simp[Uc,h1,h2])
    ·simp[↓av,h1,lk2,Xg,Xl,-getElem?_pos]
     refine a0.ret (yd (⟨max (IntKind.i64.wrap (hb.2+IntKind.i64.wrap (3*d.rules.lQ))) (IntKind.i64.wrap (d.now+1)),e.gC,5⟩:fX)) (by simp[bU]) (by simp) (by simp) ?_
     simp[h2,lk1,lk2,Xg,Xl,-getElem?_pos]
     refine a0.ret (PI (⟨max (IntKind.i64.wrap (hb.2+IntKind.i64.wrap (3*d.rules.lQ))) (IntKind.i64.wrap (d.now+1)),e.gC,5⟩:fX) (⟨IntKind.i64.wrap (d.now+e.nI),e.gC,4⟩:fX)) (by simp[bU]) (by simp) (by simp) ?_
     simp[↓av,wi,-getElem?_pos]
     refine⟨[.keep [1,2,31,32]],?_⟩
     simp
     exact hK _ (by simp[Uc,h1,h2])
   ·have h1:hb.1=false:=by simpa using h1
    by_cases h2:e.nI=0
    ·simp[↓av,h1,h2,lk1,Xg,Xl,wi,-getElem?_pos]
     refine⟨[.keep [1,2,31,32]],?_⟩
     simp
     exact hK _ (by simp[Uc,h1,h2])
    ·simp[↓av,h1,h2,lk1,lk2,Xg,Xl,-getElem?_pos]
     refine a0.ret (yd (⟨IntKind.i64.wrap (d.now+e.nI),e.gC,4⟩:fX)) (by simp[bU]) (by simp) (by simp) ?_
     simp[↓av,wi,-getElem?_pos]
     refine⟨[.keep [1,2,31,32]],?_⟩
     simp
     exact hK _ (by simp[Uc,h1,h2])
 ·simp[↓av,↓av]
  rw[dn]
  have td:aB (ps.map λe=>aC (jZ e)):=aB.map (λ_=>eG _) ps
  have Mc:ps.map (aC∘jZ)=ps.map λe=>aC (jZ e):=rfl
  rw[Mc]
  generalize (ps.map λe=>aC (jZ e))=PL at*
  refine aM.with [] [KB] ?_
  simp[ah,ab,aZ,aI,td.refs,td.aI]
theorem first {d:bK} {ps:List dC} (hl:ps.length≤100000) (hS:d.aD.length≤1048576) (hw:∀e∈ps,PU e):
  af Pg I.eC [br d (.rs KB [] 0 ps.length ps.length 464 .tip)] [.arr 464 (ps.map aC)] (λr fp=>r=br {d with aD:=d.aD.filter λx=>x.iO,timers:=ps.foldl (yF d) []} (.rs KB [] 0 ps.length ps.length 464 .tip)∧fp=[.arr 464 ((ps.map jZ).map aC)]):=by
 refine(LN hl hS hw).nz ?_
 rintro r fp ⟨rfl,rfl⟩
 exact⟨_,_,GN _ _ _ _,.cons (.same _) .nil,rfl,rfl⟩
theorem ZM {d:bK} {ps:List dC} (hl:ps.length≤100000) (hS:d.aD.length≤1048576) (hw:∀e∈ps,PU e):
  af Pg I.eC [.st 148 [dU d.rules,d.mZ.p,d.nP.p,.int .i64 d.port,d.random.p,.int .i64 d.now,.rs KB [] 0 ps.length ps.length 464 .tip,dV d.bn,cZ d.aD,db d.timers,d.ix.p,.int .i64 d.ka,.sl 0 [] false,.sl 0 [] false,.int .i64 0]] [.arr 464 (ps.map Iw)] (λr fp=>r=br {d with bD:=[],buckets:=[],bad:=0,aD:=d.aD.filter λx=>x.iO,timers:=(ps.map ke).foldl (yF {d with bD:=[],buckets:=[],bad:=0}) []} (.rs KB [] 0 ps.length ps.length 464 .tip)∧fp=[.arr 464 (((ps.map ke).map jZ).map aC)]):=by
 have h:=first (d:= {d with bD:=[],buckets:=[],bad:=0}) (ps:=ps.map ke) (by simpa using hl) hS (λe he=>by obtain⟨e',h',rfl⟩:=List.mem_map.1 he;exact JS (hw e' h'))
 rw[List.length_map]at h
 refine af.nzA h (.cons (.st 148 (.same _<| .same _<| .same _<| .same _<| .same _<| .same _<| .same _<| .same _<| .same _<| .same _<| .same _<| .same _<| .sl 0 1 false false (by simp)<| .sl 0 19 false false (by simp)<| .same _ .nil) .nil) .nil) (.cons (.arr 464 (EH ps)) .nil)
theorem af.aiH {P:Program} {f:FuncId} {args:List PV} {sz:Nat} {l:List PV} {v:PV} (h:af P f args [] (λr fp=>r=v∧fp=[.arr sz l])) (hl:aB l):bB P f args (gq KB sz l v):=by
 refine λΓ w vs h1 h2 h3 h4=>(h Γ w vs h1 h2 h3 h4).mono ?_
 rintro e w' ⟨v',r,kS,Γ',e1,⟨rfl,rfl⟩,e3,e4,e5,e6,e7,e8⟩
 have hg:get Γ'.bx KB=some (.arr sz l):=by rw[e5,gp];simp
 have hf:=DS e4 hg (hl.refs _)
 refine⟨v',_,[],{Γ' with bx:=iC (te KB sz l) (del Γ'.bx KB)},e1,⟨rfl,rfl⟩,e3,vy e4 _ (λj blk fB hb=>(e4.blk j blk hb).gq hf),?_,e6.gq hf,?_,e8⟩
 ·rw[e5];simp[aG]
 ·refine⟨e7.heap,λb hb hm=> ?_,e7.ej,e7.size,λk blk hk=> ?_⟩
  ·obtain⟨k,blk,g1,g2⟩:=hm
   rw[e5]at g1
   simp[aG]at g1
  ·rw[h3]at hk;simp[aG]at hk
theorem TE {d:bK} (h:uo d):bB Pg I.aT [dY d,.int .i64 3] (.tup [dY d,.int .i64 0]):=by
 refine af.intro T.aT (by simp[F.aT]) ?_
 have PH:aB (d.aj.map aC):=bR eG _
 simp[F.aT,an,aG]
 refine al.gen [] [15] [] (bM h) (by simp) (by simp) (by simp) (by simp[ae]) (by simp) (by simp[aO]) (by simp) (by simp[ah,ab,fY]) ?_
 simp[bI,aZ,aI,eP]
 refine aM.plain [.fz 15] ?_
 simp
 rfl
theorem GP {d:bK} (h:uo d):af Pg I.aT [dY d,.int .i64 2] [] (λr fp=>r= .tup [EG d (.rs KB [] 0 d.aj.length d.aj.length 464 .tip) (cZ d.aD),.int .i64 0]∧fp=[.arr 464 (d.aj.map Iw)]):=by
 refine af.intro T.aT (by simp[F.aT]) ?_
 have PH:aB (d.aj.map aC):=bR eG _
 have tv:=h.aj
 obtain⟨D,d0,dn,dg,ds,dl,dp⟩:=BE aC Iw d.aj
 have dp:=dp eG qR
 simp[F.aT,an,aG]
 refine al.gen [] [15] [] (bM h) (by simp) (by simp) (by simp) (by simp[ae]) (by simp) (by simp[aO]) (by simp) (by simp[ah,ab,fY]) ?_
 simp[bI,aZ,aI,eP,br]
 rw[←d0]
 refine jh.jY d.aj.length (λ_=>True) [1,2,4,5,24,25] (λi=>[(25,.int .i64 i)]) (λi=>[(15,.arr 464 (D i))]) [.keep [1,2,4,5,24,25]] ?_
 simp
 refine⟨λi hi K hK=> ?_,λK=> ?_⟩
 ·have hx:=dg i hi
  have Ua:=ds i hi
  have Ub:=dl i
  have wi:IntKind.i64.wrap ((i:Int)+1)=(i:Int)+1:=wrap_i64 (by omega)
  generalize d.aj[i]=e at*
  generalize D i=Di at*
  generalize D (i+1)=Di1 at*
  have PK:Di.set i (jo e (.sl 0 [] false))=Di1:=Ua
  simp[↓av,hx,hi,Ub,wi,PK,-getElem?_pos]
  refine⟨[.keep [1,2,4,5,24,25]],?_⟩
  simp
  exact hK _ (by simp)
 ·simp[↓av,↓av]
  rw[dn]
  have td:aB (d.aj.map Iw):=aB.map qR d.aj
  refine aM.with [] [15] ?_
  simp[ah,ab,ae,aZ,aI,aO,td.refs,td.aI,EG]
theorem af.avE {P:Program} {f:FuncId} {args:List PV} {fp uT:List bh} {R:PV->List bh->Prop} {l l':List PV} (h:af P f args fp (λr kS=>r= .tup l∧kS=uT)) (hl:CR l l') (hR:R (.tup l') uT):af P f args fp R:=by
 intro Γ w vs h1 h2 h3 h4
 refine(h Γ w vs h1 h2 h3 h4).mono ?_
 rintro e w' ⟨v,r,uT,Γ',e1,⟨rfl,rfl⟩,e3,e4,e5,e6,e7,e8⟩
 obtain⟨us,hv,ha⟩:=e6
 exact⟨v,_,_,Γ',e1,hR,e3,e4,e5,⟨us,hv,hl.af9 ha⟩,e7,e8⟩
theorem TG {d:bK} (h:uo d):bB Pg I.aT [dY d,.int .i64 2] (.tup [dY (pv d 1),.int .i64 0]):=by
 have h0:af Pg I.aT [dY d,.int .i64 2] [] (λr fp=>r= .tup [br {d with bD:=[],buckets:=[],bad:=0} (.rs KB [] 0 d.aj.length d.aj.length 464 .tip),.int .i64 0]∧fp=[.arr 464 (d.aj.map Iw)]):=
  af.avE (GP h) (.cons (.st 148 (.same _<| .same _<| .same _<| .same _<| .same _<| .same _<| .same _<| .same _<| .same _<| .same _<| .same _<| .same _<| .sl 0 1 true false (by simp)<| .sl 0 19 true false (by simp)<| .same _ .nil) .nil) (CR.refl _)) ⟨rfl,rfl⟩
 have h1:af Pg I.aT [dY d,.int .i64 2] [] (λr fp=>r= .tup [br {d with bD:=[],buckets:=[],bad:=0} (.rs KB [] 0 d.aj.length d.aj.length 464 .tip),.int .i64 0]∧fp=[.arr 464 ((d.aj.map ke).map aC)]):=by
  refine h0.nz ?_
  rintro r fp ⟨rfl,rfl⟩
  exact⟨_,_,.refl _,.cons (.arr 464 (EH _)) .nil,rfl,rfl⟩
 have h2:=h1.aiH (bR eG _)
 have h3:gq KB 464 ((d.aj.map ke).map aC) (.tup [br {d with bD:=[],buckets:=[],bad:=0} (.rs KB [] 0 d.aj.length d.aj.length 464 .tip),.int .i64 0])= .tup [dY (pv d 1),.int .i64 0]:=by
  have zX:List.take d.aj.length ((d.aj.map ke).map aC)=(d.aj.map ke).map aC:=tJ (by simp)
  have hln:d.aj.length=((d.aj.map ke).map aC).length:=by simp
  generalize hP:(d.aj.map ke).map aC=P2 at*
  simp[gq,im,zX,←hln]
  subst hP
  rfl
 rw[h3]at h2
 exact h2
theorem TH {d:bK} (h:uo d) (hp:d.aj.length≤100000) (hw:∀e∈d.aj,PU e):bB Pg I.aT [dY d,.int .i64 1] (.tup [dY (pv d 2),.int .i64 0]):=by
 refine af.intro T.aT (by simp[F.aT]) ?_
 have PH:aB (d.aj.map aC):=bR eG _
 have tv:=h.aj
 obtain⟨D,d0,dn,dg,ds,dl,dp⟩:=BE aC Iw d.aj
 have dp:=dp eG qR
 simp[F.aT,an,aG]
 refine al.gen [] [15] [] (bM h) (by simp) (by simp) (by simp) (by simp[ae]) (by simp) (by simp[aO]) (by simp) (by simp[ah,ab,fY]) ?_
 simp[bI,aZ,aI,eP,br]
 rw[←d0]
 refine jh.jY d.aj.length (λ_=>True) [1,2,4,5,24,25] (λi=>[(25,.int .i64 i)]) (λi=>[(15,.arr 464 (D i))]) [.keep [1,2,4,5,24,25]] ?_
 simp
 refine⟨λi hi K hK=> ?_,λK=> ?_⟩
 ·have hx:=dg i hi
  have Ua:=ds i hi
  have Ub:=dl i
  have wi:IntKind.i64.wrap ((i:Int)+1)=(i:Int)+1:=wrap_i64 (by omega)
  generalize d.aj[i]=e at*
  generalize D i=Di at*
  generalize D (i+1)=Di1 at*
  have PK:Di.set i (jo e (.sl 0 [] false))=Di1:=Ua
  simp[↓av,hx,hi,Ub,wi,PK,-getElem?_pos]
  refine⟨[.keep [1,2,4,5,24,25]],?_⟩
  simp
  exact hK _ (by simp)
 ·simp[↓av,↓av]
  rw[dn]
  have td:aB (d.aj.map Iw):=aB.map qR d.aj
  have hf:=ZM (d:=d) hp h.aD hw
  have tc:aB (((d.aj.map ke).map jZ).map aC):=bR eG _
  refine al.gen [15] [] [.arr 464 (d.aj.map Iw)] hf (by simp[getAll]) (by simp) (by simp) (by simp[ae,ab,bj,idx]) (by simp[ah,td.refs]) (by simp[aO,aI,aV,idx]) (by simp[aZ,td.aI]) (by simp[ah,ab,fY]) ?_
  simp[bI,aZ,aI,eP]
  refine aM.plain [.fz 15] ?_
  have J1:Pure (dY (pv d 2)):=by simp
  have Mc:d.aj.map (aC∘jZ∘ke)=((d.aj.map ke).map jZ).map aC:=by simp
  have hln:d.aj.length=(d.aj.map (aC∘jZ∘ke)).length:=by simp
  have zX:List.take d.aj.length (d.aj.map (aC∘jZ∘ke))=d.aj.map (aC∘jZ∘ke):=tJ (by simp)
  simp[zX]
  rw[Mc]
  rfl
theorem LO (d:bK) {v:Int} (hv:v<1∨3<v):bB Pg I.aT [dY d,.int .i64 v] (.tup [dY nc,.int .i64 17]):=by
 refine af.nzT (l:=[.st 148 [dU LK,.ar 1 32 (zr 32 (.int .u8 0)),.ar 1 32 (zr 32 (.int .u8 0)),.int .i64 0,.ar 1 32 (zr 32 (.int .u8 0)),.int .i64 0,.sl 464 [] true,.sl 50 [] true,.sl 34 [] true,.sl 34 [] true,.ar 1 32 (zr 32 (.int .u8 0)),.int .i64 0,.sl 1 [] true,.sl 19 [] true,.int .i64 0],.int .i64 17]) (l':=[dY nc,.int .i64 17]) ?_ ?_ ⟨rfl,rfl⟩
 ·refine af.intro T.aT (by simp[F.aT]) ?_
  rcases hv with hv|hv
  ·simp[F.aT,an,aG,hv]
   refine aM.plain [] ?_
   simp
   rfl
  ·have uK:¬v<1:=by omega
   simp[F.aT,an,aG,hv,uK]
   refine aM.plain [] ?_
   simp
   rfl
 ·exact .cons (.st 148 (.same _<| .same _<| .same _<| .same _<| .same _<| .same _<| .sl 464 464 true false (by simp)<| .sl 50 50 true false (by simp)<| .sl 34 34 true false (by simp)<| .sl 34 34 true false (by simp)<| .same _<| .same _<| .sl 1 1 true false (by simp)<| .sl 19 19 true false (by simp)<| .same _ .nil) .nil) (CR.refl _)
end Go.Ab
end S12s
noncomputable section T1s
namespace Go.Ab
open Go.Ab
def Ls (d:bK) (v:Int):bK:=if v=3 then d else if v=2 then pv d 1 else if v=1 then pv d 2 else nc
def O9 (v:Int):Int:=if 1≤v∧v≤3 then 0 else 17
theorem SW {d:bK} (h:uo d) (hp:d.aj.length≤100000) (hw:∀e∈d.aj,PU e) (v:Int):bB Pg I.eB [dY d,.int .i64 v] (.tup [dY (Ls d v),.int .i64 (O9 v)]):=by
 by_cases hv:v<1∨3<v
 ·have h1:Ls d v=nc:=by unfold Ls;rw[if_neg (by omega),if_neg (by omega),if_neg (by omega)]
  have h2:O9 v=17:=by unfold O9;rw[if_neg (by omega)]
  rw[h1,h2];exact LL d hv
 ·rcases(by omega:v=3∨v=2∨v=1)with rfl|rfl|rfl
  ·exact Iz h hp hw (m:=0) (by omega)
  ·exact Iz h hp hw (m:=1) (by omega)
  ·exact Iz h hp hw (m:=2) (by omega)
theorem Zc {d:bK} (h:uo d) (hp:d.aj.length≤100000) (hw:∀e∈d.aj,PU e) (v:Int):bB Pg I.aT [dY d,.int .i64 v] (.tup [dY (Ls d v),.int .i64 (O9 v)]):=by
 by_cases hv:v<1∨3<v
 ·have h1:Ls d v=nc:=by unfold Ls;rw[if_neg (by omega),if_neg (by omega),if_neg (by omega)]
  have h2:O9 v=17:=by unfold O9;rw[if_neg (by omega)]
  rw[h1,h2];exact LO d hv
 ·rcases(by omega:v=3∨v=2∨v=1)with rfl|rfl|rfl
  ·exact TE h
  ·exact TG h
  ·exact TH h hp hw
def Ma (d:bK) (v:Int):bK:=if v=3 then pv d 1 else if v=2 then pv d 2 else nc
def Qt (v:Int):Int:=if 2≤v∧v≤3 then 0 else 17
theorem Zd {d:bK} (h:uo d) (hp:d.aj.length≤100000) (hw:∀e∈d.aj,PU e) {v:Int} (hv: -9223372036854775808≤v∧v≤9223372036854775807):bB Pg I.fA [dY d,.int .i64 v] (.tup [dY (Ma d v),.int .i64 (Qt v)]):=by
 by_cases h3:v=3
 ·subst h3
  have:=SW h hp hw 2
  refine af.intro T.fA (by simp[F.fA]) ?_
  simp[F.fA,an,aG]
  refine al.ret this (by simp) (by simp) (by simp) ?_
  simp
  refine aM.plain [] ?_
  simp[Ma,Qt,Ls,O9]
 by_cases h2:v=2
 ·subst h2
  have:=SW h hp hw 1
  refine af.intro T.fA (by simp[F.fA]) ?_
  simp[F.fA,an,aG]
  refine al.ret this (by simp) (by simp) (by simp) ?_
  simp
  refine aM.plain [] ?_
  simp[Ma,Qt,Ls,O9]
 have e1:Ma d v=nc:=by unfold Ma;rw[if_neg (by omega),if_neg (by omega)]
 have e2:Qt v=17:=by unfold Qt;rw[if_neg (by omega)]
 rw[e1,e2]
 refine af.nzT (l:=[.st 148 [dU LK,.ar 1 32 (zr 32 (.int .u8 0)),.ar 1 32 (zr 32 (.int .u8 0)),.int .i64 0,.ar 1 32 (zr 32 (.int .u8 0)),.int .i64 0,.sl 464 [] true,.sl 50 [] true,.sl 34 [] true,.sl 34 [] true,.ar 1 32 (zr 32 (.int .u8 0)),.int .i64 0,.sl 1 [] true,.sl 19 [] true,.int .i64 0],.int .i64 17]) (l':=[dY nc,.int .i64 17]) ?_ ?_ ⟨rfl,rfl⟩
 ·refine af.intro T.fA (by simp[F.fA]) ?_
  by_cases uK:v≤1
  ·have px:v<2:=by omega
   simp[F.fA,an,aG,uK]
   refine aM.plain [] ?_
   simp
   rfl
  ·have px:¬v<2:=by omega
   have hv3:3<v:=by omega
   simp[F.fA,an,aG,uK,hv3]
   refine aM.plain [] ?_
   simp
   rfl
 ·exact .cons (.st 148 (.same _<| .same _<| .same _<| .same _<| .same _<| .same _<| .sl 464 464 true false (by simp)<| .sl 50 50 true false (by simp)<| .sl 34 34 true false (by simp)<| .sl 34 34 true false (by simp)<| .same _<| .same _<| .sl 1 1 true false (by simp)<| .sl 19 19 true false (by simp)<| .same _ .nil) .nil) (CR.refl _)
theorem Ze {d:bK} (h:uo d) (hp:d.aj.length≤100000) (hw:∀e∈d.aj,PU e) {v:Int} (hv: -9223372036854775808≤v∧v≤9223372036854775807):bB Pg I.cP [dY d,.int .i64 v] (.tup [dY (Ma d v),.int .i64 (Qt v)]):=by
 by_cases h3:v=3
 ·subst h3
  have:=Zc h hp hw 2
  refine af.intro T.cP (by simp[F.cP]) ?_
  simp[F.cP,an,aG]
  refine al.ret this (by simp) (by simp) (by simp) ?_
  simp
  refine aM.plain [] ?_
  simp[Ma,Qt,Ls,O9]
 by_cases h2:v=2
 ·subst h2
  have:=Zc h hp hw 1
  refine af.intro T.cP (by simp[F.cP]) ?_
  simp[F.cP,an,aG]
  refine al.ret this (by simp) (by simp) (by simp) ?_
  simp
  refine aM.plain [] ?_
  simp[Ma,Qt,Ls,O9]
 have e1:Ma d v=nc:=by unfold Ma;rw[if_neg (by omega),if_neg (by omega)]
 have e2:Qt v=17:=by unfold Qt;rw[if_neg (by omega)]
 rw[e1,e2]
 refine af.nzT (l:=[.st 148 [dU LK,.ar 1 32 (zr 32 (.int .u8 0)),.ar 1 32 (zr 32 (.int .u8 0)),.int .i64 0,.ar 1 32 (zr 32 (.int .u8 0)),.int .i64 0,.sl 464 [] true,.sl 50 [] true,.sl 34 [] true,.sl 34 [] true,.ar 1 32 (zr 32 (.int .u8 0)),.int .i64 0,.sl 1 [] true,.sl 19 [] true,.int .i64 0],.int .i64 17]) (l':=[dY nc,.int .i64 17]) ?_ ?_ ⟨rfl,rfl⟩
 ·refine af.intro T.cP (by simp[F.cP]) ?_
  by_cases uK:v≤1
  ·have px:v<2:=by omega
   simp[F.cP,an,aG,px]
   refine aM.plain [] ?_
   simp
   rfl
  ·have px:¬v<2:=by omega
   have hv3:3<v:=by omega
   simp[F.cP,an,aG,px,hv3]
   refine aM.plain [] ?_
   simp
   rfl
 ·exact .cons (.st 148 (.same _<| .same _<| .same _<| .same _<| .same _<| .same _<| .sl 464 464 true false (by simp)<| .sl 50 50 true false (by simp)<| .sl 34 34 true false (by simp)<| .sl 34 34 true false (by simp)<| .same _<| .same _<| .sl 1 1 true false (by simp)<| .sl 19 19 true false (by simp)<| .same _ .nil) .nil) (CR.refl _)
def kV (v:Int):PV:= .tup [.bl (decide (v=3)),.bl (decide (v=2∨v=3)),.bl (decide (v=2∨v=3))]
theorem Zf (v:Int):bB Pg I.gM [.int .i64 v] (kV v):=by
 refine af.intro T.gM (by simp[F.gM]) ?_
 by_cases h3:v=3
 ·subst h3
  simp[F.gM,an,aG]
  refine aM.plain [] ?_
  simp[kV]
 by_cases h2:v=2
 ·subst h2
  simp[F.gM,an,aG]
  refine aM.plain [] ?_
  simp[kV]
 simp[F.gM,an,aG,h2,h3]
 refine aM.plain [] ?_
 simp[kV,h2,h3]
theorem Zg (v:Int):bB Pg I.eD [.int .i64 v] (kV v):=by
 refine af.intro T.eD (by simp[F.eD]) ?_
 by_cases h3:v=3
 ·subst h3
  simp[F.eD,an,aG]
  refine aM.plain [] ?_
  simp[kV]
 by_cases h2:v=2
 ·subst h2
  simp[F.eD,an,aG]
  refine aM.plain [] ?_
  simp[kV]
 simp[F.eD,an,aG,h2,h3]
 refine aM.plain [] ?_
 simp[kV,h2,h3]
def EI:sy:=⟨true,130,0,0,0,0⟩
def TI:j9:=⟨0,0,Jx,Jx,0,0,pr EI,0,false⟩
def Cn:dC:=⟨zK,Jx,false,xE,0,zSm,false,0,qI,false,wN,0,wN,⟨qG,⟨true,TI⟩,qG⟩,[]⟩
def uG:bK:= {nc with aj:=[Cn]}
theorem Pa:uo uG:=⟨by simp[uG],by simp[uG,nc],by simp[uG,nc],by simp[uG,nc],by simp[uG,nc],by simp[uG,nc],λp hp=>by
 have:p=Cn:=by simpa[uG]using hp
 subst this;simp[Cn]⟩
theorem LP:pO EI=⟨true,130,qb,qb,7,qb⟩:=by kernel_rfl
theorem SX:bB Pg I.fE [] (.bl true):=by
 refine af.intro T.fE (by simp[F.fE]) ?_
 have hL:=SW Pa (by simp[uG]) (λe he=>by
  have:e=Cn:=by simpa[uG]using he
  subst this
  intro k hk hh
  rcases hk with rfl|rfl|rfl<;>simp[mf,Cn,qG]at hh⊢
  exact⟨EI,⟨by simp[EI],by simp[EI]⟩,rfl⟩) 1
 simp[F.fE,an,aG]
 refine al.ret hL (by simp[dY,br,uG,nc,LK,dU,iw,dV,cZ,db,gz,eO,gI,Cn,aC,ji,xE,jF,Oq,jV,qI,ee,gP,qG,fO,ag4,TI,pr,wP,EI,Jx,Ib,wN,zSm,zNo,eF,zK,gX,u8]) (by simp) (by simp) ?_
 have IF:Ls uG 1=pv uG 2:=rfl
 have J1:(pv uG 2).aj=[jZ (ke Cn)]:=rfl
 have hcu:(jZ (ke Cn)).ring.c.iO.py=pr ⟨true,130,qb,qb,7,qb⟩:=by
  have h1:(jZ (ke Cn)).ring.c=BF ⟨true,TI⟩:=rfl
  rw[h1]
  have h2:(BF ⟨true,TI⟩).iO.py=GK (pr EI):=rfl
  rw[h2,xV ⟨by simp[EI],by simp[EI]⟩,LP]
 rw[IF]
 have ed:O9 1=0:=rfl
 rw[ed]
 generalize pv uG 2=D at*
 generalize jZ (ke Cn)=E at*
 have hcp:E.ring.c.iO.py.p= .st 6 [.bl true,.int .u64 130,.ar 1 4 [.int .u64 qb,.int .u64 qb,.int .u64 7,.int .u64 qb]]:=by rw[hcu];rfl
 have z4:zr 4 (PV.int .u64 0)=[.int .u64 0,.int .u64 0,.int .u64 0,.int .u64 0]:=by rw[gX];rfl
 simp[J1,hcp,z4,az]
 refine⟨⟨rfl,rfl⟩,aM.plain [] ?_⟩
 simp
 rfl
end Go.Ab
end T1s
