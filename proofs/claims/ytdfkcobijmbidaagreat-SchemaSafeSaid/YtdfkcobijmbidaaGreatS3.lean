/- What each version keeps of a daemon. No condition. -/
import Derived.Test.YtdfkcobijmbidaaGreatS2
import Derived.Test.YtdfkcobijmbidaaGreatS1
import Derived.Test.YtdfkcobijmbidaaGreatB4
set_option maxRecDepth 10000
set_option maxHeartbeats 4000000
set_option linter.all false
noncomputable section S9s
namespace Go.Ab
open Go.Ab
theorem Sn (s:ja):ah Pg I.fw [cI s] [] (λr fp=>r= .bl (!s.ju)∧fp=[]):=by
 refine ah.intro T.fw (by simp[F.fw]) ?_
 simp[F.fw,au,aG]
 refine aL.plain [] ?_
 simp
def WU (v:FV uV):Prop:=∃w:oM,DE w.top∧v=ot w
theorem WU.ex (v:FV uV):∃v':FV uV,∀w:oM,DE w.top->v=ot w->v'=ot (jM w):=by
 by_cases h:WU v
 ·obtain⟨w,h1,rfl⟩:=h
  refine⟨ot (jM w),λw' h2 e=> ?_⟩
  have hp:wP w=wP w':=congrArg FV.p e
  obtain⟨a,b,c,d,f,g⟩:=w
  obtain⟨a',b',c',d',f',g'⟩:=w'
  simp[wP]at hp
  obtain⟨rfl,rfl,rfl,rfl,rfl,rfl⟩:=hp
  rfl
 ·exact⟨v,λw h1 e=>absurd ⟨w,h1,e⟩ h⟩
def FI (v:FV uV):FV uV:=Classical.choose (WU.ex v)
theorem wO {w:oM} (h:DE w.top):FI (ot w)=ot (jM w):=Classical.choose_spec (WU.ex (ot w)) w h rfl
theorem Oh {v:FV uV} (h:WU v):bI Pg I.oQ [v.p] (FI v).p:=by
 obtain⟨w,h1,rfl⟩:=h
 rw[wO h1]
 exact akx h1
def qc (s:jt):jt:= {s with nY:=FI s.nY}
def ov (p:oC):oC:=if p.has=true then⟨true,qc p.ju⟩else p
def mw (r:lB) (k:Nat):lB:=⟨if 1≤k then ov r.p else r.p,if 2≤k then ov r.c else r.c,if 3≤k then ov r.n else r.n⟩
def YF (p:oC) (a:Bool×Int):Bool×Int:=if p.has=true then(if a.1=false∨a.2<p.ju.born then(true,p.ju.born)else a)else a
def Gg (r:lB):Nat->Bool×Int
 |0=>(false,0)
 |k+1=>YF (lf r (k+1)) (Gg r k)
theorem Oi (r:lB) {k:Nat} (h:k<3):lf (mw r k) (k+1)=lf r (k+1):=by
 rcases(by omega:k=0∨k=1∨k=2)with rfl|rfl|rfl<;>simp[lf,mw]
theorem So (r:lB) {k:Nat} (h:k<3) (hh:(lf r (k+1)).has=false):mw r (k+1)=mw r k:=by
 rcases(by omega:k=0∨k=1∨k=2)with rfl|rfl|rfl<;>simp[lf]at hh<;>simp[mw,ov,hh]
theorem Oj (r:lB) {k:Nat} (h:k<3) (hh:(lf r (k+1)).has=true):Bp (mw r k) (k+1) (qc (lf r (k+1)).ju)=mw r (k+1):=by
 rcases(by omega:k=0∨k=1∨k=2)with rfl|rfl|rfl<;>simp[lf]at hh<;>simp[mw,ov,hh,Bp,lf]
def Bx:List fS->PV
 |[]=> .sl 0 [] true
 |l=>dA l
theorem FU {l:List fS} (h:l≠[]):Bx l=dA l:=by cases l<;>simp_all [Bx]
@[simp] theorem ab2 (l:List fS):(Bx l).width=1:=by cases l<;>rfl
@[simp] theorem anZ (l:List fS):(Bx l).isAgg=false:=by cases l<;>rfl
@[simp] theorem akK (l:List fS):(Bx l).bj=true:=by cases l<;>rfl
@[simp↓] theorem an0 (g:Bool) (l:List fS) (K:PV->Prop):gN g (Bx l) K=K (Bx l):=by cases l<;>rfl
@[simp] theorem Ok (l:List fS):Pure (Bx l):=by cases l<;>simp[Bx]
theorem Sp (l:List fS) (t:fS):lT l t≠[]:=by simp[lT]
theorem Vp {l:List fS} (h:l.length≤1048575) (t:fS):bI Pg I.js [wk (Bx l),bY t] (Bx (lT l t)):=by
 rw[FU (Sp l t)]
 have:=atZ h t
 cases l with
 |nil=>exact ah.nzA this (.cons (by simp only[Bx,wk];exact .sl 0 34 false false (by simp) .nil) (Iq.refl _)) .nil
 |
  cons x r=>
  have e:wk (Bx (x::r))=dA (x::r):=by rw[FU (by simp)];simp
  rw[e];exact this
def jy (e:bU) (p q c:PV):PV:=jN e p q c
theorem Sq (e:bU) (p q c:PV):jN e p q c=jy e p q c:=rfl
@[simp] theorem Vq (e:bU) (p q c:PV):(jy e p q c).width=148:=_root_.id rfl
@[simp] theorem ab3 (e:bU) (p q c:PV):(jy e p q c).isAgg=true:=rfl
@[simp] theorem YG (e:bU) (p q c:PV):(jy e p q c).bj=true:=rfl
@[simp] theorem YH (e:bU) (p q c:PV):(jy e p q c).flat=true:=rfl
@[simp↓] theorem ab4 (g:Bool) (e:bU) (p q c:PV) (K:PV->Prop):gN g (jy e p q c) K=K (jy e p q c):=_root_.id rfl
@[simp↓] theorem Sr (e:bU) (p q c:PV) (r:List Step):aQ (jy e p q c) (.f 0 0::r)=aQ (eP e.rules) r:=by simp[jy,jN]
@[simp↓] theorem Ss (e:bU) (p q c:PV) (r:List Step):aQ (jy e p q c) (.f 5 107::r)=aQ (.int .i64 e.now) r:=by simp[jy,jN,av]
@[simp↓] theorem Su (e:bU) (p q c:PV) (r:List Step):aQ (jy e p q c) (.f 6 108::r)=aQ p r:=by simp[jy,jN,av]
@[simp↓] theorem Sv (e:bU) (p q c:PV) (hp:p.width=1) (hq:q.width=1) (r:List Step):aQ (jy e p q c) (.f 9 111::r)=aQ c r:=by simp[jy,jN,av,hp,hq]
@[simp↓] theorem Sw (e:bU) (p q c:PV) (hp:p.width=1) (hq:q.width=1) (r:List Step) (x:PV):dD (jy e p q c) (.f 9 111::r) x=(dD c r x).bind λc'=>some (jy e p q c'):=by simp[jy,jN,av,hp,hq]
@[simp] theorem Sx (f:Nat->Bool) (e:bU) (p q:PV) (l:List fS):ab f (jy e p q (Bx l))=(ab f p&&ab f q):=by
 have:=DR f e p q
 have h4:ab f (dA e.timers)=true:=(tA _).refs f
 have h5:ab f (Bx l)=true:=(Ok _).refs f
 rw[←this]
 simp[eZ,jy,jN,ab,ae]
@[simp] theorem ab5 (ρ:Nat->Nat) (e:bU) (p q:PV) (l:List fS):aF ρ (jy e p q (Bx l))=jy e (aF ρ p) (aF ρ q) (Bx l):=by
 simp[jy,jN,aF,aK]
theorem Ol (e:bU) (p q:PV) (l:List fS):Nz [jy e p q (Bx l)] [eZ {e with timers:=l} p q]:=by
 cases l with
 |nil=>exact .st 148 (.same _<| .same _<| .same _<| .same _<| .same _<| .same _<| .same _<| .same _<| .same _<| .sl 0 34 true false (by simp)<| .same _<| .same _<| .same _<| .same _<| .same _ .nil) .nil
 |cons x r=>exact .refl _
def nJ (e:dC):dC:= {e with hand:=rK,nk:=false,pd:=A5,qW:=0,Ge:=A5,ring:=mw e.ring 3}
def Gh (d:bU) (l:List fS) (e:dC):List fS:=
 let l1:=if(Gg e.ring 3).1=true then lT l ⟨max (IntKind.i64.wrap ((Gg e.ring 3).2+IntKind.i64.wrap (3*d.rules.mM))) (IntKind.i64.wrap (d.now+1)),e.gF,5⟩else l
 if e.pq≠0 then lT l1 ⟨IntKind.i64.wrap (d.now+e.pq),e.gF,4⟩else l1
def PU (e:dC):Prop:=∀k,k=1∨k=2∨k=3->(lf e.ring k).has=true->WU (lf e.ring k).ju.nY
theorem oR (l:List fS) (t:fS):(lT l t).length≤l.length+1:=by
 have h1:(dv l t.peer t.kind).length≤l.length:=List.length_filter_le _ _
 have h2:=uZ t (dv l t.peer t.kind)
 simp only[lT,List.length_append,lJ,List.length_drop,List.length_cons,List.length_nil];omega
theorem HF (d:bU) (l:List fS) (e:dC):(Gh d l e).length≤l.length+2:=by
 unfold Gh
 simp only
 split
 ·refine Nat.le_trans (oR _ _) ?_
  split
  ·have:=oR l ⟨max (IntKind.i64.wrap ((Gg e.ring 3).2+IntKind.i64.wrap (3*d.rules.mM))) (IntKind.i64.wrap (d.now+1)),e.gF,5⟩;omega
  ·omega
 ·split
  ·have:=oR l ⟨max (IntKind.i64.wrap ((Gg e.ring 3).2+IntKind.i64.wrap (3*d.rules.mM))) (IntKind.i64.wrap (d.now+1)),e.gF,5⟩;omega
  ·omega
theorem AL (d:bU):∀(ps:List dC) (l:List fS),(ps.foldl (Gh d) l).length≤l.length+2*ps.length
 |[],l=>by simp
 |
  e::ps,l=>by
  have h1:=AL d ps (Gh d l e)
  have h2:=HF d l e
  simp only[List.foldl_cons,List.length_cons];omega
theorem HG {d:bU} {ps:List dC} {S:List ja} (hl:ps.length≤100000) (hS:S.length≤1048576) (hw:∀e∈ps,PU e):
  ah Pg I.e9 [eZ d (.rs KB [] 0 ps.length ps.length 464 .tip) (.rs (KB+1) [] 0 S.length S.length 34 .tip)] [.arr 464 (ps.map aP),.arr 34 (S.map cI)] (λr fp=>r=jy d (.rs KB [] 0 ps.length ps.length 464 .tip) (.rs (KB+1) [] 0 (S.filter λx=>x.ju).length S.length 34 .tip) (Bx (ps.foldl (Gh d) []))∧fp=[.arr 464 ((ps.map nJ).map aP),.arr 34 ((S.filter λx=>x.ju).map cI++List.replicate (S.length-(S.filter λx=>x.ju).length) DQ)]):=by
 refine ah.intro T.e9 (by simp[F.e9]) ?_
 have hdl:=atY (L:=S) hS (g:=I.fw) (q:=λs=> !s.ju) (λx _=>Sn x)
 simp only[Bool.not_not]at hdl
 have tU:aB (S.map cI):=bZ iz S
 obtain⟨D,d0,dn,dg,ds,dl,dp⟩:=Og aP (λe=>aP (nJ e)) ps
 have dp:=dp jF (λ_=>jF _)
 simp[F.e9,au,aG]
 have rT:(S.filter λx=>x.ju).length≤S.length:=List.length_filter_le _ _
 obtain⟨J,hJe,hJ,hJl⟩:∃J,List.replicate (S.length-(S.filter λx=>x.ju).length) DQ=J∧aB J∧J.length=S.length-(S.filter λx=>x.ju).length:=⟨_,rfl,aB.mk' λp hp=>by rw[List.eq_of_mem_replicate hp];simp[DQ],by simp⟩
 rw[hJe]at hdl⊢
 have iG:aB ((S.filter λx=>x.ju).map cI++J):=(bZ iz _).append hJ
 have vF:((S.filter λx=>x.ju).map cI++J).length=S.length:=by simp;omega
 generalize hKd:(S.filter λx=>x.ju)=Kp at*
 refine al.gen [KB+1] [] [.arr 34 (S.map cI)] hdl (by simp[getAll]) (by simp) (by simp) (by simp[ae,ab,bg,idx]) (by simp[af]) (by simp[aK,aF,aT,idx]) (by simp[a0]) (by simp[af,ab,fR,iG.refs]) ?_
 simp[bC,a0,aF,eO,iG.aF,Sq]
 rw[←d0]
 have Gl:∀i,i≤ps.length->((ps.take i).foldl (Gh d) []).length≤1000000:=λi hi=>by
  have:=AL d (ps.take i) []
  rw[lJ]at this
  simp only[List.length_nil]at this;omega
 refine jx.kl ps.length (λ_=>True) [1,2,16,17] (λi=>[(17,.int .i64 i)]) (λi=>[(1,.box (jy d (.rs KB [] 0 ps.length ps.length 464 .tip) (.rs (KB+1) [] 0 Kp.length S.length 34 .tip) (Bx ((ps.take i).foldl (Gh d) [])))),(KB,.arr 464 (D i))]) [.keep [1,2,16,17]] ?_
 simp
 refine⟨by simp[Bx],λi hi K hK=> ?_,λK=> ?_⟩
 ·have hx:=dg i hi
  have hsd:=ds i hi
  have hld:=dl i
  have wi:IntKind.i64.wrap ((i:Int)+1)=(i:Int)+1:=wrap_i64 (by omega)
  have BE:=hw ps[i] (List.getElem_mem hi)
  have SN:=Gl i (by omega)
  have hts:(ps.take (i+1)).foldl (Gh d) []=Gh d ((ps.take i).foldl (Gh d) []) ps[i]:=by
   rw[List.take_succ_eq_append_getElem hi,List.foldl_append];rfl
  rw[hts]at hK
  generalize (ps.take i).foldl (Gh d) []=tl at*
  generalize ps[i]=e at*
  obtain⟨X,X0,Xd,Xg,Xs,Xl,Xp⟩:∃X:PV->List PV,X (aP e)=D i∧X (aP (nJ e))=D (i+1)∧(∀a,(X a)[i]? =some a)∧(∀a b,(X a).set i b=X b)∧(∀a,(X a).length=ps.length)∧(∀a,Pure a->aB (X a)):=by
   refine⟨λa=>(D i).set i a,?_,hsd,λa=> ?_,λa b=>List.set_set ..,λa=>by rw[List.length_set,hld],λa ha=>aB.mk' λx hx=> ?_⟩
   ·apply List.ext_getElem?
    intro j
    rw[List.getElem?_set]
    split
    ·rename_i h;subst h
     rw[if_pos (by omega),hx]
    ·rfl
   ·rw[List.getElem?_set_self (by omega)]
   ·rcases List.mem_or_eq_of_mem_set hx with h|rfl
    ·exact(dp i).forget x h
    ·exact ha
  rw[←X0]
  rw[←Xd]at hK
  have z8:∀e:dC,uX e (.st 100 [.bl false,.int .u32 0,.ar 1 32 (zr 32 (.int .u8 0)),.st 64 [.ar 1 32 (zr 32 (.int .u8 0)),.ar 1 32 (zr 32 (.int .u8 0))],.int .i64 0,.int .i64 0])=aP {e with hand:=rK}:=λ_=>rfl
  have z10:∀e:dC,sq e (.ar 1 16 (zr 16 (.int .u8 0)))=aP {e with pd:=A5}:=λ_=>rfl
  have D5:∀e:dC,sr e (.ar 1 16 (zr 16 (.int .u8 0)))=aP {e with Ge:=A5}:=λ_=>rfl
  simp[↓aA,hi,Xg,Xs,Xl,z8,z10,D5,-getElem?_pos]
  refine jx.kl 3 (λ_=>True) [1,2,4,5,6,7,16,17] (λk=>[(5,.bl (Gg e.ring k).1),(6,.int .i64 (Gg e.ring k).2),(7,.int .i64 ((k:Int)+1))]) (λk=>[(KB,.arr 464 (X (aP {e with hand:=rK,nk:=false,pd:=A5,qW:=0,Ge:=A5,ring:=mw e.ring k})))]) [.keep [1,2,4,5,6,7,16,17]] ?_
  have r0:mw e.ring 0=e.ring:=by simp[mw]
  have AZ:Gg e.ring 0=(false,0):=rfl
  simp[r0,AZ]
  refine⟨λk hk K2 sX=> ?_,λK2=> ?_⟩
  ·have hg:bI Pg I.fN [fh (mw e.ring k),.int .i64 ((k:Int)+1)] (iy (lf e.ring (k+1))):=by
    have:=fN (mw e.ring k) (k:=k+1) (by omega)
    rw[Oi e.ring hk]at this
    rw[show(k:Int)+1=((k+1:Nat):Int) by omega];exact this
   have BD:∀x,bI Pg I.fO [fh (mw e.ring k),.int .i64 ((k:Int)+1),eX x] (fh (Bp (mw e.ring k) (k+1) x)):=λx=>by
    have:=fO (mw e.ring k) (k:=k+1) (by omega) x
    rw[show(k:Int)+1=((k+1:Nat):Int) by omega];exact this
   rw[show Gg e.ring (k+1)=YF (lf e.ring (k+1)) (Gg e.ring k) from rfl]at sX
   have Tp:=BE (k+1) (by omega)
   have HS:=So e.ring hk
   have hpt:=Oj e.ring hk
   have hk3:(k:Int)+1≤3:=by omega
   have wk':IntKind.i64.wrap ((k:Int)+1+1)=(k:Int)+1+1:=wrap_i64 (by omega)
   generalize Gg e.ring k=ac at*
   generalize lf e.ring (k+1)=pl at*
   generalize mw e.ring k=rk at*
   generalize mw e.ring (k+1)=rk1 at*
   simp[↓aA,hk3,Xg,Xl,-getElem?_pos]
   refine al.ret hg (by simp) (by simp) (by simp) ?_
   by_cases hh:pl.has=true
   ·simp[hh]
    refine⟨λhb=> ?_,λhb1 D9=> ?_⟩
    ·refine al.ret (Oh (Tp hh)) (by simp) (by simp) (by simp) ?_
     simp[Xg,Xl,-getElem?_pos]
     refine a8.ret (BD (qc pl.ju)) (by simp[qc]) (by simp) (by simp) ?_
     simp[Xg,Xs,Xl,wk',-getElem?_pos]
     rw[hpt hh]
     refine⟨[.keep [1,2,4,5,6,7,16,17],.dr 8],?_⟩
     simp[bL,cL,ab,ae,af]
     refine⟨⟨(Xp _ (by simp)).refs _,hJ.refs _⟩,sX _ ?_⟩
     have HM:YF pl ac=(true,pl.ju.born):=by rw[YF,if_pos hh,if_pos hb]
     simp[HM]
    ·refine al.ret (Oh (Tp hh)) (by simp) (by simp) (by simp) ?_
     simp[Xg,Xl,-getElem?_pos]
     refine a8.ret (BD (qc pl.ju)) (by simp[qc]) (by simp) (by simp) ?_
     simp[Xg,Xs,Xl,wk',-getElem?_pos]
     rw[hpt hh]
     refine⟨[.keep [1,2,4,5,6,7,16,17],.dr 8],?_⟩
     simp[bL,cL,ab,ae,af]
     refine⟨⟨(Xp _ (by simp)).refs _,hJ.refs _⟩,sX _ ?_⟩
     have HM:YF pl ac=ac:=by rw[YF,if_pos hh,if_neg (by rintro(h|h)<;>simp_all<;>omega)]
     simp[HM]
   ·have hh:pl.has=false:=by simpa using hh
    simp[hh]
    refine⟨[.keep [1,2,4,5,6,7,16,17],.dr 8],?_⟩
    simp[wk',bL,cL,ab,ae,af]
    exact⟨⟨(Xp _ (by simp)).refs _,hJ.refs _⟩,sX _ (by simp[YF,hh,HS hh])⟩
  ·have avv:({gF:=e.gF,shared:=e.shared,lS:=e.lS,ep:=e.ep,pq:=e.pq,rF:=e.rF,qS:=e.qS,uW:=e.uW,hand:=rK,nk:=false,pd:=A5,qW:=0,Ge:=A5,ring:=mw e.ring 3,bk:=e.bk}:dC)=nJ e:=rfl
   have htm:Gh d tl e=(if e.pq≠0 then lT (if(Gg e.ring 3).1=true then lT tl ⟨max (IntKind.i64.wrap ((Gg e.ring 3).2+IntKind.i64.wrap (3*d.rules.mM))) (IntKind.i64.wrap (d.now+1)),e.gF,5⟩else tl) ⟨IntKind.i64.wrap (d.now+e.pq),e.gF,4⟩else(if(Gg e.ring 3).1=true then lT tl ⟨max (IntKind.i64.wrap ((Gg e.ring 3).2+IntKind.i64.wrap (3*d.rules.mM))) (IntKind.i64.wrap (d.now+1)),e.gF,5⟩else tl)):=rfl
   have A3:=Vp (l:=tl) (by omega)
   have DX:=oR tl
   have Zy:=λt=>Vp (l:=lT tl t) (by have:=DX t;omega)
   rw[avv]
   have lk1:(nJ e).pq=e.pq:=rfl
   have lk2:(nJ e).gF=e.gF:=rfl
   have Tq:Pure (aP (nJ e)):=by simp
   have hdg:∀e':dC,(aP e').isAgg=true:=λ_=>by simp
   generalize Gg e.ring 3=hb at*
   generalize nJ e=le at*
   by_cases h1:hb.1=true
   ·by_cases h2:e.pq=0
    ·simp[↓aA,h1,lk2,Xg,Xl,-getElem?_pos]
     refine a8.ret (A3 (⟨max (IntKind.i64.wrap (hb.2+IntKind.i64.wrap (3*d.rules.mM))) (IntKind.i64.wrap (d.now+1)),e.gF,5⟩:fS)) (by simp[bY]) (by simp) (by simp) ?_
     simp[↓aA,h2,lk1,Xg,Xl,wi,-getElem?_pos]
     refine⟨[.keep [1,2,16,17]],?_⟩
     simp
     exact hK _ (by simp[htm,h1,h2])
    ·simp[↓aA,h1,lk2,Xg,Xl,-getElem?_pos]
     refine a8.ret (A3 (⟨max (IntKind.i64.wrap (hb.2+IntKind.i64.wrap (3*d.rules.mM))) (IntKind.i64.wrap (d.now+1)),e.gF,5⟩:fS)) (by simp[bY]) (by simp) (by simp) ?_
     simp[h2,lk1,lk2,Xg,Xl,-getElem?_pos]
     refine a8.ret (Zy (⟨max (IntKind.i64.wrap (hb.2+IntKind.i64.wrap (3*d.rules.mM))) (IntKind.i64.wrap (d.now+1)),e.gF,5⟩:fS) (⟨IntKind.i64.wrap (d.now+e.pq),e.gF,4⟩:fS)) (by simp[bY]) (by simp) (by simp) ?_
     simp[↓aA,wi,-getElem?_pos]
     refine⟨[.keep [1,2,16,17]],?_⟩
     simp
     exact hK _ (by simp[htm,h1,h2])
   ·have h1:hb.1=false:=by simpa using h1
    by_cases h2:e.pq=0
    ·simp[↓aA,h1,h2,lk1,Xg,Xl,wi,-getElem?_pos]
     refine⟨[.keep [1,2,16,17]],?_⟩
     simp
     exact hK _ (by simp[htm,h1,h2])
    ·simp[↓aA,h1,h2,lk1,lk2,Xg,Xl,-getElem?_pos]
     refine a8.ret (A3 (⟨IntKind.i64.wrap (d.now+e.pq),e.gF,4⟩:fS)) (by simp[bY]) (by simp) (by simp) ?_
     simp[↓aA,wi,-getElem?_pos]
     refine⟨[.keep [1,2,16,17]],?_⟩
     simp
     exact hK _ (by simp[htm,h1,h2])
 ·simp[↓aA,↓aA]
  rw[dn]
  have yc:aB (ps.map λe=>aP (nJ e)):=aB.map (λ_=>jF _) ps
  have Vt:ps.map (aP∘nJ)=ps.map λe=>aP (nJ e):=rfl
  rw[Vt]
  generalize (ps.map λe=>aP (nJ e))=PL at*
  generalize hSL:Kp.map cI++J=SL at*
  refine aL.with [] [KB,KB+1] ?_
  simp[af,ab,a0,aF,yc.refs,yc.aF,iG.refs,iG.aF]
theorem YI {d:bU} {ps:List dC} {S:List ja} (hl:ps.length≤100000) (hS:S.length≤1048576) (hw:∀e∈ps,PU e):
  ah Pg I.e9 [eZ d (.rs KB [] 0 ps.length ps.length 464 .tip) (.rs (KB+1) [] 0 S.length S.length 34 .tip)] [.arr 464 (ps.map aP),.arr 34 (S.map cI)] (λr fp=>r=eZ {d with timers:=ps.foldl (Gh d) []} (.rs KB [] 0 ps.length ps.length 464 .tip) (.rs (KB+1) [] 0 (S.filter λx=>x.ju).length S.length 34 .tip)∧fp=[.arr 464 ((ps.map nJ).map aP),.arr 34 ((S.filter λx=>x.ju).map cI++List.replicate (S.length-(S.filter λx=>x.ju).length) DQ)]):=by
 refine(HG hl hS hw).nz ?_
 rintro r fp ⟨rfl,rfl⟩
 exact⟨_,_,Ol _ _ _ _,.cons (.same _) (.cons (.same _) .nil),rfl,rfl⟩
end Go.Ab
end S9s
noncomputable section S10s
namespace Go.Ab
open Go.Ab
def Gi (ps:List dC):Nat->List dC
 |0=>ps
 |1=>ps.map pe
 |_=>(ps.map pe).map nJ
def K9 (d:bU) (ps:List dC):Nat->bU
 |0=>d
 |1=> {d with cN:=[],buckets:=[],bad:=0}
 |_=> {d with cN:=[],buckets:=[],bad:=0,timers:=(ps.map pe).foldl (Gh {d with cN:=[],buckets:=[],bad:=0}) []}
def D7 (S:List ja):Nat->List PV
 |0=>S.map cI
 |1=>S.map cI
 |_=>(S.filter λx=>x.ju).map cI++List.replicate (S.length-(S.filter λx=>x.ju).length) DQ
def KK (S:List ja):Nat->Nat
 |0=>S.length
 |1=>S.length
 |_=>(S.filter λx=>x.ju).length
def KL:Nat->List PV
 |0=>[]
 |1=>[.fn (.func I.ee) [] []]
 |_=>[.fn (.func I.ee) [] [],.fn (.func I.e9) [] []]
theorem Sy {m:Nat} (h:m≤2):(KL m).length=m:=by
 rcases(by omega:m=0∨m=1∨m=2)with rfl|rfl|rfl<;>rfl
theorem akL {m:Nat} (h:0<m):(KL m)[0]? =some (.fn (.func I.ee) [] []):=by
 match m,h with
 |1,_=>rfl
 |m+2,_=>rfl
theorem akM {m:Nat} (h:1<m):(KL m)[1]? =some (.fn (.func I.e9) [] []):=by
 match m,h with
 |m+2,_=>rfl
theorem FX (m:Nat):aB (KL m):=by
 match m with
 |0=>simp[KL]
 |1=>simp[KL]
 |m+2=>simp[KL]
theorem Sz {e:dC} (h:PU e):PU (pe e):=h
theorem IW (ps:List dC) (m:Nat):(Gi ps m).length=ps.length:=by
 match m with
 |0=>rfl
 |1=>simp[Gi]
 |m+2=>simp[Gi]
theorem KM:Pure DQ:=by simp[DQ]
theorem AM (S:List ja) (m:Nat):aB (D7 S m):=by
 have h:∀l:List ja,aB (l.map cI):=λl=>bZ iz l
 match m with
 |0=>exact h S
 |1=>exact h S
 |m+2=>exact(h _).append (aB.mk' λp hp=>by rw[List.eq_of_mem_replicate hp];exact KM)
theorem SA (S:List ja) (m:Nat):(D7 S m).length=S.length:=by
 have:=List.length_filter_le (λx:ja=>x.ju) S
 match m with
 |0=>simp[D7]
 |1=>simp[D7]
 |m+2=>simp[D7];omega
theorem YJ {d:bU} {ps:List dC} {S:List ja} {m:Nat} (hm:m≤2) (hl:ps.length≤100000) (hS:S.length≤1048576) (hw:∀e∈ps,PU e):
  ah Pg I.ic [eZ d (.rs KB [] 0 ps.length ps.length 464 .tip) (.rs (KB+1) [] 0 S.length S.length 34 .tip),.sl 1 (KL m) false] [.arr 464 (ps.map aP),.arr 34 (S.map cI)] (λr fp=>r=eZ (K9 d ps m) (.rs KB [] 0 ps.length ps.length 464 .tip) (.rs (KB+1) [] 0 (KK S m) S.length 34 .tip)∧fp=[.arr 464 ((Gi ps m).map aP),.arr 34 (D7 S m)]):=by
 refine ah.intro T.ic (by simp[F.ic]) ?_
 have OL:=Sy hm
 have f0:=λh=>akL (m:=m) h
 have f1:=λh=>akM (m:=m) h
 have Zm:=FX m
 have tU:∀l:List dC,aB (l.map aP):=λl=>bZ jF l
 have SS:aB (S.map cI):=bZ iz S
 generalize KL m=fs at*
 simp[F.ic,au,aG,OL]
 refine jx.kl m (λ_=>True) [2,4,7,8,9] (λi=>[(9,.int .i64 i)]) (λi=>[(2,.box (eZ (K9 d ps i) (.rs KB [] 0 ps.length ps.length 464 .tip) (.rs (KB+1) [] 0 (KK S i) S.length 34 .tip))),(KB,.arr 464 ((Gi ps i).map aP)),(KB+1,.arr 34 (D7 S i))]) [.keep [2,4,7,8,9]] ?_
 have d0:K9 d ps 0=d:=rfl
 have p0:Gi ps 0=ps:=rfl
 have n0:KK S 0=S.length:=rfl
 have t0:D7 S 0=S.map cI:=rfl
 have d1:K9 d ps 1= {d with cN:=[],buckets:=[],bad:=0}:=rfl
 have p1:Gi ps 1=ps.map pe:=rfl
 have n1:KK S 1=S.length:=rfl
 have t1:D7 S 1=S.map cI:=rfl
 have d2:K9 d ps 2= {d with cN:=[],buckets:=[],bad:=0,timers:=(ps.map pe).foldl (Gh {d with cN:=[],buckets:=[],bad:=0}) []}:=rfl
 have p2:Gi ps 2=(ps.map pe).map nJ:=rfl
 have n2:KK S 2=(S.filter λx=>x.ju).length:=rfl
 have t2:D7 S 2=(S.filter λx=>x.ju).map cI++List.replicate (S.length-(S.filter λx=>x.ju).length) DQ:=rfl
 simp[d0,p0,n0,t0]
 refine⟨λi hi K hK=> ?_,λK=> ?_⟩
 ·rcases(by omega:i=0∨i=1)with rfl|rfl
  ·have f0:=f0 hi
   have Ec:=Sm (d:=d) (ps:=ps) (S:=S.map cI) (n:=S.length) (by omega) SS (by simp)
   have VN:=tU ps
   have sH:=tU (ps.map pe)
   have h0m:(0:Int)<m:=by omega
   simp only[d0,p0,n0,t0]
   simp only[Nat.zero_add,d1,p1,n1,t1]at hK
   generalize (ps.map pe).map aP=P2 at*
   simp[↓aA,hi,OL,f0,-getElem?_pos]
   refine al.gen [KB,KB+1] [] [.arr 464 (ps.map aP),.arr 34 (S.map cI)] Ec (by simp[getAll]) (by simp) (by simp) (by simp[ae,ab,bg,idx]) (by simp[af]) (by simp[aK,aF,aT,idx]) (by simp[a0]) (by simp[af,ab,fR,sH.refs]) ?_
   simp[bC,a0,aF,eO,sH.aF]
   refine⟨[.keep [2,4,7,8,9]],?_⟩
   simp
   exact hK _ (by simp)
  ·have f1:=f1 hi
   have Ec:=YI (d:=K9 d ps 1) (ps:=ps.map pe) (S:=S) (by simpa using hl) hS (λe he=>by obtain⟨e',h',rfl⟩:=List.mem_map.1 he;exact Sz (hw e' h'))
   rw[List.length_map]at Ec
   have KQ: {K9 d ps 1 with timers:=(ps.map pe).foldl (Gh (K9 d ps 1)) []}=K9 d ps 2:=rfl
   rw[KQ,←t2,←n2,←p2]at Ec
   have VN:=tU (ps.map pe)
   have sH:=tU (Gi ps 2)
   have CI:=AM S 2
   have h0m:(1:Int)<m:=by omega
   have h01:((1:Nat):Int)=1:=rfl
   simp only[p1,n1,t1]
   simp only[show 1+1=2 from rfl]at hK
   generalize K9 d ps 1=dd1 at*
   generalize K9 d ps 2=dd2 at*
   generalize (Gi ps 2).map aP=P2 at*
   generalize D7 S 2=S2 at*
   generalize KK S 2=N2 at*
   generalize hP1:(ps.map pe).map aP=P1 at*
   simp[↓aA,h0m,OL,f1,h01,-getElem?_pos]
   refine al.gen [KB,KB+1] [] [.arr 464 P1,.arr 34 (S.map cI)] Ec (by simp[getAll]) (by simp) (by simp) (by simp[ae,ab,bg,idx]) (by simp[af,VN.refs]) (by simp[aK,aF,aT,idx]) (by simp[a0,VN.aF]) (by simp[af,ab,fR,CI.refs,sH.refs]) ?_
   simp[bC,a0,aF,eO,CI.aF,sH.aF]
   refine⟨[.keep [2,4,7,8,9]],?_⟩
   simp
   exact hK _ (by simp)
 ·have sH:=tU (Gi ps m)
  have CI:=AM S m
  generalize (Gi ps m).map aP=P2 at*
  generalize D7 S m=S2 at*
  simp[↓aA,↓aA]
  refine aL.with [] [KB,KB+1] ?_
  simp[af,ab,a0,aF,sH.refs,sH.aF,CI.refs,CI.aF]
def Om (S:List ja) (m:Nat):List ja:=if m≤1 then S else S.filter λx=>x.ju
def xU (d:bU) (m:Nat):bU:= {K9 d d.aj m with aj:=Gi d.aj m,aM:=Om d.aM m}
theorem On (S:List ja) (m:Nat):(D7 S m).take (KK S m)=(Om S m).map cI:=by
 match m with
 |0=>simp[D7,KK,Om]
 |1=>simp[D7,KK,Om]
 |m+2=>simp[D7,KK,Om]
theorem YK (S:List ja) (m:Nat):KK S m≤S.length:=by
 match m with
 |0=>simp[KK]
 |1=>simp[KK]
 |m+2=>exact List.length_filter_le _ _
theorem HH {d:bU} (h:RJ d) (hp:d.aj.length≤100000) (hw:∀e∈d.aj,PU e) {m:Nat} (hm:m≤2):bI Pg I.eA [gO d,.int .i64 (3-m)] (.tup [gO (xU d m),.int .i64 0]):=by
 refine ah.intro T.eA (by simp[F.eA]) ?_
 have g1:¬(3-(m:Int))<1:=by omega
 have g2:¬3<(3-(m:Int)):=by omega
 have w1:IntKind.i64.wrap (3-(3-(m:Int)))=m:=by rw[wrap_i64 (by omega)];omega
 simp[F.eA,au,aG,g1,g2]
 have ht:List.take m [PV.fn (.func I.ee) [] [],.fn (.func I.e9) [] []]=KL m:=by
  rcases(by omega:m=0∨m=1∨m=2)with rfl|rfl|rfl<;>rfl
 have Zm:=FX m
 have oT:jj (KL m)=KL m:=by rcases(by omega:m=0∨m=1∨m=2)with rfl|rfl|rfl<;>simp[KL]
 have iG:=YJ (d:=d) (ps:=d.aj) (S:=d.aM) hm hp h.aM hw
 have VN:aB (d.aj.map aP):=bZ jF _
 have xz:aB (d.aM.map cI):=bZ iz _
 have sH:aB ((Gi d.aj m).map aP):=bZ jF _
 have xW:=AM d.aM m
 refine nj.run [16,30] rfl ?_
 simp[w1,ht]
 refine⟨by omega,?_⟩
 refine al.gen [] [16,30] [] (kj h) (by simp) (by simp) (by simp) (by simp[ae]) (by simp) (by simp[aK]) (by simp) (by simp[af,ab,fR]) ?_
 simp[bC,a0,aF,eO]
 refine al.gen [16,30] [] [.arr 464 (d.aj.map aP),.arr 34 (d.aM.map cI)] iG (by simp[getAll]) (by simp) (by simp) (by simp[ae,ab,bg,idx,Zm.refs]) (by simp[af]) (by simp[aK,aF,aT,idx,Zm.aF,oT]) (by simp[a0]) (by simp[af,ab,fR,xW.refs]) ?_
 simp[bC,a0,aF,eO,xW.aF]
 refine aL.plain [.fz 16,.fz 30] ?_
 have DZ:=IW d.aj m
 have Tb:=SA d.aM m
 have hl4:=YK d.aM m
 have hfz:∀l0,gW 16 464 l0 (D7 d.aM m)=D7 d.aM m:=λl0=>mD _ (xW.refs _)
 have Eb:List.take d.aj.length ((Gi d.aj m).map aP)=(Gi d.aj m).map aP:=tJ (by simp[DZ])
 have KZ:Pure (gO (xU d m)):=by simp
 simp[xW.refs,DZ,Tb,hl4,hfz,Eb,On]
 exact⟨KZ,rfl⟩
def YL:yC:=⟨0,0,0,0,0,0,0,0,0,0⟩
def AN:bU:=⟨YL,IM,IM,0,IM,0,[],[],[],[],IM,0,[],[],0⟩
theorem KN (d:bU) {v:Int} (hv:v<1∨3<v):bI Pg I.eA [gO d,.int .i64 v] (.tup [gO AN,.int .i64 17]):=by
 refine ah.nzT (l:=[.st 148 [eP YL,.ar 1 32 (zr 32 (.int .u8 0)),.ar 1 32 (zr 32 (.int .u8 0)),.int .i64 0,.ar 1 32 (zr 32 (.int .u8 0)),.int .i64 0,.sl 464 [] true,.sl 50 [] true,.sl 34 [] true,.sl 34 [] true,.ar 1 32 (zr 32 (.int .u8 0)),.int .i64 0,.sl 1 [] true,.sl 19 [] true,.int .i64 0],.int .i64 17]) (l':=[gO AN,.int .i64 17]) ?_ ?_ ⟨rfl,rfl⟩
 ·refine ah.intro T.eA (by simp[F.eA]) ?_
  rcases hv with hv|hv
  ·simp[F.eA,au,aG,hv]
   refine aL.plain [] ?_
   simp
   rfl
  ·have vy:¬v<1:=by omega
   simp[F.eA,au,aG,hv,vy]
   refine aL.plain [] ?_
   simp
   rfl
 ·exact .cons (.st 148 (.same _<| .same _<| .same _<| .same _<| .same _<| .same _<| .sl 464 464 true false (by simp)<| .sl 50 50 true false (by simp)<| .sl 34 34 true false (by simp)<| .sl 34 34 true false (by simp)<| .same _<| .same _<| .sl 1 1 true false (by simp)<| .sl 19 19 true false (by simp)<| .same _ .nil) .nil) (Iq.refl _)
end Go.Ab
end S10s
noncomputable section S12s
namespace Go.Ab
open Go.Ab
end Go.Ab
end S12s
noncomputable section T1s
namespace Go.Ab
open Go.Ab
def loV (d:bU) (v:Int):bU:=if v=3 then d else if v=2 then xU d 1 else if v=1 then xU d 2 else AN
def okV (v:Int):Int:=if 1≤v∧v≤3 then 0 else 17
theorem ahc {d:bU} (h:RJ d) (hp:d.aj.length≤100000) (hw:∀e∈d.aj,PU e) (v:Int):bI Pg I.eA [gO d,.int .i64 v] (.tup [gO (loV d v),.int .i64 (okV v)]):=by
 by_cases hv:v<1∨3<v
 ·have h1:loV d v=AN:=by unfold loV;rw[if_neg (by omega),if_neg (by omega),if_neg (by omega)]
  have h2:okV v=17:=by unfold okV;rw[if_neg (by omega)]
  rw[h1,h2];exact KN d hv
 ·rcases(by omega:v=3∨v=2∨v=1)with rfl|rfl|rfl
  ·exact HH h hp hw (m:=0) (by omega)
  ·exact HH h hp hw (m:=1) (by omega)
  ·exact HH h hp hw (m:=2) (by omega)
def DS:oM:=⟨true,130,0,0,0,0⟩
def SB:jt:=⟨0,0,IM,IM,0,0,ot DS,0,false⟩
def By:dC:=⟨zK,IM,false,wG,0,zSm,false,0,rK,false,A5,0,A5,⟨pU,⟨true,SB⟩,pU⟩,[]⟩
def tO:bU:= {AN with aj:=[By]}
theorem Oo:RJ tO:=⟨by simp[tO],by simp[tO,AN],by simp[tO,AN],by simp[tO,AN],by simp[tO,AN],by simp[tO,AN],λp hp=>by
 have:p=By:=by simpa[tO]using hp
 subst this;simp[By]⟩
theorem KO:jM DS=⟨true,130,qb,qb,7,qb⟩:=by kernel_rfl
theorem R0:bI Pg I.fj [] (.bl true):=by
 refine ah.intro T.fj (by simp[F.fj]) ?_
 have hL:=ahc Oo (by simp[tO]) (λe he=>by
  have:e=By:=by simpa[tO]using he
  subst this
  intro k hk hh
  rcases hk with rfl|rfl|rfl<;>simp[lf,By,pU]at hh⊢
  exact⟨DS,⟨by simp[DS],by simp[DS]⟩,rfl⟩) 1
 simp[F.fj,au,aG]
 refine al.ret hL (by simp[gO,bO,tO,AN,YL,eP,jT,eE,dX,dA,gU,fy,gi,By,aP,iU,wG,jf,No,jD,rK,fh,iy,pU,eX,afu,SB,ot,wP,DS,IM,Hm,A5,zSm,zNo,ey,zK,gC,u8]) (by simp) (by simp) ?_
 have HN:loV tO 1=xU tO 2:=rfl
 have KZ:(xU tO 2).aj=[nJ (pe By)]:=rfl
 have hcu:(nJ (pe By)).ring.c.ju.nY=ot ⟨true,130,qb,qb,7,qb⟩:=by
  have h1:(nJ (pe By)).ring.c=ov ⟨true,SB⟩:=rfl
  rw[h1]
  have h2:(ov ⟨true,SB⟩).ju.nY=FI (ot DS):=rfl
  rw[h2,wO ⟨by simp[DS],by simp[DS]⟩,KO]
 rw[HN]
 have dO:okV 1=0:=rfl
 rw[dO]
 generalize xU tO 2=D at*
 generalize nJ (pe By)=E at*
 have hcp:E.ring.c.ju.nY.p= .st 6 [.bl true,.int .u64 130,.ar 1 4 [.int .u64 qb,.int .u64 qb,.int .u64 7,.int .u64 qb]]:=by rw[hcu];rfl
 have z4:zr 4 (PV.int .u64 0)=[.int .u64 0,.int .u64 0,.int .u64 0,.int .u64 0]:=by rw[gC];rfl
 simp[KZ,hcp,z4,av]
 refine⟨⟨rfl,rfl⟩,aL.plain [] ?_⟩
 simp
 rfl
end Go.Ab
end T1s
